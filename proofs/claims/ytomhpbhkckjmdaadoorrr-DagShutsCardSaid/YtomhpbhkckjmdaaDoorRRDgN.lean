/- Ready. -/
import Derived.Test.YtomhpbhkckjmdaaDoorRRDgM
namespace Go.Proofs.YtomhpbhkckjmdaaDoorRR
open Go.RowKit

def hadM (done : List Nat) : Nat := done.foldl (fun s i => s ||| bitN i) 0
theorem hadM_lt {done : List Nat} (h : ∀ i ∈ done, i < 64) : hadM done < M64 := by
  unfold hadM
  have key : ∀ (l : List Nat) (s : Nat), s < M64 → (∀ i ∈ l, i < 64) → l.foldl (fun s i => s ||| bitN i) s < M64 := by
    intro l
    induction l with
    | nil => intro s hs _; exact hs
    | cons a l ih => intro s hs h; exact ih _ (or_lt64 hs (pow_lt64 (h a (List.mem_cons_self ..)))) (fun b hb => h b (List.mem_cons_of_mem _ hb))
  exact key done 0 (by decide) h
def rdyR (n : Nat) (on : Nat → Nat) (done : List Nat) : List Nat := (List.range n).filter (readyB on (hadM done))
set_option maxRecDepth 8000 in
set_option maxHeartbeats 8000000 in
theorem ready1_any {X : World} {gb n o p q : Nat} {on : Nat → Nat} {done : List Nat} {vr : Value} {K : Nat → Prop} {A : Option Addr} {cd : Nat} (hg : Gr X gb n on) (hF : Fit n on) (hd : natE.Row K X (.slice A done.length cd) done) (hdl : ∀ i ∈ done, i < n) (hdn : done.length ≤ 100000) (hgo : gb ≠ o) (hpo : p ≠ o)
    (ho : X.heap[o]? = some (.cells #[.slice none 0 0] 25 (0, 0))) (hp : X.cell? ⟨p, 0, none⟩ = some (.int .i64 n)) (hq : X.cell? ⟨q, 0, none⟩ = some (.slice A done.length cd)) :
    Calls Tryd.prog 28 #[.pointer (some ⟨gb, 0, none⟩), vr, .pointer (some ⟨q, 0, none⟩), .pointer (some ⟨p, 0, none⟩), .pointer (some ⟨o, 0, none⟩)] X (Cl1 natE o 25 X (rdyR n on done)) := by
  have HGX := hid hg
  have HF := hid hF
  have HD := hid hd
  have HDL := hid hdl
  have HB0 := hid ho
  have HO := hid (Array.getElem?_eq_some_iff.1 ho).1
  have HGO := hid hgo
  have HPO := hid hpo
  have HP := hid hp
  have HPL := hid (lt_of_cell hp)
  have hn1 : (n : Int) ≤ 64 := by have := hF.n_; omega
  have hdn1 : (done.length : Int) ≤ 100000 := by omega
  clear hg hF hd hdl hdn hgo ho hpo
  go_enter Tryd.func28, Tryd.ntmps28
  go_wp2
  go_loop [7, 13] (fun vh vi => ∃ j : Nat, j ≤ done.length ∧ vi = .int .i64 (j : Int) ∧ vh = .int .u64 (hadM (done.take j) : Int)) (fun _ vi => done.length - (intOf vi).toNat)
  case atStart => exact ⟨0, by omega, rfl, rfl⟩
  case round =>
    obtain ⟨j, hj, rfl, rfl⟩ := hrel
    by_cases hjl : j < done.length
    · obtain ⟨d, hda⟩ := get_lt hjl
      obtain ⟨b, off, rfl, _, hbl, x1⟩ := row_nat HD.out hda
      have hdn2 : d < n := HDL.out d (List.mem_of_getElem? hda)
      have HD6 : Hid (d < 64) := hid (by have := HF.out.n_; omega)
      have h0 : (0 : Int) ≤ j := by omega
      have h1 : (j : Int) < done.length := by omega
      have d0 : (0 : Int) ≤ d := by omega
      have d1 : (d : Int) < n := by omega
      have d2 : ¬ (d : Int) < 0 := by omega
      have d3 : ¬ (n : Int) ≤ d := by omega
      have hbo := bits_add (hadM (done.take j)) d (hadM_lt (fun i hi => by have := HDL.out i (List.mem_of_mem_take hi); have := HF.out.n_; omega)) HD6.out
      have HDA := hid hda
      have HJ := hid hjl
      clear hj hjl hda hdn2
      go_wp2_with (first | (go_at_call 29; refine (one_any d HD6.out).mono ?_; rintro e w3 ⟨rfl, rfl⟩))
      go_round
      case rel => exact ⟨j + 1, HJ.out, rfl, by rw [take_next HDA.out]; unfold hadM; rw [List.foldl_append]; rfl⟩
      case measure => have := HJ.out; simp [intOf]; omega
    · have h1 : ¬ (j : Int) < done.length := by omega
      have HJ := hid hjl
      have HH : Hid (hadM done < M64) := hid (hadM_lt (fun i hi => by have := HDL.out i hi; have := HF.out.n_; omega))
      rw [List.take_of_length_le (by omega)]
      clear hj hjl
      go_wp2
      go_loopg [32] n (fun k vi wr => ∃ (j g : Nat) (v : Value), j + k = n ∧ vi = .int .i64 (j : Int) ∧ Ext (fun b => b = o) X wr ∧ wr.heap[o]? = some (.cells #[v] 25 (0, 0)) ∧ natE.Out 3 X.heap.size X.heap.size g wr v ((List.range j).filter (readyB on (hadM done))))
      case atStart => exact ⟨0, 0, _, by omega, rfl, Ext.refl _ _, HB0.out, Enc.Out.start _ _ (Nat.le_refl _) (by have := HO.out; omega)⟩
      case round =>
        obtain ⟨j, g, v, hk, rfl, hext, hblk, hou⟩ := hrel
        obtain ⟨A1, cp, rfl, hf1, hf2⟩ := hou.sp.form
        have HK := hid hk
        have HEX := hid hext
        have HBL := hid hblk
        have HOU := hid hou
        have hol := (Array.getElem?_eq_some_iff.1 hblk).1
        have HOL := hid hol
        have co := cell_blk hblk 0
        have fo := frz_blk hblk 0
        simp only [List.getElem?_toArray, List.getElem?_cons_zero] at co
        have hgw := HGX.out.ext hext HGO.out
        have hgl := hgw.lt
        by_cases hj : j < n
        · have HJ6 : Hid (j < 64) := hid (by have := HF.out.n_; omega)
          have c1 := hgw.at_ j HJ6.out
          have b1 := bits_has_eq (hadM done) j HH.out HJ6.out
          have b2 := bits_dif_eq (on j) (hadM done)
          have hj0 : (0 : Int) ≤ j := by omega
          have hj1 : (j : Int) < n := by omega
          have hj2 : (j : Int) < 64 := by omega
          have HJ := hid hj
          have hfl : ((List.range j).filter (readyB on (hadM done))).length ≤ j := by have := List.length_filter_le (readyB on (hadM done)) (List.range j); simpa using this
          have HLEN : Hid (((List.range j).filter (readyB on (hadM done))).length + [j].length ≤ 4294967296) := hid (by have := HF.out.n_; simp; omega)
          have HLE : Hid (((List.range j).filter (readyB on (hadM done)) ++ [j]).length = ((List.range j).filter (readyB on (hadM done))).length + 1) := hid (by simp)
          clear hk hext hblk hou hf1 hf2 hgw hj hfl
          cases htb : (hadM done).testBit j with
          | true =>
            rw [htb] at b1
            have HRD : Hid (readyB on (hadM done) j = false) := hid (by unfold readyB; rw [htb]; rfl)
            clear htb b2
            go_wp2_with (first | (go_at_call 29; refine (one_any j HJ6.out).mono ?_; rintro e w3 ⟨rfl, rfl⟩))
            go_roundg (n - (j + 1))
            case measure => have := HK.out; have := HJ.out; omega
            case rel => exact ⟨j + 1, g, _, by have := HJ.out; have := HK.out; omega, rfl, HEX.out, HBL.out, by rw [List.range_succ, List.filter_append, List.filter_cons_of_neg (by rw [HRD.out]; decide), List.filter_nil, List.append_nil]; exact HOU.out⟩
          | false =>
            rw [htb] at b1
            by_cases hz : dif (on j) (hadM done) = 0
            · rw [decide_eq_true hz] at b2
              have HRD : Hid (readyB on (hadM done) j = true) := hid (by unfold readyB; rw [htb, decide_eq_true hz]; rfl)
              clear htb hz
              go_wp2_with (first | (go_at_call 29; refine (one_any j HJ6.out).mono ?_; rintro e w3 ⟨rfl, rfl⟩) | (at_builtin; refine wpList_app ok25 (ys := [j]) (by rfl) (.tmp 51) (.tmp 53) (by rfl) (by rfl) (by rfl) (by rfl) (HOU.out.below (by repeat (first | (with_reducible exact Below.refl _ _) | (with_reducible exact bl_mm) | (with_reducible refine bl_dr ?_) | (with_reducible refine bl_drN ?_ _) | (with_reducible refine bl_al ?_ _) | (with_reducible refine bl_more ?_ _ _)))).sp (Enc.Src.one_blk (cs := [.int .i64 (j : Int)]) (alloc_blk (by simp [more_size])) rfl) (fun _ h _ => h.2) HLEN.out ?_; intro v3 w3 g3 hs3 he3 hg3; obtain ⟨A3, c3, hv3, _, _⟩ := hs3.form; rw [HLE.out] at hv3; subst hv3; have hy3 := (after_app (by repeat (first | (with_reducible exact Below.refl _ _) | (with_reducible exact bl_mm) | (with_reducible refine bl_dr ?_) | (with_reducible refine bl_drN ?_ _) | (with_reducible refine bl_al ?_ _) | (with_reducible refine bl_more ?_ _ _))) he3 (fun hc e => by have := HOU.out.cap hc; have := HO.out; omega) HOL.out).trans HBL.out; have c3o := cell_blk hy3 0; have f3o := frz_blk hy3 0; simp only [List.getElem?_toArray, List.getElem?_cons_zero] at c3o; have hl3o := (Array.getElem?_eq_some_iff.1 hy3).1; clear hy3; have HS3 := hid hs3; have HE3 := hid he3; have HG3 := hid hg3; clear hs3 hg3 he3))
              go_roundg (n - (j + 1))
              case measure => have := HK.out; have := HJ.out; omega
              case rel =>
                obtain ⟨e1, e2, e3⟩ := app_end HEX.out HBL.out HOU.out HO.out (by repeat (first | (with_reducible exact Below.refl _ _) | (with_reducible exact bl_mm) | (with_reducible refine bl_dr ?_) | (with_reducible refine bl_drN ?_ _) | (with_reducible refine bl_al ?_ _) | (with_reducible refine bl_more ?_ _ _))) HS3.out HE3.out HG3.out
                refine ⟨j + 1, g3, _, by have := HJ.out; have := HK.out; omega, rfl, e1, e2, ?_⟩
                rw [List.range_succ, List.filter_append, List.filter_cons_of_pos HRD.out, List.filter_nil]
                exact e3
            · rw [decide_eq_false hz] at b2
              have HRD : Hid (readyB on (hadM done) j = false) := hid (by unfold readyB; rw [htb, decide_eq_false hz]; rfl)
              clear htb hz
              go_wp2_with (first | (go_at_call 29; refine (one_any j HJ6.out).mono ?_; rintro e w3 ⟨rfl, rfl⟩))
              go_roundg (n - (j + 1))
              case measure => have := HK.out; have := HJ.out; omega
              case rel => exact ⟨j + 1, g, _, by have := HJ.out; have := HK.out; omega, rfl, HEX.out, HBL.out, by rw [List.range_succ, List.filter_append, List.filter_cons_of_neg (by rw [HRD.out]; decide), List.filter_nil, List.append_nil]; exact HOU.out⟩
        · have hj1 : ¬ (j : Int) < n := by omega
          obtain rfl : j = n := by omega
          clear hk hext hblk hou hf1 hf2 hgw hj
          go_wp2
          go_end0
          exact ⟨rfl, HEX.out, _, HBL.out, HOU.out.row⟩
abbrev fY (n : Int) (l : Arcs) (done : List Nat) (_ : List Nat) : Int × List Nat := (0, rdyR n.toNat (onAt l) done)
def rdyT (n : Int) (l : Arcs) (done : List Nat) : Int × List Nat := resR n l (fY n l done)
abbrev w3Y (w : World) (n : Int) (v : Value) : World := ((w.alloc (.cells #[.int .i64 n] 3)).alloc (.cells #[v] 25)).alloc (.cells #[.slice none 0 0] 25)
set_option maxHeartbeats 4000000 in
theorem Ready_any {w : World} {K K2 : Nat → Prop} {n : Int} {v vd : Value} {l : Arcs} {done : List Nat} (hv : arcE.Row K w v l) (hd : natE.Row K2 w vd done) (hdl : okB n l = true → ∀ i ∈ done, i < n.toNat) (hdn : done.length ≤ 100000) : Calls Tryd.prog 16 #[.int .i64 n, v, vd] w (RowT natE w (rdyT n l done)) := by
  obtain ⟨A, cp, rfl, _, _⟩ := hv.form
  obtain ⟨B, cd, rfl, _, _⟩ := hd.form
  have HV := hid hv
  have hmf : ∀ (fn : Fn) (first cap : Array Value) (w : World), (Instr.makeFunc fn first cap).run Tryd.prog w = .ok (.func fn first cap) w := fun _ _ _ _ => rfl
  have HCL : Hid (∀ b X vr row, okB n l = true → orderR n.toNat (onAt l) = some row → Below (w3Y w n (.slice B done.length cd)).heap.size (w3Y w n (.slice B done.length cd)) X → (w3Y w n (.slice B done.length cd)).heap.size < X.heap.size → Gr X b n.toNat (onAt l) → (w3Y w n (.slice B done.length cd)).heap.size < b → natE.Row (fun b => (w3Y w n (.slice B done.length cd)).heap.size < b) X vr row →
      Calls Tryd.prog 28 #[.pointer (some ⟨b, 0, none⟩), vr, .pointer (some ⟨w.heap.size + 1, 0, none⟩), .pointer (some ⟨w.heap.size, 0, none⟩), .pointer (some ⟨w.heap.size + 1 + 1, 0, none⟩)] X (ClP (fun b => b = w.heap.size + 1 + 1) (QOut natE n l (fY n l done) w (w.heap.size + 1 + 1) (w3Y w n (.slice B done.length cd)).heap.size) X)) := by
    refine hid (fun b X vr row hok hor hbw hsz hg hb hr => ?_)
    have hs2 : (w3Y w n (.slice B done.length cd)).heap.size = w.heap.size + 3 := by simp
    have hb0 : X.heap[w.heap.size + 1 + 1]? = some (.cells #[.slice none 0 0] 25 (0, 0)) := (hbw.block _ (by omega)).trans (alloc_blk (by simp))
    have hb1 : X.heap[w.heap.size]? = some (.cells #[.int .i64 n] 3 (0, 0)) := (hbw.block _ (by omega)).trans ((Below.heap_alloc _ _ _ (by simp <;> omega)).trans ((Below.heap_alloc _ _ _ (by simp)).trans (alloc_blk rfl)))
    have hb2 : X.heap[w.heap.size + 1]? = some (.cells #[.slice B done.length cd] 25 (0, 0)) := (hbw.block _ (by omega)).trans ((Below.heap_alloc _ _ _ (by simp)).trans (alloc_blk (by simp)))
    have hbwX : Below w.heap.size w X := ((((Below.refl _ _).alloc (Nat.le_refl _) _).alloc (by simp) _).alloc (by simp <;> omega) _ : Below w.heap.size w (w3Y w n (.slice B done.length cd))).trans (hbw.mono (by omega))
    have hp : X.cell? ⟨w.heap.size, 0, none⟩ = some (.int .i64 (n.toNat : Int)) := by
      rw [cell_blk hb1, Int.toNat_of_nonneg (okB_n hok).1]; rfl
    exact (ready1_any hg (fit_of hok) (hd.below hbwX) (hdl hok) hdn (by omega) (by omega) hb0 hp (cell_blk hb2 0)).mono (fun e w' h => Cl1.cl (f := fY n l done) h rfl hor hbwX (by omega) hsz)
  clear hv hd hdl hdn
  go_enter Tryd.func16, Tryd.ntmps16
  go_wp2_with (first | (go_at_call 19; refine (try_28 (p := ⟨w.heap.size + 1, 0, none⟩) (q := ⟨w.heap.size, 0, none⟩) (r := ⟨w.heap.size + 1 + 1, 0, none⟩) (U := fun b => b = w.heap.size + 1 + 1) (P := QOut natE n l (fY n l done) w (w.heap.size + 1 + 1) (w3Y w n (.slice B done.length cd)).heap.size) (HV.out.below (by repeat (first | (with_reducible exact Below.refl _ _) | (with_reducible exact bl_mm) | (with_reducible refine bl_dr ?_) | (with_reducible refine bl_drN ?_ _) | (with_reducible refine bl_al ?_ _) | (with_reducible refine bl_more ?_ _ _)))) (by simp) (QOut.st (by simp) (by omega)) HCL.out).mono ?_; rintro e w1 hq; obtain ⟨rfl, ho1, hf1, ⟨v1, hc1, hr1⟩, hb1⟩ := hq.out (OutW.start (alloc_blk (by simp)) (by repeat (first | (with_reducible exact Below.refl _ _) | (with_reducible exact bl_mm) | (with_reducible refine bl_dr ?_) | (with_reducible refine bl_drN ?_ _) | (with_reducible refine bl_al ?_ _) | (with_reducible refine bl_more ?_ _ _)))); have HR1 := hid hr1; have HB1 := hid hb1; clear hq hr1 hb1))
  go_ret2
  exact OutW.fine HR1.out HB1.out (by simp <;> omega)
end Go.Proofs.YtomhpbhkckjmdaaDoorRR
