/- Reduce's closure. -/
import Derived.Test.YtomhpbhkckjmdaaDoorRRDgN
namespace Go.Proofs.YtomhpbhkckjmdaaDoorRR
open Go.RowKit

def longR (F : Nat → Nat) (l : List Nat) : Nat := l.foldl (fun s k => s ||| F k) 0
theorem longR_lt {F : Nat → Nat} (h : ∀ k, F k < M64) (l : List Nat) : longR F l < M64 := by
  unfold longR
  have key : ∀ (l : List Nat) (s : Nat), s < M64 → l.foldl (fun s k => s ||| F k) s < M64 := by
    intro l
    induction l with
    | nil => intro s hs; exact hs
    | cons a l ih => intro s hs; exact ih _ (or_lt64 hs (h a))
  exact key l 0 (by decide)
def redI (F on : Nat → Nat) (i : Nat) : Arcs := (nodes (dif (on i) (longR F (nodes (on i))))).map (fun k : Nat => ((k : Int), (i : Int)))
def redP (F on : Nat → Nat) (n : Nat) : Arcs := (List.range n).flatMap (redI F on)
theorem redI_next {F on : Nat → Nat} {i q kk : Nat} (h : (nodes (dif (on i) (longR F (nodes (on i)))))[q]? = some kk) : (redI F on i).take (q + 1) = (redI F on i).take q ++ [((kk : Int), (i : Int))] := by
  refine take_next ?_
  unfold redI
  rw [List.getElem?_map, h]
  rfl
theorem redP_succ (F on : Nat → Nat) (j : Nat) : redP F on (j + 1) = redP F on j ++ redI F on j := by
  unfold redP
  rw [List.range_succ, List.flatMap_append]
  simp
theorem redI_len (F on : Nat → Nat) (i : Nat) : (redI F on i).length ≤ 64 := by
  unfold redI
  rw [List.length_map]
  exact nodes_len _
theorem redP_len (F on : Nat → Nat) : ∀ n, (redP F on n).length ≤ 64 * n
  | 0 => by simp [redP]
  | n + 1 => by
    rw [redP_succ, List.length_append]
    have := redP_len F on n
    have := redI_len F on n
    omega
theorem reachF_lt {n : Nat} {on : Nat → Nat} (hF : Fit n on) (row : List Nat) : ∀ j, reachF on row j < M64 := by
  unfold reachF
  have : ∀ (l : List Nat) (f : Nat → Nat), (∀ x, f x < M64) → ∀ x, l.foldl (stepRe on) f x < M64 := by
    intro l
    induction l with
    | nil => intro f h; exact h
    | cons a l ih => intro f h; exact ih _ (stepRe_lt hF.lt h a)
  exact this row _ (fun _ => (by decide : (0 : Nat) < M64))
def Cl2 {α : Type} (d : Enc α) (E : TypeId) (o : Nat) (t : TypeId) (X : World) (xs : List α) (e : Ending) (w' : World) : Prop :=
  e = .returned (.tuple #[]) ∧ Ext (fun b => b = o) X w' ∧ ∃ v g, w'.heap[o]? = some (.cells #[v] t (0, 0)) ∧ d.Out E X.heap.size X.heap.size g w' v xs
theorem out_lower {α : Type} {d : Enc α} {E : TypeId} {N M g : Nat} {w : World} {v : Value} {xs : List α} (h : d.Out E N N g w v xs) (hM : M ≤ N) : d.Out E M M g w v xs :=
  ⟨h.sp.mono (fun b hb _ => ⟨by omega, hb.2⟩), h.lt, by omega, fun hc => Nat.le_trans hM (h.cap hc)⟩
set_option maxRecDepth 8000 in
set_option maxHeartbeats 16000000 in
theorem reduce1_any {X : World} {gb n o p : Nat} {on : Nat → Nat} {row : List Nat} {vr : Value} {K : Nat → Prop} (hT : Tab X) (hg : Gr X gb n on) (hF : Fit n on) (hr : natE.Row K X vr row) (hrow : ∀ i ∈ row, i < n) (hgo : gb ≠ o) (hpo : p ≠ o)
    (ho : X.heap[o]? = some (.cells #[.slice none 0 0] 22 (0, 0))) (ho0 : 0 < o) (hp : X.cell? ⟨p, 0, none⟩ = some (.int .i64 n)) :
    Calls Tryd.prog 25 #[.pointer (some ⟨gb, 0, none⟩), vr, .pointer (some ⟨p, 0, none⟩), .pointer (some ⟨o, 0, none⟩)] X (Cl2 arcE 46 o 22 X (redP (reachF on row) on n)) := by
  have HTX := hid hT
  have HGX := hid hg
  have HF := hid hF
  have HR := hid hr
  have HRW := hid hrow
  have HB0 := hid ho
  have HO := hid (Array.getElem?_eq_some_iff.1 ho).1
  have HO0 := hid ho0
  have HGO := hid hgo
  have HP := hid hp
  have HPL := hid (show p < X.heap.size from lt_of_cell hp)
  have hn1 : (n : Int) ≤ 64 := by have := hF.n_; omega
  clear hT hg hF hr hrow ho ho0 hgo hpo
  go_enter Tryd.func25, Tryd.ntmps25
  go_wp2_with (first | (go_at_call 22; refine (reach_any HTX.out HGX.out HF.out HR.out HRW.out).mono ?_; rintro e w1 ⟨hb1, sb, rfl, hsb, hsa⟩; have HB1 := hid hb1; have HSA := hid hsa; have HSB := hid hsb; have hB1 := hb1.block o HO.out; rw [HB0.out] at hB1; have HBO := hid hB1; have hpl1 := (hb1.block p HPL.out); have hp1 := (World.cell?_of_block (w := X) (a := ⟨p, 0, none⟩) hpl1).trans HP.out; clear hb1 hsa hsb hB1 hpl1))
  go_loopg [17] n (fun k vi wr => ∃ (j g : Nat) (v : Value), j + k = n ∧ vi = .int .i64 (j : Int) ∧ Ext (fun b => b = o) w1 wr ∧ wr.heap[o]? = some (.cells #[v] 22 (0, 0)) ∧ arcE.Out 46 w1.heap.size w1.heap.size g wr v (redP (reachF on row) on j))
  case atStart => exact ⟨0, 0, _, by omega, rfl, Ext.refl _ _, HBO.out, Enc.Out.start _ _ (Nat.le_refl _) (by have := HO.out; have := HB1.out.size; omega)⟩
  case round =>
    obtain ⟨j, g, v, hk, rfl, hext, hblk, hou⟩ := hrel
    have HK := hid hk
    have HEX := hid hext
    have HBL := hid hblk
    have HOU := hid hou
    have HTR := hid ((HTX.out.below HB1.out).ext hext (by have := HO0.out; omega))
    have hgw := (HGX.out.below HB1.out).ext hext HGO.out
    have hgl := hgw.lt
    have HGW := hid hgw
    have hsr := HSA.out.ext hext (by have := HSB.out; have := HO.out; omega)
    have HSR := hid hsr
    by_cases hj : j < n
    · have HJ6 : j < 64 := by have := HF.out.n_; omega
      have c1 := hgw.at_ j HJ6
      have hj0 : (0 : Int) ≤ j := by omega
      have hj1 : (j : Int) < n := by omega
      have hj2 : (j : Int) < 64 := by omega
      have HJ := hid hj
      have HO1 : Hid (o < w1.heap.size) := hid (by have := HO.out; have := HB1.out.size; omega)
      clear hk hext hblk hou hgw hsr hj HJ6
      go_wp2_with (first | (go_at_call 23; refine (list_any HTR.out (HF.out.lt j)).mono ?_; rintro e w2 ⟨v2, g2, rfl, hn2⟩; have HLN := hid hn2.low; have HL2 := hid hn2.row; obtain ⟨A2, c2, rfl, _, _⟩ := HL2.out.form; clear hn2))
      go_loop [28, 8] (fun vi vl => ∃ q : Nat, q ≤ (nodes (on j)).length ∧ vi = .int .i64 (q : Int) ∧ vl = .int .u64 (longR (reachF on row) ((nodes (on j)).take q) : Int)) (fun vi _ => (nodes (on j)).length - (intOf vi).toNat)
      case atStart => exact ⟨0, by omega, rfl, rfl⟩
      case round =>
        obtain ⟨q, hq, rfl, rfl⟩ := hrel
        have hs2 := HSR.out.below HLN.out
        have hs2l := hs2.lt
        by_cases hql : q < (nodes (on j)).length
        · obtain ⟨kk, hkk⟩ := get_lt hql
          obtain ⟨lb, lo, rfl, _, hlb, y1⟩ := row_nat HL2.out hkk
          have hkn : kk < n := HF.out.in_ j kk (List.mem_of_getElem? hkk)
          have d1 := row_set hs2 hkn
          have hbo := bits_or_u64_nat _ _ (longR_lt (reachF_lt HF.out row) ((nodes (on j)).take q)) (reachF_lt HF.out row kk)
          have hq0 : (0 : Int) ≤ q := by omega
          have hq1 : (q : Int) < (nodes (on j)).length := by omega
          have hk0 : (0 : Int) ≤ kk := by omega
          have hk1 : (kk : Int) < n := by omega
          have hnl : ((nodes (on j)).length : Int) ≤ 64 := by have := nodes_len (on j); omega
          have HQK := hid hkk
          clear hq hql hkk hkn hs2
          go_wp2
          go_round
          case rel => exact ⟨q + 1, get_len HQK.out, rfl, by rw [take_next HQK.out]; unfold longR; rw [List.foldl_append]; rfl⟩
          case measure => have := get_len HQK.out; simp [intOf]; omega
        · have hq1 : ¬ (q : Int) < (nodes (on j)).length := by omega
          rw [List.take_of_length_le (by omega)]
          have c4 := (HGW.out.below HLN.out).at_ j (by have := HF.out.n_; have := HJ.out; omega)
          have c4l := (HGW.out.below HLN.out).lt
          have hbd := bits_dif (on j) (longR (reachF on row) (nodes (on j)))
          clear hq hql hs2
          go_wp2_with (first | (go_at_call 23; refine (list_any (HTR.out.below HLN.out) (dif_lt _ _)).mono ?_; rintro e w4 ⟨v4, g4, rfl, hn4⟩; have HLN4 := hid hn4.low; have HL4 := hid hn4.row; obtain ⟨A4, c4, rfl, _, _⟩ := HL4.out.form; clear hn4))
          have HBL4 := hid ((HLN4.out.block o (Nat.lt_of_lt_of_le (Array.getElem?_eq_some_iff.1 HBL.out).1 HLN.out.size)).trans ((HLN.out.block o (Array.getElem?_eq_some_iff.1 HBL.out).1).trans HBL.out))
          have HEX4 : Hid (Ext (fun b => b = o) w1 w4) := hid ((HEX.out.trans (T := fun _ => False) (Ext.of_below HLN.out) (fun _ _ h => h.elim)).trans (T := fun _ => False) (Ext.of_below HLN4.out) (fun _ _ h => h.elim))
          have HOU4 := hid ((HOU.out.below HLN.out).below HLN4.out)
          have HR4 : Hid (natE.Row (fun b => b ≠ o ∧ b ≠ g ∧ b < w4.heap.size) w4 (.slice A4 (nodes (dif (on j) (longR (reachF on row) (nodes (on j))))).length c4) (nodes (dif (on j) (longR (reachF on row) (nodes (on j)))))) := hid (HL4.out.mono (fun b hb hl => by have := HO1.out; have := HEX.out.size; have := HLN.out.size; have := HOU.out.lt; exact ⟨by omega, by omega, hl⟩))
          obtain ⟨D, hD⟩ : ∃ D, nodes (dif (on j) (longR (reachF on row) (nodes (on j)))) = D := ⟨_, rfl⟩
          have HDD := hid hD
          rw [hD] at HR4 ⊢
          have hDl : (D.length : Int) ≤ 64 := by have := nodes_len (dif (on j) (longR (reachF on row) (nodes (on j)))); rw [hD] at this; omega
          clear hbd hD
          go_loopg [49] D.length (fun k vi w5 => ∃ (q g' : Nat) (v' : Value), q + k = D.length ∧ vi = .int .i64 (q : Int) ∧ Ext (fun b => b = o) w1 w5 ∧ w5.heap[o]? = some (.cells #[v'] 22 (0, 0)) ∧ arcE.Out 46 w1.heap.size w1.heap.size g' w5 v' (redP (reachF on row) on j ++ (redI (reachF on row) on j).take q) ∧ natE.Row (fun b => b ≠ o ∧ b ≠ g' ∧ b < w4.heap.size) w5 (.slice A4 D.length c4) D ∧ w4.heap.size ≤ w5.heap.size)
          case atStart => exact ⟨0, g, v, by omega, rfl, HEX4.out, HBL4.out, by rw [List.take_zero, List.append_nil]; exact HOU4.out, HR4.out, Nat.le_refl _⟩
          case round =>
            obtain ⟨q, g', v', hq, rfl, hext, hblk, hou, hrow, hsz⟩ := hrel
            obtain ⟨XS, hXS⟩ : ∃ XS, redP (reachF on row) on j ++ (redI (reachF on row) on j).take q = XS := ⟨_, rfl⟩
            have HXS := hid hXS
            have hxl : XS.length ≤ 5000 := by
              have h1 := redP_len (reachF on row) on j
              have h2 := redI_len (reachF on row) on j
              have := HF.out.n_
              have := HJ.out
              rw [← hXS, List.length_append, List.length_take]
              omega
            rw [hXS] at hou
            clear hXS
            obtain ⟨A1, cp, rfl, hf1, hf2⟩ := hou.sp.form
            have HQ := hid hq
            have HEX := hid hext
            have HBL := hid hblk
            have HOU := hid hou
            have HRO := hid hrow
            have HSZ := hid hsz
            have hol := (Array.getElem?_eq_some_iff.1 hblk).1
            have HOL := hid hol
            have co := cell_blk hblk 0
            have fo := frz_blk hblk 0
            simp only [List.getElem?_toArray, List.getElem?_cons_zero] at co
            by_cases hql : q < D.length
            · obtain ⟨kk, hkk⟩ := get_lt hql
              obtain ⟨lb, lo, rfl, _, hlb, y1⟩ := row_nat hrow hkk
              have hnx := redI_next (F := reachF on row) (on := on) (i := j) (q := q) (kk := kk) (by rw [HDD.out]; exact hkk)
              have HNX := hid hnx
              have HLEN : Hid (XS.length + [((kk : Int), (j : Int))].length ≤ 4294967296) := hid (by simp only [List.length_singleton]; omega)
              have HLE : Hid ((XS ++ [((kk : Int), (j : Int))]).length = XS.length + 1) := hid (by rw [List.length_append]; rfl)
              have hq0 : (0 : Int) ≤ q := by omega
              have hq1 : (q : Int) < D.length := by omega
              have HQK := hid hkk
              clear hq hext hblk hou hrow hsz hf1 hf2 hql hkk hnx hxl
              go_wp2_with (first | (at_builtin; refine wpList_app ok22 (ys := [((kk : Int), (j : Int))]) (by rfl) (.tmp 53) (.tmp 57) (by rfl) (by rfl) (by rfl) (by rfl) (HOU.out.below (by repeat (first | (with_reducible exact Below.refl _ _) | (with_reducible exact bl_mm) | (with_reducible refine bl_dr ?_) | (with_reducible refine bl_drN ?_ _) | (with_reducible refine bl_al ?_ _) | (with_reducible refine bl_more ?_ _ _)))).sp (Enc.Src.one_blk (cs := [.int .i64 (kk : Int), .int .i64 (j : Int)]) (alloc_blk (by simp [more_size])) ⟨[_], [_], rfl, rfl, rfl⟩) (fun _ h _ => h.2) HLEN.out ?_; intro v3 w3 g3 hs3 he3 hg3; obtain ⟨A3, c3, hv3, _, _⟩ := hs3.form; rw [HLE.out] at hv3; subst hv3; have hy3 := (after_app (by repeat (first | (with_reducible exact Below.refl _ _) | (with_reducible exact bl_mm) | (with_reducible refine bl_dr ?_) | (with_reducible refine bl_drN ?_ _) | (with_reducible refine bl_al ?_ _) | (with_reducible refine bl_more ?_ _ _))) he3 (fun hc e => by have := HOU.out.cap hc; have := HO1.out; omega) HOL.out).trans HBL.out; have c3o := cell_blk hy3 0; have f3o := frz_blk hy3 0; simp only [List.getElem?_toArray, List.getElem?_cons_zero] at c3o; have hl3o := (Array.getElem?_eq_some_iff.1 hy3).1; clear hy3; have HS3 := hid hs3; have HE3 := hid he3; have HG3 := hid hg3; clear hs3 hg3 he3))
              go_roundg (D.length - (q + 1))
              case measure => have := HQ.out; have := get_len HQK.out; omega
              case rel =>
                obtain ⟨e1, e2, e3⟩ := app_end HEX.out HBL.out HOU.out HO1.out (by repeat (first | (with_reducible exact Below.refl _ _) | (with_reducible exact bl_mm) | (with_reducible refine bl_dr ?_) | (with_reducible refine bl_drN ?_ _) | (with_reducible refine bl_al ?_ _) | (with_reducible refine bl_more ?_ _ _))) HS3.out HE3.out HG3.out
                refine ⟨q + 1, g3, _, by have := HQ.out; have := get_len HQK.out; omega, rfl, e1, e2, ?_, ?_, ?_⟩
                · rw [HNX.out, ← List.append_assoc, HXS.out]
                  exact e3
                · have hb : Below wr.heap.size wr (wr.alloc (.cells #[.int .i64 (kk : Int), .int .i64 (j : Int)] 46)) := (by repeat (first | (with_reducible exact Below.refl _ _) | (with_reducible exact bl_mm) | (with_reducible refine bl_dr ?_) | (with_reducible refine bl_drN ?_ _) | (with_reducible refine bl_al ?_ _) | (with_reducible refine bl_more ?_ _ _)))
                  have hsz := HSZ.out
                  have h1 := (HRO.out.below hb).ext HE3.out (fun b hb _ h => hb.2.1 h.1)
                  refine (h1.step (fun b hb _ => Below.heap_setCell _ _ _ _ (by exact hb.1))).mono (fun b hb _ => ⟨hb.1, ?_, hb.2.2⟩)
                  have hsb := hb.2.2
                  rcases HG3.out.two with h | h
                  · rw [h.1]; exact hb.2.1
                  · rw [h.1]; simp; omega
                · have := HSZ.out
                  have := HE3.out.size
                  simp [World.setCell] at this ⊢
                  omega
            · have hq1 : ¬ (q : Int) < D.length := by omega
              have HQL := hid hql
              clear hq hext hblk hou hrow hsz hf1 hf2 hql hxl
              go_wp2
              go_roundg (n - (j + 1))
              case measure => have := HK.out; have := HJ.out; omega
              case rel =>
                refine ⟨j + 1, g', .slice A1 XS.length cp, by have := HK.out; have := HJ.out; omega, rfl, HEX.out, HBL.out, ?_⟩
                have hx := HXS.out
                rw [List.take_of_length_le (l := redI (reachF on row) on j) (by unfold redI; rw [List.length_map, HDD.out]; have := HQL.out; omega), ← redP_succ] at hx
                rw [hx]
                exact HOU.out
    · have hj1 : ¬ (j : Int) < n := by omega
      obtain rfl : j = n := by omega
      clear hk hext hblk hou hgw hsr hj
      go_wp2
      go_end0
      exact ⟨rfl, ((Ext.of_below HB1.out).trans (T := fun b => b = o) HEX.out (fun _ _ h => h)), _, g, HBL.out, out_lower HOU.out HB1.out.size⟩
end Go.Proofs.YtomhpbhkckjmdaaDoorRR
