/- Levels, as a call; Turn, In, few. -/
import Derived.Test.YtomhpbhkckjmdaaDoorRRDgJ
namespace Go.Proofs.YtomhpbhkckjmdaaDoorRR
open Go.RowKit

abbrev fL (n : Int) (l : Arcs) (row : List Nat) : Int × List Nat := (0, (List.range n.toNat).map (levF (onAt l) row))
def levT (n : Int) (l : Arcs) : Int × List Nat := resR n l (fL n l)
abbrev w2L (w : World) (n : Int) : World := (w.alloc (.cells #[.int .i64 n] 3)).alloc (.cells #[.slice none 0 0] 25)
set_option maxHeartbeats 4000000 in
theorem Levels_any {w : World} {K : Nat → Prop} {n : Int} {v : Value} {l : Arcs} (hT : Tab w) (hv : arcE.Row K w v l) : Calls Tryd.prog 11 #[.int .i64 n, v] w (RowT natE w (levT n l)) := by
  obtain ⟨A, cp, rfl, _, _⟩ := hv.form
  have HV := hid hv
  have hmf : ∀ (fn : Fn) (first cap : Array Value) (w : World), (Instr.makeFunc fn first cap).run Tryd.prog w = .ok (.func fn first cap) w := fun _ _ _ _ => rfl
  have HCL : Hid (∀ b X vr row, okB n l = true → orderR n.toNat (onAt l) = some row → Below (w2L w n).heap.size (w2L w n) X → (w2L w n).heap.size < X.heap.size → Gr X b n.toNat (onAt l) → (w2L w n).heap.size < b → natE.Row (fun b => (w2L w n).heap.size < b) X vr row →
      Calls Tryd.prog 24 #[.pointer (some ⟨b, 0, none⟩), vr, .pointer (some ⟨w.heap.size, 0, none⟩), .pointer (some ⟨w.heap.size + 1, 0, none⟩)] X (ClP (fun b => b = w.heap.size + 1) (QOut natE n l (fL n l) w (w.heap.size + 1) (w2L w n).heap.size) X)) := by
    refine hid (fun b X vr row hok hor hbw hsz hg hb hr => ?_)
    have hs2 : (w2L w n).heap.size = w.heap.size + 2 := by simp
    have hb0 : X.heap[w.heap.size + 1]? = some (.cells #[.slice none 0 0] 25 (0, 0)) := (hbw.block _ (by omega)).trans (alloc_blk (by simp))
    have hb1 : X.heap[w.heap.size]? = some (.cells #[.int .i64 n] 3 (0, 0)) := (hbw.block _ (by omega)).trans ((Below.heap_alloc _ _ _ (by simp)).trans (alloc_blk rfl))
    have hbwX : Below w.heap.size w X := (((Below.refl _ _).alloc (Nat.le_refl _) _).alloc (by simp) _ : Below w.heap.size w (w2L w n)).trans (hbw.mono (by omega))
    have hp : X.cell? ⟨w.heap.size, 0, none⟩ = some (.int .i64 (n.toNat : Int)) := by
      rw [cell_blk hb1, Int.toNat_of_nonneg (okB_n hok).1]; rfl
    have hrl := row_len hor
    exact (levels1_any (hT.below hbwX) hg (fit_of hok) hr (row_lt hor) (by have := (okB_n hok).2; omega) (by omega) (fun b hb => by omega) hb0 (by omega) hp).mono (fun e w' h => Cl1.cl (f := fL n l) h rfl hor hbwX (by omega) hsz)
  clear hv hT
  go_enter Tryd.func11, Tryd.ntmps11
  go_wp2_with (first | (go_at_call 19; refine (try_24 (p := ⟨w.heap.size, 0, none⟩) (q := ⟨w.heap.size + 1, 0, none⟩) (U := fun b => b = w.heap.size + 1) (P := QOut natE n l (fL n l) w (w.heap.size + 1) (w2L w n).heap.size) (HV.out.below (by repeat (first | (with_reducible exact Below.refl _ _) | (with_reducible exact bl_mm) | (with_reducible refine bl_dr ?_) | (with_reducible refine bl_drN ?_ _) | (with_reducible refine bl_al ?_ _) | (with_reducible refine bl_more ?_ _ _)))) (by simp) (QOut.st (by simp) (by omega)) HCL.out).mono ?_; rintro e w1 hq; obtain ⟨rfl, ho1, hf1, ⟨v1, hc1, hr1⟩, hb1⟩ := hq.out (OutW.start (alloc_blk (by simp)) (by repeat (first | (with_reducible exact Below.refl _ _) | (with_reducible exact bl_mm) | (with_reducible refine bl_dr ?_) | (with_reducible refine bl_drN ?_ _) | (with_reducible refine bl_al ?_ _) | (with_reducible refine bl_more ?_ _ _)))); have HR1 := hid hr1; have HB1 := hid hb1; clear hq hr1 hb1))
  go_ret2
  exact OutW.fine HR1.out HB1.out (by simp <;> omega)
theorem info46 : (Tryd.prog.info? 46).map (fun i => (i.zero, i.size, i.bytes)) = some (some (.agg #[.int .i64 0, .int .i64 0]), 2, 16) := by kernel_rfl
theorem ok22 : ElemOk arcE 22 46 := by
  obtain ⟨i0, hi, hz0, hz1, hz2⟩ := info_parts info46
  exact ⟨Tryd.underlying22, ⟨i0, _, hi, hz0, hz1, rfl, by rw [hz2]; decide⟩, by decide⟩
def NumP {α : Type} (d : Enc α) (E : TypeId) (w : World) (xs : List α) (e : Ending) (w' : World) : Prop := ∃ v' g, e = .returned v' ∧ Nums d E w.heap.size w w' g v' xs
def turnR (l : Arcs) : Arcs := l.map (fun a => (a.2, a.1))
set_option maxHeartbeats 4000000 in
theorem turn_any {w : World} {K : Nat → Prop} {v : Value} {l : Arcs} (hv : arcE.Row K w v l) (hl : l.length ≤ 100000) : Calls Tryd.prog 18 #[v] w (NumP arcE 46 w (turnR l)) := by
  obtain ⟨A, cp, rfl, _, _⟩ := hv.form
  have HV := hid hv
  have HL := hid hl
  have hl1 : (l.length : Int) ≤ 100000 := by omega
  clear hv hl
  go_enter Tryd.func18, Tryd.ntmps18
  go_wp2
  go_loopg [3, 8] l.length (fun k vo vi wr => ∃ (j g : Nat), j + k = l.length ∧ vi = .int .i64 (j : Int) ∧ Nums arcE 46 w.heap.size w wr g vo (turnR (l.take j)))
  case atStart => exact ⟨0, w.heap.size, by omega, rfl, Nums.start w⟩
  case round =>
    obtain ⟨j, g, hk, rfl, hnu⟩ := hrel
    have hlen : (turnR (l.take j)).length = j := by unfold turnR; rw [List.length_map, List.length_take]; omega
    obtain ⟨A1, c1, rfl, hf1, hf2⟩ := hnu.sp.form
    rw [hlen] at hnu
    rw [hlen]
    have HK := hid hk
    have HNU := hid hnu
    by_cases hj : j < l.length
    · obtain ⟨a, hla⟩ := get_lt hj
      obtain ⟨bb, oo, rfl, _, hbl, x1, x2⟩ := row_arc (HV.out.below hnu.low) hla
      obtain ⟨a1, a2⟩ := a
      have hj0 : (0 : Int) ≤ j := by omega
      have hj1 : (j : Int) < l.length := by omega
      have HJ := hid hla
      have HLEN : Hid ((turnR (l.take j)).length + [(a2, a1)].length ≤ 4294967296) := hid (by have := HL.out; rw [hlen]; simp; omega)
      have HLE : Hid ((turnR (l.take j) ++ [(a2, a1)]).length = j + 1) := hid (by simp [hlen])
      clear hk hnu hf1 hf2 hlen hla hj
      go_wp2_with (first | (at_builtin; refine wpList_app ok22 (ys := [(a2, a1)]) (by rfl) (.tmp 12) (.tmp 18) (by rfl) (by rfl) (by rfl) (by rfl) (HNU.out.below (by repeat (first | (with_reducible exact Below.refl _ _) | (with_reducible exact bl_mm) | (with_reducible refine bl_dr ?_) | (with_reducible refine bl_drN ?_ _) | (with_reducible refine bl_al ?_ _) | (with_reducible refine bl_more ?_ _ _)))).sp (Enc.Src.one_blk (cs := [.int .i64 a2, .int .i64 a1]) (alloc_blk (by simp [more_size])) ⟨[_], [_], rfl, rfl, rfl⟩) (fun _ h _ => h.elim) HLEN.out ?_; intro v2 w2 g2 hs2 he2 hg2; obtain ⟨A2, c2, hv2, _, _⟩ := hs2.form; rw [HLE.out] at hv2; subst hv2; have HS2 := hid hs2; have HE2 := hid he2; have HG2 := hid hg2; clear hs2 hg2 he2))
      go_roundg (l.length - (j + 1))
      case measure => have := HK.out; have := get_len HJ.out; omega
      case rel =>
        have h := ((HNU.out.below (by repeat (first | (with_reducible exact Below.refl _ _) | (with_reducible exact bl_mm) | (with_reducible refine bl_dr ?_) | (with_reducible refine bl_drN ?_ _) | (with_reducible refine bl_al ?_ _) | (with_reducible refine bl_more ?_ _ _)))).grown HS2.out (fun _ h => h.1.elim) HE2.out HG2.out)
        refine ⟨j + 1, g2, by have := get_len HJ.out; have := HK.out; omega, rfl, ?_⟩
        rw [take_next HJ.out]
        unfold turnR at *
        rw [List.map_append]
        exact h
    · have hj1 : ¬ (j : Int) < l.length := by omega
      have HJ := hid hj
      clear hk hnu hf1 hf2 hlen hj
      go_wp2
      go_ret
      have h := HNU.out
      rw [List.take_of_length_le (by have := HJ.out; omega)] at h
      exact ⟨_, g, rfl, h⟩
end Go.Proofs.YtomhpbhkckjmdaaDoorRR
