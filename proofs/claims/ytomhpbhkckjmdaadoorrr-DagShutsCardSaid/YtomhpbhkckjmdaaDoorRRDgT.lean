/- The document's examples. -/
import Derived.Test.YtomhpbhkckjmdaaDoorRRDgS
namespace Go.Proofs.YtomhpbhkckjmdaaDoorRR
open Go.RowKit

def exL : Arcs := [(2, 0), (0, 1), (2, 1)]
theorem ex_order : resR 3 exL (fun row => (0, row)) = (0, [2, 0, 1]) := by kernel_rfl
theorem ex_reach : reachT 3 exL = (0, [[2], [0, 2], []]) := by kernel_rfl
theorem ex_lev : levT 3 exL = (0, [1, 2, 0]) := by kernel_rfl
theorem ex_red0 : redO 3 exL = (0, [(2, 0), (0, 1)]) := by kernel_rfl
theorem ex_red : redT 3 exL = (0, [(0, 1), (2, 0)]) := by
  unfold redT
  rw [ex_red0]
  have : sortA [(2, 0), (0, 1)] = [(0, 1), (2, 0)] := by
    unfold sortA
    simp [List.mergeSort, keyI]
  rw [this]
theorem ex_rdy : rdyT 3 exL [] = (0, [2]) := by kernel_rfl
theorem ex_cyc : resR 1 [(0, 0)] (fun row => (0, row)) = ((13, []) : Int × List Nat) := by kernel_rfl
/-- Literal rows. -/
theorem lit_row {W : World} {b : Nat} {t : TypeId} {fr : Nat × Nat} (xs : List Nat) (hb : W.heap[b]? = some (.cells (xs.map natV).toArray t fr)) (hl : xs.length ≤ 1000) : natE.Row (fun _ => True) W (.slice (some ⟨b, 0, none⟩) xs.length xs.length) xs := by
  refine ⟨_, _, rfl, Nat.le_refl _, by unfold maxLen; omega, fun _ => ⟨b, 0, rfl, trivial, (Array.getElem?_eq_some_iff.1 hb).1, fun i hi => ⟨[natV xs[i]], rfl, fun j u hj => ?_⟩⟩⟩
  cases j with
  | zero =>
    simp only [List.getElem?_cons_zero, Option.some.injEq] at hj
    subst hj
    rw [cell_blk hb]
    have e : natE.sz = 1 := rfl
    rw [e]
    simp [hi]
  | succ j => simp at hj
theorem lit_arcs {W : World} {b : Nat} {t : TypeId} {fr : Nat × Nat} (xs : Arcs) (hb : W.heap[b]? = some (.cells (xs.flatMap (fun a => [.int .i64 a.1, .int .i64 a.2])).toArray t fr)) (hl : xs.length ≤ 1000) : arcE.Row (fun _ => True) W (.slice (some ⟨b, 0, none⟩) xs.length xs.length) xs := by
  refine ⟨_, _, rfl, Nat.le_refl _, by unfold maxLen; omega, fun _ => ⟨b, 0, rfl, trivial, (Array.getElem?_eq_some_iff.1 hb).1, ?_⟩⟩
  refine Enc.Flat.at_ (cs := xs.flatMap (fun a => [.int .i64 a.1, .int .i64 a.2])) ?_ (fun j u hj => by rw [cell_blk hb, Nat.zero_add]; simpa using hj)
  clear hb hl
  rename_i h0
  clear h0
  induction xs with
  | nil => exact Enc.Flat.nil _ _ _
  | cons a xs ih => exact Enc.Flat.append (xs := [a]) (cs := [.int .i64 a.1, .int .i64 a.2]) (Enc.Flat.one_ ⟨[_], [_], rfl, rfl, rfl⟩) ih
theorem lit_ex {W : World} {b b0 b1 b2 : Nat} {t t0 t1 : TypeId} (h : W.heap[b]? = some (.cells #[.slice (some ⟨b0, 0, none⟩) 1 1, .slice (some ⟨b1, 0, none⟩) 2 2, .slice (some ⟨b2, 0, none⟩) 0 0] t (0, 0)))
    (h0 : W.heap[b0]? = some (.cells #[.int .i64 2] t0 (0, 0))) (h1 : W.heap[b1]? = some (.cells #[.int .i64 0, .int .i64 2] t1 (0, 0))) : natsE.Row (fun _ => True) W (.slice (some ⟨b, 0, none⟩) 3 3) [[2], [0, 2], []] := by
  refine ⟨_, 3, rfl, Nat.le_refl _, by decide, fun _ => ⟨b, 0, rfl, trivial, (Array.getElem?_eq_some_iff.1 h).1, ?_⟩⟩
  refine Enc.Flat.at_ (cs := [.slice (some ⟨b0, 0, none⟩) 1 1, .slice (some ⟨b1, 0, none⟩) 2 2, .slice (some ⟨b2, 0, none⟩) 0 0]) ?_ (fun j u hj => by rw [cell_blk h, Nat.zero_add]; simpa using hj)
  refine Enc.Flat.append (xs := [[2]]) (cs := [_]) (Enc.Flat.one_ ⟨_, rfl, lit_row [2] h0 (by decide)⟩) (Enc.Flat.append (xs := [[0, 2]]) (cs := [_]) (Enc.Flat.one_ ⟨_, rfl, lit_row [0, 2] h1 (by decide)⟩) (Enc.Flat.one_ ⟨_, rfl, ?_⟩))
  exact ⟨_, 0, rfl, Nat.le_refl _, Nat.zero_le _, fun h => absurd rfl h⟩
set_option maxRecDepth 8000 in
set_option maxHeartbeats 8000000 in
theorem lives_any {w : World} (hT : Tab w) : Calls Tryd.prog 8 #[] w fun e w' => e = .returned (.bool true) ∧ Below w.heap.size w w' := by
  have HT := hid hT
  have M1 := hid trivial
  have M2 := hid trivial
  have M3 := hid trivial
  have HL := hid (lit_arcs (W := w.alloc (.cells #[.int .i64 2, .int .i64 0, .int .i64 0, .int .i64 1, .int .i64 2, .int .i64 1] 46)) exL (alloc_blk rfl) (by decide))
  clear hT
  go_enter Tryd.func8, Tryd.ntmps8
  go_wp2_with (first | (go_at_call 9; clear M1; refine (Order_any (n := 3) (l := exL) (HL.out.below (by repeat (first | (with_reducible exact Below.refl _ _) | (with_reducible exact bl_mm) | (with_reducible refine bl_dr ?_) | (with_reducible refine bl_drN ?_ _) | (with_reducible refine bl_al ?_ _) | (with_reducible refine bl_more ?_ _ _))))).mono ?_; rw [ex_order]; rintro e w1 ⟨hb1, v1, rfl, hr1⟩; obtain ⟨A1, c1, rfl, _, _⟩ := hr1.form; have HR1 := hid hr1; obtain ⟨ex1, dx1, rfl⟩ := more_of hb1; clear hb1 hr1))
  go_wp2_with (first | (go_at_call 10; refine (Reach_any (n := 3) (l := exL) (HT.out.below (by repeat (first | (with_reducible exact Below.refl _ _) | (with_reducible exact bl_mm) | (with_reducible refine bl_dr ?_) | (with_reducible refine bl_drN ?_ _) | (with_reducible refine bl_al ?_ _) | (with_reducible refine bl_more ?_ _ _)))) (HL.out.below (by repeat (first | (with_reducible exact Below.refl _ _) | (with_reducible exact bl_mm) | (with_reducible refine bl_dr ?_) | (with_reducible refine bl_drN ?_ _) | (with_reducible refine bl_al ?_ _) | (with_reducible refine bl_more ?_ _ _))))).mono ?_; rw [ex_reach]; rintro e w2 ⟨hb2, v2, rfl, hr2⟩; obtain ⟨A2, c2, rfl, _, _⟩ := hr2.form; have HR2 := hid hr2; obtain ⟨ex2, dx2, rfl⟩ := more_of hb2; clear hb2 hr2))
  go_wp2_with (first | (go_at_call 11; refine (Levels_any (n := 3) (l := exL) (HT.out.below (by repeat (first | (with_reducible exact Below.refl _ _) | (with_reducible exact bl_mm) | (with_reducible refine bl_dr ?_) | (with_reducible refine bl_drN ?_ _) | (with_reducible refine bl_al ?_ _) | (with_reducible refine bl_more ?_ _ _)))) (HL.out.below (by repeat (first | (with_reducible exact Below.refl _ _) | (with_reducible exact bl_mm) | (with_reducible refine bl_dr ?_) | (with_reducible refine bl_drN ?_ _) | (with_reducible refine bl_al ?_ _) | (with_reducible refine bl_more ?_ _ _))))).mono ?_; rw [ex_lev]; rintro e w3 ⟨hb3, v3, rfl, hr3⟩; obtain ⟨A3, c3, rfl, _, _⟩ := hr3.form; have HR3 := hid hr3; obtain ⟨ex3, dx3, rfl⟩ := more_of hb3; clear hb3 hr3))
  go_wp2_with (first | (go_at_call 13; refine (Reduce_any (n := 3) (l := exL) (HT.out.below (by repeat (first | (with_reducible exact Below.refl _ _) | (with_reducible exact bl_mm) | (with_reducible refine bl_dr ?_) | (with_reducible refine bl_drN ?_ _) | (with_reducible refine bl_al ?_ _) | (with_reducible refine bl_more ?_ _ _)))) (HL.out.below (by repeat (first | (with_reducible exact Below.refl _ _) | (with_reducible exact bl_mm) | (with_reducible refine bl_dr ?_) | (with_reducible refine bl_drN ?_ _) | (with_reducible refine bl_al ?_ _) | (with_reducible refine bl_more ?_ _ _))))).mono ?_; rw [ex_red]; rintro e w4 ⟨hb4, v4, rfl, hr4⟩; obtain ⟨A4, c4, rfl, _, _⟩ := hr4.form; have HR4 := hid hr4; obtain ⟨ex4, dx4, rfl⟩ := more_of hb4; clear hb4 hr4))
  go_wp2_with (first | (go_at_call 16; refine (Ready_any (n := 3) (l := exL) (done := []) (HL.out.below (by repeat (first | (with_reducible exact Below.refl _ _) | (with_reducible exact bl_mm) | (with_reducible refine bl_dr ?_) | (with_reducible refine bl_drN ?_ _) | (with_reducible refine bl_al ?_ _) | (with_reducible refine bl_more ?_ _ _)))) (Enc.Row.nil natE (fun _ => True) _) (fun _ i h => (by cases h)) (by decide)).mono ?_; rw [ex_rdy]; rintro e w5 ⟨hb5, v5, rfl, hr5⟩; obtain ⟨A5, c5, rfl, _, _⟩ := hr5.form; have HR5 := hid hr5; obtain ⟨ex5, dx5, rfl⟩ := more_of hb5; clear hb5 hr5))
  go_wp2_with (first | (go_at_call 9; refine (Order_any (n := 1) (l := [(0, 0)]) (lit_arcs [(0, 0)] (alloc_blk (by simp [more_size])) (by decide))).mono ?_; rw [ex_cyc]; rintro e w6 ⟨hb6, v6, rfl, hr6⟩; obtain ⟨A6, c6, rfl, _, _⟩ := hr6.form; obtain ⟨ex6, dx6, rfl⟩ := more_of hb6; clear hb6 hr6))
  go_wp2_with (first | (go_at_call 17; clear M2; refine (sameI_any (HR1.out.below (by repeat (first | (with_reducible exact Below.refl _ _) | (with_reducible exact bl_mm) | (with_reducible refine bl_dr ?_) | (with_reducible refine bl_drN ?_ _) | (with_reducible refine bl_al ?_ _) | (with_reducible refine bl_more ?_ _ _)))) (lit_row [2, 0, 1] (alloc_blk (by simp [more_size])) (by decide)) (by decide)).mono ?_; rw [show decide ([2, 0, 1] = [2, 0, 1]) = true by decide]; rintro e w7 ⟨rfl, hb7⟩; obtain ⟨ex7, dx7, rfl⟩ := more_of hb7; clear hb7))
  go_wp2_with (first | (go_at_call 14; refine (sameR_any (HR2.out.below (by repeat (first | (with_reducible exact Below.refl _ _) | (with_reducible exact bl_mm) | (with_reducible refine bl_dr ?_) | (with_reducible refine bl_drN ?_ _) | (with_reducible refine bl_al ?_ _) | (with_reducible refine bl_more ?_ _ _)))) (lit_ex (alloc_blk (by simp [more_size])) ((Below.heap_alloc _ _ _ (by simp [more_size] <;> omega)).trans ((Below.heap_alloc _ _ _ (by simp [more_size] <;> omega)).trans ((Below.heap_alloc _ _ _ (by simp [more_size] <;> omega)).trans (alloc_blk (by simp [more_size]))))) ((Below.heap_alloc _ _ _ (by simp [more_size] <;> omega)).trans ((Below.heap_alloc _ _ _ (by simp [more_size] <;> omega)).trans (alloc_blk (by simp [more_size]))))) (by decide) (by decide)).mono ?_; rw [show decide ([[2], [0, 2], []] = ([[2], [0, 2], []] : List (List Nat))) = true by decide]; rintro e w8 ⟨rfl, hb8⟩; obtain ⟨ex8, dx8, rfl⟩ := more_of hb8; clear hb8))
  go_wp2_with (first | (go_at_call 17; clear M3; refine (sameI_any (HR3.out.below (by repeat (first | (with_reducible exact Below.refl _ _) | (with_reducible exact bl_mm) | (with_reducible refine bl_dr ?_) | (with_reducible refine bl_drN ?_ _) | (with_reducible refine bl_al ?_ _) | (with_reducible refine bl_more ?_ _ _)))) (lit_row [1, 2, 0] (alloc_blk (by simp [more_size])) (by decide)) (by decide)).mono ?_; rw [show decide ([1, 2, 0] = [1, 2, 0]) = true by decide]; rintro e w9 ⟨rfl, hb9⟩; obtain ⟨ex9, dx9, rfl⟩ := more_of hb9; clear hb9))
  go_wp2_with (first | (go_at_call 15; refine (sameA_any (HR4.out.below (by repeat (first | (with_reducible exact Below.refl _ _) | (with_reducible exact bl_mm) | (with_reducible refine bl_dr ?_) | (with_reducible refine bl_drN ?_ _) | (with_reducible refine bl_al ?_ _) | (with_reducible refine bl_more ?_ _ _)))) (lit_arcs [(0, 1), (2, 0)] (alloc_blk (by simp [more_size])) (by decide)) (by decide)).mono ?_; rw [show decide ([(0, 1), (2, 0)] = ([(0, 1), (2, 0)] : Arcs)) = true by decide]; rintro e wa ⟨rfl, hba⟩; obtain ⟨exa, dxa, rfl⟩ := more_of hba; clear hba))
  go_wp2_with (first | (go_at_call 17; refine (sameI_any (HR5.out.below (by repeat (first | (with_reducible exact Below.refl _ _) | (with_reducible exact bl_mm) | (with_reducible refine bl_dr ?_) | (with_reducible refine bl_drN ?_ _) | (with_reducible refine bl_al ?_ _) | (with_reducible refine bl_more ?_ _ _)))) (lit_row [2] (alloc_blk (by simp [more_size])) (by decide)) (by decide)).mono ?_; rw [show decide ([2] = [2]) = true by decide]; rintro e wb ⟨rfl, hbb⟩; obtain ⟨exb, dxb, rfl⟩ := more_of hbb; clear hbb))
  go_ret
  exact ⟨rfl, (by repeat (first | (with_reducible exact Below.refl _ _) | (with_reducible exact bl_mm) | (with_reducible refine bl_dr ?_) | (with_reducible refine bl_drN ?_ _) | (with_reducible refine bl_al ?_ _) | (with_reducible refine bl_more ?_ _ _)))⟩
end Go.Proofs.YtomhpbhkckjmdaaDoorRR
