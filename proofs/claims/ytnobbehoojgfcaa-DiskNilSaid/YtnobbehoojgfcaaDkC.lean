/- What a disk's calls do: what is refused. -/
import Derived.Test.YtnobbehoojgfcaaDkB
namespace Go.Proofs.Ytnobbehoojgfcaa
open Go.RowKit

set_option maxHeartbeats 1000000 in
theorem append_down {w : World} {d : Nat} {G : Nat → Prop} {s : DS} {i : Int} {B : Option Addr} {m cb : Nat} (h : Dk w d G s) (hn : 1 ≤ s.fs.length) (hdn : s.down = true) :
    Calls Try.prog 23 #[.pointer (some ⟨d, 0, none⟩), .int .i64 i, .slice B m cb] w fun e w' => e = .returned (.int .i64 9) ∧ Below w.heap.size w w' := by
  have h1 := h.down
  have hd := h.lt
  rw [hdn] at h1
  have HD := hid h
  have HN := hid hn
  clear h hn hdn
  go_enter Try.func23, Try.ntmps23
  go_wp2_with (first | (go_at_call 38; go_in) | (go_at_call 35; refine (made_any (HD.out.below (by repeat (first | (with_reducible exact Below.refl _ _) | (with_reducible exact bl_mm) | (with_reducible refine bl_dr ?_) | (with_reducible refine bl_drN ?_ _) | (with_reducible refine bl_al ?_ _) | (with_reducible refine bl_more ?_ _ _)))) HN.out).mono ?_; rintro e w1 ⟨rfl, hb1⟩; obtain ⟨ex, dx, rfl⟩ := more_of hb1; clear hb1))
  go_ret
  exact ⟨rfl, (by repeat (first | (with_reducible exact Below.refl _ _) | (with_reducible exact bl_mm) | (with_reducible refine bl_dr ?_) | (with_reducible refine bl_drN ?_ _) | (with_reducible refine bl_al ?_ _) | (with_reducible refine bl_more ?_ _ _)))⟩
set_option maxHeartbeats 1000000 in
theorem sync_down {w : World} {d : Nat} {G : Nat → Prop} {s : DS} {i : Int} (h : Dk w d G s) (hn : 1 ≤ s.fs.length) (hdn : s.down = true) :
    Calls Try.prog 22 #[.pointer (some ⟨d, 0, none⟩), .int .i64 i] w fun e w' => e = .returned (.int .i64 9) ∧ Below w.heap.size w w' := by
  have h1 := h.down
  have hd := h.lt
  rw [hdn] at h1
  have HD := hid h
  have HN := hid hn
  clear h hn hdn
  go_enter Try.func22, Try.ntmps22
  go_wp2_with (first | (go_at_call 38; go_in) | (go_at_call 35; refine (made_any (HD.out.below (by repeat (first | (with_reducible exact Below.refl _ _) | (with_reducible exact bl_mm) | (with_reducible refine bl_dr ?_) | (with_reducible refine bl_drN ?_ _) | (with_reducible refine bl_al ?_ _) | (with_reducible refine bl_more ?_ _ _)))) HN.out).mono ?_; rintro e w1 ⟨rfl, hb1⟩; obtain ⟨ex, dx, rfl⟩ := more_of hb1; clear hb1))
  go_ret
  exact ⟨rfl, (by repeat (first | (with_reducible exact Below.refl _ _) | (with_reducible exact bl_mm) | (with_reducible refine bl_dr ?_) | (with_reducible refine bl_drN ?_ _) | (with_reducible refine bl_al ?_ _) | (with_reducible refine bl_more ?_ _ _)))⟩
set_option maxHeartbeats 1000000 in
theorem cut_down {w : World} {d : Nat} {G : Nat → Prop} {s : DS} {i n : Int} (h : Dk w d G s) (hn : 1 ≤ s.fs.length) (hdn : s.down = true) :
    Calls Try.prog 21 #[.pointer (some ⟨d, 0, none⟩), .int .i64 i, .int .i64 n] w fun e w' => e = .returned (.int .i64 9) ∧ Below w.heap.size w w' := by
  have h1 := h.down
  have hd := h.lt
  rw [hdn] at h1
  have HD := hid h
  have HN := hid hn
  clear h hn hdn
  go_enter Try.func21, Try.ntmps21
  go_wp2_with (first | (go_at_call 38; go_in) | (go_at_call 35; refine (made_any (HD.out.below (by repeat (first | (with_reducible exact Below.refl _ _) | (with_reducible exact bl_mm) | (with_reducible refine bl_dr ?_) | (with_reducible refine bl_drN ?_ _) | (with_reducible refine bl_al ?_ _) | (with_reducible refine bl_more ?_ _ _)))) HN.out).mono ?_; rintro e w1 ⟨rfl, hb1⟩; obtain ⟨ex, dx, rfl⟩ := more_of hb1; clear hb1))
  go_ret
  exact ⟨rfl, (by repeat (first | (with_reducible exact Below.refl _ _) | (with_reducible exact bl_mm) | (with_reducible refine bl_dr ?_) | (with_reducible refine bl_drN ?_ _) | (with_reducible refine bl_al ?_ _) | (with_reducible refine bl_more ?_ _ _)))⟩
set_option maxHeartbeats 1000000 in
theorem append_none {w : World} {d : Nat} {G : Nat → Prop} {s : DS} {i : Int} {B : Option Addr} {m cb : Nat} (h : Dk w d G s) (hn : 1 ≤ s.fs.length) (hdn : s.down = false) (hi : i < 0 ∨ s.fs.length ≤ i) :
    Calls Try.prog 23 #[.pointer (some ⟨d, 0, none⟩), .int .i64 i, .slice B m cb] w fun e w' => e = .returned (.int .i64 2) ∧ Below w.heap.size w w' := by
  have h1 := h.down
  have hd := h.lt
  rw [hdn] at h1
  have HD := hid h
  have HN := hid hn
  have HI := hid hi
  clear h hn hdn hi
  go_enter Try.func23, Try.ntmps23
  go_wp2_with (first | (go_at_call 38; go_in) | (go_at_call 35; refine (made_any (HD.out.below (by repeat (first | (with_reducible exact Below.refl _ _) | (with_reducible exact bl_mm) | (with_reducible refine bl_dr ?_) | (with_reducible refine bl_drN ?_ _) | (with_reducible refine bl_al ?_ _) | (with_reducible refine bl_more ?_ _ _)))) HN.out).mono ?_; rintro e w1 ⟨rfl, hb1⟩; obtain ⟨ex, dx, rfl⟩ := more_of hb1; clear hb1) | (go_at_call 33; refine (has_no (HD.out.below (by repeat (first | (with_reducible exact Below.refl _ _) | (with_reducible exact bl_mm) | (with_reducible refine bl_dr ?_) | (with_reducible refine bl_drN ?_ _) | (with_reducible refine bl_al ?_ _) | (with_reducible refine bl_more ?_ _ _)))) _ HN.out HI.out).mono ?_; rintro e w1 ⟨rfl, hb1⟩; obtain ⟨ex, dx, rfl⟩ := more_of hb1; clear hb1))
  go_ret
  exact ⟨rfl, (by repeat (first | (with_reducible exact Below.refl _ _) | (with_reducible exact bl_mm) | (with_reducible refine bl_dr ?_) | (with_reducible refine bl_drN ?_ _) | (with_reducible refine bl_al ?_ _) | (with_reducible refine bl_more ?_ _ _)))⟩
set_option maxHeartbeats 1000000 in
theorem sync_none {w : World} {d : Nat} {G : Nat → Prop} {s : DS} {i : Int} (h : Dk w d G s) (hn : 1 ≤ s.fs.length) (hdn : s.down = false) (hi : i < 0 ∨ s.fs.length ≤ i) :
    Calls Try.prog 22 #[.pointer (some ⟨d, 0, none⟩), .int .i64 i] w fun e w' => e = .returned (.int .i64 2) ∧ Below w.heap.size w w' := by
  have h1 := h.down
  have hd := h.lt
  rw [hdn] at h1
  have HD := hid h
  have HN := hid hn
  have HI := hid hi
  clear h hn hdn hi
  go_enter Try.func22, Try.ntmps22
  go_wp2_with (first | (go_at_call 38; go_in) | (go_at_call 35; refine (made_any (HD.out.below (by repeat (first | (with_reducible exact Below.refl _ _) | (with_reducible exact bl_mm) | (with_reducible refine bl_dr ?_) | (with_reducible refine bl_drN ?_ _) | (with_reducible refine bl_al ?_ _) | (with_reducible refine bl_more ?_ _ _)))) HN.out).mono ?_; rintro e w1 ⟨rfl, hb1⟩; obtain ⟨ex, dx, rfl⟩ := more_of hb1; clear hb1) | (go_at_call 33; refine (has_no (HD.out.below (by repeat (first | (with_reducible exact Below.refl _ _) | (with_reducible exact bl_mm) | (with_reducible refine bl_dr ?_) | (with_reducible refine bl_drN ?_ _) | (with_reducible refine bl_al ?_ _) | (with_reducible refine bl_more ?_ _ _)))) _ HN.out HI.out).mono ?_; rintro e w1 ⟨rfl, hb1⟩; obtain ⟨ex, dx, rfl⟩ := more_of hb1; clear hb1))
  go_ret
  exact ⟨rfl, (by repeat (first | (with_reducible exact Below.refl _ _) | (with_reducible exact bl_mm) | (with_reducible refine bl_dr ?_) | (with_reducible refine bl_drN ?_ _) | (with_reducible refine bl_al ?_ _) | (with_reducible refine bl_more ?_ _ _)))⟩
set_option maxHeartbeats 1000000 in
theorem cut_none {w : World} {d : Nat} {G : Nat → Prop} {s : DS} {i n : Int} (h : Dk w d G s) (hn : 1 ≤ s.fs.length) (hdn : s.down = false) (hi : i < 0 ∨ s.fs.length ≤ i) :
    Calls Try.prog 21 #[.pointer (some ⟨d, 0, none⟩), .int .i64 i, .int .i64 n] w fun e w' => e = .returned (.int .i64 2) ∧ Below w.heap.size w w' := by
  have h1 := h.down
  have hd := h.lt
  rw [hdn] at h1
  have HD := hid h
  have HN := hid hn
  have HI := hid hi
  clear h hn hdn hi
  go_enter Try.func21, Try.ntmps21
  go_wp2_with (first | (go_at_call 38; go_in) | (go_at_call 35; refine (made_any (HD.out.below (by repeat (first | (with_reducible exact Below.refl _ _) | (with_reducible exact bl_mm) | (with_reducible refine bl_dr ?_) | (with_reducible refine bl_drN ?_ _) | (with_reducible refine bl_al ?_ _) | (with_reducible refine bl_more ?_ _ _)))) HN.out).mono ?_; rintro e w1 ⟨rfl, hb1⟩; obtain ⟨ex, dx, rfl⟩ := more_of hb1; clear hb1) | (go_at_call 33; refine (has_no (HD.out.below (by repeat (first | (with_reducible exact Below.refl _ _) | (with_reducible exact bl_mm) | (with_reducible refine bl_dr ?_) | (with_reducible refine bl_drN ?_ _) | (with_reducible refine bl_al ?_ _) | (with_reducible refine bl_more ?_ _ _)))) _ HN.out HI.out).mono ?_; rintro e w1 ⟨rfl, hb1⟩; obtain ⟨ex, dx, rfl⟩ := more_of hb1; clear hb1))
  go_ret
  exact ⟨rfl, (by repeat (first | (with_reducible exact Below.refl _ _) | (with_reducible exact bl_mm) | (with_reducible refine bl_dr ?_) | (with_reducible refine bl_drN ?_ _) | (with_reducible refine bl_al ?_ _) | (with_reducible refine bl_more ?_ _ _)))⟩

set_option maxHeartbeats 1000000 in
theorem append_full {w : World} {d : Nat} {G : Nat → Prop} {s : DS} {i : Nat} {B : Option Addr} {m cb : Nat} (h : Dk w d G s) (hdn : s.down = false) (hi : i < s.fs.length) (hn65 : s.fs.length ≤ 65) (hfull : s.room < (m : Int)) :
    Calls Try.prog 23 #[.pointer (some ⟨d, 0, none⟩), .int .i64 i, .slice B m cb] w fun e w' => e = .returned (.int .i64 8) ∧ Below w.heap.size w w' := by
  have h1 := h.down
  have h2 := h.room
  obtain ⟨g, ⟨v, c1, c2, h3, h4⟩, _⟩ := h.take i hi
  obtain ⟨A, c, rfl, h5, h6⟩ := h3.form
  have hd := h.lt
  rw [hdn] at h1
  have hn : 1 ≤ s.fs.length := by omega
  have i1 : (0 : Int) ≤ (i : Int) := by omega
  have i2 : (i : Int) < 65 := by omega
  have HD := hid h
  have HN := hid hn
  have HI := hid hi
  clear h hn hdn hn65 h3 h4 h5 h6
  go_enter Try.func23, Try.ntmps23
  go_wp2_with (first | ((with_reducible refine wp_region_plan (id := 1) (.fin [(false, 0), (false, 1), (false, 2), (false, 3), (false, 4), (false, 5), (false, 6)]) ?_ ?_ ?_ ?_ ?_ ?_); kernel_rfl; kernel_rfl; kernel_rfl; kernel_rfl; (intro c a d v w h; cases d <;> exact h)) | (with_reducible refine wpPlan_eff ?_) | (with_reducible refine wpPlan_fin ?_) | (with_reducible refine wpPlan_two ?_) | (with_reducible refine wpOpPair ?_ ?_) | ((with_reducible apply wpPre_keep); rfl; intro K' hK'; go_simp; refine hK' _ _ ?_; intro f hf; clear hK' K') | ((with_reducible apply wpPre_drop); rfl; intro K' hK'; go_simp; refine hK' _ _ ?_; intro f; clear hK' K') | (with_reducible refine wpPre_nil ?_) | ((with_reducible apply wpOp_list); rfl) | (with_reducible refine heldPair ?_ ?_) | ((with_reducible refine heldH_no ?_ ?_); rfl) | (with_reducible refine heldH_yes ?_ ?_) | (with_reducible exact heldH_nil) | (unfold YAt; go_simp; done) | (go_at_call 38; go_in) | (go_at_call 35; refine (made_any (HD.out.below (by repeat (first | (with_reducible exact Below.refl _ _) | (with_reducible exact bl_mm) | (with_reducible refine bl_dr ?_) | (with_reducible refine bl_drN ?_ _) | (with_reducible refine bl_al ?_ _) | (with_reducible refine bl_more ?_ _ _)))) HN.out).mono ?_; rintro e w1 ⟨rfl, hb1⟩; obtain ⟨ex, dx, rfl⟩ := more_of hb1; clear hb1) | (go_at_call 33; refine (has_yes (HD.out.below (by repeat (first | (with_reducible exact Below.refl _ _) | (with_reducible exact bl_mm) | (with_reducible refine bl_dr ?_) | (with_reducible refine bl_drN ?_ _) | (with_reducible refine bl_al ?_ _) | (with_reducible refine bl_more ?_ _ _)))) i HI.out).mono ?_; rintro e w1 ⟨rfl, hb1⟩; obtain ⟨ex, dx, rfl⟩ := more_of hb1; clear hb1) | (go_at_call 42; go_in))
  go_ret
  exact ⟨rfl, (by repeat (first | (with_reducible exact Below.refl _ _) | (with_reducible exact bl_mm) | (with_reducible refine bl_dr ?_) | (with_reducible refine bl_drN ?_ _) | (with_reducible refine bl_al ?_ _) | (with_reducible refine bl_more ?_ _ _)))⟩
set_option maxHeartbeats 1000000 in
theorem cut_low {w : World} {d : Nat} {G : Nat → Prop} {s : DS} {i : Nat} {n : Int} (h : Dk w d G s) (hdn : s.down = false) (hi : i < s.fs.length) (hn65 : s.fs.length ≤ 65) (hlow : n < 0) :
    Calls Try.prog 21 #[.pointer (some ⟨d, 0, none⟩), .int .i64 i, .int .i64 n] w fun e w' => e = .returned (.int .i64 2) ∧ Below w.heap.size w w' := by
  have h1 := h.down
  have h2 := h.room
  obtain ⟨g, ⟨v, c1, c2, h3, h4⟩, _⟩ := h.take i hi
  obtain ⟨A, c, rfl, h5, h6⟩ := h3.form
  have hd := h.lt
  rw [hdn] at h1
  have hn : 1 ≤ s.fs.length := by omega
  have i1 : (0 : Int) ≤ (i : Int) := by omega
  have i2 : (i : Int) < 65 := by omega
  have HD := hid h
  have HN := hid hn
  have HI := hid hi
  clear h hn hdn hn65 h3 h4 h5 h6
  go_enter Try.func21, Try.ntmps21
  go_wp2_with (first | ((with_reducible refine wp_region_plan (id := 1) (.fin [(false, 0), (false, 1), (false, 2), (false, 3), (false, 4), (false, 5), (false, 6), (false, 7), (false, 8), (false, 9), (false, 10)]) ?_ ?_ ?_ ?_ ?_ ?_); kernel_rfl; kernel_rfl; kernel_rfl; kernel_rfl; (intro c a d v w h; cases d <;> exact h)) | (with_reducible refine wpPlan_eff ?_) | (with_reducible refine wpPlan_fin ?_) | (with_reducible refine wpPlan_two ?_) | (with_reducible refine wpOpPair ?_ ?_) | ((with_reducible apply wpPre_keep); rfl; intro K' hK'; go_simp; refine hK' _ _ ?_; intro f hf; clear hK' K') | ((with_reducible apply wpPre_drop); rfl; intro K' hK'; go_simp; refine hK' _ _ ?_; intro f; clear hK' K') | (with_reducible refine wpPre_nil ?_) | ((with_reducible apply wpOp_list); rfl) | (with_reducible refine heldPair ?_ ?_) | ((with_reducible refine heldH_no ?_ ?_); rfl) | (with_reducible refine heldH_yes ?_ ?_) | (with_reducible exact heldH_nil) | (unfold YAt; go_simp; done) | (go_at_call 38; go_in) | (go_at_call 35; refine (made_any (HD.out.below (by repeat (first | (with_reducible exact Below.refl _ _) | (with_reducible exact bl_mm) | (with_reducible refine bl_dr ?_) | (with_reducible refine bl_drN ?_ _) | (with_reducible refine bl_al ?_ _) | (with_reducible refine bl_more ?_ _ _)))) HN.out).mono ?_; rintro e w1 ⟨rfl, hb1⟩; obtain ⟨ex, dx, rfl⟩ := more_of hb1; clear hb1) | (go_at_call 33; refine (has_yes (HD.out.below (by repeat (first | (with_reducible exact Below.refl _ _) | (with_reducible exact bl_mm) | (with_reducible refine bl_dr ?_) | (with_reducible refine bl_drN ?_ _) | (with_reducible refine bl_al ?_ _) | (with_reducible refine bl_more ?_ _ _)))) i HI.out).mono ?_; rintro e w1 ⟨rfl, hb1⟩; obtain ⟨ex, dx, rfl⟩ := more_of hb1; clear hb1) | (go_at_call 37; go_in))
  go_ret
  exact ⟨rfl, (by repeat (first | (with_reducible exact Below.refl _ _) | (with_reducible exact bl_mm) | (with_reducible refine bl_dr ?_) | (with_reducible refine bl_drN ?_ _) | (with_reducible refine bl_al ?_ _) | (with_reducible refine bl_more ?_ _ _)))⟩
set_option maxHeartbeats 1000000 in
theorem cut_high {w : World} {d : Nat} {G : Nat → Prop} {s : DS} {i : Nat} {n : Int} (h : Dk w d G s) (hdn : s.down = false) (hi : i < s.fs.length) (hn65 : s.fs.length ≤ 65) (hlow : ¬ n < 0) (hhigh : (s.fs[i].b.length : Int) < n) :
    Calls Try.prog 21 #[.pointer (some ⟨d, 0, none⟩), .int .i64 i, .int .i64 n] w fun e w' => e = .returned (.int .i64 2) ∧ Below w.heap.size w w' := by
  have h1 := h.down
  have h2 := h.room
  obtain ⟨g, ⟨v, c1, c2, h3, h4⟩, _⟩ := h.take i hi
  obtain ⟨A, c, rfl, h5, h6⟩ := h3.form
  have hd := h.lt
  rw [hdn] at h1
  have hn : 1 ≤ s.fs.length := by omega
  have i1 : (0 : Int) ≤ (i : Int) := by omega
  have i2 : (i : Int) < 65 := by omega
  have HD := hid h
  have HN := hid hn
  have HI := hid hi
  clear h hn hdn hn65 h3 h4 h5 h6
  go_enter Try.func21, Try.ntmps21
  go_wp2_with (first | ((with_reducible refine wp_region_plan (id := 1) (.fin [(false, 0), (false, 1), (false, 2), (false, 3), (false, 4), (false, 5), (false, 6), (false, 7), (false, 8), (false, 9), (false, 10)]) ?_ ?_ ?_ ?_ ?_ ?_); kernel_rfl; kernel_rfl; kernel_rfl; kernel_rfl; (intro c a d v w h; cases d <;> exact h)) | (with_reducible refine wpPlan_eff ?_) | (with_reducible refine wpPlan_fin ?_) | (with_reducible refine wpPlan_two ?_) | (with_reducible refine wpOpPair ?_ ?_) | ((with_reducible apply wpPre_keep); rfl; intro K' hK'; go_simp; refine hK' _ _ ?_; intro f hf; clear hK' K') | ((with_reducible apply wpPre_drop); rfl; intro K' hK'; go_simp; refine hK' _ _ ?_; intro f; clear hK' K') | (with_reducible refine wpPre_nil ?_) | ((with_reducible apply wpOp_list); rfl) | (with_reducible refine heldPair ?_ ?_) | ((with_reducible refine heldH_no ?_ ?_); rfl) | (with_reducible refine heldH_yes ?_ ?_) | (with_reducible exact heldH_nil) | (unfold YAt; go_simp; done) | (go_at_call 38; go_in) | (go_at_call 35; refine (made_any (HD.out.below (by repeat (first | (with_reducible exact Below.refl _ _) | (with_reducible exact bl_mm) | (with_reducible refine bl_dr ?_) | (with_reducible refine bl_drN ?_ _) | (with_reducible refine bl_al ?_ _) | (with_reducible refine bl_more ?_ _ _)))) HN.out).mono ?_; rintro e w1 ⟨rfl, hb1⟩; obtain ⟨ex, dx, rfl⟩ := more_of hb1; clear hb1) | (go_at_call 33; refine (has_yes (HD.out.below (by repeat (first | (with_reducible exact Below.refl _ _) | (with_reducible exact bl_mm) | (with_reducible refine bl_dr ?_) | (with_reducible refine bl_drN ?_ _) | (with_reducible refine bl_al ?_ _) | (with_reducible refine bl_more ?_ _ _)))) i HI.out).mono ?_; rintro e w1 ⟨rfl, hb1⟩; obtain ⟨ex, dx, rfl⟩ := more_of hb1; clear hb1) | (go_at_call 37; go_in))
  go_ret
  exact ⟨rfl, (by repeat (first | (with_reducible exact Below.refl _ _) | (with_reducible exact bl_mm) | (with_reducible refine bl_dr ?_) | (with_reducible refine bl_drN ?_ _) | (with_reducible refine bl_al ?_ _) | (with_reducible refine bl_more ?_ _ _)))⟩
end Go.Proofs.Ytnobbehoojgfcaa
