/- No pool, and one that nothing made. -/
import Derived.Test.YtlfdnjomjheioaaPLa
namespace Go.Proofs.Ytlfdnjomjheioaa
open Go.RowKit

set_option maxHeartbeats 1000000 in
theorem take_noneB {N : Nat} {w : World} {F : Nat → Prop} {p : Nat} {s : List Wk} {ad : Nat → Ad} (h : Pl N w F p s ad) (i : Int) (hi : i < 0 ∨ (s.length : Int) ≤ i) (pick : Int) :
    Calls Try.prog 11 #[.pointer (some ⟨p, 0, none⟩), .int .i64 i, .int .i64 pick] w fun e w' => e = .returned (.tuple #[jobV job0 (.slice none 0 0), .int .i64 0, .int .i64 2]) ∧ Below w.heap.size w w' := by
  have HP := hid h
  have HI := hid hi
  clear h hi
  go_enter Try.func11, Try.ntmps11
  go_wp2_with (first | (go_at_call 26; refine (worker_none (HP.out.below (by repeat (first | (with_reducible exact Below.refl _ _) | (with_reducible exact bl_mm) | (with_reducible refine bl_dr ?_) | (with_reducible refine bl_drN ?_ _) | (with_reducible refine bl_al ?_ _) | (with_reducible refine bl_more ?_ _ _)))) i HI.out).mono ?_; rintro e w1 ⟨rfl, hb1⟩; obtain ⟨ex, dx, rfl⟩ := more_of hb1; clear hb1))
  refine bodyPost_ret (v := .tuple #[jobV job0 (.slice none 0 0), .int .i64 0, .int .i64 2]) (by simp [results, Try.results11, job0, go_sem]) rfl ⟨rfl, (by repeat (first | (with_reducible exact Below.refl _ _) | (with_reducible exact bl_mm) | (with_reducible refine bl_dr ?_) | (with_reducible refine bl_drN ?_ _) | (with_reducible refine bl_al ?_ _) | (with_reducible refine bl_more ?_ _ _)))⟩
set_option maxHeartbeats 1000000 in
theorem push_noneB {N : Nat} {K0 : Nat → Prop} {w : World} {F : Nat → Prop} {p : Nat} {s : List Wk} {ad : Nat → Ad} {v : Value} {jb : Job} (h : Pl N w F p s ad) (i : Int) (hi : i < 0 ∨ (s.length : Int) ≤ i) (hv : intE.Row K0 w v jb.stamp) :
    Calls Try.prog 19 #[.pointer (some ⟨p, 0, none⟩), .int .i64 i, jobV jb v] w fun e w' => e = .returned (.int .i64 2) ∧ Below w.heap.size w w' := by
  obtain ⟨A, c, rfl, _, _⟩ := hv.form
  have HP := hid h
  have HI := hid hi
  clear h hi hv
  go_enter Try.func19, Try.ntmps19
  go_wp2_with (first | ((with_reducible refine wp_region_plan (id := 4) (.eff [(false, 0), (false, 1), (false, 2), (false, 3), (false, 4)] 5 [] (.fin [(false, 6)])) ?_ ?_ ?_ ?_ ?_ ?_); kernel_rfl; kernel_rfl; kernel_rfl; kernel_rfl; (intro c a d v w h; cases d <;> exact h)) | (with_reducible refine wpPlan_eff ?_) | (with_reducible refine wpPlan_fin ?_) | (with_reducible refine wpPlan_two ?_) | (with_reducible refine wpOpPair ?_ ?_) | ((with_reducible apply wpPre_keep); rfl; intro K' hK'; go_simp; refine hK' _ _ ?_; intro f hf; clear hK' K') | ((with_reducible apply wpPre_drop); rfl; intro K' hK'; go_simp; refine hK' _ _ ?_; intro f; clear hK' K') | (with_reducible refine wpPre_nil ?_) | ((with_reducible apply wpOp_list); rfl) | (with_reducible refine heldPair ?_ ?_) | ((with_reducible refine heldH_no ?_ ?_); rfl) | (with_reducible refine heldH_yes ?_ ?_) | (with_reducible exact heldH_nil) | (unfold YAt; go_simp; done) | (go_at_call 26; refine (worker_none (HP.out.below (by repeat (first | (with_reducible exact Below.refl _ _) | (with_reducible exact bl_mm) | (with_reducible refine bl_dr ?_) | (with_reducible refine bl_drN ?_ _) | (with_reducible refine bl_al ?_ _) | (with_reducible refine bl_more ?_ _ _)))) i HI.out).mono ?_; rintro e w1 ⟨rfl, hb1⟩; obtain ⟨ex, dx, rfl⟩ := more_of hb1; clear hb1))
  go_ret
  exact ⟨rfl, (by repeat (first | (with_reducible exact Below.refl _ _) | (with_reducible exact bl_mm) | (with_reducible refine bl_dr ?_) | (with_reducible refine bl_drN ?_ _) | (with_reducible refine bl_al ?_ _) | (with_reducible refine bl_more ?_ _ _)))⟩
set_option maxHeartbeats 1000000 in
theorem put_noneB {N : Nat} {K0 : Nat → Prop} {w : World} {F : Nat → Prop} {p : Nat} {s : List Wk} {ad : Nat → Ad} {v : Value} {jb : Job} (h : Pl N w F p s ad) (i : Int) (hi : i < 0 ∨ (s.length : Int) ≤ i) (hv : intE.Row K0 w v jb.stamp) :
    Calls Try.prog 20 #[.pointer (some ⟨p, 0, none⟩), .int .i64 i, jobV jb v] w fun e w' => e = .returned (.int .i64 2) ∧ Below w.heap.size w w' := by
  obtain ⟨A, c, rfl, _, _⟩ := hv.form
  have HP := hid h
  have HI := hid hi
  clear h hi hv
  go_enter Try.func20, Try.ntmps20
  go_wp2_with (first | (go_at_call 29; refine (holding_none (HP.out.below (by repeat (first | (with_reducible exact Below.refl _ _) | (with_reducible exact bl_mm) | (with_reducible refine bl_dr ?_) | (with_reducible refine bl_drN ?_ _) | (with_reducible refine bl_al ?_ _) | (with_reducible refine bl_more ?_ _ _)))) i HI.out).mono ?_; rintro e w1 ⟨rfl, hb1⟩; obtain ⟨ex, dx, rfl⟩ := more_of hb1; clear hb1))
  go_ret
  exact ⟨rfl, (by repeat (first | (with_reducible exact Below.refl _ _) | (with_reducible exact bl_mm) | (with_reducible refine bl_dr ?_) | (with_reducible refine bl_drN ?_ _) | (with_reducible refine bl_al ?_ _) | (with_reducible refine bl_more ?_ _ _)))⟩
set_option maxHeartbeats 1000000 in
theorem done_noneB {N : Nat} {w : World} {F : Nat → Prop} {p : Nat} {s : List Wk} {ad : Nat → Ad} (h : Pl N w F p s ad) (i : Int) (hi : i < 0 ∨ (s.length : Int) ≤ i) :
    Calls Try.prog 14 #[.pointer (some ⟨p, 0, none⟩), .int .i64 i] w fun e w' => e = .returned (.int .i64 2) ∧ Below w.heap.size w w' := by
  have HP := hid h
  have HI := hid hi
  clear h hi
  go_enter Try.func14, Try.ntmps14
  go_wp2_with (first | (go_at_call 29; refine (holding_none (HP.out.below (by repeat (first | (with_reducible exact Below.refl _ _) | (with_reducible exact bl_mm) | (with_reducible refine bl_dr ?_) | (with_reducible refine bl_drN ?_ _) | (with_reducible refine bl_al ?_ _) | (with_reducible refine bl_more ?_ _ _)))) i HI.out).mono ?_; rintro e w1 ⟨rfl, hb1⟩; obtain ⟨ex, dx, rfl⟩ := more_of hb1; clear hb1))
  go_ret
  exact ⟨rfl, (by repeat (first | (with_reducible exact Below.refl _ _) | (with_reducible exact bl_mm) | (with_reducible refine bl_dr ?_) | (with_reducible refine bl_drN ?_ _) | (with_reducible refine bl_al ?_ _) | (with_reducible refine bl_more ?_ _ _)))⟩
/-- No pool. -/
def Bare (w : World) (p : Option Addr) : Prop := p = none ∨ ∃ d, p = some ⟨d, 0, none⟩ ∧ d < w.heap.size ∧ w.cell? ⟨d, 0, none⟩ = some (.int .i64 0)
theorem Bare.below {w W : World} {p : Option Addr} (h : Bare w p) (hb : Below w.heap.size w W) : Bare W p := by
  rcases h with rfl | ⟨d, rfl, hd, hc⟩
  · exact .inl rfl
  · exact .inr ⟨d, rfl, by have := hb.size; omega, cell_kept hb hc⟩
set_option maxHeartbeats 1000000 in
theorem bare_push {w : World} {p : Option Addr} {i : Int} {j : Job} {v : Value} (h : Bare w p) : Calls Try.prog 19 #[.pointer p, .int .i64 i, jobV j v] w fun e w' => e = .returned (.int .i64 1) ∧ Below w.heap.size w w' := by
  rcases h with rfl | ⟨d, rfl, hd, hc⟩
  · go_enter Try.func19, Try.ntmps19
    go_wp2_with (first | ((with_reducible refine wp_region_plan (id := 4) (.eff [(false, 0), (false, 1), (false, 2), (false, 3), (false, 4)] 5 [] (.fin [(false, 6)])) ?_ ?_ ?_ ?_ ?_ ?_); kernel_rfl; kernel_rfl; kernel_rfl; kernel_rfl; (intro c a d v w h; cases d <;> exact h)) | (with_reducible refine wpPlan_eff ?_) | (with_reducible refine wpPlan_fin ?_) | (with_reducible refine wpPlan_two ?_) | (with_reducible refine wpOpPair ?_ ?_) | ((with_reducible apply wpPre_keep); rfl; intro K' hK'; go_simp; refine hK' _ _ ?_; intro f hf; clear hK' K') | ((with_reducible apply wpPre_drop); rfl; intro K' hK'; go_simp; refine hK' _ _ ?_; intro f; clear hK' K') | (with_reducible refine wpPre_nil ?_) | ((with_reducible apply wpOp_list); rfl) | (with_reducible refine heldPair ?_ ?_) | ((with_reducible refine heldH_no ?_ ?_); rfl) | (with_reducible refine heldH_yes ?_ ?_) | (with_reducible exact heldH_nil) | (unfold YAt; go_simp; done) | (go_at_call 26; go_in) | (go_at_call 29; go_in) | (go_at_call 24; go_in))
    refine bodyPost_ret (v := (.int .i64 1)) (by simp [results, Try.results19, go_sem]) rfl ⟨rfl, (by repeat (first | (with_reducible exact Below.refl _ _) | (with_reducible exact bl_mm) | (with_reducible refine bl_dr ?_) | (with_reducible refine bl_drN ?_ _) | (with_reducible refine bl_al ?_ _) | (with_reducible refine bl_more ?_ _ _)))⟩
  · go_enter Try.func19, Try.ntmps19
    go_wp2_with (first | ((with_reducible refine wp_region_plan (id := 4) (.eff [(false, 0), (false, 1), (false, 2), (false, 3), (false, 4)] 5 [] (.fin [(false, 6)])) ?_ ?_ ?_ ?_ ?_ ?_); kernel_rfl; kernel_rfl; kernel_rfl; kernel_rfl; (intro c a d v w h; cases d <;> exact h)) | (with_reducible refine wpPlan_eff ?_) | (with_reducible refine wpPlan_fin ?_) | (with_reducible refine wpPlan_two ?_) | (with_reducible refine wpOpPair ?_ ?_) | ((with_reducible apply wpPre_keep); rfl; intro K' hK'; go_simp; refine hK' _ _ ?_; intro f hf; clear hK' K') | ((with_reducible apply wpPre_drop); rfl; intro K' hK'; go_simp; refine hK' _ _ ?_; intro f; clear hK' K') | (with_reducible refine wpPre_nil ?_) | ((with_reducible apply wpOp_list); rfl) | (with_reducible refine heldPair ?_ ?_) | ((with_reducible refine heldH_no ?_ ?_); rfl) | (with_reducible refine heldH_yes ?_ ?_) | (with_reducible exact heldH_nil) | (unfold YAt; go_simp; done) | (go_at_call 26; go_in) | (go_at_call 29; go_in) | (go_at_call 24; go_in))
    refine bodyPost_ret (v := (.int .i64 1)) (by simp [results, Try.results19, go_sem]) rfl ⟨rfl, (by repeat (first | (with_reducible exact Below.refl _ _) | (with_reducible exact bl_mm) | (with_reducible refine bl_dr ?_) | (with_reducible refine bl_drN ?_ _) | (with_reducible refine bl_al ?_ _) | (with_reducible refine bl_more ?_ _ _)))⟩
set_option maxHeartbeats 1000000 in
theorem bare_take {w : World} {p : Option Addr} {i k : Int} (h : Bare w p) : Calls Try.prog 11 #[.pointer p, .int .i64 i, .int .i64 k] w fun e w' => e = .returned (.tuple #[jobV job0 (.slice none 0 0), .int .i64 0, .int .i64 1]) ∧ Below w.heap.size w w' := by
  rcases h with rfl | ⟨d, rfl, hd, hc⟩
  · go_enter Try.func11, Try.ntmps11
    go_wp2_with (first | (go_at_call 26; go_in) | (go_at_call 29; go_in) | (go_at_call 24; go_in))
    refine bodyPost_ret (v := (.tuple #[jobV job0 (.slice none 0 0), .int .i64 0, .int .i64 1])) (by simp [results, Try.results11, job0, go_sem]) rfl ⟨rfl, (by repeat (first | (with_reducible exact Below.refl _ _) | (with_reducible exact bl_mm) | (with_reducible refine bl_dr ?_) | (with_reducible refine bl_drN ?_ _) | (with_reducible refine bl_al ?_ _) | (with_reducible refine bl_more ?_ _ _)))⟩
  · go_enter Try.func11, Try.ntmps11
    go_wp2_with (first | (go_at_call 26; go_in) | (go_at_call 29; go_in) | (go_at_call 24; go_in))
    refine bodyPost_ret (v := (.tuple #[jobV job0 (.slice none 0 0), .int .i64 0, .int .i64 1])) (by simp [results, Try.results11, job0, go_sem]) rfl ⟨rfl, (by repeat (first | (with_reducible exact Below.refl _ _) | (with_reducible exact bl_mm) | (with_reducible refine bl_dr ?_) | (with_reducible refine bl_drN ?_ _) | (with_reducible refine bl_al ?_ _) | (with_reducible refine bl_more ?_ _ _)))⟩
set_option maxHeartbeats 1000000 in
theorem bare_held {w : World} {p : Option Addr} {i : Int} (h : Bare w p) : Calls Try.prog 12 #[.pointer p, .int .i64 i] w fun e w' => e = .returned (.tuple #[jobV job0 (.slice none 0 0), .int .i64 1]) ∧ Below w.heap.size w w' := by
  rcases h with rfl | ⟨d, rfl, hd, hc⟩
  · go_enter Try.func12, Try.ntmps12
    go_wp2_with (first | (go_at_call 26; go_in) | (go_at_call 29; go_in) | (go_at_call 24; go_in))
    refine bodyPost_ret (v := (.tuple #[jobV job0 (.slice none 0 0), .int .i64 1])) (by simp [results, Try.results12, job0, go_sem]) rfl ⟨rfl, (by repeat (first | (with_reducible exact Below.refl _ _) | (with_reducible exact bl_mm) | (with_reducible refine bl_dr ?_) | (with_reducible refine bl_drN ?_ _) | (with_reducible refine bl_al ?_ _) | (with_reducible refine bl_more ?_ _ _)))⟩
  · go_enter Try.func12, Try.ntmps12
    go_wp2_with (first | (go_at_call 26; go_in) | (go_at_call 29; go_in) | (go_at_call 24; go_in))
    refine bodyPost_ret (v := (.tuple #[jobV job0 (.slice none 0 0), .int .i64 1])) (by simp [results, Try.results12, job0, go_sem]) rfl ⟨rfl, (by repeat (first | (with_reducible exact Below.refl _ _) | (with_reducible exact bl_mm) | (with_reducible refine bl_dr ?_) | (with_reducible refine bl_drN ?_ _) | (with_reducible refine bl_al ?_ _) | (with_reducible refine bl_more ?_ _ _)))⟩
set_option maxHeartbeats 1000000 in
theorem bare_put {w : World} {p : Option Addr} {i : Int} {j : Job} {v : Value} (h : Bare w p) : Calls Try.prog 20 #[.pointer p, .int .i64 i, jobV j v] w fun e w' => e = .returned (.int .i64 1) ∧ Below w.heap.size w w' := by
  rcases h with rfl | ⟨d, rfl, hd, hc⟩
  · go_enter Try.func20, Try.ntmps20
    go_wp2_with (first | (go_at_call 26; go_in) | (go_at_call 29; go_in) | (go_at_call 24; go_in))
    refine bodyPost_ret (v := (.int .i64 1)) (by simp [results, Try.results20, go_sem]) rfl ⟨rfl, (by repeat (first | (with_reducible exact Below.refl _ _) | (with_reducible exact bl_mm) | (with_reducible refine bl_dr ?_) | (with_reducible refine bl_drN ?_ _) | (with_reducible refine bl_al ?_ _) | (with_reducible refine bl_more ?_ _ _)))⟩
  · go_enter Try.func20, Try.ntmps20
    go_wp2_with (first | (go_at_call 26; go_in) | (go_at_call 29; go_in) | (go_at_call 24; go_in))
    refine bodyPost_ret (v := (.int .i64 1)) (by simp [results, Try.results20, go_sem]) rfl ⟨rfl, (by repeat (first | (with_reducible exact Below.refl _ _) | (with_reducible exact bl_mm) | (with_reducible refine bl_dr ?_) | (with_reducible refine bl_drN ?_ _) | (with_reducible refine bl_al ?_ _) | (with_reducible refine bl_more ?_ _ _)))⟩
set_option maxHeartbeats 1000000 in
theorem bare_done {w : World} {p : Option Addr} {i : Int} (h : Bare w p) : Calls Try.prog 14 #[.pointer p, .int .i64 i] w fun e w' => e = .returned (.int .i64 1) ∧ Below w.heap.size w w' := by
  rcases h with rfl | ⟨d, rfl, hd, hc⟩
  · go_enter Try.func14, Try.ntmps14
    go_wp2_with (first | (go_at_call 26; go_in) | (go_at_call 29; go_in) | (go_at_call 24; go_in))
    refine bodyPost_ret (v := (.int .i64 1)) (by simp [results, Try.results14, go_sem]) rfl ⟨rfl, (by repeat (first | (with_reducible exact Below.refl _ _) | (with_reducible exact bl_mm) | (with_reducible refine bl_dr ?_) | (with_reducible refine bl_drN ?_ _) | (with_reducible refine bl_al ?_ _) | (with_reducible refine bl_more ?_ _ _)))⟩
  · go_enter Try.func14, Try.ntmps14
    go_wp2_with (first | (go_at_call 26; go_in) | (go_at_call 29; go_in) | (go_at_call 24; go_in))
    refine bodyPost_ret (v := (.int .i64 1)) (by simp [results, Try.results14, go_sem]) rfl ⟨rfl, (by repeat (first | (with_reducible exact Below.refl _ _) | (with_reducible exact bl_mm) | (with_reducible refine bl_dr ?_) | (with_reducible refine bl_drN ?_ _) | (with_reducible refine bl_al ?_ _) | (with_reducible refine bl_more ?_ _ _)))⟩
set_option maxHeartbeats 1000000 in
theorem bare_list {w : World} {p : Option Addr} {i : Int} (h : Bare w p) : Calls Try.prog 21 #[.pointer p, .int .i64 i] w fun e w' => e = .returned (.slice none 0 0) ∧ Below w.heap.size w w' := by
  rcases h with rfl | ⟨d, rfl, hd, hc⟩
  · go_enter Try.func21, Try.ntmps21
    go_wp2_with (first | (go_at_call 26; go_in) | (go_at_call 29; go_in) | (go_at_call 24; go_in))
    refine bodyPost_ret (v := (.slice none 0 0)) (by simp [results, Try.results21, go_sem]) rfl ⟨rfl, (by repeat (first | (with_reducible exact Below.refl _ _) | (with_reducible exact bl_mm) | (with_reducible refine bl_dr ?_) | (with_reducible refine bl_drN ?_ _) | (with_reducible refine bl_al ?_ _) | (with_reducible refine bl_more ?_ _ _)))⟩
  · go_enter Try.func21, Try.ntmps21
    go_wp2_with (first | (go_at_call 26; go_in) | (go_at_call 29; go_in) | (go_at_call 24; go_in))
    refine bodyPost_ret (v := (.slice none 0 0)) (by simp [results, Try.results21, go_sem]) rfl ⟨rfl, (by repeat (first | (with_reducible exact Below.refl _ _) | (with_reducible exact bl_mm) | (with_reducible refine bl_dr ?_) | (with_reducible refine bl_drN ?_ _) | (with_reducible refine bl_al ?_ _) | (with_reducible refine bl_more ?_ _ _)))⟩
set_option maxHeartbeats 1000000 in
theorem bare_drop {w : World} {p : Option Addr} {a c : Int} {b : Bool} (h : Bare w p) : Calls Try.prog 22 #[.pointer p , keyV a b c] w fun e w' => e = .returned (.int .i64 0) ∧ Below w.heap.size w w' := by
  rcases h with rfl | ⟨d, rfl, hd, hc⟩
  · go_enter Try.func22, Try.ntmps22
    go_wp2_with (first | ((with_reducible refine wp_region_plan (id := 5) (.eff [(true, 0), (false, 1), (false, 2), (false, 3), (false, 4), (false, 5), (false, 6), (false, 7), (false, 8)] 9 [0] (.fin [(false, 10), (false, 11)])) ?_ ?_ ?_ ?_ ?_ ?_); kernel_rfl; kernel_rfl; kernel_rfl; kernel_rfl; (intro c a d v w h; cases d <;> exact h)) | (with_reducible refine wpPlan_eff ?_) | (with_reducible refine wpPlan_fin ?_) | (with_reducible refine wpPlan_two ?_) | (with_reducible refine wpOpPair ?_ ?_) | ((with_reducible apply wpPre_keep); rfl; intro K' hK'; go_simp; refine hK' _ _ ?_; intro f hf; clear hK' K') | ((with_reducible apply wpPre_drop); rfl; intro K' hK'; go_simp; refine hK' _ _ ?_; intro f; clear hK' K') | (with_reducible refine wpPre_nil ?_) | ((with_reducible apply wpOp_list); rfl) | (with_reducible refine heldPair ?_ ?_) | ((with_reducible refine heldH_no ?_ ?_); rfl) | (with_reducible refine heldH_yes ?_ ?_) | (with_reducible exact heldH_nil) | (unfold YAt; go_simp; done) | (go_at_call 24; go_in))
    go_loopg [5, 9] 0 (fun k sm i wr => k = 0 ∧ i = .int .i64 0 ∧ sm = .int .i64 0 ∧ Below w.heap.size w wr)
    case atStart => exact ⟨rfl, rfl, rfl, (by repeat (first | (with_reducible exact Below.refl _ _) | (with_reducible exact bl_mm) | (with_reducible refine bl_dr ?_) | (with_reducible refine bl_drN ?_ _) | (with_reducible refine bl_al ?_ _) | (with_reducible refine bl_more ?_ _ _)))⟩
    case round =>
      obtain ⟨rfl, rfl, rfl, hb⟩ := hrel
      obtain ⟨ex0, dx0, rfl⟩ := more_of hb
      clear hb
      go_wp2_with (first | ((with_reducible refine wp_region_plan (id := 5) (.eff [(true, 0), (false, 1), (false, 2), (false, 3), (false, 4), (false, 5), (false, 6), (false, 7), (false, 8)] 9 [0] (.fin [(false, 10), (false, 11)])) ?_ ?_ ?_ ?_ ?_ ?_); kernel_rfl; kernel_rfl; kernel_rfl; kernel_rfl; (intro c a d v w h; cases d <;> exact h)) | (with_reducible refine wpPlan_eff ?_) | (with_reducible refine wpPlan_fin ?_) | (with_reducible refine wpPlan_two ?_) | (with_reducible refine wpOpPair ?_ ?_) | ((with_reducible apply wpPre_keep); rfl; intro K' hK'; go_simp; refine hK' _ _ ?_; intro f hf; clear hK' K') | ((with_reducible apply wpPre_drop); rfl; intro K' hK'; go_simp; refine hK' _ _ ?_; intro f; clear hK' K') | (with_reducible refine wpPre_nil ?_) | ((with_reducible apply wpOp_list); rfl) | (with_reducible refine heldPair ?_ ?_) | ((with_reducible refine heldH_no ?_ ?_); rfl) | (with_reducible refine heldH_yes ?_ ?_) | (with_reducible exact heldH_nil) | (unfold YAt; go_simp; done))
      go_ret
      exact ⟨rfl, (by repeat (first | (with_reducible exact Below.refl _ _) | (with_reducible exact bl_mm) | (with_reducible refine bl_dr ?_) | (with_reducible refine bl_drN ?_ _) | (with_reducible refine bl_al ?_ _) | (with_reducible refine bl_more ?_ _ _)))⟩
  · go_enter Try.func22, Try.ntmps22
    go_wp2_with (first | ((with_reducible refine wp_region_plan (id := 5) (.eff [(true, 0), (false, 1), (false, 2), (false, 3), (false, 4), (false, 5), (false, 6), (false, 7), (false, 8)] 9 [0] (.fin [(false, 10), (false, 11)])) ?_ ?_ ?_ ?_ ?_ ?_); kernel_rfl; kernel_rfl; kernel_rfl; kernel_rfl; (intro c a d v w h; cases d <;> exact h)) | (with_reducible refine wpPlan_eff ?_) | (with_reducible refine wpPlan_fin ?_) | (with_reducible refine wpPlan_two ?_) | (with_reducible refine wpOpPair ?_ ?_) | ((with_reducible apply wpPre_keep); rfl; intro K' hK'; go_simp; refine hK' _ _ ?_; intro f hf; clear hK' K') | ((with_reducible apply wpPre_drop); rfl; intro K' hK'; go_simp; refine hK' _ _ ?_; intro f; clear hK' K') | (with_reducible refine wpPre_nil ?_) | ((with_reducible apply wpOp_list); rfl) | (with_reducible refine heldPair ?_ ?_) | ((with_reducible refine heldH_no ?_ ?_); rfl) | (with_reducible refine heldH_yes ?_ ?_) | (with_reducible exact heldH_nil) | (unfold YAt; go_simp; done) | (go_at_call 24; go_in))
    go_loopg [5, 9] 0 (fun k sm i wr => k = 0 ∧ i = .int .i64 0 ∧ sm = .int .i64 0 ∧ Below w.heap.size w wr)
    case atStart => exact ⟨rfl, rfl, rfl, (by repeat (first | (with_reducible exact Below.refl _ _) | (with_reducible exact bl_mm) | (with_reducible refine bl_dr ?_) | (with_reducible refine bl_drN ?_ _) | (with_reducible refine bl_al ?_ _) | (with_reducible refine bl_more ?_ _ _)))⟩
    case round =>
      obtain ⟨rfl, rfl, rfl, hb⟩ := hrel
      obtain ⟨ex0, dx0, rfl⟩ := more_of hb
      clear hb
      go_wp2_with (first | ((with_reducible refine wp_region_plan (id := 5) (.eff [(true, 0), (false, 1), (false, 2), (false, 3), (false, 4), (false, 5), (false, 6), (false, 7), (false, 8)] 9 [0] (.fin [(false, 10), (false, 11)])) ?_ ?_ ?_ ?_ ?_ ?_); kernel_rfl; kernel_rfl; kernel_rfl; kernel_rfl; (intro c a d v w h; cases d <;> exact h)) | (with_reducible refine wpPlan_eff ?_) | (with_reducible refine wpPlan_fin ?_) | (with_reducible refine wpPlan_two ?_) | (with_reducible refine wpOpPair ?_ ?_) | ((with_reducible apply wpPre_keep); rfl; intro K' hK'; go_simp; refine hK' _ _ ?_; intro f hf; clear hK' K') | ((with_reducible apply wpPre_drop); rfl; intro K' hK'; go_simp; refine hK' _ _ ?_; intro f; clear hK' K') | (with_reducible refine wpPre_nil ?_) | ((with_reducible apply wpOp_list); rfl) | (with_reducible refine heldPair ?_ ?_) | ((with_reducible refine heldH_no ?_ ?_); rfl) | (with_reducible refine heldH_yes ?_ ?_) | (with_reducible exact heldH_nil) | (unfold YAt; go_simp; done))
      go_ret
      exact ⟨rfl, (by repeat (first | (with_reducible exact Below.refl _ _) | (with_reducible exact bl_mm) | (with_reducible refine bl_dr ?_) | (with_reducible refine bl_drN ?_ _) | (with_reducible refine bl_al ?_ _) | (with_reducible refine bl_more ?_ _ _)))⟩
set_option maxHeartbeats 1000000 in
theorem bare_len {w : World} {p : Option Addr}  (h : Bare w p) : Calls Try.prog 10 #[.pointer p ] w fun e w' => e = .returned (.int .i64 0) ∧ Below w.heap.size w w' := by
  rcases h with rfl | ⟨d, rfl, hd, hc⟩
  · go_enter Try.func10, Try.ntmps10
    go_wp2_with (first | (go_at_call 24; go_in))
    go_loopg [3, 7] 0 (fun k sm i wr => k = 0 ∧ i = .int .i64 0 ∧ sm = .int .i64 0 ∧ Below w.heap.size w wr)
    case atStart => exact ⟨rfl, rfl, rfl, (by repeat (first | (with_reducible exact Below.refl _ _) | (with_reducible exact bl_mm) | (with_reducible refine bl_dr ?_) | (with_reducible refine bl_drN ?_ _) | (with_reducible refine bl_al ?_ _) | (with_reducible refine bl_more ?_ _ _)))⟩
    case round =>
      obtain ⟨rfl, rfl, rfl, hb⟩ := hrel
      obtain ⟨ex0, dx0, rfl⟩ := more_of hb
      clear hb
      go_wp2
      go_ret
      exact ⟨rfl, (by repeat (first | (with_reducible exact Below.refl _ _) | (with_reducible exact bl_mm) | (with_reducible refine bl_dr ?_) | (with_reducible refine bl_drN ?_ _) | (with_reducible refine bl_al ?_ _) | (with_reducible refine bl_more ?_ _ _)))⟩
  · go_enter Try.func10, Try.ntmps10
    go_wp2_with (first | (go_at_call 24; go_in))
    go_loopg [3, 7] 0 (fun k sm i wr => k = 0 ∧ i = .int .i64 0 ∧ sm = .int .i64 0 ∧ Below w.heap.size w wr)
    case atStart => exact ⟨rfl, rfl, rfl, (by repeat (first | (with_reducible exact Below.refl _ _) | (with_reducible exact bl_mm) | (with_reducible refine bl_dr ?_) | (with_reducible refine bl_drN ?_ _) | (with_reducible refine bl_al ?_ _) | (with_reducible refine bl_more ?_ _ _)))⟩
    case round =>
      obtain ⟨rfl, rfl, rfl, hb⟩ := hrel
      obtain ⟨ex0, dx0, rfl⟩ := more_of hb
      clear hb
      go_wp2
      go_ret
      exact ⟨rfl, (by repeat (first | (with_reducible exact Below.refl _ _) | (with_reducible exact bl_mm) | (with_reducible refine bl_dr ?_) | (with_reducible refine bl_drN ?_ _) | (with_reducible refine bl_al ?_ _) | (with_reducible refine bl_more ?_ _ _)))⟩
end Go.Proofs.Ytlfdnjomjheioaa
