/- Comparing; lists. -/
import Derived.Test.YtlfdnjomjheioaaDqD
namespace Go.Proofs.Ytlfdnjomjheioaa
open Go.RowKit

theorem Row_int {K : Nat → Prop} {w : World} {A : Option Addr} {n c : Nat} {xs : List Int} (h : intE.Row K w (.slice A n c) xs) (hx : xs ≠ []) :
    ∃ b off, A = some ⟨b, off, none⟩ ∧ b < w.heap.size ∧ ∀ i (hi : i < xs.length), w.cell? ⟨b, off + i, none⟩ = some (.int .i64 xs[i]) := by
  obtain ⟨A', c', he, _, _, h3⟩ := h
  obtain ⟨rfl, _, _⟩ := Value.slice.inj he
  obtain ⟨b, off, rfl, hb, hl, ha⟩ := h3 hx
  refine ⟨b, off, rfl, hl, fun i hi => ?_⟩
  obtain ⟨cs, rfl, h2⟩ := ha i hi
  have := h2 0 _ rfl
  simpa [Enc.int, Enc.scalar] using this
theorem take_step {α : Type} {xs ys : List α} {j : Nat} (hx : j < xs.length) (hy : j < ys.length) (h : xs.take j = ys.take j) (he : xs[j] = ys[j]) : xs.take (j + 1) = ys.take (j + 1) := by
  rw [List.take_succ_eq_append_getElem hx, List.take_succ_eq_append_getElem hy, h, he]

set_option maxHeartbeats 1000000 in
theorem same_ints {K K' : Nat → Prop} {w : World} {v v' : Value} {xs ys : List Int} (h : intE.Row K w v xs) (h' : intE.Row K' w v' ys) :
    Calls Try.prog 30 #[v, v'] w fun e w' => e = .returned (.bool (decide (xs = ys))) ∧ Below w.heap.size w w' := by
  obtain ⟨A, c, rfl, h1, h2⟩ := h.form
  obtain ⟨A', c', rfl, h1', h2'⟩ := h'.form
  have m : maxLen ≤ 9223372036854775807 := by unfold maxLen; omega
  have m1 : (xs.length : Int) ≤ 9223372036854775807 := by omega
  have HR := hid h
  have HR' := hid h'
  clear h h' h1 h2 h1' h2' m
  by_cases hl : xs.length = ys.length
  · have i0 : ((xs.length : Int) != (ys.length : Int)) = false := by simp [hl]
    have HL := hid hl
    clear hl
    go_enter Try.func30, Try.ntmps30
    go_wp2
    go_loopg [5] xs.length (fun k i wr => ∃ j : Nat, j + k = xs.length ∧ i = .int .i64 j ∧ xs.take j = ys.take j ∧ Below w.heap.size w wr)
    case atStart => exact ⟨0, by omega, rfl, by simp, (by repeat (first | (with_reducible exact Below.refl _ _) | (with_reducible refine bl_dr ?_) | (with_reducible refine bl_drN ?_ _) | (with_reducible refine bl_al ?_ _) | (with_reducible refine bl_more ?_ _ _)))⟩
    case round =>
      obtain ⟨j, hj, rfl, hjt, hbw⟩ := hrel
      obtain ⟨e, n, rfl⟩ := more_of hbw
      have HJ := hid hjt
      clear hjt hbw
      by_cases hlt : j < xs.length
      · have hlt' : j < ys.length := by have := HL.out; omega
        obtain ⟨b, off, rfl, hb, hc⟩ := Row_int HR.out (fun h => by subst h; simp at hlt)
        obtain ⟨b', off', rfl, hb', hc'⟩ := Row_int HR'.out (fun h => by subst h; simp at hlt')
        have c1 : w.cell? ⟨b, off + j, none⟩ = some (.int .i64 xs[j]) := hc j hlt
        have c2 : w.cell? ⟨b', off' + j, none⟩ = some (.int .i64 ys[j]) := hc' j hlt'
        clear hc hc'
        have i1 : (j : Int) < (xs.length : Int) := by omega
        have i2 : (j : Int) < (ys.length : Int) := by omega
        have i3 : (0 : Int) ≤ (j : Int) := by omega
        have w1 : IntKind.i64.wrap ((j : Int) + 1) = ((j + 1 : Nat) : Int) := by rw [IntWalk.i64_in _ (by omega)]; rfl
        by_cases he : xs[j] = ys[j]
        · have i4 : (xs[j] != ys[j]) = false := by simp [he]
          have HE := hid he
          clear he
          go_wp2_with (first | ((with_reducible refine wp_region_plan (id := 6) (.fin [(false, 0), (false, 1), (false, 2), (false, 3), (false, 4), (false, 5), (false, 6), (false, 7), (false, 8)]) ?_ ?_ ?_ ?_ ?_ ?_); kernel_rfl; kernel_rfl; kernel_rfl; kernel_rfl; (intro c a d v w h; cases d <;> exact h)) | (with_reducible refine wpPlan_eff ?_) | (with_reducible refine wpPlan_fin ?_) | (with_reducible refine wpPlan_two ?_) | (with_reducible refine wpOpPair ?_ ?_) | ((with_reducible apply wpPre_keep); rfl; intro K' hK'; go_simp; refine hK' _ _ ?_; intro f hf; clear hK' K') | ((with_reducible apply wpPre_drop); rfl; intro K' hK'; go_simp; refine hK' _ _ ?_; intro f; clear hK' K') | (with_reducible refine wpPre_nil ?_) | ((with_reducible apply wpOp_list); rfl) | (with_reducible refine heldPair ?_ ?_) | ((with_reducible refine heldH_no ?_ ?_); rfl) | (with_reducible refine heldH_yes ?_ ?_) | (with_reducible exact heldH_nil) | (unfold YAt; go_simp; done))
          go_roundg (xs.length - (j + 1))
          case measure => omega
          case rel => exact ⟨j + 1, by omega, rfl, take_step hlt hlt' HJ.out HE.out, (by repeat (first | (with_reducible exact Below.refl _ _) | (with_reducible refine bl_dr ?_) | (with_reducible refine bl_drN ?_ _) | (with_reducible refine bl_al ?_ _) | (with_reducible refine bl_more ?_ _ _)))⟩
        · have i4 : (xs[j] != ys[j]) = true := by simp [he]
          have HE := hid he
          clear he
          go_wp2_with (first | ((with_reducible refine wp_region_plan (id := 6) (.fin [(false, 0), (false, 1), (false, 2), (false, 3), (false, 4), (false, 5), (false, 6), (false, 7), (false, 8)]) ?_ ?_ ?_ ?_ ?_ ?_); kernel_rfl; kernel_rfl; kernel_rfl; kernel_rfl; (intro c a d v w h; cases d <;> exact h)) | (with_reducible refine wpPlan_eff ?_) | (with_reducible refine wpPlan_fin ?_) | (with_reducible refine wpPlan_two ?_) | (with_reducible refine wpOpPair ?_ ?_) | ((with_reducible apply wpPre_keep); rfl; intro K' hK'; go_simp; refine hK' _ _ ?_; intro f hf; clear hK' K') | ((with_reducible apply wpPre_drop); rfl; intro K' hK'; go_simp; refine hK' _ _ ?_; intro f; clear hK' K') | (with_reducible refine wpPre_nil ?_) | ((with_reducible apply wpOp_list); rfl) | (with_reducible refine heldPair ?_ ?_) | ((with_reducible refine heldH_no ?_ ?_); rfl) | (with_reducible refine heldH_yes ?_ ?_) | (with_reducible exact heldH_nil) | (unfold YAt; go_simp; done))
          go_ret
          refine ⟨?_, (by repeat (first | (with_reducible exact Below.refl _ _) | (with_reducible refine bl_dr ?_) | (with_reducible refine bl_drN ?_ _) | (with_reducible refine bl_al ?_ _) | (with_reducible refine bl_more ?_ _ _)))⟩
          rw [decide_eq_false (by intro h; exact HE.out (by simp [h]))]; rfl
      · obtain rfl : j = xs.length := by omega
        have i1 : ¬ (xs.length : Int) < xs.length := by omega
        go_wp2_with (first | ((with_reducible refine wp_region_plan (id := 6) (.fin [(false, 0), (false, 1), (false, 2), (false, 3), (false, 4), (false, 5), (false, 6), (false, 7), (false, 8)]) ?_ ?_ ?_ ?_ ?_ ?_); kernel_rfl; kernel_rfl; kernel_rfl; kernel_rfl; (intro c a d v w h; cases d <;> exact h)) | (with_reducible refine wpPlan_eff ?_) | (with_reducible refine wpPlan_fin ?_) | (with_reducible refine wpPlan_two ?_) | (with_reducible refine wpOpPair ?_ ?_) | ((with_reducible apply wpPre_keep); rfl; intro K' hK'; go_simp; refine hK' _ _ ?_; intro f hf; clear hK' K') | ((with_reducible apply wpPre_drop); rfl; intro K' hK'; go_simp; refine hK' _ _ ?_; intro f; clear hK' K') | (with_reducible refine wpPre_nil ?_) | ((with_reducible apply wpOp_list); rfl) | (with_reducible refine heldPair ?_ ?_) | ((with_reducible refine heldH_no ?_ ?_); rfl) | (with_reducible refine heldH_yes ?_ ?_) | (with_reducible exact heldH_nil) | (unfold YAt; go_simp; done))
        go_ret
        refine ⟨?_, (by repeat (first | (with_reducible exact Below.refl _ _) | (with_reducible refine bl_dr ?_) | (with_reducible refine bl_drN ?_ _) | (with_reducible refine bl_al ?_ _) | (with_reducible refine bl_more ?_ _ _)))⟩
        rw [decide_eq_true (by have h1 := HJ.out; have h2 := HL.out; rw [List.take_length, h2, List.take_length] at h1; exact h1)]; rfl
  · have i0 : ((xs.length : Int) != (ys.length : Int)) = true := by simp; omega
    have HL := hid hl
    clear hl
    go_enter Try.func30, Try.ntmps30
    go_wp2
    go_ret
    refine ⟨?_, (by repeat (first | (with_reducible exact Below.refl _ _) | (with_reducible refine bl_dr ?_) | (with_reducible refine bl_drN ?_ _) | (with_reducible refine bl_al ?_ _) | (with_reducible refine bl_more ?_ _ _)))⟩
    rw [decide_eq_false (by intro h; exact HL.out (by rw [h]))]; rfl

theorem job_eq {j j' : Job} : (j = j') ↔ (j.item = j'.item ∧ j.undo = j'.undo ∧ j.try_ = j'.try_ ∧ j.begun = j'.begun ∧ j.token = j'.token ∧ j.stamp = j'.stamp) := by
  cases j; cases j'; simp

set_option maxHeartbeats 1000000 in
theorem same_any {K K' : Nat → Prop} {w : World} {j j' : Job} {v v' : Value} (h : intE.Row K w v j.stamp) (h' : intE.Row K' w v' j'.stamp) :
    Calls Try.prog 13 #[jobV j v, jobV j' v'] w fun e w' => e = .returned (.bool (decide (j = j'))) ∧ Below w.heap.size w w' := by
  obtain ⟨A, c, rfl, h1, h2⟩ := h.form
  obtain ⟨A', c', rfl, h1', h2'⟩ := h'.form
  have HR := hid h
  have HR' := hid h'
  clear h h' h1 h2 h1' h2'
  go_enter Try.func13, Try.ntmps13
  go_wp2_with (go_at_call 30; refine (same_ints (HR.out.below (by repeat (first | (with_reducible exact Below.refl _ _) | (with_reducible refine bl_dr ?_) | (with_reducible refine bl_drN ?_ _) | (with_reducible refine bl_al ?_ _) | (with_reducible refine bl_more ?_ _ _)))) (HR'.out.below (by repeat (first | (with_reducible exact Below.refl _ _) | (with_reducible refine bl_dr ?_) | (with_reducible refine bl_drN ?_ _) | (with_reducible refine bl_al ?_ _) | (with_reducible refine bl_more ?_ _ _))))).mono ?_; rintro e w1 ⟨rfl, hb1⟩; obtain ⟨ex, dx, rfl⟩ := more_of hb1; clear hb1)
  all_goals (
    clear HR HR'
    go_ret
    refine ⟨?_, (by repeat (first | (with_reducible exact Below.refl _ _) | (with_reducible refine bl_dr ?_) | (with_reducible refine bl_drN ?_ _) | (with_reducible refine bl_al ?_ _) | (with_reducible refine bl_more ?_ _ _)))⟩
    simp only [job_eq, *]
    simp)

theorem Row_job {K : Nat → Prop} {w : World} {A : Option Addr} {n c : Nat} {xs : List Job} (h : jobE.Row K w (.slice A n c) xs) (i : Nat) (hi : i < xs.length) :
    ∃ b off B cb, A = some ⟨b, off, none⟩ ∧ b < w.heap.size ∧ K b ∧ intE.Row K w (.slice B xs[i].stamp.length cb) xs[i].stamp ∧ ∀ j u, (jobCells xs[i] (.slice B xs[i].stamp.length cb))[j]? = some u → w.cell? ⟨b, off + i * 6 + j, none⟩ = some u := by
  obtain ⟨b, off, cs, rfl, hb, hl, hrd, hc⟩ := h.get i hi
  obtain ⟨v, rfl, hv⟩ := jobE_open hrd
  obtain ⟨B, cb, rfl, _⟩ := hv.form
  exact ⟨b, off, B, cb, rfl, hl, hb, hv, hc⟩

set_option maxHeartbeats 2000000 in
theorem same_all {K K' : Nat → Prop} {w : World} {v v' : Value} {xs ys : List Job} (h : jobE.Row K w v xs) (h' : jobE.Row K' w v' ys) :
    Calls Try.prog 38 #[v, v'] w fun e w' => e = .returned (.bool (decide (xs = ys))) ∧ Below w.heap.size w w' := by
  obtain ⟨A, c, rfl, h1, h2⟩ := h.form
  obtain ⟨A', c', rfl, h1', h2'⟩ := h'.form
  have m : maxLen ≤ 9223372036854775807 := by unfold maxLen; omega
  have m1 : (xs.length : Int) ≤ 9223372036854775807 := by omega
  have HR := hid h
  have HR' := hid h'
  clear h h' h1 h2 h1' h2' m
  by_cases hl : xs.length = ys.length
  · have i0 : ((xs.length : Int) != (ys.length : Int)) = false := by simp [hl]
    have HL := hid hl
    clear hl
    go_enter Try.func38, Try.ntmps38
    go_wp2
    go_loopg [5] xs.length (fun k i wr => ∃ j : Nat, j + k = xs.length ∧ i = .int .i64 j ∧ xs.take j = ys.take j ∧ Below w.heap.size w wr)
    case atStart => exact ⟨0, by omega, rfl, by simp, (by repeat (first | (with_reducible exact Below.refl _ _) | (with_reducible refine bl_dr ?_) | (with_reducible refine bl_drN ?_ _) | (with_reducible refine bl_al ?_ _) | (with_reducible refine bl_more ?_ _ _)))⟩
    case round =>
      obtain ⟨j, hj, rfl, hjt, hbw⟩ := hrel
      obtain ⟨e, n, rfl⟩ := more_of hbw
      have HJ := hid hjt
      clear hjt hbw
      by_cases hlt : j < xs.length
      · have hlt' : j < ys.length := by have := HL.out; omega
        obtain ⟨b, off, B, cb, rfl, hb, _, hv, hc⟩ := Row_job HR.out j hlt
        obtain ⟨b', off', B', cb', rfl, hb', _, hv', hc'⟩ := Row_job HR'.out j hlt'
        have e0 : w.cell? ⟨b, off + j * 6, none⟩ = some (.int .i64 xs[j].item) := by have := hc 0 _ rfl; simpa using this
        have e1 : w.cell? ⟨b, off + j * 6 + 1, none⟩ = some (.bool xs[j].undo) := by have := hc 1 _ rfl; simpa using this
        have e2 : w.cell? ⟨b, off + j * 6 + 2, none⟩ = some (.int .i64 xs[j].try_) := by have := hc 2 _ rfl; simpa using this
        have e3 : w.cell? ⟨b, off + j * 6 + 3, none⟩ = some (.bool xs[j].begun) := by have := hc 3 _ rfl; simpa using this
        have e4 : w.cell? ⟨b, off + j * 6 + 4, none⟩ = some (.int .i64 xs[j].token) := by have := hc 4 _ rfl; simpa using this
        have e5 : w.cell? ⟨b, off + j * 6 + 5, none⟩ = some (.slice B xs[j].stamp.length cb) := by have := hc 5 _ rfl; simpa using this
        have g0 : w.cell? ⟨b', off' + j * 6, none⟩ = some (.int .i64 ys[j].item) := by have := hc' 0 _ rfl; simpa using this
        have g1 : w.cell? ⟨b', off' + j * 6 + 1, none⟩ = some (.bool ys[j].undo) := by have := hc' 1 _ rfl; simpa using this
        have g2 : w.cell? ⟨b', off' + j * 6 + 2, none⟩ = some (.int .i64 ys[j].try_) := by have := hc' 2 _ rfl; simpa using this
        have g3 : w.cell? ⟨b', off' + j * 6 + 3, none⟩ = some (.bool ys[j].begun) := by have := hc' 3 _ rfl; simpa using this
        have g4 : w.cell? ⟨b', off' + j * 6 + 4, none⟩ = some (.int .i64 ys[j].token) := by have := hc' 4 _ rfl; simpa using this
        have g5 : w.cell? ⟨b', off' + j * 6 + 5, none⟩ = some (.slice B' ys[j].stamp.length cb') := by have := hc' 5 _ rfl; simpa using this
        clear hc hc'
        have HV := hid hv
        have HV' := hid hv'
        clear hv hv'
        have i1 : (j : Int) < (xs.length : Int) := by omega
        have i2 : (j : Int) < (ys.length : Int) := by omega
        have i3 : (0 : Int) ≤ (j : Int) := by omega
        have w1 : IntKind.i64.wrap ((j : Int) + 1) = ((j + 1 : Nat) : Int) := by rw [IntWalk.i64_in _ (by omega)]; rfl
        by_cases he : xs[j] = ys[j]
        · have i4 : decide (xs[j] = ys[j]) = true := by simp [he]
          have HE := hid he
          clear he
          go_wp2_with (first | ((with_reducible refine wp_region_plan (id := 6) (.eff [(false, 0), (false, 1), (false, 2), (false, 3), (false, 4), (false, 5), (false, 6), (false, 7)] 8 [] (.fin [(false, 9)])) ?_ ?_ ?_ ?_ ?_ ?_); kernel_rfl; kernel_rfl; kernel_rfl; kernel_rfl; (intro c a d v w h; cases d <;> exact h)) | (with_reducible refine wpPlan_eff ?_) | (with_reducible refine wpPlan_fin ?_) | (with_reducible refine wpPlan_two ?_) | (with_reducible refine wpOpPair ?_ ?_) | ((with_reducible apply wpPre_keep); rfl; intro K' hK'; go_simp; refine hK' _ _ ?_; intro f hf; clear hK' K') | ((with_reducible apply wpPre_drop); rfl; intro K' hK'; go_simp; refine hK' _ _ ?_; intro f; clear hK' K') | (with_reducible refine wpPre_nil ?_) | ((with_reducible apply wpOp_list); rfl) | (with_reducible refine heldPair ?_ ?_) | ((with_reducible refine heldH_no ?_ ?_); rfl) | (with_reducible refine heldH_yes ?_ ?_) | (with_reducible exact heldH_nil) | (unfold YAt; go_simp; done) | (go_at_call 13; refine (same_any (HV.out.below (by repeat (first | (with_reducible exact Below.refl _ _) | (with_reducible refine bl_dr ?_) | (with_reducible refine bl_drN ?_ _) | (with_reducible refine bl_al ?_ _) | (with_reducible refine bl_more ?_ _ _)))) (HV'.out.below (by repeat (first | (with_reducible exact Below.refl _ _) | (with_reducible refine bl_dr ?_) | (with_reducible refine bl_drN ?_ _) | (with_reducible refine bl_al ?_ _) | (with_reducible refine bl_more ?_ _ _))))).mono ?_; rintro e w1 ⟨rfl, hb1⟩; obtain ⟨ex, dx, rfl⟩ := more_of hb1; clear hb1))
          go_roundg (xs.length - (j + 1))
          case measure => omega
          case rel => exact ⟨j + 1, by omega, rfl, take_step hlt hlt' HJ.out HE.out, (by repeat (first | (with_reducible exact Below.refl _ _) | (with_reducible refine bl_dr ?_) | (with_reducible refine bl_drN ?_ _) | (with_reducible refine bl_al ?_ _) | (with_reducible refine bl_more ?_ _ _)))⟩
        · have i4 : decide (xs[j] = ys[j]) = false := by simp [he]
          have HE := hid he
          clear he
          go_wp2_with (first | ((with_reducible refine wp_region_plan (id := 6) (.eff [(false, 0), (false, 1), (false, 2), (false, 3), (false, 4), (false, 5), (false, 6), (false, 7)] 8 [] (.fin [(false, 9)])) ?_ ?_ ?_ ?_ ?_ ?_); kernel_rfl; kernel_rfl; kernel_rfl; kernel_rfl; (intro c a d v w h; cases d <;> exact h)) | (with_reducible refine wpPlan_eff ?_) | (with_reducible refine wpPlan_fin ?_) | (with_reducible refine wpPlan_two ?_) | (with_reducible refine wpOpPair ?_ ?_) | ((with_reducible apply wpPre_keep); rfl; intro K' hK'; go_simp; refine hK' _ _ ?_; intro f hf; clear hK' K') | ((with_reducible apply wpPre_drop); rfl; intro K' hK'; go_simp; refine hK' _ _ ?_; intro f; clear hK' K') | (with_reducible refine wpPre_nil ?_) | ((with_reducible apply wpOp_list); rfl) | (with_reducible refine heldPair ?_ ?_) | ((with_reducible refine heldH_no ?_ ?_); rfl) | (with_reducible refine heldH_yes ?_ ?_) | (with_reducible exact heldH_nil) | (unfold YAt; go_simp; done) | (go_at_call 13; refine (same_any (HV.out.below (by repeat (first | (with_reducible exact Below.refl _ _) | (with_reducible refine bl_dr ?_) | (with_reducible refine bl_drN ?_ _) | (with_reducible refine bl_al ?_ _) | (with_reducible refine bl_more ?_ _ _)))) (HV'.out.below (by repeat (first | (with_reducible exact Below.refl _ _) | (with_reducible refine bl_dr ?_) | (with_reducible refine bl_drN ?_ _) | (with_reducible refine bl_al ?_ _) | (with_reducible refine bl_more ?_ _ _))))).mono ?_; rintro e w1 ⟨rfl, hb1⟩; obtain ⟨ex, dx, rfl⟩ := more_of hb1; clear hb1))
          go_ret
          refine ⟨?_, (by repeat (first | (with_reducible exact Below.refl _ _) | (with_reducible refine bl_dr ?_) | (with_reducible refine bl_drN ?_ _) | (with_reducible refine bl_al ?_ _) | (with_reducible refine bl_more ?_ _ _)))⟩
          rw [decide_eq_false (by intro h; exact HE.out (by simp [h]))]; rfl
      · obtain rfl : j = xs.length := by omega
        have i1 : ¬ (xs.length : Int) < xs.length := by omega
        go_wp2_with (first | ((with_reducible refine wp_region_plan (id := 6) (.eff [(false, 0), (false, 1), (false, 2), (false, 3), (false, 4), (false, 5), (false, 6), (false, 7)] 8 [] (.fin [(false, 9)])) ?_ ?_ ?_ ?_ ?_ ?_); kernel_rfl; kernel_rfl; kernel_rfl; kernel_rfl; (intro c a d v w h; cases d <;> exact h)) | (with_reducible refine wpPlan_eff ?_) | (with_reducible refine wpPlan_fin ?_) | (with_reducible refine wpPlan_two ?_) | (with_reducible refine wpOpPair ?_ ?_) | ((with_reducible apply wpPre_keep); rfl; intro K' hK'; go_simp; refine hK' _ _ ?_; intro f hf; clear hK' K') | ((with_reducible apply wpPre_drop); rfl; intro K' hK'; go_simp; refine hK' _ _ ?_; intro f; clear hK' K') | (with_reducible refine wpPre_nil ?_) | ((with_reducible apply wpOp_list); rfl) | (with_reducible refine heldPair ?_ ?_) | ((with_reducible refine heldH_no ?_ ?_); rfl) | (with_reducible refine heldH_yes ?_ ?_) | (with_reducible exact heldH_nil) | (unfold YAt; go_simp; done) | (go_at_call 13; refine (same_any (HV.out.below (by repeat (first | (with_reducible exact Below.refl _ _) | (with_reducible refine bl_dr ?_) | (with_reducible refine bl_drN ?_ _) | (with_reducible refine bl_al ?_ _) | (with_reducible refine bl_more ?_ _ _)))) (HV'.out.below (by repeat (first | (with_reducible exact Below.refl _ _) | (with_reducible refine bl_dr ?_) | (with_reducible refine bl_drN ?_ _) | (with_reducible refine bl_al ?_ _) | (with_reducible refine bl_more ?_ _ _))))).mono ?_; rintro e w1 ⟨rfl, hb1⟩; obtain ⟨ex, dx, rfl⟩ := more_of hb1; clear hb1))
        go_ret
        refine ⟨?_, (by repeat (first | (with_reducible exact Below.refl _ _) | (with_reducible refine bl_dr ?_) | (with_reducible refine bl_drN ?_ _) | (with_reducible refine bl_al ?_ _) | (with_reducible refine bl_more ?_ _ _)))⟩
        rw [decide_eq_true (by have h1 := HJ.out; have h2 := HL.out; rw [List.take_length, h2, List.take_length] at h1; exact h1)]; rfl
  · have i0 : ((xs.length : Int) != (ys.length : Int)) = true := by simp; omega
    have HL := hid hl
    clear hl
    go_enter Try.func38, Try.ntmps38
    go_wp2
    go_ret
    refine ⟨?_, (by repeat (first | (with_reducible exact Below.refl _ _) | (with_reducible refine bl_dr ?_) | (with_reducible refine bl_drN ?_ _) | (with_reducible refine bl_al ?_ _) | (with_reducible refine bl_more ?_ _ _)))⟩
    rw [decide_eq_false (by intro h; exact HL.out (by rw [h]))]; rfl
end Go.Proofs.Ytlfdnjomjheioaa
