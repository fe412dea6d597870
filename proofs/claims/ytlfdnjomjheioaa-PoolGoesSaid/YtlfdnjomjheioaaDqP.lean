/- Dropping. -/
import Derived.Test.YtlfdnjomjheioaaDqM
namespace Go.Proofs.Ytlfdnjomjheioaa
open Go.RowKit

def isKey (a : Int) (b : Bool) (c : Int) (x : Job) : Bool := x.item == a && x.undo == b && x.try_ == c
abbrev keyV (a : Int) (b : Bool) (c : Int) : Value := .agg #[.int .i64 a, .bool b, .int .i64 c]
theorem isKey_yes {a c : Int} {b : Bool} {x : Job} (h1 : x.item = a) (h2 : x.undo = b) (h3 : x.try_ = c) : isKey a b c x = true := by simp [isKey, h1, h2, h3]
theorem filter_yes {l : List Job} {p : Job → Bool} {j : Nat} (h : j < l.length) (hp : p l[j] = true) : (l.take (j + 1)).filter (fun x => !p x) = (l.take j).filter (fun x => !p x) := by
  rw [List.take_succ_eq_append_getElem h, List.filter_append]; simp [hp]
theorem filter_no {l : List Job} {p : Job → Bool} {j : Nat} (h : j < l.length) (hp : p l[j] = false) : (l.take (j + 1)).filter (fun x => !p x) = (l.take j).filter (fun x => !p x) ++ [l[j]] := by
  rw [List.take_succ_eq_append_getElem h, List.filter_append]; simp [hp]

theorem key_neq (a c a' c' : Int) (b b' : Bool) (W : World) : (binOp .neq 31 (.agg #[.int .i64 a', .bool b', .int .i64 c']) (.agg #[.int .i64 a, .bool b, .int .i64 c])).run Try.prog W = .ok (.bool (!(a' == a && b' == b && c' == c))) W := by
  by_cases h1 : a' = a <;> by_cases h2 : b' = b <;> by_cases h3 : c' = c <;> simp [h1, h2, h3, go_sem]
theorem key_eql (a c a' c' : Int) (b b' : Bool) (W : World) : (binOp .eql 31 (.agg #[.int .i64 a', .bool b', .int .i64 c']) (.agg #[.int .i64 a, .bool b, .int .i64 c])).run Try.prog W = .ok (.bool (a' == a && b' == b && c' == c)) W := by
  by_cases h1 : a' = a <;> by_cases h2 : b' = b <;> by_cases h3 : c' = c <;> simp [h1, h2, h3, go_sem]
set_option maxHeartbeats 2000000 in
theorem ref_drop {K : Nat → Prop} {w : World} {v : Value} {l : List Job} {a c : Int} {b : Bool} (h : jobE.Row K w v l) (hl : l.length ≤ 100000) :
    Calls Try.prog 52 #[v, keyV a b c] w fun e w' => ∃ v1, e = .returned (.tuple #[v1, .int .i64 ((l.length : Int) - (l.filter (fun x => !isKey a b c x)).length)]) ∧ jobE.Row (fun b => K b ∨ w.heap.size ≤ b) w' v1 (l.filter (fun x => !isKey a b c x)) ∧ Below w.heap.size w w' := by
  obtain ⟨A, cv, rfl, h1, h2⟩ := h.form
  have HR := hid h
  clear h h1 h2
  go_enter Try.func52, Try.ntmps52
  go_wp2
  obtain ⟨w1, hw1⟩ : ∃ w1, w1 = w.alloc (.cells #[.int .i64 a, .bool b, .int .i64 c] 31) := ⟨_, rfl⟩
  rw [← hw1]
  have hwb : Below w.heap.size w w1 := by rw [hw1]; exact (by repeat (first | (with_reducible exact Below.refl _ _) | (with_reducible refine bl_dr ?_) | (with_reducible refine bl_drN ?_ _) | (with_reducible refine bl_al ?_ _) | (with_reducible refine bl_more ?_ _ _)))
  have hsz : w1.heap.size = w.heap.size + 1 := by rw [hw1]; simp
  have k0 : w1.cell? ⟨w.heap.size, 0, none⟩ = some (.int .i64 a) := by rw [hw1]; go_simp
  have k1 : w1.cell? ⟨w.heap.size, 1, none⟩ = some (.bool b) := by rw [hw1]; go_simp
  have k2 : w1.cell? ⟨w.heap.size, 2, none⟩ = some (.int .i64 c) := by rw [hw1]; go_simp
  clear hw1
  generalize hN : w.heap.size = N at *
  go_loopg [6, 7] l.length (fun k vo i wr => ∃ j g2, j + k = l.length ∧ i = .int .i64 j ∧ jobE.OutP 33 (fun b => K b ∨ N ≤ b) N (N + 1) g2 wr vo ((l.take j).filter (fun x => !isKey a b c x)) ∧ Below w1.heap.size w1 wr ∧ N + 1 ≤ wr.heap.size)
  case atStart => exact ⟨0, N, by omega, rfl, Enc.OutP.start _ _ (by omega), Below.refl _ _, by omega⟩
  case round =>
    obtain ⟨j, g2, hj, rfl, ho, hbw, hs2⟩ := hrel
    obtain ⟨A2, c2, rfl, _, _⟩ := ho.sp.form
    have HO := hid ho
    have HW := hid hbw
    have HN := hid hN
    have HWB := hid hwb
    have k0 : wr.cell? ⟨N, 0, none⟩ = some (.int .i64 a) := cell_kept hbw k0
    have k1 : wr.cell? ⟨N, 1, none⟩ = some (.bool b) := cell_kept hbw k1
    have k2 : wr.cell? ⟨N, 2, none⟩ = some (.int .i64 c) := cell_kept hbw k2
    have hbw2 : Below w.heap.size w wr := by rw [hN]; exact hwb.trans (hbw.mono (by omega))
    have HW2 := hid hbw2
    have HB := hid (show ((l.take j).filter (fun x => !isKey a b c x)).length ≤ 100000 from Nat.le_trans (List.length_filter_le _ _) (by rw [List.length_take]; omega))
    have hNw : N < wr.heap.size := by omega
    have HS := hid (And.intro hs2 hsz)
    clear ho hbw hwb hs2 hsz hN hbw2
    by_cases hlt : j < l.length
    · obtain ⟨bb, off, B, cb, rfl, hbl, _, hv, hc⟩ := Row_job HR.out j hlt
      have hc := fun k u hk => cell_kept HW2.out (hc k u hk)
      have hbb : bb < wr.heap.size := Nat.lt_of_lt_of_le hbl HW2.out.size
      have e0 : wr.cell? ⟨bb, off + j * 6, none⟩ = some (.int .i64 l[j].item) := by have := hc 0 _ rfl; simpa using this
      have e1 : wr.cell? ⟨bb, off + j * 6 + 1, none⟩ = some (.bool l[j].undo) := by have := hc 1 _ rfl; simpa using this
      have e2 : wr.cell? ⟨bb, off + j * 6 + 2, none⟩ = some (.int .i64 l[j].try_) := by have := hc 2 _ rfl; simpa using this
      have e3 : wr.cell? ⟨bb, off + j * 6 + 3, none⟩ = some (.bool l[j].begun) := by have := hc 3 _ rfl; simpa using this
      have e4 : wr.cell? ⟨bb, off + j * 6 + 4, none⟩ = some (.int .i64 l[j].token) := by have := hc 4 _ rfl; simpa using this
      have e5 : wr.cell? ⟨bb, off + j * 6 + 5, none⟩ = some (.slice B l[j].stamp.length cb) := by have := hc 5 _ rfl; simpa using this
      have HV := hid (hv.bound.below HW2.out)
      have HBL := hid hbl
      have HJ := hid hj
      clear hc hv hbl hj
      have i1 : (j : Int) < (l.length : Int) := by omega
      have i3 : (0 : Int) ≤ (j : Int) := by omega
      have w1' : IntKind.i64.wrap ((j : Int) + 1) = ((j + 1 : Nat) : Int) := by rw [IntWalk.i64_in _ (by omega)]; rfl
      cases hk : isKey a b c l[j] with
      | true =>
        have hq : ∀ W, (binOp .neq 31 (.agg #[.int .i64 l[j].item, .bool l[j].undo, .int .i64 l[j].try_]) (.agg #[.int .i64 a, .bool b, .int .i64 c])).run Try.prog W = .ok (.bool false) W := fun W => by
          rw [key_neq]; exact congrArg (fun x => Result.ok (Value.bool (!x)) W) hk
        have HK := hid hk
        clear hk
        go_wp2_with (first | ((with_reducible refine wp_region_plan (id := 5) (.fin [(false, 0), (false, 1), (false, 2), (false, 3), (false, 4), (false, 5), (false, 6)]) ?_ ?_ ?_ ?_ ?_ ?_); kernel_rfl; kernel_rfl; kernel_rfl; kernel_rfl; (intro c a d v w h; cases d <;> exact h)) | (with_reducible refine wpPlan_eff ?_) | (with_reducible refine wpPlan_fin ?_) | (with_reducible refine wpPlan_two ?_) | (with_reducible refine wpOpPair ?_ ?_) | ((with_reducible apply wpPre_keep); rfl; intro K' hK'; go_simp; refine hK' _ _ ?_; intro f hf; clear hK' K') | ((with_reducible apply wpPre_drop); rfl; intro K' hK'; go_simp; refine hK' _ _ ?_; intro f; clear hK' K') | (with_reducible refine wpPre_nil ?_) | ((with_reducible apply wpOp_list); rfl) | (with_reducible refine heldPair ?_ ?_) | ((with_reducible refine heldH_no ?_ ?_); rfl) | (with_reducible refine heldH_yes ?_ ?_) | (with_reducible exact heldH_nil) | (unfold YAt; go_simp; done) | (at_builtin; refine wpList_app41 (xs := (l.take j).filter (fun x => !isKey a b c x)) (ys := [l[j]]) (K := fun b => (K b ∨ N ≤ b) ∧ b ≠ g2) (g := g2) (by rfl) (.tmp 21) (.tmp 26) (by rfl) (by rfl) (by rfl) (by rfl) ?_ ?_ ?_ ?_ ?_; exact (HO.out.below (by repeat (first | (with_reducible exact Below.refl _ _) | (with_reducible refine bl_dr ?_) | (with_reducible refine bl_drN ?_ _) | (with_reducible refine bl_al ?_ _) | (with_reducible refine bl_more ?_ _ _)))).sp; exact (job_src (t := 33) (v := .slice B l[j].stamp.length cb) (alloc_blk rfl) ((HV.out.below (by repeat (first | (with_reducible exact Below.refl _ _) | (with_reducible refine bl_dr ?_) | (with_reducible refine bl_drN ?_ _) | (with_reducible refine bl_al ?_ _) | (with_reducible refine bl_more ?_ _ _)))).mono (fun x hx _ => ⟨.inl hx.1, by have := HO.out.off; have := hx.2; have := HN.out; omega⟩))); exact (fun b hb _ => hb.2); (have := HB.out; simp only [List.length_singleton]; omega); intro v2 w2 g3 hs2 he2 hg3; obtain ⟨A3, c3, rfl, _, _⟩ := hs2.form; have HS2 := hid hs2; have HE2 := hid he2; have HG2 := hid hg3; clear hs2 he2 hg3))
        go_roundg (l.length - (j + 1))
        case measure => have := HJ.out; omega
        case rel => exact ⟨j + 1, g2, by have := HJ.out; omega, rfl, by rw [filter_yes hlt HK.out]; exact HO.out.below (by repeat (first | (with_reducible exact Below.refl _ _) | (with_reducible refine bl_dr ?_) | (with_reducible refine bl_drN ?_ _) | (with_reducible refine bl_al ?_ _) | (with_reducible refine bl_more ?_ _ _))), HW.out.trans ((show Below wr.heap.size wr _ from (by repeat (first | (with_reducible exact Below.refl _ _) | (with_reducible refine bl_dr ?_) | (with_reducible refine bl_drN ?_ _) | (with_reducible refine bl_al ?_ _) | (with_reducible refine bl_more ?_ _ _)))).mono HW.out.size), by have := HS.out.1; simp; omega⟩
      | false =>
        have hq : ∀ W, (binOp .neq 31 (.agg #[.int .i64 l[j].item, .bool l[j].undo, .int .i64 l[j].try_]) (.agg #[.int .i64 a, .bool b, .int .i64 c])).run Try.prog W = .ok (.bool true) W := fun W => by
          rw [key_neq]; exact congrArg (fun x => Result.ok (Value.bool (!x)) W) hk
        have HK := hid hk
        clear hk
        go_wp2_with (first | ((with_reducible refine wp_region_plan (id := 5) (.fin [(false, 0), (false, 1), (false, 2), (false, 3), (false, 4), (false, 5), (false, 6)]) ?_ ?_ ?_ ?_ ?_ ?_); kernel_rfl; kernel_rfl; kernel_rfl; kernel_rfl; (intro c a d v w h; cases d <;> exact h)) | (with_reducible refine wpPlan_eff ?_) | (with_reducible refine wpPlan_fin ?_) | (with_reducible refine wpPlan_two ?_) | (with_reducible refine wpOpPair ?_ ?_) | ((with_reducible apply wpPre_keep); rfl; intro K' hK'; go_simp; refine hK' _ _ ?_; intro f hf; clear hK' K') | ((with_reducible apply wpPre_drop); rfl; intro K' hK'; go_simp; refine hK' _ _ ?_; intro f; clear hK' K') | (with_reducible refine wpPre_nil ?_) | ((with_reducible apply wpOp_list); rfl) | (with_reducible refine heldPair ?_ ?_) | ((with_reducible refine heldH_no ?_ ?_); rfl) | (with_reducible refine heldH_yes ?_ ?_) | (with_reducible exact heldH_nil) | (unfold YAt; go_simp; done) | (at_builtin; refine wpList_app41 (xs := (l.take j).filter (fun x => !isKey a b c x)) (ys := [l[j]]) (K := fun b => (K b ∨ N ≤ b) ∧ b ≠ g2) (g := g2) (by rfl) (.tmp 21) (.tmp 26) (by rfl) (by rfl) (by rfl) (by rfl) ?_ ?_ ?_ ?_ ?_; exact (HO.out.below (by repeat (first | (with_reducible exact Below.refl _ _) | (with_reducible refine bl_dr ?_) | (with_reducible refine bl_drN ?_ _) | (with_reducible refine bl_al ?_ _) | (with_reducible refine bl_more ?_ _ _)))).sp; exact (job_src (t := 33) (v := .slice B l[j].stamp.length cb) (alloc_blk rfl) ((HV.out.below (by repeat (first | (with_reducible exact Below.refl _ _) | (with_reducible refine bl_dr ?_) | (with_reducible refine bl_drN ?_ _) | (with_reducible refine bl_al ?_ _) | (with_reducible refine bl_more ?_ _ _)))).mono (fun x hx _ => ⟨.inl hx.1, by have := HO.out.off; have := hx.2; have := HN.out; omega⟩))); exact (fun b hb _ => hb.2); (have := HB.out; simp only [List.length_singleton]; omega); intro v2 w2 g3 hs2 he2 hg3; obtain ⟨A3, c3, rfl, _, _⟩ := hs2.form; have HS2 := hid hs2; have HE2 := hid he2; have HG2 := hid hg3; clear hs2 he2 hg3))
        go_roundg (l.length - (j + 1))
        case measure => have := HJ.out; omega
        case rel =>
          obtain ⟨q1, q2, q3⟩ := HO.out.plain HW.out (by repeat (first | (with_reducible exact Below.refl _ _) | (with_reducible refine bl_dr ?_) | (with_reducible refine bl_drN ?_ _) | (with_reducible refine bl_al ?_ _) | (with_reducible refine bl_more ?_ _ _))) HS2.out HE2.out HG2.out HS.out.1 (by have := HS.out.2; omega)
          exact ⟨j + 1, g3, by have := HJ.out; omega, rfl, by rw [filter_no hlt HK.out]; simpa using q1, q2, q3⟩
    · obtain rfl : j = l.length := by omega
      have i1 : ¬ (l.length : Int) < l.length := by omega
      clear hj
      have hfl : (l.filter (fun x => !isKey a b c x)).length ≤ l.length := List.length_filter_le _ _
      have w2 : IntKind.i64.wrap ((l.length : Int) - ((l.filter (fun x => !isKey a b c x)).length : Int)) = (l.length : Int) - ((l.filter (fun x => !isKey a b c x)).length : Int) := IntWalk.i64_in _ (by omega)
      clear hfl
      go_wp2_with (first | ((with_reducible refine wp_region_plan (id := 5) (.fin [(false, 0), (false, 1), (false, 2), (false, 3), (false, 4), (false, 5), (false, 6)]) ?_ ?_ ?_ ?_ ?_ ?_); kernel_rfl; kernel_rfl; kernel_rfl; kernel_rfl; (intro c a d v w h; cases d <;> exact h)) | (with_reducible refine wpPlan_eff ?_) | (with_reducible refine wpPlan_fin ?_) | (with_reducible refine wpPlan_two ?_) | (with_reducible refine wpOpPair ?_ ?_) | ((with_reducible apply wpPre_keep); rfl; intro K' hK'; go_simp; refine hK' _ _ ?_; intro f hf; clear hK' K') | ((with_reducible apply wpPre_drop); rfl; intro K' hK'; go_simp; refine hK' _ _ ?_; intro f; clear hK' K') | (with_reducible refine wpPre_nil ?_) | ((with_reducible apply wpOp_list); rfl) | (with_reducible refine heldPair ?_ ?_) | ((with_reducible refine heldH_no ?_ ?_); rfl) | (with_reducible refine heldH_yes ?_ ?_) | (with_reducible exact heldH_nil) | (unfold YAt; go_simp; done))
      have ho := HO.out
      rw [List.take_length] at ho
      refine bodyPost_ret (v := .tuple #[.slice A2 (l.filter (fun x => !isKey a b c x)).length c2, .int .i64 ((l.length : Int) - (l.filter (fun x => !isKey a b c x)).length)]) (by simp [results, Try.results52]) rfl ⟨_, rfl, ?_, HW2.out⟩
      rw [HN.out]
      exact ho.row (fun b hb => .inr (by omega))
end Go.Proofs.Ytlfdnjomjheioaa
