/- The document's pool: Take, but its circles. -/
import Derived.Test.YtlfdnjomjheioaaPaU
import Derived.Deep.Cut
namespace Go.Proofs.Ytlfdnjomjheioaa
open Go.RowKit

def RTaken (N : Nat) (w : World) (K : Nat → Prop) (r b1 b2 b3 : Nat) (s' : List Wk) (j : Job) (v c : Int) (e : Ending) (w' : World) : Prop :=
  ∃ vv, e = .returned (.tuple #[jobV j vv, .int .i64 v, .int .i64 c]) ∧ RT N w K r b1 b2 b3 s' w' ∧ intE.Row (fun _ => True) w' vv j.stamp
def hold1 (s : List Wk) (i : Nat) (o : Option Job) : List Wk := match s[i]? with | some k => s.set i ⟨k.l, o⟩ | none => s
theorem hold1_eq {s : List Wk} {i : Nat} (hi : i < s.length) (o : Option Job) : hold1 s i o = s.set i ⟨s[i].l, o⟩ := by unfold hold1; rw [List.getElem?_eq_getElem hi]
theorem rt_both {N : Nat} {w X Wf : World} {K : Nat → Prop} {r : Nat} {s : List Wk} {b1 b2 b3 : Nat} (h : Rp N w K r s b1 b2 b3) (v : Nat) (hv : v < s.length) (i : Nat) (hi : i < s.length) (hX : Below w.heap.size w X) {rv vv : Value} {l' : List Job} {x : Job} (hr : jobE.Row (fun b => K b ∨ w.heap.size ≤ b) X rv l') (hs : intE.Row (fun b => K b ∨ w.heap.size ≤ b) X vv x.stamp)
    (he : ((X.setCell ⟨b1, v, none⟩ rv).setCells b2 (i * 6) (jobCells x vv)).setCell ⟨b3, i, none⟩ (.bool true) = Wf) : RT N w K r b1 b2 b3 (hold1 (s.set v ⟨l', s[v].h⟩) i (some x)) Wf := by
  have h1 := rt_row h v hv hX hr rfl
  have hi' : i < (s.set v ⟨l', s[v].h⟩).length := by rw [List.length_set]; exact hi
  have hn := h1.1.nK
  have hl := h.lt
  have hs2 : intE.Row (fun b => K b ∨ w.heap.size ≤ b) (X.setCell ⟨b1, v, none⟩ rv) vv x.stamp := hs.ext (Ext.setCell (S := fun b => b = b1) X _ _ rfl) (fun b hb _ e => hn.2.1 (by have e : b = b1 := e; rw [← e]; exact hb))
  have hz := h1.2.size
  have h2 := rt_has h1.1 i hi' (Below.refl _ _) (some x) (hs2.mono (fun b hb _ => .inl hb)) he
  rw [hold1_eq hi']
  exact h1.trans h2
theorem Row.swp {α : Type} {d : Enc α} {K : Nat → Prop} {w X0 X : World} {v : Value} {xs : List α} (h : d.Row K X0 v xs) (h0 : Below w.heap.size w X0) (h1 : Below w.heap.size w X) (hK : ∀ b, K b → b < w.heap.size) : d.Row K X v xs :=
  h.step (fun b hb _ => (h1.block b (hK b hb)).trans (h0.block b (hK b hb)).symm)
theorem rtk_end {N : Nat} {w w' : World} {K : Nat → Prop} {r b1 b2 b3 : Nat} {s' : List Wk} {v : Value} {xs : List Int} (h : RT N w K r b1 b2 b3 s' w') (hx : intE.Row (fun b => K b ∧ b < w.heap.size) w v xs) : RT N w K r b1 b2 b3 s' w' ∧ intE.Row (fun _ => True) w' v xs := by
  refine ⟨h, (hx.ext h.2 (fun b hb _ e => ?_)).mono (fun _ _ _ => trivial)⟩
  obtain ⟨k1, k2, k3, k4⟩ := h.1.nK
  rcases e with rfl | rfl | rfl | rfl
  · exact k1 (.inl hb.1)
  · exact k2 (.inl hb.1)
  · exact k3 (.inl hb.1)
  · exact k4 (.inl hb.1)
set_option maxRecDepth 8000 in
set_option maxHeartbeats 1000000 in
theorem rtake_none {N : Nat} {w : World} {K : Nat → Prop} {r : Nat} {s : List Wk} {b1 b2 b3 : Nat} (h : Rp N w K r s b1 b2 b3) (i : Int) (hi : i < 0 ∨ (s.length : Int) ≤ i) (pick : Int) :
    Calls Try.prog 32 #[.pointer (some ⟨r, 0, none⟩), .int .i64 i, .int .i64 pick] w (RTaken N w K r b1 b2 b3 s job0 0 2) := by
  obtain ⟨c1, c2, c3⟩ := h.cells
  have l1 := h.lt.1
  have n2 := h.n2
  have HP := hid h
  have HI := hid hi
  clear h hi n2
  go_enter Try.func32, Try.ntmps32
  go_wp2_with (first | ((with_reducible refine wp_region_plan (id := 8) (.eff [(false, 0), (false, 1), (false, 2), (false, 3), (false, 4), (false, 5), (false, 6), (false, 7), (false, 8), (true, 9), (false, 10), (false, 11), (false, 12), (false, 13), (true, 14), (false, 15), (true, 16), (false, 17)] 18 [9, 14, 16] (.eff [(false, 19)] 20 [14] (.eff [(false, 21)] 22 [] (.fin [])))) ?_ ?_ ?_ ?_ ?_ ?_); kernel_rfl; kernel_rfl; kernel_rfl; kernel_rfl; (intro c a d v w h; cases d <;> exact h)) | ((with_reducible refine wp_region_plan (id := 17) (.eff [(false, 0), (false, 1), (false, 2), (false, 3), (false, 4), (false, 5), (false, 6), (false, 7), (false, 8), (true, 9), (false, 10), (false, 11), (false, 12), (false, 13), (true, 14), (false, 15), (true, 16), (false, 17)] 18 [9, 14, 16] (.eff [(false, 19)] 20 [14] (.eff [(false, 21)] 22 [] (.fin [])))) ?_ ?_ ?_ ?_ ?_ ?_); kernel_rfl; kernel_rfl; kernel_rfl; kernel_rfl; (intro c a d v w h; cases d <;> exact h)) | ((with_reducible refine wp_region_plan (id := 24) (.eff [(false, 0), (false, 1), (false, 2), (false, 3), (false, 4), (false, 5), (false, 6), (false, 7), (false, 8), (true, 9), (false, 10), (false, 11), (false, 12), (false, 13), (false, 14), (false, 15), (false, 16), (false, 17)] 18 [9] (.eff [(false, 19)] 20 [] (.fin []))) ?_ ?_ ?_ ?_ ?_ ?_); kernel_rfl; kernel_rfl; kernel_rfl; kernel_rfl; (intro c a d v w h; cases d <;> exact h)) | ((with_reducible refine wp_region_plan (id := 25) (.eff [(false, 0), (false, 1), (false, 2), (false, 3), (false, 4), (false, 5), (false, 6), (false, 7), (false, 8), (true, 9), (false, 10), (false, 11)] 12 [9] (.eff [(false, 13)] 14 [] (.fin []))) ?_ ?_ ?_ ?_ ?_ ?_); kernel_rfl; kernel_rfl; kernel_rfl; kernel_rfl; (intro c a d v w h; cases d <;> exact h)) | (with_reducible refine wpPlan_eff ?_) | (with_reducible refine wpPlan_fin ?_) | (with_reducible refine wpPlan_two ?_) | (with_reducible refine wpOpPair ?_ ?_) | ((with_reducible apply wpPre_keep); rfl; intro K' hK'; go_simp; refine hK' _ _ ?_; intro f hf; clear hK' K') | ((with_reducible apply wpPre_drop); rfl; intro K' hK'; go_simp; refine hK' _ _ ?_; intro f; clear hK' K') | (with_reducible refine wpPre_nil ?_) | ((with_reducible apply wpOp_list); rfl) | (with_reducible refine heldPair ?_ ?_) | ((with_reducible refine heldH_no ?_ ?_); rfl) | (with_reducible refine heldH_yes ?_ ?_) | (with_reducible exact heldH_nil) | (unfold YAt; go_simp; done) | (go_at_call 49; refine (ris_no (HP.out.below (by repeat (first | (with_reducible exact Below.refl _ _) | (with_reducible exact bl_mm) | (with_reducible refine bl_dr ?_) | (with_reducible refine bl_drN ?_ _) | (with_reducible refine bl_al ?_ _) | (with_reducible refine bl_more ?_ _ _)))) i HI.out).mono ?_; rintro e w1 ⟨rfl, hb1⟩; obtain ⟨ex, dx, rfl⟩ := more_of hb1; clear hb1))
  refine bodyPost_ret (v := .tuple #[jobV job0 (.slice none 0 0), .int .i64 0, .int .i64 2]) (by simp [results, Try.results32, job0, go_sem]) rfl ⟨_, rfl, rt_same HP.out (by repeat (first | (with_reducible exact Below.refl _ _) | (with_reducible exact bl_mm) | (with_reducible refine bl_dr ?_) | (with_reducible refine bl_drN ?_ _) | (with_reducible refine bl_al ?_ _) | (with_reducible refine bl_more ?_ _ _))), Enc.Row.nil _ _ _⟩
set_option maxRecDepth 8000 in
set_option maxHeartbeats 1000000 in
theorem rtake_held {N : Nat} {w : World} {K : Nat → Prop} {r : Nat} {s : List Wk} {b1 b2 b3 : Nat} {j : Job} (h : Rp N w K r s b1 b2 b3) (i : Nat) (hi : i < s.length) (pick : Int) (hjj : s[i].h = some j) :
    Calls Try.prog 32 #[.pointer (some ⟨r, 0, none⟩), .int .i64 i, .int .i64 pick] w (RTaken N w K r b1 b2 b3 s j i 0) := by
  have hj : s[i].h.isSome = true := by rw [hjj]; rfl
  have ho : hOf s[i] = j := by unfold hOf; rw [hjj]; rfl
  obtain ⟨c1, c2, c3⟩ := h.cells
  have a1 := h.has_ i hi
  rw [hj] at a1
  obtain ⟨A, c, hr, hc⟩ := h.hold_ i hi
  have e0 := hc 0 _ rfl
  have e1 := hc 1 _ rfl
  have e2 := hc 2 _ rfl
  have e3 := hc 3 _ rfl
  have e4 := hc 4 _ rfl
  have e5 := hc 5 _ rfl
  simp only [Nat.add_zero] at e0
  have f0 := h.hold.frz (i * 6)
  have f1 := h.hold.frz (i * 6 + 1)
  have f2 := h.hold.frz (i * 6 + 2)
  have f3 := h.hold.frz (i * 6 + 3)
  have f4 := h.hold.frz (i * 6 + 4)
  have f5 := h.hold.frz (i * 6 + 5)
  have f6 := h.has.frz i
  obtain ⟨l1, l2, l3, l4⟩ := h.lt
  obtain ⟨n1, n2', n3, n4, n5, n6⟩ := h.ne
  have n2 := h.n2
  have i2 : (i : Int) < (s.length : Int) := by omega
  have i3 : (0 : Int) ≤ (i : Int) := by omega
  have HP := hid h
  have HI := hid (And.intro hi trivial)
  rw [ho] at hr e0 e1 e2 e3 e4 e5
  have HR := hid hr
  clear h hr n2 hc hj hjj ho
  go_enter Try.func32, Try.ntmps32
  go_wp2_with (first | ((with_reducible refine wp_region_plan (id := 8) (.eff [(false, 0), (false, 1), (false, 2), (false, 3), (false, 4), (false, 5), (false, 6), (false, 7), (false, 8), (true, 9), (false, 10), (false, 11), (false, 12), (false, 13), (true, 14), (false, 15), (true, 16), (false, 17)] 18 [9, 14, 16] (.eff [(false, 19)] 20 [14] (.eff [(false, 21)] 22 [] (.fin [])))) ?_ ?_ ?_ ?_ ?_ ?_); kernel_rfl; kernel_rfl; kernel_rfl; kernel_rfl; (intro c a d v w h; cases d <;> exact h)) | ((with_reducible refine wp_region_plan (id := 17) (.eff [(false, 0), (false, 1), (false, 2), (false, 3), (false, 4), (false, 5), (false, 6), (false, 7), (false, 8), (true, 9), (false, 10), (false, 11), (false, 12), (false, 13), (true, 14), (false, 15), (true, 16), (false, 17)] 18 [9, 14, 16] (.eff [(false, 19)] 20 [14] (.eff [(false, 21)] 22 [] (.fin [])))) ?_ ?_ ?_ ?_ ?_ ?_); kernel_rfl; kernel_rfl; kernel_rfl; kernel_rfl; (intro c a d v w h; cases d <;> exact h)) | ((with_reducible refine wp_region_plan (id := 24) (.eff [(false, 0), (false, 1), (false, 2), (false, 3), (false, 4), (false, 5), (false, 6), (false, 7), (false, 8), (true, 9), (false, 10), (false, 11), (false, 12), (false, 13), (false, 14), (false, 15), (false, 16), (false, 17)] 18 [9] (.eff [(false, 19)] 20 [] (.fin []))) ?_ ?_ ?_ ?_ ?_ ?_); kernel_rfl; kernel_rfl; kernel_rfl; kernel_rfl; (intro c a d v w h; cases d <;> exact h)) | ((with_reducible refine wp_region_plan (id := 25) (.eff [(false, 0), (false, 1), (false, 2), (false, 3), (false, 4), (false, 5), (false, 6), (false, 7), (false, 8), (true, 9), (false, 10), (false, 11)] 12 [9] (.eff [(false, 13)] 14 [] (.fin []))) ?_ ?_ ?_ ?_ ?_ ?_); kernel_rfl; kernel_rfl; kernel_rfl; kernel_rfl; (intro c a d v w h; cases d <;> exact h)) | (with_reducible refine wpPlan_eff ?_) | (with_reducible refine wpPlan_fin ?_) | (with_reducible refine wpPlan_two ?_) | (with_reducible refine wpOpPair ?_ ?_) | ((with_reducible apply wpPre_keep); rfl; intro K' hK'; go_simp; refine hK' _ _ ?_; intro f hf; clear hK' K') | ((with_reducible apply wpPre_drop); rfl; intro K' hK'; go_simp; refine hK' _ _ ?_; intro f; clear hK' K') | (with_reducible refine wpPre_nil ?_) | ((with_reducible apply wpOp_list); rfl) | (with_reducible refine heldPair ?_ ?_) | ((with_reducible refine heldH_no ?_ ?_); rfl) | (with_reducible refine heldH_yes ?_ ?_) | (with_reducible exact heldH_nil) | (unfold YAt; go_simp; done) | (go_at_call 49; refine (ris_yes (HP.out.below (by repeat (first | (with_reducible exact Below.refl _ _) | (with_reducible exact bl_mm) | (with_reducible refine bl_dr ?_) | (with_reducible refine bl_drN ?_ _) | (with_reducible refine bl_al ?_ _) | (with_reducible refine bl_more ?_ _ _)))) i HI.out.1).mono ?_; rintro e w1 ⟨rfl, hb1⟩; obtain ⟨ex, dx, rfl⟩ := more_of hb1; clear hb1))
  refine bodyPost_ret (v := .tuple #[jobV j (.slice A j.stamp.length c), .int .i64 i, .int .i64 0]) (by simp [results, Try.results32, go_sem]) rfl ⟨_, rfl, rt_same HP.out (by repeat (first | (with_reducible exact Below.refl _ _) | (with_reducible exact bl_mm) | (with_reducible refine bl_dr ?_) | (with_reducible refine bl_drN ?_ _) | (with_reducible refine bl_al ?_ _) | (with_reducible refine bl_more ?_ _ _))), (HR.out.below (by repeat (first | (with_reducible exact Below.refl _ _) | (with_reducible exact bl_mm) | (with_reducible refine bl_dr ?_) | (with_reducible refine bl_drN ?_ _) | (with_reducible refine bl_al ?_ _) | (with_reducible refine bl_more ?_ _ _)))).mono (fun _ _ _ => trivial)⟩
set_option maxRecDepth 8000 in
set_option maxHeartbeats 2000000 in
theorem rtake_pop {N : Nat} {w : World} {K : Nat → Prop} {r : Nat} {s : List Wk} {b1 b2 b3 : Nat} {x : Job} {l' : List Job} (h : Rp N w K r s b1 b2 b3) (i : Nat) (hi : i < s.length) (pick : Int) (hj : s[i].h.isSome = false) (hx : s[i].l = l' ++ [x]) :
    Calls Try.prog 32 #[.pointer (some ⟨r, 0, none⟩), .int .i64 i, .int .i64 pick] w (RTaken N w K r b1 b2 b3 (hold1 (s.set i ⟨l', s[i].h⟩) i (some x)) x i 0) := by
  obtain ⟨c1, c2, c3⟩ := h.cells
  have a1 := h.has_ i hi
  rw [hj] at a1
  obtain ⟨A, c, hr, hc⟩ := h.hold_ i hi
  have e0 := hc 0 _ rfl
  have e1 := hc 1 _ rfl
  have e2 := hc 2 _ rfl
  have e3 := hc 3 _ rfl
  have e4 := hc 4 _ rfl
  have e5 := hc 5 _ rfl
  simp only [Nat.add_zero] at e0
  have f0 := h.hold.frz (i * 6)
  have f1 := h.hold.frz (i * 6 + 1)
  have f2 := h.hold.frz (i * 6 + 2)
  have f3 := h.hold.frz (i * 6 + 3)
  have f4 := h.hold.frz (i * 6 + 4)
  have f5 := h.hold.frz (i * 6 + 5)
  have f6 := h.has.frz i
  obtain ⟨l1, l2, l3, l4⟩ := h.lt
  obtain ⟨n1, n2', n3, n4, n5, n6⟩ := h.ne
  have n2 := h.n2
  have i2 : (i : Int) < (s.length : Int) := by omega
  have i3 : (0 : Int) ≤ (i : Int) := by omega
  have HP := hid h
  have HI := hid (And.intro hi trivial)
  obtain ⟨Ar, cr, hrw, er⟩ := h.row i hi
  rw [hx] at hrw er
  rw [show (l' ++ [x]).length = l'.length + 1 from by simp] at hrw er
  have fr := h.rows.frz i
  have HRW := hid hrw.bound
  clear h hr n2 hc hj hx hrw
  go_enter Try.func32, Try.ntmps32
  go_wp2_with (first | ((with_reducible refine wp_region_plan (id := 8) (.eff [(false, 0), (false, 1), (false, 2), (false, 3), (false, 4), (false, 5), (false, 6), (false, 7), (false, 8), (true, 9), (false, 10), (false, 11), (false, 12), (false, 13), (true, 14), (false, 15), (true, 16), (false, 17)] 18 [9, 14, 16] (.eff [(false, 19)] 20 [14] (.eff [(false, 21)] 22 [] (.fin [])))) ?_ ?_ ?_ ?_ ?_ ?_); kernel_rfl; kernel_rfl; kernel_rfl; kernel_rfl; (intro c a d v w h; cases d <;> exact h)) | ((with_reducible refine wp_region_plan (id := 17) (.eff [(false, 0), (false, 1), (false, 2), (false, 3), (false, 4), (false, 5), (false, 6), (false, 7), (false, 8), (true, 9), (false, 10), (false, 11), (false, 12), (false, 13), (true, 14), (false, 15), (true, 16), (false, 17)] 18 [9, 14, 16] (.eff [(false, 19)] 20 [14] (.eff [(false, 21)] 22 [] (.fin [])))) ?_ ?_ ?_ ?_ ?_ ?_); kernel_rfl; kernel_rfl; kernel_rfl; kernel_rfl; (intro c a d v w h; cases d <;> exact h)) | ((with_reducible refine wp_region_plan (id := 24) (.eff [(false, 0), (false, 1), (false, 2), (false, 3), (false, 4), (false, 5), (false, 6), (false, 7), (false, 8), (true, 9), (false, 10), (false, 11), (false, 12), (false, 13), (false, 14), (false, 15), (false, 16), (false, 17)] 18 [9] (.eff [(false, 19)] 20 [] (.fin []))) ?_ ?_ ?_ ?_ ?_ ?_); kernel_rfl; kernel_rfl; kernel_rfl; kernel_rfl; (intro c a d v w h; cases d <;> exact h)) | ((with_reducible refine wp_region_plan (id := 25) (.eff [(false, 0), (false, 1), (false, 2), (false, 3), (false, 4), (false, 5), (false, 6), (false, 7), (false, 8), (true, 9), (false, 10), (false, 11)] 12 [9] (.eff [(false, 13)] 14 [] (.fin []))) ?_ ?_ ?_ ?_ ?_ ?_); kernel_rfl; kernel_rfl; kernel_rfl; kernel_rfl; (intro c a d v w h; cases d <;> exact h)) | (with_reducible refine wpPlan_eff ?_) | (with_reducible refine wpPlan_fin ?_) | (with_reducible refine wpPlan_two ?_) | (with_reducible refine wpOpPair ?_ ?_) | ((with_reducible apply wpPre_keep); rfl; intro K' hK'; go_simp; refine hK' _ _ ?_; intro f hf; clear hK' K') | ((with_reducible apply wpPre_drop); rfl; intro K' hK'; go_simp; refine hK' _ _ ?_; intro f; clear hK' K') | (with_reducible refine wpPre_nil ?_) | ((with_reducible apply wpOp_list); rfl) | (with_reducible refine heldPair ?_ ?_) | ((with_reducible refine heldH_no ?_ ?_); rfl) | (with_reducible refine heldH_yes ?_ ?_) | (with_reducible exact heldH_nil) | (unfold YAt; go_simp; done) | (go_at_call 49; refine (ris_yes (HP.out.below (by repeat (first | (with_reducible exact Below.refl _ _) | (with_reducible exact bl_mm) | (with_reducible refine bl_dr ?_) | (with_reducible refine bl_drN ?_ _) | (with_reducible refine bl_al ?_ _) | (with_reducible refine bl_more ?_ _ _)))) i HI.out.1).mono ?_; rintro e w1 ⟨rfl, hb1⟩; obtain ⟨ex, dx, rfl⟩ := more_of hb1; clear hb1) | (go_at_call 50; refine (ref_pop (HRW.out.below (by repeat (first | (with_reducible exact Below.refl _ _) | (with_reducible exact bl_mm) | (with_reducible refine bl_dr ?_) | (with_reducible refine bl_drN ?_ _) | (with_reducible refine bl_al ?_ _) | (with_reducible refine bl_more ?_ _ _))))).mono ?_; rintro e w2 ⟨rv1, v2, rfl, hr2, hx2, hb2⟩; obtain ⟨A2, cc2, rfl, _, _⟩ := hr2.form; obtain ⟨B2, d2, rfl, _, _⟩ := hx2.form; obtain ⟨ex2, dx2, rfl⟩ := more_of hb2; have HR2 := hid hr2; have HX2 := hid hx2; clear hr2 hx2 hb2))
  refine bodyPost_ret (v := .tuple #[jobV x (.slice B2 x.stamp.length d2), .int .i64 i, .int .i64 0]) (by simp [results, Try.results32, go_sem]) rfl ?_
  have hr := Row.swp (w := w) HR2.out (by repeat (first | (with_reducible exact Below.refl _ _) | (with_reducible exact bl_mm) | (with_reducible refine bl_dr ?_) | (with_reducible refine bl_drN ?_ _) | (with_reducible refine bl_al ?_ _) | (with_reducible refine bl_more ?_ _ _))) (Below.refl _ _) (fun b hb => hb.2)
  have hx := Row.swp (w := w) HX2.out (by repeat (first | (with_reducible exact Below.refl _ _) | (with_reducible exact bl_mm) | (with_reducible refine bl_dr ?_) | (with_reducible refine bl_drN ?_ _) | (with_reducible refine bl_al ?_ _) | (with_reducible refine bl_more ?_ _ _))) (Below.refl _ _) (fun b hb => hb.2)
  exact ⟨_, rfl, rtk_end (rt_both (X := ((more (more (w.alloc (.cells #[.int .i64 x.item, .bool x.undo, .int .i64 x.try_, .bool x.begun, .int .i64 x.token, .slice B2 x.stamp.length d2] 33)) ex dx) ex2 dx2).alloc (.cells #[.int .i64 x.item, .bool x.undo, .int .i64 x.try_, .bool x.begun, .int .i64 x.token, .slice B2 x.stamp.length d2] 33)).drew) HP.out i HI.out.1 i HI.out.1 (by repeat (first | (with_reducible exact Below.refl _ _) | (with_reducible exact bl_mm) | (with_reducible refine bl_dr ?_) | (with_reducible refine bl_drN ?_ _) | (with_reducible refine bl_al ?_ _) | (with_reducible refine bl_more ?_ _ _))) ((hr.below (by repeat (first | (with_reducible exact Below.refl _ _) | (with_reducible exact bl_mm) | (with_reducible refine bl_dr ?_) | (with_reducible refine bl_drN ?_ _) | (with_reducible refine bl_al ?_ _) | (with_reducible refine bl_more ?_ _ _)))).mono (fun b hb _ => .inl hb.1)) ((hx.below (by repeat (first | (with_reducible exact Below.refl _ _) | (with_reducible exact bl_mm) | (with_reducible refine bl_dr ?_) | (with_reducible refine bl_drN ?_ _) | (with_reducible refine bl_al ?_ _) | (with_reducible refine bl_more ?_ _ _)))).mono (fun b hb _ => .inl hb.1)) (by rw [job6]; go_simp)) hx⟩
end Go.Proofs.Ytlfdnjomjheioaa
