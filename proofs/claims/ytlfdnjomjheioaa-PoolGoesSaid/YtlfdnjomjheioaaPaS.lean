/- The document's pool: Put, Done, Held, Len. -/
import Derived.Test.YtlfdnjomjheioaaPaR
namespace Go.Proofs.Ytlfdnjomjheioaa
open Go.RowKit

theorem Rp.setHold {N : Nat} {w : World} {K : Nat → Prop} {r : Nat} {s : List Wk} {b1 b2 b3 : Nat} (h : Rp N w K r s b1 b2 b3) (i : Nat) (hi : i < s.length) (hs : s[i].h.isSome = true) {j : Job} {v : Value} (hv : intE.Row K w v j.stamp) : Rp N (w.setCells b2 (i * 6) (jobCells j v)) K r (s.set i ⟨s[i].l, some j⟩) b1 b2 b3 := by
  obtain ⟨n1, n2, n3, n4, n5, n6⟩ := h.ne
  have hh := h.hold.set h.nK.2.2.1 i (by simpa using hi) (x := j) (cs := jobCells j v) (jobE_mk hv)
  have e : i * jobE.sz = i * 6 := rfl
  rw [e] at hh
  have he : Ext (fun b => b = b2) w (w.setCells b2 (i * 6) (jobCells j v)) := ext_setCells b2 _ _ w
  have hk : ∀ b, K b → b < w.heap.size → ¬ b = b2 := fun b hb _ e => h.nK.2.2.1 (e ▸ hb)
  refine ⟨by rw [List.length_set]; exact (he.block r h.lt.1 n5).trans h.blk, ?_, by rw [List.map_set]; exact hh, ?_, by rw [List.length_set]; exact h.n1, by rw [List.length_set]; exact h.n2, h.ne, h.nK, h.ge⟩
  · have e3 : (s.set i ⟨s[i].l, some j⟩).map Wk.l = s.map Wk.l := by
      rw [List.map_set]; exact set_self_map s i hi Wk.l rfl
    rw [e3]; exact h.rows.ext he n1 hk
  · have e3 : (s.set i ⟨s[i].l, some j⟩).map (fun k => k.h.isSome) = s.map (fun k => k.h.isSome) := by
      rw [List.map_set]; exact set_self_map s i hi (fun k : Wk => k.h.isSome) hs.symm
    rw [e3]; exact h.has.ext he (fun e => n3 e.symm) hk
theorem rt_hold {N : Nat} {w X Wf : World} {K : Nat → Prop} {r : Nat} {s : List Wk} {b1 b2 b3 : Nat} (h : Rp N w K r s b1 b2 b3) (i : Nat) (hi : i < s.length) (hs : s[i].h.isSome = true) (hX : Below w.heap.size w X) {j : Job} {v : Value} (hv : intE.Row (fun b => K b ∨ w.heap.size ≤ b) X v j.stamp) (he : X.setCells b2 (i * 6) (jobCells j v) = Wf) : RT N w K r b1 b2 b3 (s.set i ⟨s[i].l, some j⟩) Wf := by
  subst he
  exact ⟨((h.below hX).grow h.lt).setHold i hi hs hv, (Ext.of_below hX).trans (ext_setCells b2 _ _ X) (fun x _ e => .inr (.inr (.inl e)))⟩
theorem job6 (w : World) (b o : Nat) (j : Job) (v : Value) : w.setCells b o (jobCells j v) = (((((w.setCell ⟨b, o, none⟩ (.int .i64 j.item)).setCell ⟨b, o + 1, none⟩ (.bool j.undo)).setCell ⟨b, o + 2, none⟩ (.int .i64 j.try_)).setCell ⟨b, o + 3, none⟩ (.bool j.begun)).setCell ⟨b, o + 4, none⟩ (.int .i64 j.token)).setCell ⟨b, o + 5, none⟩ v := rfl
set_option maxHeartbeats 1000000 in
theorem rput_yes {N : Nat} {w : World} {K : Nat → Prop} {r : Nat} {s : List Wk} {b1 b2 b3 : Nat} {j : Job} {v : Value} (h : Rp N w K r s b1 b2 b3) (i : Nat) (hi : i < s.length) (hv : intE.Row K w v j.stamp) (hj : s[i].h.isSome = true) :
    Calls Try.prog 33 #[.pointer (some ⟨r, 0, none⟩), .int .i64 i, jobV j v] w (RTurned N w K r b1 b2 b3 (s.set i ⟨s[i].l, some j⟩) 0) := by
  obtain ⟨B, cb, rfl, _, _⟩ := hv.form
  obtain ⟨c1, c2, c3⟩ := h.cells
  have a1 := h.has_ i hi
  rw [hj] at a1
  obtain ⟨A, c, hr, hc⟩ := h.hold_ i hi
  have e0 := hc 0 _ rfl
  have e1 := hc 1 _ rfl
  have e2 := hc 2 _ rfl
  have e3 := hc 3 _ rfl
  have e4 := hc 4 _ rfl
  have e5 := hc 5 _ rfl
  simp only [Nat.add_zero] at e0
  have f0 := h.hold.frz (i * 6)
  have f1 := h.hold.frz (i * 6 + 1)
  have f2 := h.hold.frz (i * 6 + 2)
  have f3 := h.hold.frz (i * 6 + 3)
  have f4 := h.hold.frz (i * 6 + 4)
  have f5 := h.hold.frz (i * 6 + 5)
  have f6 := h.has.frz i
  obtain ⟨l1, l2, l3, l4⟩ := h.lt
  obtain ⟨_, _, n3, _, _, _⟩ := h.ne
  have n2 := h.n2
  have i2 : (i : Int) < (s.length : Int) := by omega
  have i3 : (0 : Int) ≤ (i : Int) := by omega
  have HP := hid h
  have HI := hid (And.intro hi trivial)
  have HV := hid hv
  have HJ := hid hj
  clear h hv hr n2 hc hj
  go_enter Try.func33, Try.ntmps33
  go_wp2_with (first | ((with_reducible refine wp_region_plan (id := 5) (.eff [(false, 0), (false, 1), (false, 2), (false, 3), (false, 4), (false, 5), (false, 6)] 7 [] (.fin [])) ?_ ?_ ?_ ?_ ?_ ?_); kernel_rfl; kernel_rfl; kernel_rfl; kernel_rfl; (intro c a d v w h; cases d <;> exact h)) | (with_reducible refine wpPlan_eff ?_) | (with_reducible refine wpPlan_fin ?_) | (with_reducible refine wpPlan_two ?_) | (with_reducible refine wpOpPair ?_ ?_) | ((with_reducible apply wpPre_keep); rfl; intro K' hK'; go_simp; refine hK' _ _ ?_; intro f hf; clear hK' K') | ((with_reducible apply wpPre_drop); rfl; intro K' hK'; go_simp; refine hK' _ _ ?_; intro f; clear hK' K') | (with_reducible refine wpPre_nil ?_) | ((with_reducible apply wpOp_list); rfl) | (with_reducible refine heldPair ?_ ?_) | ((with_reducible refine heldH_no ?_ ?_); rfl) | (with_reducible refine heldH_yes ?_ ?_) | (with_reducible exact heldH_nil) | (unfold YAt; go_simp; done) | (go_at_call 49; refine (ris_yes (HP.out.below (by repeat (first | (with_reducible exact Below.refl _ _) | (with_reducible exact bl_mm) | (with_reducible refine bl_dr ?_) | (with_reducible refine bl_drN ?_ _) | (with_reducible refine bl_al ?_ _) | (with_reducible refine bl_more ?_ _ _)))) i HI.out.1).mono ?_; rintro e w1 ⟨rfl, hb1⟩; obtain ⟨ex, dx, rfl⟩ := more_of hb1; clear hb1))
  go_ret
  exact ⟨rfl, rt_hold (X := more (w.alloc (.cells #[.int .i64 j.item, .bool j.undo, .int .i64 j.try_, .bool j.begun, .int .i64 j.token, .slice B j.stamp.length cb] 33)) ex (dx + 1)) HP.out i HI.out.1 HJ.out (by repeat (first | (with_reducible exact Below.refl _ _) | (with_reducible exact bl_mm) | (with_reducible refine bl_dr ?_) | (with_reducible refine bl_drN ?_ _) | (with_reducible refine bl_al ?_ _) | (with_reducible refine bl_more ?_ _ _))) ((HV.out.below (by repeat (first | (with_reducible exact Below.refl _ _) | (with_reducible exact bl_mm) | (with_reducible refine bl_dr ?_) | (with_reducible refine bl_drN ?_ _) | (with_reducible refine bl_al ?_ _) | (with_reducible refine bl_more ?_ _ _)))).mono (fun b hb _ => .inl hb)) (by rw [job6]; go_simp)⟩
set_option maxHeartbeats 1000000 in
theorem rput_no {N : Nat} {w : World} {K : Nat → Prop} {r : Nat} {s : List Wk} {b1 b2 b3 : Nat} {j : Job} {v : Value} (h : Rp N w K r s b1 b2 b3) (i : Nat) (hi : i < s.length) (hv : intE.Row K w v j.stamp) (hj : s[i].h.isSome = false) :
    Calls Try.prog 33 #[.pointer (some ⟨r, 0, none⟩), .int .i64 i, jobV j v] w (RTurned N w K r b1 b2 b3 s 6) := by
  obtain ⟨B, cb, rfl, _, _⟩ := hv.form
  obtain ⟨c1, c2, c3⟩ := h.cells
  have a1 := h.has_ i hi
  rw [hj] at a1
  obtain ⟨A, c, hr, hc⟩ := h.hold_ i hi
  have e0 := hc 0 _ rfl
  have e1 := hc 1 _ rfl
  have e2 := hc 2 _ rfl
  have e3 := hc 3 _ rfl
  have e4 := hc 4 _ rfl
  have e5 := hc 5 _ rfl
  simp only [Nat.add_zero] at e0
  have f0 := h.hold.frz (i * 6)
  have f1 := h.hold.frz (i * 6 + 1)
  have f2 := h.hold.frz (i * 6 + 2)
  have f3 := h.hold.frz (i * 6 + 3)
  have f4 := h.hold.frz (i * 6 + 4)
  have f5 := h.hold.frz (i * 6 + 5)
  have f6 := h.has.frz i
  obtain ⟨l1, l2, l3, l4⟩ := h.lt
  obtain ⟨_, _, n3, _, _, _⟩ := h.ne
  have n2 := h.n2
  have i2 : (i : Int) < (s.length : Int) := by omega
  have i3 : (0 : Int) ≤ (i : Int) := by omega
  have HP := hid h
  have HI := hid (And.intro hi trivial)
  clear h hv hr n2 hc hj
  go_enter Try.func33, Try.ntmps33
  go_wp2_with (first | ((with_reducible refine wp_region_plan (id := 5) (.eff [(false, 0), (false, 1), (false, 2), (false, 3), (false, 4), (false, 5), (false, 6)] 7 [] (.fin [])) ?_ ?_ ?_ ?_ ?_ ?_); kernel_rfl; kernel_rfl; kernel_rfl; kernel_rfl; (intro c a d v w h; cases d <;> exact h)) | (with_reducible refine wpPlan_eff ?_) | (with_reducible refine wpPlan_fin ?_) | (with_reducible refine wpPlan_two ?_) | (with_reducible refine wpOpPair ?_ ?_) | ((with_reducible apply wpPre_keep); rfl; intro K' hK'; go_simp; refine hK' _ _ ?_; intro f hf; clear hK' K') | ((with_reducible apply wpPre_drop); rfl; intro K' hK'; go_simp; refine hK' _ _ ?_; intro f; clear hK' K') | (with_reducible refine wpPre_nil ?_) | ((with_reducible apply wpOp_list); rfl) | (with_reducible refine heldPair ?_ ?_) | ((with_reducible refine heldH_no ?_ ?_); rfl) | (with_reducible refine heldH_yes ?_ ?_) | (with_reducible exact heldH_nil) | (unfold YAt; go_simp; done) | (go_at_call 49; refine (ris_yes (HP.out.below (by repeat (first | (with_reducible exact Below.refl _ _) | (with_reducible exact bl_mm) | (with_reducible refine bl_dr ?_) | (with_reducible refine bl_drN ?_ _) | (with_reducible refine bl_al ?_ _) | (with_reducible refine bl_more ?_ _ _)))) i HI.out.1).mono ?_; rintro e w1 ⟨rfl, hb1⟩; obtain ⟨ex, dx, rfl⟩ := more_of hb1; clear hb1))
  go_ret
  exact ⟨rfl, rt_same HP.out (by repeat (first | (with_reducible exact Below.refl _ _) | (with_reducible exact bl_mm) | (with_reducible refine bl_dr ?_) | (with_reducible refine bl_drN ?_ _) | (with_reducible refine bl_al ?_ _) | (with_reducible refine bl_more ?_ _ _)))⟩
set_option maxHeartbeats 1000000 in
theorem rput_none {N : Nat} {w : World} {K : Nat → Prop} {r : Nat} {s : List Wk} {b1 b2 b3 : Nat} {j : Job} {v : Value} (h : Rp N w K r s b1 b2 b3) (i : Int) (hi : i < 0 ∨ (s.length : Int) ≤ i) (hv : intE.Row K w v j.stamp) :
    Calls Try.prog 33 #[.pointer (some ⟨r, 0, none⟩), .int .i64 i, jobV j v] w (RTurned N w K r b1 b2 b3 s 2) := by
  obtain ⟨B, cb, rfl, _, _⟩ := hv.form
  have HP := hid h
  have HI := hid hi
  clear h hi hv
  go_enter Try.func33, Try.ntmps33
  go_wp2_with (first | ((with_reducible refine wp_region_plan (id := 5) (.eff [(false, 0), (false, 1), (false, 2), (false, 3), (false, 4), (false, 5), (false, 6)] 7 [] (.fin [])) ?_ ?_ ?_ ?_ ?_ ?_); kernel_rfl; kernel_rfl; kernel_rfl; kernel_rfl; (intro c a d v w h; cases d <;> exact h)) | (with_reducible refine wpPlan_eff ?_) | (with_reducible refine wpPlan_fin ?_) | (with_reducible refine wpPlan_two ?_) | (with_reducible refine wpOpPair ?_ ?_) | ((with_reducible apply wpPre_keep); rfl; intro K' hK'; go_simp; refine hK' _ _ ?_; intro f hf; clear hK' K') | ((with_reducible apply wpPre_drop); rfl; intro K' hK'; go_simp; refine hK' _ _ ?_; intro f; clear hK' K') | (with_reducible refine wpPre_nil ?_) | ((with_reducible apply wpOp_list); rfl) | (with_reducible refine heldPair ?_ ?_) | ((with_reducible refine heldH_no ?_ ?_); rfl) | (with_reducible refine heldH_yes ?_ ?_) | (with_reducible exact heldH_nil) | (unfold YAt; go_simp; done) | (go_at_call 49; refine (ris_no (HP.out.below (by repeat (first | (with_reducible exact Below.refl _ _) | (with_reducible exact bl_mm) | (with_reducible refine bl_dr ?_) | (with_reducible refine bl_drN ?_ _) | (with_reducible refine bl_al ?_ _) | (with_reducible refine bl_more ?_ _ _)))) i HI.out).mono ?_; rintro e w1 ⟨rfl, hb1⟩; obtain ⟨ex, dx, rfl⟩ := more_of hb1; clear hb1))
  go_ret
  exact ⟨rfl, rt_same HP.out (by repeat (first | (with_reducible exact Below.refl _ _) | (with_reducible exact bl_mm) | (with_reducible refine bl_dr ?_) | (with_reducible refine bl_drN ?_ _) | (with_reducible refine bl_al ?_ _) | (with_reducible refine bl_more ?_ _ _)))⟩
set_option maxHeartbeats 1000000 in
theorem rdone_yes {N : Nat} {w : World} {K : Nat → Prop} {r : Nat} {s : List Wk} {b1 b2 b3 : Nat} (h : Rp N w K r s b1 b2 b3) (i : Nat) (hi : i < s.length) (hj : s[i].h.isSome = true) :
    Calls Try.prog 34 #[.pointer (some ⟨r, 0, none⟩), .int .i64 i] w (RTurned N w K r b1 b2 b3 (s.set i ⟨s[i].l, none⟩) 0) := by
  obtain ⟨c1, c2, c3⟩ := h.cells
  have a1 := h.has_ i hi
  rw [hj] at a1
  obtain ⟨A, c, hr, hc⟩ := h.hold_ i hi
  have e0 := hc 0 _ rfl
  have e1 := hc 1 _ rfl
  have e2 := hc 2 _ rfl
  have e3 := hc 3 _ rfl
  have e4 := hc 4 _ rfl
  have e5 := hc 5 _ rfl
  simp only [Nat.add_zero] at e0
  have f0 := h.hold.frz (i * 6)
  have f1 := h.hold.frz (i * 6 + 1)
  have f2 := h.hold.frz (i * 6 + 2)
  have f3 := h.hold.frz (i * 6 + 3)
  have f4 := h.hold.frz (i * 6 + 4)
  have f5 := h.hold.frz (i * 6 + 5)
  have f6 := h.has.frz i
  obtain ⟨l1, l2, l3, l4⟩ := h.lt
  obtain ⟨_, _, n3, _, _, _⟩ := h.ne
  have n2 := h.n2
  have i2 : (i : Int) < (s.length : Int) := by omega
  have i3 : (0 : Int) ≤ (i : Int) := by omega
  have HP := hid h
  have HI := hid (And.intro hi trivial)
  have HJ := hid hj
  clear h hr n2 hc hj
  go_enter Try.func34, Try.ntmps34
  go_wp2_with (first | ((with_reducible refine wp_region_plan (id := 5) (.eff [(false, 0), (false, 1), (false, 2), (false, 3), (false, 4), (false, 5), (false, 6), (false, 7), (false, 8), (true, 9), (false, 10), (false, 11)] 12 [9] (.eff [(false, 13)] 14 [] (.fin []))) ?_ ?_ ?_ ?_ ?_ ?_); kernel_rfl; kernel_rfl; kernel_rfl; kernel_rfl; (intro c a d v w h; cases d <;> exact h)) | (with_reducible refine wpPlan_eff ?_) | (with_reducible refine wpPlan_fin ?_) | (with_reducible refine wpPlan_two ?_) | (with_reducible refine wpOpPair ?_ ?_) | ((with_reducible apply wpPre_keep); rfl; intro K' hK'; go_simp; refine hK' _ _ ?_; intro f hf; clear hK' K') | ((with_reducible apply wpPre_drop); rfl; intro K' hK'; go_simp; refine hK' _ _ ?_; intro f; clear hK' K') | (with_reducible refine wpPre_nil ?_) | ((with_reducible apply wpOp_list); rfl) | (with_reducible refine heldPair ?_ ?_) | ((with_reducible refine heldH_no ?_ ?_); rfl) | (with_reducible refine heldH_yes ?_ ?_) | (with_reducible exact heldH_nil) | (unfold YAt; go_simp; done) | (go_at_call 49; refine (ris_yes (HP.out.below (by repeat (first | (with_reducible exact Below.refl _ _) | (with_reducible exact bl_mm) | (with_reducible refine bl_dr ?_) | (with_reducible refine bl_drN ?_ _) | (with_reducible refine bl_al ?_ _) | (with_reducible refine bl_more ?_ _ _)))) i HI.out.1).mono ?_; rintro e w1 ⟨rfl, hb1⟩; obtain ⟨ex, dx, rfl⟩ := more_of hb1; clear hb1))
  go_ret
  exact ⟨rfl, rt_has (X := more w ex (dx + 1)) HP.out i HI.out.1 (by repeat (first | (with_reducible exact Below.refl _ _) | (with_reducible exact bl_mm) | (with_reducible refine bl_dr ?_) | (with_reducible refine bl_drN ?_ _) | (with_reducible refine bl_al ?_ _) | (with_reducible refine bl_more ?_ _ _))) none (v := .slice none 0 0) (Enc.Row.nil _ _ _) (by rw [job6]; simp only [job0, Option.getD_none, Option.isSome_none]; go_simp)⟩
set_option maxHeartbeats 1000000 in
theorem rdone_no {N : Nat} {w : World} {K : Nat → Prop} {r : Nat} {s : List Wk} {b1 b2 b3 : Nat} (h : Rp N w K r s b1 b2 b3) (i : Nat) (hi : i < s.length) (hj : s[i].h.isSome = false) :
    Calls Try.prog 34 #[.pointer (some ⟨r, 0, none⟩), .int .i64 i] w (RTurned N w K r b1 b2 b3 s 6) := by
  obtain ⟨c1, c2, c3⟩ := h.cells
  have a1 := h.has_ i hi
  rw [hj] at a1
  obtain ⟨A, c, hr, hc⟩ := h.hold_ i hi
  have e0 := hc 0 _ rfl
  have e1 := hc 1 _ rfl
  have e2 := hc 2 _ rfl
  have e3 := hc 3 _ rfl
  have e4 := hc 4 _ rfl
  have e5 := hc 5 _ rfl
  simp only [Nat.add_zero] at e0
  have f0 := h.hold.frz (i * 6)
  have f1 := h.hold.frz (i * 6 + 1)
  have f2 := h.hold.frz (i * 6 + 2)
  have f3 := h.hold.frz (i * 6 + 3)
  have f4 := h.hold.frz (i * 6 + 4)
  have f5 := h.hold.frz (i * 6 + 5)
  have f6 := h.has.frz i
  obtain ⟨l1, l2, l3, l4⟩ := h.lt
  obtain ⟨_, _, n3, _, _, _⟩ := h.ne
  have n2 := h.n2
  have i2 : (i : Int) < (s.length : Int) := by omega
  have i3 : (0 : Int) ≤ (i : Int) := by omega
  have HP := hid h
  have HI := hid (And.intro hi trivial)
  clear h hr n2 hc hj
  go_enter Try.func34, Try.ntmps34
  go_wp2_with (first | ((with_reducible refine wp_region_plan (id := 5) (.eff [(false, 0), (false, 1), (false, 2), (false, 3), (false, 4), (false, 5), (false, 6), (false, 7), (false, 8), (true, 9), (false, 10), (false, 11)] 12 [9] (.eff [(false, 13)] 14 [] (.fin []))) ?_ ?_ ?_ ?_ ?_ ?_); kernel_rfl; kernel_rfl; kernel_rfl; kernel_rfl; (intro c a d v w h; cases d <;> exact h)) | (with_reducible refine wpPlan_eff ?_) | (with_reducible refine wpPlan_fin ?_) | (with_reducible refine wpPlan_two ?_) | (with_reducible refine wpOpPair ?_ ?_) | ((with_reducible apply wpPre_keep); rfl; intro K' hK'; go_simp; refine hK' _ _ ?_; intro f hf; clear hK' K') | ((with_reducible apply wpPre_drop); rfl; intro K' hK'; go_simp; refine hK' _ _ ?_; intro f; clear hK' K') | (with_reducible refine wpPre_nil ?_) | ((with_reducible apply wpOp_list); rfl) | (with_reducible refine heldPair ?_ ?_) | ((with_reducible refine heldH_no ?_ ?_); rfl) | (with_reducible refine heldH_yes ?_ ?_) | (with_reducible exact heldH_nil) | (unfold YAt; go_simp; done) | (go_at_call 49; refine (ris_yes (HP.out.below (by repeat (first | (with_reducible exact Below.refl _ _) | (with_reducible exact bl_mm) | (with_reducible refine bl_dr ?_) | (with_reducible refine bl_drN ?_ _) | (with_reducible refine bl_al ?_ _) | (with_reducible refine bl_more ?_ _ _)))) i HI.out.1).mono ?_; rintro e w1 ⟨rfl, hb1⟩; obtain ⟨ex, dx, rfl⟩ := more_of hb1; clear hb1))
  go_ret
  exact ⟨rfl, rt_same HP.out (by repeat (first | (with_reducible exact Below.refl _ _) | (with_reducible exact bl_mm) | (with_reducible refine bl_dr ?_) | (with_reducible refine bl_drN ?_ _) | (with_reducible refine bl_al ?_ _) | (with_reducible refine bl_more ?_ _ _)))⟩
set_option maxHeartbeats 1000000 in
theorem rdone_none {N : Nat} {w : World} {K : Nat → Prop} {r : Nat} {s : List Wk} {b1 b2 b3 : Nat} (h : Rp N w K r s b1 b2 b3) (i : Int) (hi : i < 0 ∨ (s.length : Int) ≤ i) :
    Calls Try.prog 34 #[.pointer (some ⟨r, 0, none⟩), .int .i64 i] w (RTurned N w K r b1 b2 b3 s 2) := by
  have HP := hid h
  have HI := hid hi
  clear h hi
  go_enter Try.func34, Try.ntmps34
  go_wp2_with (first | ((with_reducible refine wp_region_plan (id := 5) (.eff [(false, 0), (false, 1), (false, 2), (false, 3), (false, 4), (false, 5), (false, 6), (false, 7), (false, 8), (true, 9), (false, 10), (false, 11)] 12 [9] (.eff [(false, 13)] 14 [] (.fin []))) ?_ ?_ ?_ ?_ ?_ ?_); kernel_rfl; kernel_rfl; kernel_rfl; kernel_rfl; (intro c a d v w h; cases d <;> exact h)) | (with_reducible refine wpPlan_eff ?_) | (with_reducible refine wpPlan_fin ?_) | (with_reducible refine wpPlan_two ?_) | (with_reducible refine wpOpPair ?_ ?_) | ((with_reducible apply wpPre_keep); rfl; intro K' hK'; go_simp; refine hK' _ _ ?_; intro f hf; clear hK' K') | ((with_reducible apply wpPre_drop); rfl; intro K' hK'; go_simp; refine hK' _ _ ?_; intro f; clear hK' K') | (with_reducible refine wpPre_nil ?_) | ((with_reducible apply wpOp_list); rfl) | (with_reducible refine heldPair ?_ ?_) | ((with_reducible refine heldH_no ?_ ?_); rfl) | (with_reducible refine heldH_yes ?_ ?_) | (with_reducible exact heldH_nil) | (unfold YAt; go_simp; done) | (go_at_call 49; refine (ris_no (HP.out.below (by repeat (first | (with_reducible exact Below.refl _ _) | (with_reducible exact bl_mm) | (with_reducible refine bl_dr ?_) | (with_reducible refine bl_drN ?_ _) | (with_reducible refine bl_al ?_ _) | (with_reducible refine bl_more ?_ _ _)))) i HI.out).mono ?_; rintro e w1 ⟨rfl, hb1⟩; obtain ⟨ex, dx, rfl⟩ := more_of hb1; clear hb1))
  go_ret
  exact ⟨rfl, rt_same HP.out (by repeat (first | (with_reducible exact Below.refl _ _) | (with_reducible exact bl_mm) | (with_reducible refine bl_dr ?_) | (with_reducible refine bl_drN ?_ _) | (with_reducible refine bl_al ?_ _) | (with_reducible refine bl_more ?_ _ _)))⟩
def RHeld (K : Nat → Prop) (w : World) (j : Job) (c : Int) (e : Ending) (w' : World) : Prop := ∃ v, e = .returned (.tuple #[jobV j v, .int .i64 c]) ∧ intE.Row K w' v j.stamp ∧ Below w.heap.size w w'
set_option maxHeartbeats 1000000 in
theorem rheld_yes {N : Nat} {w : World} {K : Nat → Prop} {r : Nat} {s : List Wk} {b1 b2 b3 : Nat} {j : Job} (h : Rp N w K r s b1 b2 b3) (i : Nat) (hi : i < s.length) (hjj : s[i].h = some j) :
    Calls Try.prog 37 #[.pointer (some ⟨r, 0, none⟩), .int .i64 i] w (RHeld K w j 0) := by
  have hj : s[i].h.isSome = true := by rw [hjj]; rfl
  have ho : hOf s[i] = j := by unfold hOf; rw [hjj]; rfl
  obtain ⟨c1, c2, c3⟩ := h.cells
  have a1 := h.has_ i hi
  rw [hj] at a1
  obtain ⟨A, c, hr, hc⟩ := h.hold_ i hi
  have e0 := hc 0 _ rfl
  have e1 := hc 1 _ rfl
  have e2 := hc 2 _ rfl
  have e3 := hc 3 _ rfl
  have e4 := hc 4 _ rfl
  have e5 := hc 5 _ rfl
  simp only [Nat.add_zero] at e0
  have f0 := h.hold.frz (i * 6)
  have f1 := h.hold.frz (i * 6 + 1)
  have f2 := h.hold.frz (i * 6 + 2)
  have f3 := h.hold.frz (i * 6 + 3)
  have f4 := h.hold.frz (i * 6 + 4)
  have f5 := h.hold.frz (i * 6 + 5)
  have f6 := h.has.frz i
  obtain ⟨l1, l2, l3, l4⟩ := h.lt
  obtain ⟨_, _, n3, _, _, _⟩ := h.ne
  have n2 := h.n2
  have i2 : (i : Int) < (s.length : Int) := by omega
  have i3 : (0 : Int) ≤ (i : Int) := by omega
  have HP := hid h
  have HI := hid (And.intro hi trivial)
  rw [ho] at hr e0 e1 e2 e3 e4 e5
  have HR := hid hr
  clear h hr n2 hc hj hjj ho
  go_enter Try.func37, Try.ntmps37
  go_wp2_with (first | (go_at_call 49; refine (ris_yes (HP.out.below (by repeat (first | (with_reducible exact Below.refl _ _) | (with_reducible exact bl_mm) | (with_reducible refine bl_dr ?_) | (with_reducible refine bl_drN ?_ _) | (with_reducible refine bl_al ?_ _) | (with_reducible refine bl_more ?_ _ _)))) i HI.out.1).mono ?_; rintro e w1 ⟨rfl, hb1⟩; obtain ⟨ex, dx, rfl⟩ := more_of hb1; clear hb1))
  refine bodyPost_ret (v := .tuple #[jobV j (.slice A j.stamp.length c), .int .i64 0]) (by simp [results, Try.results37, go_sem]) rfl ⟨_, rfl, HR.out.below (by repeat (first | (with_reducible exact Below.refl _ _) | (with_reducible exact bl_mm) | (with_reducible refine bl_dr ?_) | (with_reducible refine bl_drN ?_ _) | (with_reducible refine bl_al ?_ _) | (with_reducible refine bl_more ?_ _ _))), (by repeat (first | (with_reducible exact Below.refl _ _) | (with_reducible exact bl_mm) | (with_reducible refine bl_dr ?_) | (with_reducible refine bl_drN ?_ _) | (with_reducible refine bl_al ?_ _) | (with_reducible refine bl_more ?_ _ _)))⟩
set_option maxHeartbeats 1000000 in
theorem rheld_no {N : Nat} {w : World} {K : Nat → Prop} {r : Nat} {s : List Wk} {b1 b2 b3 : Nat} (h : Rp N w K r s b1 b2 b3) (i : Nat) (hi : i < s.length) (hj : s[i].h.isSome = false) :
    Calls Try.prog 37 #[.pointer (some ⟨r, 0, none⟩), .int .i64 i] w (RHeld K w job0 6) := by
  obtain ⟨c1, c2, c3⟩ := h.cells
  have a1 := h.has_ i hi
  rw [hj] at a1
  obtain ⟨A, c, hr, hc⟩ := h.hold_ i hi
  have e0 := hc 0 _ rfl
  have e1 := hc 1 _ rfl
  have e2 := hc 2 _ rfl
  have e3 := hc 3 _ rfl
  have e4 := hc 4 _ rfl
  have e5 := hc 5 _ rfl
  simp only [Nat.add_zero] at e0
  have f0 := h.hold.frz (i * 6)
  have f1 := h.hold.frz (i * 6 + 1)
  have f2 := h.hold.frz (i * 6 + 2)
  have f3 := h.hold.frz (i * 6 + 3)
  have f4 := h.hold.frz (i * 6 + 4)
  have f5 := h.hold.frz (i * 6 + 5)
  have f6 := h.has.frz i
  obtain ⟨l1, l2, l3, l4⟩ := h.lt
  obtain ⟨_, _, n3, _, _, _⟩ := h.ne
  have n2 := h.n2
  have i2 : (i : Int) < (s.length : Int) := by omega
  have i3 : (0 : Int) ≤ (i : Int) := by omega
  have HP := hid h
  have HI := hid (And.intro hi trivial)
  clear h hr n2 hc hj
  go_enter Try.func37, Try.ntmps37
  go_wp2_with (first | (go_at_call 49; refine (ris_yes (HP.out.below (by repeat (first | (with_reducible exact Below.refl _ _) | (with_reducible exact bl_mm) | (with_reducible refine bl_dr ?_) | (with_reducible refine bl_drN ?_ _) | (with_reducible refine bl_al ?_ _) | (with_reducible refine bl_more ?_ _ _)))) i HI.out.1).mono ?_; rintro e w1 ⟨rfl, hb1⟩; obtain ⟨ex, dx, rfl⟩ := more_of hb1; clear hb1))
  refine bodyPost_ret (v := .tuple #[jobV job0 (.slice none 0 0), .int .i64 6]) (by simp [results, Try.results37, job0, go_sem]) rfl ⟨_, rfl, Enc.Row.nil _ _ _, (by repeat (first | (with_reducible exact Below.refl _ _) | (with_reducible exact bl_mm) | (with_reducible refine bl_dr ?_) | (with_reducible refine bl_drN ?_ _) | (with_reducible refine bl_al ?_ _) | (with_reducible refine bl_more ?_ _ _)))⟩
set_option maxHeartbeats 1000000 in
theorem rlen_any {N : Nat} {w : World} {K : Nat → Prop} {r : Nat} {s : List Wk} {b1 b2 b3 : Nat} (h : Rp N w K r s b1 b2 b3) (hb : ∀ i (hi : i < s.length), s[i].l.length ≤ 128) :
    Calls Try.prog 39 #[.pointer (some ⟨r, 0, none⟩)] w fun e w' => e = .returned (.int .i64 (cnt s)) ∧ Below w.heap.size w w' := by
  obtain ⟨c1, c2, c3⟩ := h.cells
  have n2 := h.n2
  have HP := hid h
  have HB := hid hb
  clear h hb
  go_enter Try.func39, Try.ntmps39
  go_wp2
  go_loopg [3, 4] s.length (fun k sm i wr => ∃ j : Nat, j + k = s.length ∧ i = .int .i64 j ∧ sm = .int .i64 (cnt (s.take j)) ∧ cnt (s.take j) ≤ j * 129 ∧ wr = w)
  case atStart => exact ⟨0, by omega, rfl, by simp [cnt], by simp [cnt], rfl⟩
  case round =>
    obtain ⟨j, hj, rfl, rfl, hcn, rfl⟩ := hrel
    have HJ := hid hj
    by_cases hlt : j < s.length
    · have a1 := HP.out.has_ j hlt
      obtain ⟨A, c, hr, e1⟩ := HP.out.row j hlt
      have h6 := cnt_snoc hlt
      have h7 := HB.out j hlt
      obtain ⟨ln, hln⟩ : ∃ ln, (s[j]'hlt).l.length = ln := ⟨_, rfl⟩
      obtain ⟨c0, hc0⟩ : ∃ c0, cnt (s.take j) = c0 := ⟨_, rfl⟩
      have hn : (s[j]'hlt).n = ln + (if (s[j]'hlt).h.isSome then 1 else 0) := by unfold Wk.n; rw [hln]
      rw [hn] at h6
      rw [hln] at h7 e1
      rw [hc0] at h6 hcn ⊢
      have i1 : (j : Int) < (s.length : Int) := by omega
      have i3 : (0 : Int) ≤ (j : Int) := by omega
      have y1 : IntKind.i64.wrap ((c0 : Int) + (ln : Int)) = ((c0 + ln : Nat) : Int) := by rw [IntWalk.i64_in _ (by omega)]; omega
      have y2 : IntKind.i64.wrap (((c0 + ln : Nat) : Int) + 1) = ((c0 + ln + 1 : Nat) : Int) := by rw [IntWalk.i64_in _ (by omega)]; omega
      have y3 : IntKind.i64.wrap ((c0 : Int) + (ln : Int) + 1) = ((c0 + ln + 1 : Nat) : Int) := by rw [IntWalk.i64_in _ (by omega)]; omega
      have w1' : IntKind.i64.wrap ((j : Int) + 1) = ((j + 1 : Nat) : Int) := by rw [IntWalk.i64_in _ (by omega)]; rfl
      have hcb : ln + 1 + c0 ≤ (j + 1) * 129 := by omega
      cases hh : (s[j]'hlt).h.isSome with
      | false =>
        rw [hh] at a1 h6
        simp at h6
        have H6 := hid h6
        have HCB := hid hcb
        clear hr h6 h7 hn hln hc0 hh hj n2 hcn hcb
        go_wp2
        go_roundg (s.length - (j + 1))
        case measure => have := HJ.out; omega
        case rel => exact ⟨j + 1, by have := HJ.out; omega, rfl, by rw [H6.out]; congr 1, by rw [H6.out]; have := HCB.out; omega, rfl⟩
      | true =>
        rw [hh] at a1 h6
        simp at h6
        have H6 := hid h6
        have HCB := hid hcb
        clear hr h6 h7 hn hln hc0 hh hj n2 hcn hcb
        go_wp2
        go_roundg (s.length - (j + 1))
        case measure => have := HJ.out; omega
        case rel => exact ⟨j + 1, by have := HJ.out; omega, rfl, by rw [H6.out]; congr 1, by rw [H6.out]; have := HCB.out; omega, rfl⟩
    · obtain rfl : j = s.length := by omega
      have i1 : ¬ (s.length : Int) < s.length := by omega
      clear hj
      go_wp2
      go_ret
      exact ⟨rfl, (by repeat (first | (with_reducible exact Below.refl _ _) | (with_reducible exact bl_mm) | (with_reducible refine bl_dr ?_) | (with_reducible refine bl_drN ?_ _) | (with_reducible refine bl_al ?_ _) | (with_reducible refine bl_more ?_ _ _)))⟩
end Go.Proofs.Ytlfdnjomjheioaa
