/- The document's pool: its small calls. -/
import Derived.Test.YtlfdnjomjheioaaPaQ
namespace Go.Proofs.Ytlfdnjomjheioaa
open Go.RowKit

namespace Rp
variable {N : Nat} {w w' : World} {K K' : Nat → Prop} {r : Nat} {s s' : List Wk} {b1 b2 b3 : Nat}
theorem cells (h : Rp N w K r s b1 b2 b3) : w.cell? ⟨r, 0, none⟩ = some (.slice (some ⟨b1, 0, none⟩) s.length s.length) ∧ w.cell? ⟨r, 1, none⟩ = some (.slice (some ⟨b2, 0, none⟩) s.length s.length) ∧ w.cell? ⟨r, 2, none⟩ = some (.slice (some ⟨b3, 0, none⟩) s.length s.length) :=
  ⟨cell_blk h.blk 0, cell_blk h.blk 1, cell_blk h.blk 2⟩
theorem row (h : Rp N w K r s b1 b2 b3) (i : Nat) (hi : i < s.length) : ∃ A c, jobE.Row K w (.slice A s[i].l.length c) s[i].l ∧ w.cell? ⟨b1, i, none⟩ = some (.slice A s[i].l.length c) := by
  obtain ⟨cs, ⟨v, rfl, hv⟩, hc⟩ := h.rows.get i (by simpa using hi)
  rw [List.getElem_map] at hv
  obtain ⟨A, c, rfl, _⟩ := hv.form
  have := hc 0 _ rfl
  have e : i * (Enc.slice jobE).sz + 0 = i := Nat.mul_one i
  rw [e] at this
  exact ⟨A, c, hv, this⟩
theorem hold_ (h : Rp N w K r s b1 b2 b3) (i : Nat) (hi : i < s.length) : ∃ A c, intE.Row K w (.slice A (hOf s[i]).stamp.length c) (hOf s[i]).stamp ∧ ∀ j u, (jobCells (hOf s[i]) (.slice A (hOf s[i]).stamp.length c))[j]? = some u → w.cell? ⟨b2, i * 6 + j, none⟩ = some u := by
  obtain ⟨cs, hrd, hc⟩ := h.hold.get i (by simpa using hi)
  rw [List.getElem_map] at hrd
  obtain ⟨v, rfl, hv⟩ := jobE_open hrd
  obtain ⟨A, c, rfl, _⟩ := hv.form
  exact ⟨A, c, hv, hc⟩
theorem has_ (h : Rp N w K r s b1 b2 b3) (i : Nat) (hi : i < s.length) : w.cell? ⟨b3, i, none⟩ = some (.bool s[i].h.isSome) := by
  obtain ⟨cs, hrd, hc⟩ := h.has.get i (by simpa using hi)
  have hrd : cs = [.bool _] := hrd
  subst hrd
  have := hc 0 _ rfl
  have e : i * Enc.bool.sz + 0 = i := Nat.mul_one i
  rw [e] at this
  rw [this, List.getElem_map]
theorem grow {X : World} (h : Rp N X K r s b1 b2 b3) (hl : r < w.heap.size ∧ b1 < w.heap.size ∧ b2 < w.heap.size ∧ b3 < w.heap.size) : Rp N X (fun b => K b ∨ w.heap.size ≤ b) r s b1 b2 b3 := by
  obtain ⟨l1, l2, l3, l4⟩ := hl
  obtain ⟨k1, k2, k3, k4⟩ := h.nK
  refine h.mono (fun b hb _ => .inl hb) (fun b hb e => ?_)
  rcases hb with rfl | rfl | rfl | rfl <;> rcases e with e | e <;> first | contradiction | omega
end Rp
def RT (N : Nat) (w : World) (K : Nat → Prop) (r b1 b2 b3 : Nat) (s' : List Wk) (w' : World) : Prop := Rp N w' (fun b => K b ∨ w.heap.size ≤ b) r s' b1 b2 b3 ∧ Ext (Rb r b1 b2 b3) w w'
theorem rt_same {N : Nat} {w w' : World} {K : Nat → Prop} {r : Nat} {s : List Wk} {b1 b2 b3 : Nat} (h : Rp N w K r s b1 b2 b3) (hb : Below w.heap.size w w') : RT N w K r b1 b2 b3 s w' := ⟨(h.below hb).grow h.lt, Ext.of_below hb⟩
theorem rt_row {N : Nat} {w X Wf : World} {K : Nat → Prop} {r : Nat} {s : List Wk} {b1 b2 b3 : Nat} (h : Rp N w K r s b1 b2 b3) (i : Nat) (hi : i < s.length) (hX : Below w.heap.size w X) {v : Value} {l' : List Job} (hv : jobE.Row (fun b => K b ∨ w.heap.size ≤ b) X v l') (he : X.setCell ⟨b1, i, none⟩ v = Wf) : RT N w K r b1 b2 b3 (s.set i ⟨l', s[i].h⟩) Wf := by
  subst he
  exact ⟨((h.below hX).grow h.lt).setRow i hi hv, (Ext.of_below hX).trans (Ext.setCell (S := fun b => b = b1) X _ _ rfl) (fun x _ e => .inr (.inl e))⟩
theorem rt_has {N : Nat} {w X Wf : World} {K : Nat → Prop} {r : Nat} {s : List Wk} {b1 b2 b3 : Nat} (h : Rp N w K r s b1 b2 b3) (i : Nat) (hi : i < s.length) (hX : Below w.heap.size w X) (o : Option Job) {v : Value} (hv : intE.Row (fun b => K b ∨ w.heap.size ≤ b) X v (o.getD job0).stamp) (he : (X.setCells b2 (i * 6) (jobCells (o.getD job0) v)).setCell ⟨b3, i, none⟩ (.bool o.isSome) = Wf) : RT N w K r b1 b2 b3 (s.set i ⟨s[i].l, o⟩) Wf := by
  subst he
  exact ⟨((h.below hX).grow h.lt).setHas i hi o hv, ((Ext.of_below hX).trans (ext_setCells b2 _ _ X) (fun x _ e => .inr (.inr (.inl e)))).trans (Ext.setCell (S := fun b => b = b3) _ _ _ rfl) (fun x _ e => .inr (.inr (.inr e)))⟩
def RTurned (N : Nat) (w : World) (K : Nat → Prop) (r b1 b2 b3 : Nat) (s' : List Wk) (c : Int) (e : Ending) (w' : World) : Prop := e = .returned (.int .i64 c) ∧ RT N w K r b1 b2 b3 s' w'

set_option maxHeartbeats 1000000 in
theorem ris_yes {N : Nat} {w : World} {K : Nat → Prop} {r : Nat} {s : List Wk} {b1 b2 b3 : Nat} (h : Rp N w K r s b1 b2 b3) (i : Nat) (hi : i < s.length) :
    Calls Try.prog 49 #[.pointer (some ⟨r, 0, none⟩), .int .i64 i] w fun e w' => e = .returned (.bool true) ∧ Below w.heap.size w w' := by
  obtain ⟨c1, _, _⟩ := h.cells
  have n2 := h.n2
  have i1 : decide (0 ≤ (i : Int)) = true := by simp
  have i2 : (i : Int) < (s.length : Int) := by omega
  clear h
  go_enter Try.func49, Try.ntmps49
  go_wp2
  go_ret
  exact ⟨rfl, (by repeat (first | (with_reducible exact Below.refl _ _) | (with_reducible exact bl_mm) | (with_reducible refine bl_dr ?_) | (with_reducible refine bl_drN ?_ _) | (with_reducible refine bl_al ?_ _) | (with_reducible refine bl_more ?_ _ _)))⟩
set_option maxHeartbeats 1000000 in
theorem ris_no {N : Nat} {w : World} {K : Nat → Prop} {r : Nat} {s : List Wk} {b1 b2 b3 : Nat} (h : Rp N w K r s b1 b2 b3) (i : Int) (hi : i < 0 ∨ (s.length : Int) ≤ i) :
    Calls Try.prog 49 #[.pointer (some ⟨r, 0, none⟩), .int .i64 i] w fun e w' => e = .returned (.bool false) ∧ Below w.heap.size w w' := by
  obtain ⟨c1, _, _⟩ := h.cells
  have n2 := h.n2
  clear h
  by_cases h0 : i < 0
  · have i1 : decide (0 ≤ i) = false := by simpa using h0
    go_enter Try.func49, Try.ntmps49
    go_wp2
    go_ret
    exact ⟨rfl, (by repeat (first | (with_reducible exact Below.refl _ _) | (with_reducible exact bl_mm) | (with_reducible refine bl_dr ?_) | (with_reducible refine bl_drN ?_ _) | (with_reducible refine bl_al ?_ _) | (with_reducible refine bl_more ?_ _ _)))⟩
  · have i1 : decide (0 ≤ i) = true := by simpa using h0
    have i2 : decide (i < (s.length : Int)) = false := by simp; omega
    go_enter Try.func49, Try.ntmps49
    go_wp2
    go_ret
    exact ⟨rfl, (by repeat (first | (with_reducible exact Below.refl _ _) | (with_reducible exact bl_mm) | (with_reducible refine bl_dr ?_) | (with_reducible refine bl_drN ?_ _) | (with_reducible refine bl_al ?_ _) | (with_reducible refine bl_more ?_ _ _)))⟩
set_option maxHeartbeats 1000000 in
theorem rpush_any {N : Nat} {w : World} {K : Nat → Prop} {r : Nat} {s : List Wk} {b1 b2 b3 : Nat} {j : Job} {v : Value} (h : Rp N w K r s b1 b2 b3) (i : Nat) (hi : i < s.length) (hv : intE.Row K w v j.stamp) (hlt : s[i].l.length < 128) :
    Calls Try.prog 36 #[.pointer (some ⟨r, 0, none⟩), .int .i64 i, jobV j v] w (RTurned N w K r b1 b2 b3 (s.set i ⟨s[i].l ++ [j], s[i].h⟩) 0) := by
  obtain ⟨B, cb, rfl, _, _⟩ := hv.form
  obtain ⟨c1, _, _⟩ := h.cells
  obtain ⟨A, c, hr, e1⟩ := h.row i hi
  have f1 := h.rows.frz i
  obtain ⟨l1, l2, _, _⟩ := h.lt
  have n2 := h.n2
  have i2 : (i : Int) < (s.length : Int) := by omega
  have i3 : (0 : Int) ≤ (i : Int) := by omega
  have HP := hid h
  have HI := hid (And.intro hi trivial)
  have HV := hid hv
  have HR := hid hr
  have HLT := hid hlt
  clear h hv hr hlt n2
  go_enter Try.func36, Try.ntmps36
  go_wp2_with (first | ((with_reducible refine wp_region_plan (id := 3) (.eff [(false, 0), (false, 1), (false, 2), (false, 3), (false, 4), (false, 5), (false, 6), (false, 7)] 8 [] (.fin [(false, 9), (false, 10), (false, 11), (false, 12), (false, 13)])) ?_ ?_ ?_ ?_ ?_ ?_); kernel_rfl; kernel_rfl; kernel_rfl; kernel_rfl; (intro c a d v w h; cases d <;> exact h)) | (with_reducible refine wpPlan_eff ?_) | (with_reducible refine wpPlan_fin ?_) | (with_reducible refine wpPlan_two ?_) | (with_reducible refine wpOpPair ?_ ?_) | ((with_reducible apply wpPre_keep); rfl; intro K' hK'; go_simp; refine hK' _ _ ?_; intro f hf; clear hK' K') | ((with_reducible apply wpPre_drop); rfl; intro K' hK'; go_simp; refine hK' _ _ ?_; intro f; clear hK' K') | (with_reducible refine wpPre_nil ?_) | ((with_reducible apply wpOp_list); rfl) | (with_reducible refine heldPair ?_ ?_) | ((with_reducible refine heldH_no ?_ ?_); rfl) | (with_reducible refine heldH_yes ?_ ?_) | (with_reducible exact heldH_nil) | (unfold YAt; go_simp; done) | (go_at_call 49; refine (ris_yes (HP.out.below (by repeat (first | (with_reducible exact Below.refl _ _) | (with_reducible exact bl_mm) | (with_reducible refine bl_dr ?_) | (with_reducible refine bl_drN ?_ _) | (with_reducible refine bl_al ?_ _) | (with_reducible refine bl_more ?_ _ _)))) i HI.out.1).mono ?_; rintro e w1 ⟨rfl, hb1⟩; obtain ⟨ex, dx, rfl⟩ := more_of hb1; clear hb1) | (go_at_call 53; refine (ref_push (HR.out.below (by repeat (first | (with_reducible exact Below.refl _ _) | (with_reducible exact bl_mm) | (with_reducible refine bl_dr ?_) | (with_reducible refine bl_drN ?_ _) | (with_reducible refine bl_al ?_ _) | (with_reducible refine bl_more ?_ _ _)))) (HV.out.below (by repeat (first | (with_reducible exact Below.refl _ _) | (with_reducible exact bl_mm) | (with_reducible refine bl_dr ?_) | (with_reducible refine bl_drN ?_ _) | (with_reducible refine bl_al ?_ _) | (with_reducible refine bl_more ?_ _ _)))) HLT.out).mono ?_; rintro e w2 ⟨v1, rfl, hr2, hb2⟩; obtain ⟨A2, c2, rfl, _, _⟩ := hr2.form; obtain ⟨ex2, dx2, rfl⟩ := more_of hb2; have HR2 := hid hr2; clear hr2 hb2))
  go_ret
  refine ⟨rfl, rt_row (X := more (more (w.alloc (.cells #[.int .i64 j.item, .bool j.undo, .int .i64 j.try_, .bool j.begun, .int .i64 j.token, .slice B j.stamp.length cb] 33)) ex (dx + 1)) ex2 dx2) HP.out i HI.out.1 (by repeat (first | (with_reducible exact Below.refl _ _) | (with_reducible exact bl_mm) | (with_reducible refine bl_dr ?_) | (with_reducible refine bl_drN ?_ _) | (with_reducible refine bl_al ?_ _) | (with_reducible refine bl_more ?_ _ _))) (HR2.out.mono (fun b hb _ => hb.imp id (fun hb => by simp [more_size] at hb; omega))) (by go_simp)⟩
set_option maxHeartbeats 1000000 in
theorem rpush_full {N : Nat} {w : World} {K : Nat → Prop} {r : Nat} {s : List Wk} {b1 b2 b3 : Nat} {j : Job} {v : Value} (h : Rp N w K r s b1 b2 b3) (i : Nat) (hi : i < s.length) (hv : intE.Row K w v j.stamp) (hlt : s[i].l.length = 128) :
    Calls Try.prog 36 #[.pointer (some ⟨r, 0, none⟩), .int .i64 i, jobV j v] w (RTurned N w K r b1 b2 b3 s 8) := by
  obtain ⟨B, cb, rfl, _, _⟩ := hv.form
  obtain ⟨c1, _, _⟩ := h.cells
  obtain ⟨A, c, hr, e1⟩ := h.row i hi
  have f1 := h.rows.frz i
  obtain ⟨l1, l2, _, _⟩ := h.lt
  have n2 := h.n2
  have i2 : (i : Int) < (s.length : Int) := by omega
  have i3 : (0 : Int) ≤ (i : Int) := by omega
  have es : s = s.set i ⟨s[i].l, s[i].h⟩ := by rw [List.set_getElem_self]
  have HP := hid h
  have HI := hid (And.intro hi trivial)
  have HV := hid hv
  have HR := hid hr
  have HLT := hid hlt
  have HES := hid es
  clear h hv hr hlt n2 es
  go_enter Try.func36, Try.ntmps36
  go_wp2_with (first | ((with_reducible refine wp_region_plan (id := 3) (.eff [(false, 0), (false, 1), (false, 2), (false, 3), (false, 4), (false, 5), (false, 6), (false, 7)] 8 [] (.fin [(false, 9), (false, 10), (false, 11), (false, 12), (false, 13)])) ?_ ?_ ?_ ?_ ?_ ?_); kernel_rfl; kernel_rfl; kernel_rfl; kernel_rfl; (intro c a d v w h; cases d <;> exact h)) | (with_reducible refine wpPlan_eff ?_) | (with_reducible refine wpPlan_fin ?_) | (with_reducible refine wpPlan_two ?_) | (with_reducible refine wpOpPair ?_ ?_) | ((with_reducible apply wpPre_keep); rfl; intro K' hK'; go_simp; refine hK' _ _ ?_; intro f hf; clear hK' K') | ((with_reducible apply wpPre_drop); rfl; intro K' hK'; go_simp; refine hK' _ _ ?_; intro f; clear hK' K') | (with_reducible refine wpPre_nil ?_) | ((with_reducible apply wpOp_list); rfl) | (with_reducible refine heldPair ?_ ?_) | ((with_reducible refine heldH_no ?_ ?_); rfl) | (with_reducible refine heldH_yes ?_ ?_) | (with_reducible exact heldH_nil) | (unfold YAt; go_simp; done) | (go_at_call 49; refine (ris_yes (HP.out.below (by repeat (first | (with_reducible exact Below.refl _ _) | (with_reducible exact bl_mm) | (with_reducible refine bl_dr ?_) | (with_reducible refine bl_drN ?_ _) | (with_reducible refine bl_al ?_ _) | (with_reducible refine bl_more ?_ _ _)))) i HI.out.1).mono ?_; rintro e w1 ⟨rfl, hb1⟩; obtain ⟨ex, dx, rfl⟩ := more_of hb1; clear hb1) | (go_at_call 53; refine (ref_push_full (HR.out.below (by repeat (first | (with_reducible exact Below.refl _ _) | (with_reducible exact bl_mm) | (with_reducible refine bl_dr ?_) | (with_reducible refine bl_drN ?_ _) | (with_reducible refine bl_al ?_ _) | (with_reducible refine bl_more ?_ _ _)))) HLT.out).mono ?_; rintro e w2 ⟨rfl, hb2⟩; obtain ⟨ex2, dx2, rfl⟩ := more_of hb2; clear hb2))
  go_ret
  refine ⟨rfl, ?_⟩
  have := rt_row (X := more (more (w.alloc (.cells #[.int .i64 j.item, .bool j.undo, .int .i64 j.try_, .bool j.begun, .int .i64 j.token, .slice B j.stamp.length cb] 33)) ex (dx + 1)) ex2 dx2) HP.out i HI.out.1 (by repeat (first | (with_reducible exact Below.refl _ _) | (with_reducible exact bl_mm) | (with_reducible refine bl_dr ?_) | (with_reducible refine bl_drN ?_ _) | (with_reducible refine bl_al ?_ _) | (with_reducible refine bl_more ?_ _ _))) ((HR.out.below (by repeat (first | (with_reducible exact Below.refl _ _) | (with_reducible exact bl_mm) | (with_reducible refine bl_dr ?_) | (with_reducible refine bl_drN ?_ _) | (with_reducible refine bl_al ?_ _) | (with_reducible refine bl_more ?_ _ _)))).mono (fun b hb _ => .inl hb)) rfl
  rw [← HES.out] at this
  have e : (more (more (w.alloc (.cells #[.int .i64 j.item, .bool j.undo, .int .i64 j.try_, .bool j.begun, .int .i64 j.token, .slice B j.stamp.length cb] 33)) ex (dx + 1)) ex2 dx2).setCell ⟨b1, i, none⟩ (.slice A s[i].l.length c) = more (more ((w.setCell ⟨b1, i, none⟩ (.slice A s[i].l.length c)).alloc (.cells #[.int .i64 j.item, .bool j.undo, .int .i64 j.try_, .bool j.begun, .int .i64 j.token, .slice B j.stamp.length cb] 33)) ex (dx + 1)) ex2 dx2 := by go_simp
  rw [e] at this
  exact this
set_option maxHeartbeats 1000000 in
theorem rpush_none {N : Nat} {w : World} {K : Nat → Prop} {r : Nat} {s : List Wk} {b1 b2 b3 : Nat} {j : Job} {v : Value} (h : Rp N w K r s b1 b2 b3) (i : Int) (hi : i < 0 ∨ (s.length : Int) ≤ i) (hv : intE.Row K w v j.stamp) :
    Calls Try.prog 36 #[.pointer (some ⟨r, 0, none⟩), .int .i64 i, jobV j v] w (RTurned N w K r b1 b2 b3 s 2) := by
  obtain ⟨B, cb, rfl, _, _⟩ := hv.form
  have HP := hid h
  have HI := hid hi
  clear h hi hv
  go_enter Try.func36, Try.ntmps36
  go_wp2_with (first | ((with_reducible refine wp_region_plan (id := 3) (.eff [(false, 0), (false, 1), (false, 2), (false, 3), (false, 4), (false, 5), (false, 6), (false, 7)] 8 [] (.fin [(false, 9), (false, 10), (false, 11), (false, 12), (false, 13)])) ?_ ?_ ?_ ?_ ?_ ?_); kernel_rfl; kernel_rfl; kernel_rfl; kernel_rfl; (intro c a d v w h; cases d <;> exact h)) | (with_reducible refine wpPlan_eff ?_) | (with_reducible refine wpPlan_fin ?_) | (with_reducible refine wpPlan_two ?_) | (with_reducible refine wpOpPair ?_ ?_) | ((with_reducible apply wpPre_keep); rfl; intro K' hK'; go_simp; refine hK' _ _ ?_; intro f hf; clear hK' K') | ((with_reducible apply wpPre_drop); rfl; intro K' hK'; go_simp; refine hK' _ _ ?_; intro f; clear hK' K') | (with_reducible refine wpPre_nil ?_) | ((with_reducible apply wpOp_list); rfl) | (with_reducible refine heldPair ?_ ?_) | ((with_reducible refine heldH_no ?_ ?_); rfl) | (with_reducible refine heldH_yes ?_ ?_) | (with_reducible exact heldH_nil) | (unfold YAt; go_simp; done) | (go_at_call 49; refine (ris_no (HP.out.below (by repeat (first | (with_reducible exact Below.refl _ _) | (with_reducible exact bl_mm) | (with_reducible refine bl_dr ?_) | (with_reducible refine bl_drN ?_ _) | (with_reducible refine bl_al ?_ _) | (with_reducible refine bl_more ?_ _ _)))) i HI.out).mono ?_; rintro e w1 ⟨rfl, hb1⟩; obtain ⟨ex, dx, rfl⟩ := more_of hb1; clear hb1))
  go_ret
  exact ⟨rfl, rt_same HP.out (by repeat (first | (with_reducible exact Below.refl _ _) | (with_reducible exact bl_mm) | (with_reducible refine bl_dr ?_) | (with_reducible refine bl_drN ?_ _) | (with_reducible refine bl_al ?_ _) | (with_reducible refine bl_more ?_ _ _)))⟩
end Go.Proofs.Ytlfdnjomjheioaa
