/- Which jobs have a key. -/
import Derived.Test.YtlfdnjomjheioaaDqP
namespace Go.Proofs.Ytlfdnjomjheioaa
open Go.RowKit

/-- A key's box. -/
structure KeyAt (w : World) (kb : Nat) (a : Int) (b : Bool) (c : Int) : Prop where
  lt : kb < w.heap.size
  k0 : w.cell? ⟨kb, 0, none⟩ = some (.int .i64 a)
  k1 : w.cell? ⟨kb, 1, none⟩ = some (.bool b)
  k2 : w.cell? ⟨kb, 2, none⟩ = some (.int .i64 c)
theorem KeyAt.below {w W : World} {kb : Nat} {a c : Int} {b : Bool} (h : KeyAt w kb a b c) (hb : Below w.heap.size w W) : KeyAt W kb a b c :=
  ⟨Nat.lt_of_lt_of_le h.lt hb.size, cell_kept hb h.k0, cell_kept hb h.k1, cell_kept hb h.k2⟩
theorem KeyAt.ext {S : Nat → Prop} {w W : World} {kb : Nat} {a c : Int} {b : Bool} (h : KeyAt w kb a b c) (hb : Ext S w W) (hs : ¬ S kb) : KeyAt W kb a b c :=
  ⟨Nat.lt_of_lt_of_le h.lt hb.size, ext_cell hb h.k0 hs, ext_cell hb h.k1 hs, ext_cell hb h.k2 hs⟩

set_option maxHeartbeats 1000000 in
theorem pred_any {w : World} {x : Job} {v : Value} {kb : Nat} {a c : Int} {b : Bool} (h : KeyAt w kb a b c) :
    Calls Try.prog 60 #[jobV x v, .pointer (some ⟨kb, 0, none⟩)] w fun e w' => e = .returned (.bool (isKey a b c x)) ∧ Below w.heap.size w w' := by
  obtain ⟨hl, k0, k1, k2⟩ := h
  have hq : ∀ W, (binOp .eql 31 (.agg #[.int .i64 x.item, .bool x.undo, .int .i64 x.try_]) (.agg #[.int .i64 a, .bool b, .int .i64 c])).run Try.prog W = .ok (.bool (isKey a b c x)) W := fun W => key_eql _ _ _ _ _ _ W
  go_enter Try.func60, Try.ntmps60
  go_wp2
  go_ret
  exact ⟨rfl, (by repeat (first | (with_reducible exact Below.refl _ _) | (with_reducible refine bl_dr ?_) | (with_reducible refine bl_drN ?_ _) | (with_reducible refine bl_al ?_ _) | (with_reducible refine bl_more ?_ _ _)))⟩

set_option maxHeartbeats 2000000 in
theorem index_any {K : Nat → Prop} {w : World} {v : Value} {xs : List Job} {kb : Nat} {a c : Int} {b : Bool} (h : jobE.Row K w v xs) (hk : KeyAt w kb a b c) :
    Calls Try.prog 65 #[v, .func (.func 60) #[] #[.pointer (some ⟨kb, 0, none⟩)]] w fun e w' => ∃ i : Int, e = .returned (.int .i64 i) ∧ Below w.heap.size w w' ∧
      ((i = -1 ∧ ∀ x ∈ xs, isKey a b c x = false) ∨ ∃ k : Nat, ∃ hk : k < xs.length, i = k ∧ isKey a b c xs[k] = true ∧ ∀ x ∈ xs.take k, isKey a b c x = false) := by
  obtain ⟨A, cv, rfl, h1, h2⟩ := h.form
  have m : maxLen ≤ 9223372036854775807 := by unfold maxLen; omega
  have m1 : (xs.length : Int) ≤ 9223372036854775807 := by omega
  have HR := hid h
  have HK := hid hk
  clear h h1 h2 m hk
  go_enter Try.func65, Try.ntmps65
  go_wp2
  go_loopg [8] xs.length (fun k i wr => ∃ j : Nat, j + k = xs.length ∧ i = .int .i64 j ∧ (∀ x ∈ xs.take j, isKey a b c x = false) ∧ Below w.heap.size w wr)
  case atStart => exact ⟨0, by omega, rfl, by simp, Below.refl _ _⟩
  case round =>
    obtain ⟨j, hj, rfl, hno, hbw⟩ := hrel
    have KK := hid (HK.out.below hbw)
    have HR2 := hid (HR.out.below hbw)
    have HW := hid hbw
    have HN := hid hno
    have HJ := hid hj
    clear hbw hno
    by_cases hlt : j < xs.length
    · obtain ⟨bb, off, B, cb, rfl, hbl, _, hv, hc⟩ := Row_job HR2.out j hlt
      have e0 : wr.cell? ⟨bb, off + j * 6, none⟩ = some (.int .i64 xs[j].item) := by have := hc 0 _ rfl; simpa using this
      have e1 : wr.cell? ⟨bb, off + j * 6 + 1, none⟩ = some (.bool xs[j].undo) := by have := hc 1 _ rfl; simpa using this
      have e2 : wr.cell? ⟨bb, off + j * 6 + 2, none⟩ = some (.int .i64 xs[j].try_) := by have := hc 2 _ rfl; simpa using this
      have e3 : wr.cell? ⟨bb, off + j * 6 + 3, none⟩ = some (.bool xs[j].begun) := by have := hc 3 _ rfl; simpa using this
      have e4 : wr.cell? ⟨bb, off + j * 6 + 4, none⟩ = some (.int .i64 xs[j].token) := by have := hc 4 _ rfl; simpa using this
      have e5 : wr.cell? ⟨bb, off + j * 6 + 5, none⟩ = some (.slice B xs[j].stamp.length cb) := by have := hc 5 _ rfl; simpa using this
      clear hc hv hj
      have i1 : (j : Int) < (xs.length : Int) := by omega
      have i3 : (0 : Int) ≤ (j : Int) := by omega
      have w1' : IntKind.i64.wrap ((j : Int) + 1) = ((j + 1 : Nat) : Int) := by rw [IntWalk.i64_in _ (by omega)]; rfl
      cases hk : isKey a b c xs[j] with
      | true =>
        go_wp2_with (first | (go_at_call 60; refine (pred_any (x := xs[j]) (v := .slice B xs[j].stamp.length cb) (KK.out.below (by repeat (first | (with_reducible exact Below.refl _ _) | (with_reducible refine bl_dr ?_) | (with_reducible refine bl_drN ?_ _) | (with_reducible refine bl_al ?_ _) | (with_reducible refine bl_more ?_ _ _))))).mono ?_; rintro e w1 ⟨rfl, hb1⟩; obtain ⟨ex, dx, rfl⟩ := more_of hb1; clear hb1))
        go_ret
        exact ⟨_, rfl, HW.out.trans ((show Below wr.heap.size wr _ from (by repeat (first | (with_reducible exact Below.refl _ _) | (with_reducible refine bl_dr ?_) | (with_reducible refine bl_drN ?_ _) | (with_reducible refine bl_al ?_ _) | (with_reducible refine bl_more ?_ _ _)))).mono HW.out.size), .inr ⟨j, hlt, rfl, hk, HN.out⟩⟩
      | false =>
        go_wp2_with (first | (go_at_call 60; refine (pred_any (x := xs[j]) (v := .slice B xs[j].stamp.length cb) (KK.out.below (by repeat (first | (with_reducible exact Below.refl _ _) | (with_reducible refine bl_dr ?_) | (with_reducible refine bl_drN ?_ _) | (with_reducible refine bl_al ?_ _) | (with_reducible refine bl_more ?_ _ _))))).mono ?_; rintro e w1 ⟨rfl, hb1⟩; obtain ⟨ex, dx, rfl⟩ := more_of hb1; clear hb1))
        go_roundg (xs.length - (j + 1))
        case measure => have := HJ.out; omega
        case rel =>
          refine ⟨j + 1, by have := HJ.out; omega, rfl, fun x hx => ?_, HW.out.trans ((show Below wr.heap.size wr _ from (by repeat (first | (with_reducible exact Below.refl _ _) | (with_reducible refine bl_dr ?_) | (with_reducible refine bl_drN ?_ _) | (with_reducible refine bl_al ?_ _) | (with_reducible refine bl_more ?_ _ _)))).mono HW.out.size)⟩
          rw [List.take_succ_eq_append_getElem hlt] at hx
          rcases List.mem_append.1 hx with h | h
          · exact HN.out x h
          · rw [List.mem_singleton.1 h]; exact hk
    · obtain rfl : j = xs.length := by omega
      have i1 : ¬ (xs.length : Int) < xs.length := by omega
      clear hj
      go_wp2_with (first | (go_at_call 60; refine (pred_any (x := xs[j]) (v := .slice B xs[j].stamp.length cb) (KK.out.below (by repeat (first | (with_reducible exact Below.refl _ _) | (with_reducible refine bl_dr ?_) | (with_reducible refine bl_drN ?_ _) | (with_reducible refine bl_al ?_ _) | (with_reducible refine bl_more ?_ _ _))))).mono ?_; rintro e w1 ⟨rfl, hb1⟩; obtain ⟨ex, dx, rfl⟩ := more_of hb1; clear hb1))
      go_ret
      exact ⟨_, rfl, HW.out, .inl ⟨rfl, fun x hx => HN.out x (by rw [List.take_length]; exact hx)⟩⟩
end Go.Proofs.Ytlfdnjomjheioaa
