/- A text, code point by code point. -/
import Derived.Test.YthekoefcienipaaLxC
import Derived.Lib.OthersKept
namespace Go.Proofs.Ythekoefcienipaa
open Go.RowKit

theorem width_pos (s : ByteArray) (i : Nat) : 1 ≤ (Utf8.decode s i).2 := by
  unfold Utf8.decode
  simp only
  (repeat' split) <;> simp
theorem width_le {s : ByteArray} {i : Nat} (_ : i < s.size) : i + (Utf8.decode s i).2 ≤ s.size := by
  unfold Utf8.decode
  simp only [Bool.and_eq_true, decide_eq_true_eq]
  (repeat' split) <;> first | (simp only; omega)
/-- The first place from i on at which no code point stands. -/
def badAt (s : ByteArray) (i : Nat) : Option Nat := if h : i < s.size then (if bad s i then some i else badAt s (i + max 1 (Utf8.decode s i).2)) else none
termination_by s.size - i
decreasing_by omega
theorem badAt_end {s : ByteArray} {i : Nat} (h : ¬ i < s.size) : badAt s i = none := by rw [badAt, dif_neg h]
theorem badAt_here {s : ByteArray} {i : Nat} (h : i < s.size) (hb : bad s i = true) : badAt s i = some i := by rw [badAt, dif_pos h, if_pos hb]
theorem badAt_next {s : ByteArray} {i : Nat} (h : i < s.size) (hb : bad s i = false) : badAt s i = badAt s (i + (Utf8.decode s i).2) := by
  rw [badAt, dif_pos h, if_neg (by rw [hb]; decide), Nat.max_eq_right (width_pos s i)]
def badI (o : Option Nat) : Int := match o with | some i => i | none => -1
theorem iter_lit {W w : World} {k : Nat} {s : ByteArray} {p q : Nat} {e : Array Obj} {d : Nat} (hk : k = w.heap.size) (hW : W = more (w.alloc (.stringIter s p)) e d) : W.iterAt k s q = more (w.alloc (.stringIter s q)) e d := by
  subst hk hW
  unfold World.iterAt more World.alloc
  simp only
  congr 1
  rw [Array.setIfInBounds_append_left (by simp), Array.push_eq_append, Array.push_eq_append, Array.setIfInBounds_append_right (by simp)]
  simp
theorem iter_heap {w : World} {s : ByteArray} {p : Nat} {e : Array Obj} {d : Nat} : (more (w.alloc (.stringIter s p)) e d).heap[w.heap.size]? = some (.stringIter s p) := (more_heap (by simp)).trans (heap_alloc_new w _)
theorem next_any {P : Program} (w : World) (s : ByteArray) (p : Nat) (e : Array Obj) (d : Nat) (h : p < s.size) (ty : TypeId) :
    (Instr.next (.pointer (some ⟨w.heap.size, 0, none⟩)) true ty).run P (more (w.alloc (.stringIter s p)) e d) = .ok (.tuple #[.bool true, .int .i64 p, .int .i32 (Utf8.decode s p).1]) (more (w.alloc (.stringIter s (p + (Utf8.decode s p).2))) e d) := by
  rw [Lib.run_next_any_at _ _ s p ty iter_heap h, iter_lit rfl rfl]
theorem next_end {P : Program} (w : World) (s : ByteArray) (p : Nat) (e : Array Obj) (d : Nat) (h : ¬ p < s.size) (ty : TypeId) :
    (Instr.next (.pointer (some ⟨w.heap.size, 0, none⟩)) true ty).run P (more (w.alloc (.stringIter s p)) e d) = .ok (.tuple #[.bool false]) (more (w.alloc (.stringIter s p)) e d) :=
  Lib.run_next_end_at _ _ s p ty iter_heap h
set_option maxHeartbeats 1000000 in
theorem bad_any {w : World} {s : ByteArray} : Calls Try.prog 21 #[.string s] w fun e w' => e = .returned (.int .i64 (badI (badAt s 0))) ∧ Below w.heap.size w w' := by
  go_enter Try.func21, Try.ntmps21
  go_wp2
  go_loopg [] (s.size + 1) (fun k wr => ∃ (p : Nat) (e : Array Obj) (d : Nat), p + k = s.size + 1 ∧ badAt s 0 = badAt s p ∧ wr = more (w.alloc (.stringIter s p)) e d)
  case atStart =>
    obtain ⟨e, d, h⟩ := more_of (show Below (w.alloc (.stringIter s 0)).heap.size (w.alloc (.stringIter s 0)) (w.iter s 0) from Below.refl _ _)
    exact ⟨0, e, d, by omega, rfl, h⟩
  case round =>
    obtain ⟨p, e, d, hk, hb, rfl⟩ := hrel
    have HB := hid hb
    have HK := hid hk
    clear hb
    by_cases hp : p < s.size
    · have hnx := fun ty => next_any (P := Try.prog) w s p e d hp ty
      have HLE := hid (Nat.le_of_lt hp)
      have HW := hid (width_pos s p)
      have HWL := hid (width_le hp)
      have HPP := hid (And.intro hp trivial)
      clear hk hp
      cases hbd : bad s p with
      | true =>
        have HBD := hid hbd
        go_wp2_with (first | (go_at_call 30; refine (broken_any HLE.out).mono ?_; rintro e w1 ⟨rfl, rfl⟩))
        go_ret
        refine ⟨?_, (by repeat (first | (with_reducible exact Below.refl _ _) | (with_reducible exact bl_mm) | (with_reducible refine bl_dr ?_) | (with_reducible refine bl_drN ?_ _) | (with_reducible refine bl_al ?_ _) | (with_reducible refine bl_more ?_ _ _)))⟩
        rw [HB.out, badAt_here HPP.out.1 HBD.out]
        rfl
      | false =>
        have HBD := hid hbd
        go_wp2_with (first | (go_at_call 30; refine (broken_any HLE.out).mono ?_; rintro e w1 ⟨rfl, rfl⟩))
        go_roundg (s.size + 1 - (p + (Utf8.decode s p).2))
        case measure => have := HK.out; have := HW.out; have := HWL.out; omega
        case rel => exact ⟨p + (Utf8.decode s p).2, _, _, by have := HWL.out; omega, by rw [HB.out]; exact badAt_next HPP.out.1 HBD.out, rfl⟩
    · have hnx := fun ty => next_end (P := Try.prog) w s p e d hp ty
      have HPP := hid (And.intro hp trivial)
      clear hk hp
      go_wp2
      go_ret
      refine ⟨?_, (by repeat (first | (with_reducible exact Below.refl _ _) | (with_reducible exact bl_mm) | (with_reducible refine bl_dr ?_) | (with_reducible refine bl_drN ?_ _) | (with_reducible refine bl_al ?_ _) | (with_reducible refine bl_more ?_ _ _)))⟩
      rw [HB.out, badAt_end HPP.out.1]
      rfl
end Go.Proofs.Ythekoefcienipaa
