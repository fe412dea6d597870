/- Where no code point stands. -/
import Derived.Test.YthekoefcienipaaLxB
namespace Go.Proofs.Ythekoefcienipaa
open Go.RowKit

/-- No code point stands at i. -/
def bad (s : ByteArray) (i : Nat) : Bool := decide (Utf8.decode s i = (65533, 1))
set_option maxHeartbeats 1000000 in
theorem broken_no {w : World} {s : ByteArray} {i : Nat} {r : Int} (h : r ≠ 65533) : Calls Try.prog 30 #[.string s, .int .i64 i, .int .i32 r] w fun e w' => e = .returned (.bool false) ∧ w = w' := by
  have i1 : (r == 65533) = false := by simpa using h
  clear h
  go_enter Try.func30, Try.ntmps30
  go_wp2
  go_ret
  exact ⟨rfl, rfl⟩
set_option maxHeartbeats 1000000 in
theorem broken_eq {w : World} {s : ByteArray} {i : Nat} (hi : i ≤ s.size) : Calls Try.prog 30 #[.string s, .int .i64 i, .int .i32 65533] w fun e w' => e = .returned (.bool (!(Lib.hasPrefix (s.data.toList.drop i) [239, 191, 189]))) ∧ w = w' := by
  have i1 : (i : Int) ≤ (s.size : Int) := by omega
  have i2 : (0 : Int) ≤ (i : Int) := by omega
  go_enter Try.func30, Try.ntmps30
  go_wp2_with (go_at_call 41; refine (Go.Proofs.Try.strings_HasPrefix _ _ _).mono ?_; rintro e w1 ⟨rfl, rfl⟩)
  go_ret
  refine ⟨?_, rfl⟩
  show Ending.returned (.bool (!Lib.hasPrefix (List.take (s.size - i) (List.drop i s.data.toList)) [239, 191, 189])) = _
  rw [List.take_of_length_le (by rw [List.length_drop]; exact Nat.le_refl _)]
/-! ### in plain Lean -/
theorem get_drop {s : ByteArray} {i k : Nat} (h : i + k < s.size) : (s.data.toList.drop i)[k]? = some (s.get! (i + k)) := by
  have h' : i + k < s.data.size := h
  rw [List.getElem?_drop, Array.getElem?_toList, Array.getElem?_eq_getElem h']
  simp only [ByteArray.get!, Array.getElem!_eq_getD, Array.getD, h', dite_true]
  rfl
theorem pre3 {s : ByteArray} {i : Nat} : Lib.hasPrefix (s.data.toList.drop i) [239, 191, 189] = true ↔ i + 2 < s.size ∧ s.get! (i + 0) = 239 ∧ s.get! (i + 1) = 191 ∧ s.get! (i + 2) = 189 := by
  have hl : (s.data.toList.drop i).length = s.size - i := by rw [List.length_drop]; rfl
  unfold Lib.hasPrefix
  rw [List.isPrefixOf_iff_prefix]
  constructor
  · rintro ⟨t, ht⟩
    have h3 : i + 2 < s.size := by have := congrArg List.length ht; rw [hl] at this; simp at this; omega
    have g0 := get_drop (s := s) (i := i) (k := 0) (by omega)
    have g1 := get_drop (s := s) (i := i) (k := 1) (by omega)
    have g2 := get_drop (s := s) (i := i) (k := 2) (by omega)
    rw [← ht] at g0 g1 g2
    simp only [List.cons_append, List.nil_append, List.getElem?_cons_zero, List.getElem?_cons_succ, Option.some.injEq] at g0 g1 g2
    exact ⟨h3, g0.symm, g1.symm, g2.symm⟩
  · rintro ⟨h3, e0, e1, e2⟩
    refine ⟨(s.data.toList.drop i).drop 3, ?_⟩
    apply List.ext_getElem?
    intro k
    rcases k with _ | _ | _ | k
    · rw [get_drop (by omega), e0]; rfl
    · rw [get_drop (by omega), e1]; rfl
    · rw [get_drop (by omega), e2]; rfl
    · simp only [List.cons_append, List.nil_append, List.getElem?_cons_succ, List.getElem?_drop]
      congr 1; omega
theorem bad_prefix {s : ByteArray} {i : Nat} (h : (Utf8.decode s i).1 = 65533) : (!Lib.hasPrefix (s.data.toList.drop i) [239, 191, 189]) = bad s i := by
  unfold bad
  cases hp : Lib.hasPrefix (s.data.toList.drop i) [239, 191, 189] with
  | true =>
    obtain ⟨h3, e0, e1, e2⟩ := pre3.1 hp
    have e : Utf8.decode s i = (65533, 3) := by
      unfold Utf8.decode
      simp only [e0, e1, e2]
      have a1 : i + 1 < s.size := by omega
      simp [a1, h3, Utf8.valid]
    rw [e]; rfl
  | false =>
    have hn : ¬ (i + 2 < s.size ∧ s.get! (i + 0) = 239 ∧ s.get! (i + 1) = 191 ∧ s.get! (i + 2) = 189) := fun h => by rw [pre3.2 h] at hp; cases hp
    suffices Utf8.decode s i = (65533, 1) by rw [this]; rfl
    unfold Utf8.decode at h ⊢
    simp only [Utf8.runeError] at h ⊢
    have b0 := (s.get! (i + 0)).toNat_lt
    split at h
    · have h : (s.get! (i + 0)).toNat = 65533 := h
      omega
    · rename_i c0
      rw [if_neg c0]
      split at h
      · rename_i c1
        rw [if_pos c1]
        split at h
        · simp at h; omega
        · rename_i c2
          rw [if_neg c2]
      · rename_i c1
        rw [if_neg c1]
        split at h
        · rename_i c2
          rw [if_pos c2]
          split at h
          · exfalso
            simp only [Bool.and_eq_true, beq_iff_eq, decide_eq_true_eq] at c2 h
            obtain ⟨⟨d1, d2, d3⟩, d4, d5⟩ := c2
            exact hn ⟨d4, UInt8.toNat_inj.1 (by show _ = 239; omega), UInt8.toNat_inj.1 (by show _ = 191; omega), UInt8.toNat_inj.1 (by show _ = 189; omega)⟩
          · rename_i c3
            rw [if_neg c3]
        · rename_i c2
          rw [if_neg c2]
          split at h
          · rename_i c3
            rw [if_pos c3]
            split at h
            · rename_i c4
              simp only [Bool.and_eq_true, decide_eq_true_eq] at c4
              have h := Eq.trans (id h) rfl
              simp only at h
              omega
            · rename_i c4
              rw [if_neg c4]
          · rename_i c3
            rw [if_neg c3]
theorem bad_no {s : ByteArray} {i : Nat} (h : (Utf8.decode s i).1 ≠ 65533) : bad s i = false := by
  unfold bad
  exact decide_eq_false (fun e => h (by rw [e]))
theorem broken_any {w : World} {s : ByteArray} {i : Nat} (hi : i ≤ s.size) : Calls Try.prog 30 #[.string s, .int .i64 i, .int .i32 (Utf8.decode s i).1] w fun e w' => e = .returned (.bool (bad s i)) ∧ w = w' := by
  by_cases h : (Utf8.decode s i).1 = 65533
  · rw [h, ← bad_prefix h]
    exact broken_eq hi
  · rw [bad_no h]
    exact broken_no (by omega)
end Go.Proofs.Ythekoefcienipaa
