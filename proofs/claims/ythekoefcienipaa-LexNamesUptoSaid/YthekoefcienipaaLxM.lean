/- Words. -/
import Derived.Test.YthekoefcienipaaLxL
namespace Go.Proofs.Ythekoefcienipaa
open Go.RowKit

abbrev wd0 : ByteArray := { data := #[115, 97, 103, 97] }
abbrev wd1 : ByteArray := { data := #[115, 116, 101, 112] }
abbrev wd2 : ByteArray := { data := #[115, 117, 98] }
abbrev wd3 : ByteArray := { data := #[117, 110, 100, 111] }
abbrev wd4 : ByteArray := { data := #[97, 102, 116, 101, 114] }
abbrev wd5 : ByteArray := { data := #[118, 105, 116, 97, 108] }
abbrev wd6 : ByteArray := { data := #[108, 111, 111, 115, 101] }
abbrev wd7 : ByteArray := { data := #[111, 114] }
def wordB (s : ByteArray) : Bool := decide (s = wd0) || decide (s = wd1) || decide (s = wd2) || decide (s = wd3) || decide (s = wd4) || decide (s = wd5) || decide (s = wd6) || decide (s = wd7)
set_option maxHeartbeats 1000000 in
theorem word_any {w : World} {s : ByteArray} : Calls Try.prog 15 #[.string s] w fun e w' => e = .returned (.bool (wordB s)) ∧ w = w' := by
  by_cases b0 : s = wd0
  · subst b0
    go_enter Try.func15, Try.ntmps15
    go_wp2
    go_ret
    exact ⟨rfl, rfl⟩
  by_cases b1 : s = wd1
  · subst b1
    go_enter Try.func15, Try.ntmps15
    go_wp2
    go_ret
    exact ⟨rfl, rfl⟩
  by_cases b2 : s = wd2
  · subst b2
    go_enter Try.func15, Try.ntmps15
    go_wp2
    go_ret
    exact ⟨rfl, rfl⟩
  by_cases b3 : s = wd3
  · subst b3
    go_enter Try.func15, Try.ntmps15
    go_wp2
    go_ret
    exact ⟨rfl, rfl⟩
  by_cases b4 : s = wd4
  · subst b4
    go_enter Try.func15, Try.ntmps15
    go_wp2
    go_ret
    exact ⟨rfl, rfl⟩
  by_cases b5 : s = wd5
  · subst b5
    go_enter Try.func15, Try.ntmps15
    go_wp2
    go_ret
    exact ⟨rfl, rfl⟩
  by_cases b6 : s = wd6
  · subst b6
    go_enter Try.func15, Try.ntmps15
    go_wp2
    go_ret
    exact ⟨rfl, rfl⟩
  by_cases b7 : s = wd7
  · subst b7
    go_enter Try.func15, Try.ntmps15
    go_wp2
    go_ret
    exact ⟨rfl, rfl⟩
  have e : wordB s = false := by unfold wordB; simp only [b0, b1, b2, b3, b4, b5, b6, b7]; rfl
  have c0 : (s.toList == [115, 97, 103, 97]) = false := by rw [beq_eq_false_iff_ne]; exact fun h => b0 (ByteArray.ext (Array.ext' (by rw [← ByteArray.toList_eq]; exact h)))
  have c1 : (s.toList == [115, 116, 101, 112]) = false := by rw [beq_eq_false_iff_ne]; exact fun h => b1 (ByteArray.ext (Array.ext' (by rw [← ByteArray.toList_eq]; exact h)))
  have c2 : (s.toList == [115, 117, 98]) = false := by rw [beq_eq_false_iff_ne]; exact fun h => b2 (ByteArray.ext (Array.ext' (by rw [← ByteArray.toList_eq]; exact h)))
  have c3 : (s.toList == [117, 110, 100, 111]) = false := by rw [beq_eq_false_iff_ne]; exact fun h => b3 (ByteArray.ext (Array.ext' (by rw [← ByteArray.toList_eq]; exact h)))
  have c4 : (s.toList == [97, 102, 116, 101, 114]) = false := by rw [beq_eq_false_iff_ne]; exact fun h => b4 (ByteArray.ext (Array.ext' (by rw [← ByteArray.toList_eq]; exact h)))
  have c5 : (s.toList == [118, 105, 116, 97, 108]) = false := by rw [beq_eq_false_iff_ne]; exact fun h => b5 (ByteArray.ext (Array.ext' (by rw [← ByteArray.toList_eq]; exact h)))
  have c6 : (s.toList == [108, 111, 111, 115, 101]) = false := by rw [beq_eq_false_iff_ne]; exact fun h => b6 (ByteArray.ext (Array.ext' (by rw [← ByteArray.toList_eq]; exact h)))
  have c7 : (s.toList == [111, 114]) = false := by rw [beq_eq_false_iff_ne]; exact fun h => b7 (ByteArray.ext (Array.ext' (by rw [← ByteArray.toList_eq]; exact h)))
  clear b0 b1 b2 b3 b4 b5 b6 b7
  rw [e]
  clear e
  go_enter Try.func15, Try.ntmps15
  go_wp2
  go_ret
  exact ⟨rfl, rfl⟩
end Go.Proofs.Ythekoefcienipaa
