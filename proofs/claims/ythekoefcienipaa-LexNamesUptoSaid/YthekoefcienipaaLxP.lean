/- The document's width and text of a number. -/
import Derived.Test.YthekoefcienipaaLxB
import Derived.IntWalk
namespace Go.Proofs.Ythekoefcienipaa
open Go.RowKit

def isB (r : Int) : Bool := decide (0 ≤ r) && decide (r ≤ 1114111) && (decide (r < 55296) || decide (57343 < r))
def wid (r : Int) : Int := if isB r = true then (if r < 128 then 1 else if r < 2048 then 2 else if r < 65536 then 3 else 4) else 0
set_option maxHeartbeats 1000000 in
theorem isB_any {w : World} {r : Int} : Calls Try.prog 35 #[.int .i64 r] w fun e w' => e = .returned (.bool (isB r)) ∧ w = w' := by
  unfold isB
  cases i1 : decide (0 ≤ r) with
  | false =>
    go_enter Try.func35, Try.ntmps35
    go_wp2
    go_ret
    exact ⟨rfl, rfl⟩
  | true =>
    cases i2 : decide (r ≤ 1114111) with
    | false =>
      go_enter Try.func35, Try.ntmps35
      go_wp2
      go_ret
      exact ⟨rfl, rfl⟩
    | true =>
      cases i3 : decide (r < 55296) with
      | true =>
        go_enter Try.func35, Try.ntmps35
        go_wp2
        go_ret
        exact ⟨rfl, rfl⟩
      | false =>
        cases i4 : decide (57343 < r) with
        | true =>
          go_enter Try.func35, Try.ntmps35
          go_wp2
          go_ret
          exact ⟨rfl, rfl⟩
        | false =>
          go_enter Try.func35, Try.ntmps35
          go_wp2
          go_ret
          exact ⟨rfl, rfl⟩
set_option maxHeartbeats 1000000 in
theorem wid_any {w : World} {r : Int} : Calls Try.prog 44 #[.int .i64 r] w fun e w' => e = .returned (.int .i64 (wid r)) ∧ w = w' := by
  unfold wid
  cases i1 : isB r with
  | false =>
    go_enter Try.func44, Try.ntmps44
    go_wp2_with (first | (go_at_call 35; refine isB_any.mono ?_; rintro e w1 ⟨rfl, rfl⟩))
    go_ret
    exact ⟨rfl, rfl⟩
  | true =>
    rw [if_pos rfl]
    by_cases i2 : r < 128
    · rw [if_pos i2]
      go_enter Try.func44, Try.ntmps44
      go_wp2_with (first | (go_at_call 35; refine isB_any.mono ?_; rintro e w1 ⟨rfl, rfl⟩))
      go_ret
      exact ⟨rfl, rfl⟩
    · rw [if_neg i2]
      by_cases i3 : r < 2048
      · rw [if_pos i3]
        go_enter Try.func44, Try.ntmps44
        go_wp2_with (first | (go_at_call 35; refine isB_any.mono ?_; rintro e w1 ⟨rfl, rfl⟩))
        go_ret
        exact ⟨rfl, rfl⟩
      · rw [if_neg i3]
        by_cases i4 : r < 65536
        · rw [if_pos i4]
          go_enter Try.func44, Try.ntmps44
          go_wp2_with (first | (go_at_call 35; refine isB_any.mono ?_; rintro e w1 ⟨rfl, rfl⟩))
          go_ret
          exact ⟨rfl, rfl⟩
        · rw [if_neg i4]
          go_enter Try.func44, Try.ntmps44
          go_wp2_with (first | (go_at_call 35; refine isB_any.mono ?_; rintro e w1 ⟨rfl, rfl⟩))
          go_ret
          exact ⟨rfl, rfl⟩
end Go.Proofs.Ythekoefcienipaa
