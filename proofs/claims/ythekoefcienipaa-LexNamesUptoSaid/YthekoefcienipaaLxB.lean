/- The document's classes of code points; both are one. -/
import Derived.Test.YthekoefcienipaaLxA
namespace Go.Proofs.Ythekoefcienipaa
open Go.RowKit

/-- What a code point is: 0 Other, 1 Letter, 2 Digit, 3 Blank, 4 Mark. -/
def cls (r : Int) : Int :=
  if 128 ≤ r ∨ (97 ≤ r ∧ r ≤ 122) ∨ (65 ≤ r ∧ r ≤ 90) ∨ r = 95 then 1 else if 48 ≤ r ∧ r ≤ 57 then 2 else if r = 9 ∨ r = 10 ∨ r = 13 ∨ r = 32 then 3 else if 33 ≤ r ∧ r ≤ 126 then 4 else 0
def okR (r : Int) : Prop := 0 ≤ r ∧ r ≤ 1114111 ∧ (r < 55296 ∨ 57343 < r)
theorem class_any {w : World} {r : Int} (h : okR r) : Calls Try.prog 28 #[.int .i64 r] w fun e w' => e = .returned (.int .i64 (cls r)) ∧ Below w.heap.size w w' := by
  obtain ⟨h0, h1, h2⟩ := h
  by_cases b0 : r ≤ 8
  · have e : cls r = 0 := by unfold cls; (repeat' split) <;> first | rfl | omega
    rw [e]; exact class_0 (by omega) b0
  by_cases b1 : r ≤ 10
  · have e : cls r = 3 := by unfold cls; (repeat' split) <;> first | rfl | omega
    rw [e]; exact class_1 (by omega) b1
  by_cases b2 : r ≤ 12
  · have e : cls r = 0 := by unfold cls; (repeat' split) <;> first | rfl | omega
    rw [e]; exact class_2 (by omega) b2
  by_cases b3 : r ≤ 13
  · have e : cls r = 3 := by unfold cls; (repeat' split) <;> first | rfl | omega
    rw [e]; exact class_3 (by omega) b3
  by_cases b4 : r ≤ 31
  · have e : cls r = 0 := by unfold cls; (repeat' split) <;> first | rfl | omega
    rw [e]; exact class_4 (by omega) b4
  by_cases b5 : r ≤ 32
  · have e : cls r = 3 := by unfold cls; (repeat' split) <;> first | rfl | omega
    rw [e]; exact class_5 (by omega) b5
  by_cases b6 : r ≤ 47
  · have e : cls r = 4 := by unfold cls; (repeat' split) <;> first | rfl | omega
    rw [e]; exact class_6 (by omega) b6
  by_cases b7 : r ≤ 57
  · have e : cls r = 2 := by unfold cls; (repeat' split) <;> first | rfl | omega
    rw [e]; exact class_7 (by omega) b7
  by_cases b8 : r ≤ 64
  · have e : cls r = 4 := by unfold cls; (repeat' split) <;> first | rfl | omega
    rw [e]; exact class_8 (by omega) b8
  by_cases b9 : r ≤ 90
  · have e : cls r = 1 := by unfold cls; (repeat' split) <;> first | rfl | omega
    rw [e]; exact class_9 (by omega) b9
  by_cases b10 : r ≤ 94
  · have e : cls r = 4 := by unfold cls; (repeat' split) <;> first | rfl | omega
    rw [e]; exact class_10 (by omega) b10
  by_cases b11 : r ≤ 95
  · have e : cls r = 1 := by unfold cls; (repeat' split) <;> first | rfl | omega
    rw [e]; exact class_11 (by omega) b11
  by_cases b12 : r ≤ 96
  · have e : cls r = 4 := by unfold cls; (repeat' split) <;> first | rfl | omega
    rw [e]; exact class_12 (by omega) b12
  by_cases b13 : r ≤ 122
  · have e : cls r = 1 := by unfold cls; (repeat' split) <;> first | rfl | omega
    rw [e]; exact class_13 (by omega) b13
  by_cases b14 : r ≤ 126
  · have e : cls r = 4 := by unfold cls; (repeat' split) <;> first | rfl | omega
    rw [e]; exact class_14 (by omega) b14
  by_cases b15 : r ≤ 127
  · have e : cls r = 0 := by unfold cls; (repeat' split) <;> first | rfl | omega
    rw [e]; exact class_15 (by omega) b15
  have e : cls r = 1 := by unfold cls; (repeat' split) <;> first | rfl | omega
  rw [e]; exact class_16 (by omega) h1 h2
set_option maxHeartbeats 1000000 in
theorem is_any {w : World} {r : Int} (h : okR r) : Calls Try.prog 35 #[.int .i64 r] w fun e w' => e = .returned (.bool true) ∧ w = w' := by
  obtain ⟨h0, h1, h2⟩ := h
  have i1 : decide (0 ≤ r) = true := by simpa using h0
  have i2 : decide (r ≤ 1114111) = true := by simpa using h1
  by_cases h3 : r < 55296
  · have i3 : decide (r < 55296) = true := by simpa using h3
    clear h0 h1 h2 h3
    go_enter Try.func35, Try.ntmps35
    go_wp2
    go_ret
    exact ⟨rfl, rfl⟩
  · have i3 : decide (r < 55296) = false := by simpa using h3
    have i4 : decide (57343 < r) = true := by simp; omega
    clear h0 h1 h2 h3
    go_enter Try.func35, Try.ntmps35
    go_wp2
    go_ret
    exact ⟨rfl, rfl⟩
set_option maxHeartbeats 1000000 in
theorem rclass_0 {w : World} {r : Int} (h : okR r) (h1 : 0 ≤ r) (h2 : r ≤ 8) : Calls Try.prog 25 #[.int .i64 r] w fun e w' => e = .returned (.int .i64 0) ∧ Below w.heap.size w w' := by
  have HR := hid h
  have g128 : decide (128 ≤ r) = false := by simp; omega
  have g97 : decide (97 ≤ r) = false := by simp; omega
  have g65 : decide (65 ≤ r) = false := by simp; omega
  have g48 : decide (48 ≤ r) = false := by simp; omega
  have l122 : decide (r ≤ 122) = true := by simp; omega
  have l90 : decide (r ≤ 90) = true := by simp; omega
  have l57 : decide (r ≤ 57) = true := by simp; omega
  have e95 : (r == 95) = false := by simp; omega
  have e9 : (r == 9) = false := by simp; omega
  have e10 : (r == 10) = false := by simp; omega
  have e13 : (r == 13) = false := by simp; omega
  have e32 : (r == 32) = false := by simp; omega
  have k32 : decide (32 < r) = false := by simp; omega
  have k127 : decide (r < 127) = true := by simp; omega
  clear h h1 h2
  go_enter Try.func25, Try.ntmps25
  go_wp2_with (first | (go_at_call 35; refine (is_any HR.out).mono ?_; rintro e w1 ⟨rfl, rfl⟩))
  go_ret
  exact ⟨rfl, (by repeat (first | (with_reducible exact Below.refl _ _) | (with_reducible exact bl_mm) | (with_reducible refine bl_dr ?_) | (with_reducible refine bl_drN ?_ _) | (with_reducible refine bl_al ?_ _) | (with_reducible refine bl_more ?_ _ _)))⟩
set_option maxHeartbeats 1000000 in
theorem rclass_1 {w : World} {r : Int} (h : okR r) (h1 : 9 ≤ r) (h2 : r ≤ 9) : Calls Try.prog 25 #[.int .i64 r] w fun e w' => e = .returned (.int .i64 3) ∧ Below w.heap.size w w' := by
  have HR := hid h
  have g128 : decide (128 ≤ r) = false := by simp; omega
  have g97 : decide (97 ≤ r) = false := by simp; omega
  have g65 : decide (65 ≤ r) = false := by simp; omega
  have g48 : decide (48 ≤ r) = false := by simp; omega
  have l122 : decide (r ≤ 122) = true := by simp; omega
  have l90 : decide (r ≤ 90) = true := by simp; omega
  have l57 : decide (r ≤ 57) = true := by simp; omega
  have e95 : (r == 95) = false := by simp; omega
  have e9 : (r == 9) = true := by simp; omega
  have e10 : (r == 10) = false := by simp; omega
  have e13 : (r == 13) = false := by simp; omega
  have e32 : (r == 32) = false := by simp; omega
  have k32 : decide (32 < r) = false := by simp; omega
  have k127 : decide (r < 127) = true := by simp; omega
  clear h h1 h2
  go_enter Try.func25, Try.ntmps25
  go_wp2_with (first | (go_at_call 35; refine (is_any HR.out).mono ?_; rintro e w1 ⟨rfl, rfl⟩))
  go_ret
  exact ⟨rfl, (by repeat (first | (with_reducible exact Below.refl _ _) | (with_reducible exact bl_mm) | (with_reducible refine bl_dr ?_) | (with_reducible refine bl_drN ?_ _) | (with_reducible refine bl_al ?_ _) | (with_reducible refine bl_more ?_ _ _)))⟩
set_option maxHeartbeats 1000000 in
theorem rclass_2 {w : World} {r : Int} (h : okR r) (h1 : 10 ≤ r) (h2 : r ≤ 10) : Calls Try.prog 25 #[.int .i64 r] w fun e w' => e = .returned (.int .i64 3) ∧ Below w.heap.size w w' := by
  have HR := hid h
  have g128 : decide (128 ≤ r) = false := by simp; omega
  have g97 : decide (97 ≤ r) = false := by simp; omega
  have g65 : decide (65 ≤ r) = false := by simp; omega
  have g48 : decide (48 ≤ r) = false := by simp; omega
  have l122 : decide (r ≤ 122) = true := by simp; omega
  have l90 : decide (r ≤ 90) = true := by simp; omega
  have l57 : decide (r ≤ 57) = true := by simp; omega
  have e95 : (r == 95) = false := by simp; omega
  have e9 : (r == 9) = false := by simp; omega
  have e10 : (r == 10) = true := by simp; omega
  have e13 : (r == 13) = false := by simp; omega
  have e32 : (r == 32) = false := by simp; omega
  have k32 : decide (32 < r) = false := by simp; omega
  have k127 : decide (r < 127) = true := by simp; omega
  clear h h1 h2
  go_enter Try.func25, Try.ntmps25
  go_wp2_with (first | (go_at_call 35; refine (is_any HR.out).mono ?_; rintro e w1 ⟨rfl, rfl⟩))
  go_ret
  exact ⟨rfl, (by repeat (first | (with_reducible exact Below.refl _ _) | (with_reducible exact bl_mm) | (with_reducible refine bl_dr ?_) | (with_reducible refine bl_drN ?_ _) | (with_reducible refine bl_al ?_ _) | (with_reducible refine bl_more ?_ _ _)))⟩
set_option maxHeartbeats 1000000 in
theorem rclass_3 {w : World} {r : Int} (h : okR r) (h1 : 11 ≤ r) (h2 : r ≤ 12) : Calls Try.prog 25 #[.int .i64 r] w fun e w' => e = .returned (.int .i64 0) ∧ Below w.heap.size w w' := by
  have HR := hid h
  have g128 : decide (128 ≤ r) = false := by simp; omega
  have g97 : decide (97 ≤ r) = false := by simp; omega
  have g65 : decide (65 ≤ r) = false := by simp; omega
  have g48 : decide (48 ≤ r) = false := by simp; omega
  have l122 : decide (r ≤ 122) = true := by simp; omega
  have l90 : decide (r ≤ 90) = true := by simp; omega
  have l57 : decide (r ≤ 57) = true := by simp; omega
  have e95 : (r == 95) = false := by simp; omega
  have e9 : (r == 9) = false := by simp; omega
  have e10 : (r == 10) = false := by simp; omega
  have e13 : (r == 13) = false := by simp; omega
  have e32 : (r == 32) = false := by simp; omega
  have k32 : decide (32 < r) = false := by simp; omega
  have k127 : decide (r < 127) = true := by simp; omega
  clear h h1 h2
  go_enter Try.func25, Try.ntmps25
  go_wp2_with (first | (go_at_call 35; refine (is_any HR.out).mono ?_; rintro e w1 ⟨rfl, rfl⟩))
  go_ret
  exact ⟨rfl, (by repeat (first | (with_reducible exact Below.refl _ _) | (with_reducible exact bl_mm) | (with_reducible refine bl_dr ?_) | (with_reducible refine bl_drN ?_ _) | (with_reducible refine bl_al ?_ _) | (with_reducible refine bl_more ?_ _ _)))⟩
set_option maxHeartbeats 1000000 in
theorem rclass_4 {w : World} {r : Int} (h : okR r) (h1 : 13 ≤ r) (h2 : r ≤ 13) : Calls Try.prog 25 #[.int .i64 r] w fun e w' => e = .returned (.int .i64 3) ∧ Below w.heap.size w w' := by
  have HR := hid h
  have g128 : decide (128 ≤ r) = false := by simp; omega
  have g97 : decide (97 ≤ r) = false := by simp; omega
  have g65 : decide (65 ≤ r) = false := by simp; omega
  have g48 : decide (48 ≤ r) = false := by simp; omega
  have l122 : decide (r ≤ 122) = true := by simp; omega
  have l90 : decide (r ≤ 90) = true := by simp; omega
  have l57 : decide (r ≤ 57) = true := by simp; omega
  have e95 : (r == 95) = false := by simp; omega
  have e9 : (r == 9) = false := by simp; omega
  have e10 : (r == 10) = false := by simp; omega
  have e13 : (r == 13) = true := by simp; omega
  have e32 : (r == 32) = false := by simp; omega
  have k32 : decide (32 < r) = false := by simp; omega
  have k127 : decide (r < 127) = true := by simp; omega
  clear h h1 h2
  go_enter Try.func25, Try.ntmps25
  go_wp2_with (first | (go_at_call 35; refine (is_any HR.out).mono ?_; rintro e w1 ⟨rfl, rfl⟩))
  go_ret
  exact ⟨rfl, (by repeat (first | (with_reducible exact Below.refl _ _) | (with_reducible exact bl_mm) | (with_reducible refine bl_dr ?_) | (with_reducible refine bl_drN ?_ _) | (with_reducible refine bl_al ?_ _) | (with_reducible refine bl_more ?_ _ _)))⟩
set_option maxHeartbeats 1000000 in
theorem rclass_5 {w : World} {r : Int} (h : okR r) (h1 : 14 ≤ r) (h2 : r ≤ 31) : Calls Try.prog 25 #[.int .i64 r] w fun e w' => e = .returned (.int .i64 0) ∧ Below w.heap.size w w' := by
  have HR := hid h
  have g128 : decide (128 ≤ r) = false := by simp; omega
  have g97 : decide (97 ≤ r) = false := by simp; omega
  have g65 : decide (65 ≤ r) = false := by simp; omega
  have g48 : decide (48 ≤ r) = false := by simp; omega
  have l122 : decide (r ≤ 122) = true := by simp; omega
  have l90 : decide (r ≤ 90) = true := by simp; omega
  have l57 : decide (r ≤ 57) = true := by simp; omega
  have e95 : (r == 95) = false := by simp; omega
  have e9 : (r == 9) = false := by simp; omega
  have e10 : (r == 10) = false := by simp; omega
  have e13 : (r == 13) = false := by simp; omega
  have e32 : (r == 32) = false := by simp; omega
  have k32 : decide (32 < r) = false := by simp; omega
  have k127 : decide (r < 127) = true := by simp; omega
  clear h h1 h2
  go_enter Try.func25, Try.ntmps25
  go_wp2_with (first | (go_at_call 35; refine (is_any HR.out).mono ?_; rintro e w1 ⟨rfl, rfl⟩))
  go_ret
  exact ⟨rfl, (by repeat (first | (with_reducible exact Below.refl _ _) | (with_reducible exact bl_mm) | (with_reducible refine bl_dr ?_) | (with_reducible refine bl_drN ?_ _) | (with_reducible refine bl_al ?_ _) | (with_reducible refine bl_more ?_ _ _)))⟩
set_option maxHeartbeats 1000000 in
theorem rclass_6 {w : World} {r : Int} (h : okR r) (h1 : 32 ≤ r) (h2 : r ≤ 32) : Calls Try.prog 25 #[.int .i64 r] w fun e w' => e = .returned (.int .i64 3) ∧ Below w.heap.size w w' := by
  have HR := hid h
  have g128 : decide (128 ≤ r) = false := by simp; omega
  have g97 : decide (97 ≤ r) = false := by simp; omega
  have g65 : decide (65 ≤ r) = false := by simp; omega
  have g48 : decide (48 ≤ r) = false := by simp; omega
  have l122 : decide (r ≤ 122) = true := by simp; omega
  have l90 : decide (r ≤ 90) = true := by simp; omega
  have l57 : decide (r ≤ 57) = true := by simp; omega
  have e95 : (r == 95) = false := by simp; omega
  have e9 : (r == 9) = false := by simp; omega
  have e10 : (r == 10) = false := by simp; omega
  have e13 : (r == 13) = false := by simp; omega
  have e32 : (r == 32) = true := by simp; omega
  have k32 : decide (32 < r) = false := by simp; omega
  have k127 : decide (r < 127) = true := by simp; omega
  clear h h1 h2
  go_enter Try.func25, Try.ntmps25
  go_wp2_with (first | (go_at_call 35; refine (is_any HR.out).mono ?_; rintro e w1 ⟨rfl, rfl⟩))
  go_ret
  exact ⟨rfl, (by repeat (first | (with_reducible exact Below.refl _ _) | (with_reducible exact bl_mm) | (with_reducible refine bl_dr ?_) | (with_reducible refine bl_drN ?_ _) | (with_reducible refine bl_al ?_ _) | (with_reducible refine bl_more ?_ _ _)))⟩
set_option maxHeartbeats 1000000 in
theorem rclass_7 {w : World} {r : Int} (h : okR r) (h1 : 33 ≤ r) (h2 : r ≤ 47) : Calls Try.prog 25 #[.int .i64 r] w fun e w' => e = .returned (.int .i64 4) ∧ Below w.heap.size w w' := by
  have HR := hid h
  have g128 : decide (128 ≤ r) = false := by simp; omega
  have g97 : decide (97 ≤ r) = false := by simp; omega
  have g65 : decide (65 ≤ r) = false := by simp; omega
  have g48 : decide (48 ≤ r) = false := by simp; omega
  have l122 : decide (r ≤ 122) = true := by simp; omega
  have l90 : decide (r ≤ 90) = true := by simp; omega
  have l57 : decide (r ≤ 57) = true := by simp; omega
  have e95 : (r == 95) = false := by simp; omega
  have e9 : (r == 9) = false := by simp; omega
  have e10 : (r == 10) = false := by simp; omega
  have e13 : (r == 13) = false := by simp; omega
  have e32 : (r == 32) = false := by simp; omega
  have k32 : decide (32 < r) = true := by simp; omega
  have k127 : decide (r < 127) = true := by simp; omega
  clear h h1 h2
  go_enter Try.func25, Try.ntmps25
  go_wp2_with (first | (go_at_call 35; refine (is_any HR.out).mono ?_; rintro e w1 ⟨rfl, rfl⟩))
  go_ret
  exact ⟨rfl, (by repeat (first | (with_reducible exact Below.refl _ _) | (with_reducible exact bl_mm) | (with_reducible refine bl_dr ?_) | (with_reducible refine bl_drN ?_ _) | (with_reducible refine bl_al ?_ _) | (with_reducible refine bl_more ?_ _ _)))⟩
set_option maxHeartbeats 1000000 in
theorem rclass_8 {w : World} {r : Int} (h : okR r) (h1 : 48 ≤ r) (h2 : r ≤ 57) : Calls Try.prog 25 #[.int .i64 r] w fun e w' => e = .returned (.int .i64 2) ∧ Below w.heap.size w w' := by
  have HR := hid h
  have g128 : decide (128 ≤ r) = false := by simp; omega
  have g97 : decide (97 ≤ r) = false := by simp; omega
  have g65 : decide (65 ≤ r) = false := by simp; omega
  have g48 : decide (48 ≤ r) = true := by simp; omega
  have l122 : decide (r ≤ 122) = true := by simp; omega
  have l90 : decide (r ≤ 90) = true := by simp; omega
  have l57 : decide (r ≤ 57) = true := by simp; omega
  have e95 : (r == 95) = false := by simp; omega
  have e9 : (r == 9) = false := by simp; omega
  have e10 : (r == 10) = false := by simp; omega
  have e13 : (r == 13) = false := by simp; omega
  have e32 : (r == 32) = false := by simp; omega
  have k32 : decide (32 < r) = true := by simp; omega
  have k127 : decide (r < 127) = true := by simp; omega
  clear h h1 h2
  go_enter Try.func25, Try.ntmps25
  go_wp2_with (first | (go_at_call 35; refine (is_any HR.out).mono ?_; rintro e w1 ⟨rfl, rfl⟩))
  go_ret
  exact ⟨rfl, (by repeat (first | (with_reducible exact Below.refl _ _) | (with_reducible exact bl_mm) | (with_reducible refine bl_dr ?_) | (with_reducible refine bl_drN ?_ _) | (with_reducible refine bl_al ?_ _) | (with_reducible refine bl_more ?_ _ _)))⟩
set_option maxHeartbeats 1000000 in
theorem rclass_9 {w : World} {r : Int} (h : okR r) (h1 : 58 ≤ r) (h2 : r ≤ 64) : Calls Try.prog 25 #[.int .i64 r] w fun e w' => e = .returned (.int .i64 4) ∧ Below w.heap.size w w' := by
  have HR := hid h
  have g128 : decide (128 ≤ r) = false := by simp; omega
  have g97 : decide (97 ≤ r) = false := by simp; omega
  have g65 : decide (65 ≤ r) = false := by simp; omega
  have g48 : decide (48 ≤ r) = true := by simp; omega
  have l122 : decide (r ≤ 122) = true := by simp; omega
  have l90 : decide (r ≤ 90) = true := by simp; omega
  have l57 : decide (r ≤ 57) = false := by simp; omega
  have e95 : (r == 95) = false := by simp; omega
  have e9 : (r == 9) = false := by simp; omega
  have e10 : (r == 10) = false := by simp; omega
  have e13 : (r == 13) = false := by simp; omega
  have e32 : (r == 32) = false := by simp; omega
  have k32 : decide (32 < r) = true := by simp; omega
  have k127 : decide (r < 127) = true := by simp; omega
  clear h h1 h2
  go_enter Try.func25, Try.ntmps25
  go_wp2_with (first | (go_at_call 35; refine (is_any HR.out).mono ?_; rintro e w1 ⟨rfl, rfl⟩))
  go_ret
  exact ⟨rfl, (by repeat (first | (with_reducible exact Below.refl _ _) | (with_reducible exact bl_mm) | (with_reducible refine bl_dr ?_) | (with_reducible refine bl_drN ?_ _) | (with_reducible refine bl_al ?_ _) | (with_reducible refine bl_more ?_ _ _)))⟩
set_option maxHeartbeats 1000000 in
theorem rclass_10 {w : World} {r : Int} (h : okR r) (h1 : 65 ≤ r) (h2 : r ≤ 90) : Calls Try.prog 25 #[.int .i64 r] w fun e w' => e = .returned (.int .i64 1) ∧ Below w.heap.size w w' := by
  have HR := hid h
  have g128 : decide (128 ≤ r) = false := by simp; omega
  have g97 : decide (97 ≤ r) = false := by simp; omega
  have g65 : decide (65 ≤ r) = true := by simp; omega
  have g48 : decide (48 ≤ r) = true := by simp; omega
  have l122 : decide (r ≤ 122) = true := by simp; omega
  have l90 : decide (r ≤ 90) = true := by simp; omega
  have l57 : decide (r ≤ 57) = false := by simp; omega
  have e95 : (r == 95) = false := by simp; omega
  have e9 : (r == 9) = false := by simp; omega
  have e10 : (r == 10) = false := by simp; omega
  have e13 : (r == 13) = false := by simp; omega
  have e32 : (r == 32) = false := by simp; omega
  have k32 : decide (32 < r) = true := by simp; omega
  have k127 : decide (r < 127) = true := by simp; omega
  clear h h1 h2
  go_enter Try.func25, Try.ntmps25
  go_wp2_with (first | (go_at_call 35; refine (is_any HR.out).mono ?_; rintro e w1 ⟨rfl, rfl⟩))
  go_ret
  exact ⟨rfl, (by repeat (first | (with_reducible exact Below.refl _ _) | (with_reducible exact bl_mm) | (with_reducible refine bl_dr ?_) | (with_reducible refine bl_drN ?_ _) | (with_reducible refine bl_al ?_ _) | (with_reducible refine bl_more ?_ _ _)))⟩
set_option maxHeartbeats 1000000 in
theorem rclass_11 {w : World} {r : Int} (h : okR r) (h1 : 91 ≤ r) (h2 : r ≤ 94) : Calls Try.prog 25 #[.int .i64 r] w fun e w' => e = .returned (.int .i64 4) ∧ Below w.heap.size w w' := by
  have HR := hid h
  have g128 : decide (128 ≤ r) = false := by simp; omega
  have g97 : decide (97 ≤ r) = false := by simp; omega
  have g65 : decide (65 ≤ r) = true := by simp; omega
  have g48 : decide (48 ≤ r) = true := by simp; omega
  have l122 : decide (r ≤ 122) = true := by simp; omega
  have l90 : decide (r ≤ 90) = false := by simp; omega
  have l57 : decide (r ≤ 57) = false := by simp; omega
  have e95 : (r == 95) = false := by simp; omega
  have e9 : (r == 9) = false := by simp; omega
  have e10 : (r == 10) = false := by simp; omega
  have e13 : (r == 13) = false := by simp; omega
  have e32 : (r == 32) = false := by simp; omega
  have k32 : decide (32 < r) = true := by simp; omega
  have k127 : decide (r < 127) = true := by simp; omega
  clear h h1 h2
  go_enter Try.func25, Try.ntmps25
  go_wp2_with (first | (go_at_call 35; refine (is_any HR.out).mono ?_; rintro e w1 ⟨rfl, rfl⟩))
  go_ret
  exact ⟨rfl, (by repeat (first | (with_reducible exact Below.refl _ _) | (with_reducible exact bl_mm) | (with_reducible refine bl_dr ?_) | (with_reducible refine bl_drN ?_ _) | (with_reducible refine bl_al ?_ _) | (with_reducible refine bl_more ?_ _ _)))⟩
set_option maxHeartbeats 1000000 in
theorem rclass_12 {w : World} {r : Int} (h : okR r) (h1 : 95 ≤ r) (h2 : r ≤ 95) : Calls Try.prog 25 #[.int .i64 r] w fun e w' => e = .returned (.int .i64 1) ∧ Below w.heap.size w w' := by
  have HR := hid h
  have g128 : decide (128 ≤ r) = false := by simp; omega
  have g97 : decide (97 ≤ r) = false := by simp; omega
  have g65 : decide (65 ≤ r) = true := by simp; omega
  have g48 : decide (48 ≤ r) = true := by simp; omega
  have l122 : decide (r ≤ 122) = true := by simp; omega
  have l90 : decide (r ≤ 90) = false := by simp; omega
  have l57 : decide (r ≤ 57) = false := by simp; omega
  have e95 : (r == 95) = true := by simp; omega
  have e9 : (r == 9) = false := by simp; omega
  have e10 : (r == 10) = false := by simp; omega
  have e13 : (r == 13) = false := by simp; omega
  have e32 : (r == 32) = false := by simp; omega
  have k32 : decide (32 < r) = true := by simp; omega
  have k127 : decide (r < 127) = true := by simp; omega
  clear h h1 h2
  go_enter Try.func25, Try.ntmps25
  go_wp2_with (first | (go_at_call 35; refine (is_any HR.out).mono ?_; rintro e w1 ⟨rfl, rfl⟩))
  go_ret
  exact ⟨rfl, (by repeat (first | (with_reducible exact Below.refl _ _) | (with_reducible exact bl_mm) | (with_reducible refine bl_dr ?_) | (with_reducible refine bl_drN ?_ _) | (with_reducible refine bl_al ?_ _) | (with_reducible refine bl_more ?_ _ _)))⟩
set_option maxHeartbeats 1000000 in
theorem rclass_13 {w : World} {r : Int} (h : okR r) (h1 : 96 ≤ r) (h2 : r ≤ 96) : Calls Try.prog 25 #[.int .i64 r] w fun e w' => e = .returned (.int .i64 4) ∧ Below w.heap.size w w' := by
  have HR := hid h
  have g128 : decide (128 ≤ r) = false := by simp; omega
  have g97 : decide (97 ≤ r) = false := by simp; omega
  have g65 : decide (65 ≤ r) = true := by simp; omega
  have g48 : decide (48 ≤ r) = true := by simp; omega
  have l122 : decide (r ≤ 122) = true := by simp; omega
  have l90 : decide (r ≤ 90) = false := by simp; omega
  have l57 : decide (r ≤ 57) = false := by simp; omega
  have e95 : (r == 95) = false := by simp; omega
  have e9 : (r == 9) = false := by simp; omega
  have e10 : (r == 10) = false := by simp; omega
  have e13 : (r == 13) = false := by simp; omega
  have e32 : (r == 32) = false := by simp; omega
  have k32 : decide (32 < r) = true := by simp; omega
  have k127 : decide (r < 127) = true := by simp; omega
  clear h h1 h2
  go_enter Try.func25, Try.ntmps25
  go_wp2_with (first | (go_at_call 35; refine (is_any HR.out).mono ?_; rintro e w1 ⟨rfl, rfl⟩))
  go_ret
  exact ⟨rfl, (by repeat (first | (with_reducible exact Below.refl _ _) | (with_reducible exact bl_mm) | (with_reducible refine bl_dr ?_) | (with_reducible refine bl_drN ?_ _) | (with_reducible refine bl_al ?_ _) | (with_reducible refine bl_more ?_ _ _)))⟩
set_option maxHeartbeats 1000000 in
theorem rclass_14 {w : World} {r : Int} (h : okR r) (h1 : 97 ≤ r) (h2 : r ≤ 122) : Calls Try.prog 25 #[.int .i64 r] w fun e w' => e = .returned (.int .i64 1) ∧ Below w.heap.size w w' := by
  have HR := hid h
  have g128 : decide (128 ≤ r) = false := by simp; omega
  have g97 : decide (97 ≤ r) = true := by simp; omega
  have g65 : decide (65 ≤ r) = true := by simp; omega
  have g48 : decide (48 ≤ r) = true := by simp; omega
  have l122 : decide (r ≤ 122) = true := by simp; omega
  have l90 : decide (r ≤ 90) = false := by simp; omega
  have l57 : decide (r ≤ 57) = false := by simp; omega
  have e95 : (r == 95) = false := by simp; omega
  have e9 : (r == 9) = false := by simp; omega
  have e10 : (r == 10) = false := by simp; omega
  have e13 : (r == 13) = false := by simp; omega
  have e32 : (r == 32) = false := by simp; omega
  have k32 : decide (32 < r) = true := by simp; omega
  have k127 : decide (r < 127) = true := by simp; omega
  clear h h1 h2
  go_enter Try.func25, Try.ntmps25
  go_wp2_with (first | (go_at_call 35; refine (is_any HR.out).mono ?_; rintro e w1 ⟨rfl, rfl⟩))
  go_ret
  exact ⟨rfl, (by repeat (first | (with_reducible exact Below.refl _ _) | (with_reducible exact bl_mm) | (with_reducible refine bl_dr ?_) | (with_reducible refine bl_drN ?_ _) | (with_reducible refine bl_al ?_ _) | (with_reducible refine bl_more ?_ _ _)))⟩
set_option maxHeartbeats 1000000 in
theorem rclass_15 {w : World} {r : Int} (h : okR r) (h1 : 123 ≤ r) (h2 : r ≤ 126) : Calls Try.prog 25 #[.int .i64 r] w fun e w' => e = .returned (.int .i64 4) ∧ Below w.heap.size w w' := by
  have HR := hid h
  have g128 : decide (128 ≤ r) = false := by simp; omega
  have g97 : decide (97 ≤ r) = true := by simp; omega
  have g65 : decide (65 ≤ r) = true := by simp; omega
  have g48 : decide (48 ≤ r) = true := by simp; omega
  have l122 : decide (r ≤ 122) = false := by simp; omega
  have l90 : decide (r ≤ 90) = false := by simp; omega
  have l57 : decide (r ≤ 57) = false := by simp; omega
  have e95 : (r == 95) = false := by simp; omega
  have e9 : (r == 9) = false := by simp; omega
  have e10 : (r == 10) = false := by simp; omega
  have e13 : (r == 13) = false := by simp; omega
  have e32 : (r == 32) = false := by simp; omega
  have k32 : decide (32 < r) = true := by simp; omega
  have k127 : decide (r < 127) = true := by simp; omega
  clear h h1 h2
  go_enter Try.func25, Try.ntmps25
  go_wp2_with (first | (go_at_call 35; refine (is_any HR.out).mono ?_; rintro e w1 ⟨rfl, rfl⟩))
  go_ret
  exact ⟨rfl, (by repeat (first | (with_reducible exact Below.refl _ _) | (with_reducible exact bl_mm) | (with_reducible refine bl_dr ?_) | (with_reducible refine bl_drN ?_ _) | (with_reducible refine bl_al ?_ _) | (with_reducible refine bl_more ?_ _ _)))⟩
set_option maxHeartbeats 1000000 in
theorem rclass_16 {w : World} {r : Int} (h : okR r) (h1 : 127 ≤ r) (h2 : r ≤ 127) : Calls Try.prog 25 #[.int .i64 r] w fun e w' => e = .returned (.int .i64 0) ∧ Below w.heap.size w w' := by
  have HR := hid h
  have g128 : decide (128 ≤ r) = false := by simp; omega
  have g97 : decide (97 ≤ r) = true := by simp; omega
  have g65 : decide (65 ≤ r) = true := by simp; omega
  have g48 : decide (48 ≤ r) = true := by simp; omega
  have l122 : decide (r ≤ 122) = false := by simp; omega
  have l90 : decide (r ≤ 90) = false := by simp; omega
  have l57 : decide (r ≤ 57) = false := by simp; omega
  have e95 : (r == 95) = false := by simp; omega
  have e9 : (r == 9) = false := by simp; omega
  have e10 : (r == 10) = false := by simp; omega
  have e13 : (r == 13) = false := by simp; omega
  have e32 : (r == 32) = false := by simp; omega
  have k32 : decide (32 < r) = true := by simp; omega
  have k127 : decide (r < 127) = false := by simp; omega
  clear h h1 h2
  go_enter Try.func25, Try.ntmps25
  go_wp2_with (first | (go_at_call 35; refine (is_any HR.out).mono ?_; rintro e w1 ⟨rfl, rfl⟩))
  go_ret
  exact ⟨rfl, (by repeat (first | (with_reducible exact Below.refl _ _) | (with_reducible exact bl_mm) | (with_reducible refine bl_dr ?_) | (with_reducible refine bl_drN ?_ _) | (with_reducible refine bl_al ?_ _) | (with_reducible refine bl_more ?_ _ _)))⟩
set_option maxHeartbeats 1000000 in
theorem rclass_17 {w : World} {r : Int} (h : okR r) (h1 : 128 ≤ r) : Calls Try.prog 25 #[.int .i64 r] w fun e w' => e = .returned (.int .i64 1) ∧ Below w.heap.size w w' := by
  have HR := hid h
  have g128 : decide (128 ≤ r) = true := by simp; omega
  have g97 : decide (97 ≤ r) = true := by simp; omega
  have g65 : decide (65 ≤ r) = true := by simp; omega
  have g48 : decide (48 ≤ r) = true := by simp; omega
  have l122 : decide (r ≤ 122) = false := by simp; omega
  have l90 : decide (r ≤ 90) = false := by simp; omega
  have l57 : decide (r ≤ 57) = false := by simp; omega
  have e95 : (r == 95) = false := by simp; omega
  have e9 : (r == 9) = false := by simp; omega
  have e10 : (r == 10) = false := by simp; omega
  have e13 : (r == 13) = false := by simp; omega
  have e32 : (r == 32) = false := by simp; omega
  have k32 : decide (32 < r) = true := by simp; omega
  have k127 : decide (r < 127) = false := by simp; omega
  clear h h1
  go_enter Try.func25, Try.ntmps25
  go_wp2_with (first | (go_at_call 35; refine (is_any HR.out).mono ?_; rintro e w1 ⟨rfl, rfl⟩))
  go_ret
  exact ⟨rfl, (by repeat (first | (with_reducible exact Below.refl _ _) | (with_reducible exact bl_mm) | (with_reducible refine bl_dr ?_) | (with_reducible refine bl_drN ?_ _) | (with_reducible refine bl_al ?_ _) | (with_reducible refine bl_more ?_ _ _)))⟩
theorem rclass_any {w : World} {r : Int} (h : okR r) : Calls Try.prog 25 #[.int .i64 r] w fun e w' => e = .returned (.int .i64 (cls r)) ∧ Below w.heap.size w w' := by
  obtain ⟨h0, h1, h2⟩ := id h
  by_cases b0 : r ≤ 8
  · have e : cls r = 0 := by unfold cls; (repeat' split) <;> first | rfl | omega
    rw [e]; exact rclass_0 h (by omega) b0
  by_cases b1 : r ≤ 9
  · have e : cls r = 3 := by unfold cls; (repeat' split) <;> first | rfl | omega
    rw [e]; exact rclass_1 h (by omega) b1
  by_cases b2 : r ≤ 10
  · have e : cls r = 3 := by unfold cls; (repeat' split) <;> first | rfl | omega
    rw [e]; exact rclass_2 h (by omega) b2
  by_cases b3 : r ≤ 12
  · have e : cls r = 0 := by unfold cls; (repeat' split) <;> first | rfl | omega
    rw [e]; exact rclass_3 h (by omega) b3
  by_cases b4 : r ≤ 13
  · have e : cls r = 3 := by unfold cls; (repeat' split) <;> first | rfl | omega
    rw [e]; exact rclass_4 h (by omega) b4
  by_cases b5 : r ≤ 31
  · have e : cls r = 0 := by unfold cls; (repeat' split) <;> first | rfl | omega
    rw [e]; exact rclass_5 h (by omega) b5
  by_cases b6 : r ≤ 32
  · have e : cls r = 3 := by unfold cls; (repeat' split) <;> first | rfl | omega
    rw [e]; exact rclass_6 h (by omega) b6
  by_cases b7 : r ≤ 47
  · have e : cls r = 4 := by unfold cls; (repeat' split) <;> first | rfl | omega
    rw [e]; exact rclass_7 h (by omega) b7
  by_cases b8 : r ≤ 57
  · have e : cls r = 2 := by unfold cls; (repeat' split) <;> first | rfl | omega
    rw [e]; exact rclass_8 h (by omega) b8
  by_cases b9 : r ≤ 64
  · have e : cls r = 4 := by unfold cls; (repeat' split) <;> first | rfl | omega
    rw [e]; exact rclass_9 h (by omega) b9
  by_cases b10 : r ≤ 90
  · have e : cls r = 1 := by unfold cls; (repeat' split) <;> first | rfl | omega
    rw [e]; exact rclass_10 h (by omega) b10
  by_cases b11 : r ≤ 94
  · have e : cls r = 4 := by unfold cls; (repeat' split) <;> first | rfl | omega
    rw [e]; exact rclass_11 h (by omega) b11
  by_cases b12 : r ≤ 95
  · have e : cls r = 1 := by unfold cls; (repeat' split) <;> first | rfl | omega
    rw [e]; exact rclass_12 h (by omega) b12
  by_cases b13 : r ≤ 96
  · have e : cls r = 4 := by unfold cls; (repeat' split) <;> first | rfl | omega
    rw [e]; exact rclass_13 h (by omega) b13
  by_cases b14 : r ≤ 122
  · have e : cls r = 1 := by unfold cls; (repeat' split) <;> first | rfl | omega
    rw [e]; exact rclass_14 h (by omega) b14
  by_cases b15 : r ≤ 126
  · have e : cls r = 4 := by unfold cls; (repeat' split) <;> first | rfl | omega
    rw [e]; exact rclass_15 h (by omega) b15
  by_cases b16 : r ≤ 127
  · have e : cls r = 0 := by unfold cls; (repeat' split) <;> first | rfl | omega
    rw [e]; exact rclass_16 h (by omega) b16
  have e : cls r = 1 := by unfold cls; (repeat' split) <;> first | rfl | omega
  rw [e]; exact rclass_17 h (by omega)
end Go.Proofs.Ythekoefcienipaa
