/- What a code point is. -/
import Derived.Test.YthekoefcienipaaOpen
import Derived.Test.YthekoefcienipaaArr
import Derived.Test.YthekoefcienipaaShelf
import Derived.Lib.Small
namespace Go.Proofs.Ythekoefcienipaa
open Go.RowKit

set_option maxHeartbeats 1000000 in
theorem width_any {w : World} {r : Int} (h0 : 0 ≤ r) (h1 : r ≤ 1114111) (hv : 1 ≤ Lib.runeLen r) : Calls Try.prog 37 #[.int .i64 r] w fun e w' => e = .returned (.int .i64 (Lib.runeLen r)) ∧ w' = w := by
  have i1 : ¬ r < 0 := by omega
  have i2 : ¬ 1114111 < r := by omega
  have y1 : IntKind.i32.wrap r = r := by unfold IntKind.wrap; simp [IntKind.bits, IntKind.signed]; omega
  have y2 : max 0 (Lib.runeLen r) = Lib.runeLen r := by omega
  clear h0 h1
  go_enter Try.func37, Try.ntmps37
  go_wp2_with (go_at_call 45; refine (Go.Proofs.Try.utf8_RuneLen r _).mono ?_; rintro e w1 ⟨rfl, rfl⟩)
  go_ret
  exact ⟨rfl, rfl⟩
set_option maxHeartbeats 1000000 in
theorem class_0 {w : World} {r : Int} (h1 : 0 ≤ r) (h2 : r ≤ 8) : Calls Try.prog 28 #[.int .i64 r] w fun e w' => e = .returned (.int .i64 0) ∧ Below w.heap.size w w' := by
  have hv : 1 ≤ Lib.runeLen r := by unfold Lib.runeLen; repeat' split
                                    all_goals omega
  have HR := hid (show 0 ≤ r ∧ r ≤ 1114111 by omega)
  have g128 : decide (128 ≤ r) = false := by simp; omega
  have g97 : decide (97 ≤ r) = false := by simp; omega
  have g65 : decide (65 ≤ r) = false := by simp; omega
  have g48 : decide (48 ≤ r) = false := by simp; omega
  have g9 : decide (9 ≤ r) = false := by simp; omega
  have g33 : decide (33 ≤ r) = false := by simp; omega
  have l122 : decide (r ≤ 122) = true := by simp; omega
  have l90 : decide (r ≤ 90) = true := by simp; omega
  have l57 : decide (r ≤ 57) = true := by simp; omega
  have l10 : decide (r ≤ 10) = true := by simp; omega
  have l126 : decide (r ≤ 126) = true := by simp; omega
  have e95 : (r == 95) = false := by simp; omega
  have e13 : (r == 13) = false := by simp; omega
  have e32 : (r == 32) = false := by simp; omega
  clear h1 h2
  go_enter Try.func28, Try.ntmps28
  go_wp2_with (first | (go_at_call 37; refine (width_any HR.out.1 HR.out.2 hv).mono ?_; rintro e w1 ⟨rfl, rfl⟩) | (go_at_call 36; go_in))
  go_ret
  exact ⟨rfl, (by repeat (first | (with_reducible exact Below.refl _ _) | (with_reducible exact bl_mm) | (with_reducible refine bl_dr ?_) | (with_reducible refine bl_drN ?_ _) | (with_reducible refine bl_al ?_ _) | (with_reducible refine bl_more ?_ _ _)))⟩
set_option maxHeartbeats 1000000 in
theorem class_1 {w : World} {r : Int} (h1 : 9 ≤ r) (h2 : r ≤ 10) : Calls Try.prog 28 #[.int .i64 r] w fun e w' => e = .returned (.int .i64 3) ∧ Below w.heap.size w w' := by
  have hv : 1 ≤ Lib.runeLen r := by unfold Lib.runeLen; repeat' split
                                    all_goals omega
  have HR := hid (show 0 ≤ r ∧ r ≤ 1114111 by omega)
  have g128 : decide (128 ≤ r) = false := by simp; omega
  have g97 : decide (97 ≤ r) = false := by simp; omega
  have g65 : decide (65 ≤ r) = false := by simp; omega
  have g48 : decide (48 ≤ r) = false := by simp; omega
  have g9 : decide (9 ≤ r) = true := by simp; omega
  have g33 : decide (33 ≤ r) = false := by simp; omega
  have l122 : decide (r ≤ 122) = true := by simp; omega
  have l90 : decide (r ≤ 90) = true := by simp; omega
  have l57 : decide (r ≤ 57) = true := by simp; omega
  have l10 : decide (r ≤ 10) = true := by simp; omega
  have l126 : decide (r ≤ 126) = true := by simp; omega
  have e95 : (r == 95) = false := by simp; omega
  have e13 : (r == 13) = false := by simp; omega
  have e32 : (r == 32) = false := by simp; omega
  clear h1 h2
  go_enter Try.func28, Try.ntmps28
  go_wp2_with (first | (go_at_call 37; refine (width_any HR.out.1 HR.out.2 hv).mono ?_; rintro e w1 ⟨rfl, rfl⟩) | (go_at_call 36; go_in))
  go_ret
  exact ⟨rfl, (by repeat (first | (with_reducible exact Below.refl _ _) | (with_reducible exact bl_mm) | (with_reducible refine bl_dr ?_) | (with_reducible refine bl_drN ?_ _) | (with_reducible refine bl_al ?_ _) | (with_reducible refine bl_more ?_ _ _)))⟩
set_option maxHeartbeats 1000000 in
theorem class_2 {w : World} {r : Int} (h1 : 11 ≤ r) (h2 : r ≤ 12) : Calls Try.prog 28 #[.int .i64 r] w fun e w' => e = .returned (.int .i64 0) ∧ Below w.heap.size w w' := by
  have hv : 1 ≤ Lib.runeLen r := by unfold Lib.runeLen; repeat' split
                                    all_goals omega
  have HR := hid (show 0 ≤ r ∧ r ≤ 1114111 by omega)
  have g128 : decide (128 ≤ r) = false := by simp; omega
  have g97 : decide (97 ≤ r) = false := by simp; omega
  have g65 : decide (65 ≤ r) = false := by simp; omega
  have g48 : decide (48 ≤ r) = false := by simp; omega
  have g9 : decide (9 ≤ r) = true := by simp; omega
  have g33 : decide (33 ≤ r) = false := by simp; omega
  have l122 : decide (r ≤ 122) = true := by simp; omega
  have l90 : decide (r ≤ 90) = true := by simp; omega
  have l57 : decide (r ≤ 57) = true := by simp; omega
  have l10 : decide (r ≤ 10) = false := by simp; omega
  have l126 : decide (r ≤ 126) = true := by simp; omega
  have e95 : (r == 95) = false := by simp; omega
  have e13 : (r == 13) = false := by simp; omega
  have e32 : (r == 32) = false := by simp; omega
  clear h1 h2
  go_enter Try.func28, Try.ntmps28
  go_wp2_with (first | (go_at_call 37; refine (width_any HR.out.1 HR.out.2 hv).mono ?_; rintro e w1 ⟨rfl, rfl⟩) | (go_at_call 36; go_in))
  go_ret
  exact ⟨rfl, (by repeat (first | (with_reducible exact Below.refl _ _) | (with_reducible exact bl_mm) | (with_reducible refine bl_dr ?_) | (with_reducible refine bl_drN ?_ _) | (with_reducible refine bl_al ?_ _) | (with_reducible refine bl_more ?_ _ _)))⟩
set_option maxHeartbeats 1000000 in
theorem class_3 {w : World} {r : Int} (h1 : 13 ≤ r) (h2 : r ≤ 13) : Calls Try.prog 28 #[.int .i64 r] w fun e w' => e = .returned (.int .i64 3) ∧ Below w.heap.size w w' := by
  have hv : 1 ≤ Lib.runeLen r := by unfold Lib.runeLen; repeat' split
                                    all_goals omega
  have HR := hid (show 0 ≤ r ∧ r ≤ 1114111 by omega)
  have g128 : decide (128 ≤ r) = false := by simp; omega
  have g97 : decide (97 ≤ r) = false := by simp; omega
  have g65 : decide (65 ≤ r) = false := by simp; omega
  have g48 : decide (48 ≤ r) = false := by simp; omega
  have g9 : decide (9 ≤ r) = true := by simp; omega
  have g33 : decide (33 ≤ r) = false := by simp; omega
  have l122 : decide (r ≤ 122) = true := by simp; omega
  have l90 : decide (r ≤ 90) = true := by simp; omega
  have l57 : decide (r ≤ 57) = true := by simp; omega
  have l10 : decide (r ≤ 10) = false := by simp; omega
  have l126 : decide (r ≤ 126) = true := by simp; omega
  have e95 : (r == 95) = false := by simp; omega
  have e13 : (r == 13) = true := by simp; omega
  have e32 : (r == 32) = false := by simp; omega
  clear h1 h2
  go_enter Try.func28, Try.ntmps28
  go_wp2_with (first | (go_at_call 37; refine (width_any HR.out.1 HR.out.2 hv).mono ?_; rintro e w1 ⟨rfl, rfl⟩) | (go_at_call 36; go_in))
  go_ret
  exact ⟨rfl, (by repeat (first | (with_reducible exact Below.refl _ _) | (with_reducible exact bl_mm) | (with_reducible refine bl_dr ?_) | (with_reducible refine bl_drN ?_ _) | (with_reducible refine bl_al ?_ _) | (with_reducible refine bl_more ?_ _ _)))⟩
set_option maxHeartbeats 1000000 in
theorem class_4 {w : World} {r : Int} (h1 : 14 ≤ r) (h2 : r ≤ 31) : Calls Try.prog 28 #[.int .i64 r] w fun e w' => e = .returned (.int .i64 0) ∧ Below w.heap.size w w' := by
  have hv : 1 ≤ Lib.runeLen r := by unfold Lib.runeLen; repeat' split
                                    all_goals omega
  have HR := hid (show 0 ≤ r ∧ r ≤ 1114111 by omega)
  have g128 : decide (128 ≤ r) = false := by simp; omega
  have g97 : decide (97 ≤ r) = false := by simp; omega
  have g65 : decide (65 ≤ r) = false := by simp; omega
  have g48 : decide (48 ≤ r) = false := by simp; omega
  have g9 : decide (9 ≤ r) = true := by simp; omega
  have g33 : decide (33 ≤ r) = false := by simp; omega
  have l122 : decide (r ≤ 122) = true := by simp; omega
  have l90 : decide (r ≤ 90) = true := by simp; omega
  have l57 : decide (r ≤ 57) = true := by simp; omega
  have l10 : decide (r ≤ 10) = false := by simp; omega
  have l126 : decide (r ≤ 126) = true := by simp; omega
  have e95 : (r == 95) = false := by simp; omega
  have e13 : (r == 13) = false := by simp; omega
  have e32 : (r == 32) = false := by simp; omega
  clear h1 h2
  go_enter Try.func28, Try.ntmps28
  go_wp2_with (first | (go_at_call 37; refine (width_any HR.out.1 HR.out.2 hv).mono ?_; rintro e w1 ⟨rfl, rfl⟩) | (go_at_call 36; go_in))
  go_ret
  exact ⟨rfl, (by repeat (first | (with_reducible exact Below.refl _ _) | (with_reducible exact bl_mm) | (with_reducible refine bl_dr ?_) | (with_reducible refine bl_drN ?_ _) | (with_reducible refine bl_al ?_ _) | (with_reducible refine bl_more ?_ _ _)))⟩
set_option maxHeartbeats 1000000 in
theorem class_5 {w : World} {r : Int} (h1 : 32 ≤ r) (h2 : r ≤ 32) : Calls Try.prog 28 #[.int .i64 r] w fun e w' => e = .returned (.int .i64 3) ∧ Below w.heap.size w w' := by
  have hv : 1 ≤ Lib.runeLen r := by unfold Lib.runeLen; repeat' split
                                    all_goals omega
  have HR := hid (show 0 ≤ r ∧ r ≤ 1114111 by omega)
  have g128 : decide (128 ≤ r) = false := by simp; omega
  have g97 : decide (97 ≤ r) = false := by simp; omega
  have g65 : decide (65 ≤ r) = false := by simp; omega
  have g48 : decide (48 ≤ r) = false := by simp; omega
  have g9 : decide (9 ≤ r) = true := by simp; omega
  have g33 : decide (33 ≤ r) = false := by simp; omega
  have l122 : decide (r ≤ 122) = true := by simp; omega
  have l90 : decide (r ≤ 90) = true := by simp; omega
  have l57 : decide (r ≤ 57) = true := by simp; omega
  have l10 : decide (r ≤ 10) = false := by simp; omega
  have l126 : decide (r ≤ 126) = true := by simp; omega
  have e95 : (r == 95) = false := by simp; omega
  have e13 : (r == 13) = false := by simp; omega
  have e32 : (r == 32) = true := by simp; omega
  clear h1 h2
  go_enter Try.func28, Try.ntmps28
  go_wp2_with (first | (go_at_call 37; refine (width_any HR.out.1 HR.out.2 hv).mono ?_; rintro e w1 ⟨rfl, rfl⟩) | (go_at_call 36; go_in))
  go_ret
  exact ⟨rfl, (by repeat (first | (with_reducible exact Below.refl _ _) | (with_reducible exact bl_mm) | (with_reducible refine bl_dr ?_) | (with_reducible refine bl_drN ?_ _) | (with_reducible refine bl_al ?_ _) | (with_reducible refine bl_more ?_ _ _)))⟩
set_option maxHeartbeats 1000000 in
theorem class_6 {w : World} {r : Int} (h1 : 33 ≤ r) (h2 : r ≤ 47) : Calls Try.prog 28 #[.int .i64 r] w fun e w' => e = .returned (.int .i64 4) ∧ Below w.heap.size w w' := by
  have hv : 1 ≤ Lib.runeLen r := by unfold Lib.runeLen; repeat' split
                                    all_goals omega
  have HR := hid (show 0 ≤ r ∧ r ≤ 1114111 by omega)
  have g128 : decide (128 ≤ r) = false := by simp; omega
  have g97 : decide (97 ≤ r) = false := by simp; omega
  have g65 : decide (65 ≤ r) = false := by simp; omega
  have g48 : decide (48 ≤ r) = false := by simp; omega
  have g9 : decide (9 ≤ r) = true := by simp; omega
  have g33 : decide (33 ≤ r) = true := by simp; omega
  have l122 : decide (r ≤ 122) = true := by simp; omega
  have l90 : decide (r ≤ 90) = true := by simp; omega
  have l57 : decide (r ≤ 57) = true := by simp; omega
  have l10 : decide (r ≤ 10) = false := by simp; omega
  have l126 : decide (r ≤ 126) = true := by simp; omega
  have e95 : (r == 95) = false := by simp; omega
  have e13 : (r == 13) = false := by simp; omega
  have e32 : (r == 32) = false := by simp; omega
  clear h1 h2
  go_enter Try.func28, Try.ntmps28
  go_wp2_with (first | (go_at_call 37; refine (width_any HR.out.1 HR.out.2 hv).mono ?_; rintro e w1 ⟨rfl, rfl⟩) | (go_at_call 36; go_in))
  go_ret
  exact ⟨rfl, (by repeat (first | (with_reducible exact Below.refl _ _) | (with_reducible exact bl_mm) | (with_reducible refine bl_dr ?_) | (with_reducible refine bl_drN ?_ _) | (with_reducible refine bl_al ?_ _) | (with_reducible refine bl_more ?_ _ _)))⟩
set_option maxHeartbeats 1000000 in
theorem class_7 {w : World} {r : Int} (h1 : 48 ≤ r) (h2 : r ≤ 57) : Calls Try.prog 28 #[.int .i64 r] w fun e w' => e = .returned (.int .i64 2) ∧ Below w.heap.size w w' := by
  have hv : 1 ≤ Lib.runeLen r := by unfold Lib.runeLen; repeat' split
                                    all_goals omega
  have HR := hid (show 0 ≤ r ∧ r ≤ 1114111 by omega)
  have g128 : decide (128 ≤ r) = false := by simp; omega
  have g97 : decide (97 ≤ r) = false := by simp; omega
  have g65 : decide (65 ≤ r) = false := by simp; omega
  have g48 : decide (48 ≤ r) = true := by simp; omega
  have g9 : decide (9 ≤ r) = true := by simp; omega
  have g33 : decide (33 ≤ r) = true := by simp; omega
  have l122 : decide (r ≤ 122) = true := by simp; omega
  have l90 : decide (r ≤ 90) = true := by simp; omega
  have l57 : decide (r ≤ 57) = true := by simp; omega
  have l10 : decide (r ≤ 10) = false := by simp; omega
  have l126 : decide (r ≤ 126) = true := by simp; omega
  have e95 : (r == 95) = false := by simp; omega
  have e13 : (r == 13) = false := by simp; omega
  have e32 : (r == 32) = false := by simp; omega
  clear h1 h2
  go_enter Try.func28, Try.ntmps28
  go_wp2_with (first | (go_at_call 37; refine (width_any HR.out.1 HR.out.2 hv).mono ?_; rintro e w1 ⟨rfl, rfl⟩) | (go_at_call 36; go_in))
  go_ret
  exact ⟨rfl, (by repeat (first | (with_reducible exact Below.refl _ _) | (with_reducible exact bl_mm) | (with_reducible refine bl_dr ?_) | (with_reducible refine bl_drN ?_ _) | (with_reducible refine bl_al ?_ _) | (with_reducible refine bl_more ?_ _ _)))⟩
set_option maxHeartbeats 1000000 in
theorem class_8 {w : World} {r : Int} (h1 : 58 ≤ r) (h2 : r ≤ 64) : Calls Try.prog 28 #[.int .i64 r] w fun e w' => e = .returned (.int .i64 4) ∧ Below w.heap.size w w' := by
  have hv : 1 ≤ Lib.runeLen r := by unfold Lib.runeLen; repeat' split
                                    all_goals omega
  have HR := hid (show 0 ≤ r ∧ r ≤ 1114111 by omega)
  have g128 : decide (128 ≤ r) = false := by simp; omega
  have g97 : decide (97 ≤ r) = false := by simp; omega
  have g65 : decide (65 ≤ r) = false := by simp; omega
  have g48 : decide (48 ≤ r) = true := by simp; omega
  have g9 : decide (9 ≤ r) = true := by simp; omega
  have g33 : decide (33 ≤ r) = true := by simp; omega
  have l122 : decide (r ≤ 122) = true := by simp; omega
  have l90 : decide (r ≤ 90) = true := by simp; omega
  have l57 : decide (r ≤ 57) = false := by simp; omega
  have l10 : decide (r ≤ 10) = false := by simp; omega
  have l126 : decide (r ≤ 126) = true := by simp; omega
  have e95 : (r == 95) = false := by simp; omega
  have e13 : (r == 13) = false := by simp; omega
  have e32 : (r == 32) = false := by simp; omega
  clear h1 h2
  go_enter Try.func28, Try.ntmps28
  go_wp2_with (first | (go_at_call 37; refine (width_any HR.out.1 HR.out.2 hv).mono ?_; rintro e w1 ⟨rfl, rfl⟩) | (go_at_call 36; go_in))
  go_ret
  exact ⟨rfl, (by repeat (first | (with_reducible exact Below.refl _ _) | (with_reducible exact bl_mm) | (with_reducible refine bl_dr ?_) | (with_reducible refine bl_drN ?_ _) | (with_reducible refine bl_al ?_ _) | (with_reducible refine bl_more ?_ _ _)))⟩
set_option maxHeartbeats 1000000 in
theorem class_9 {w : World} {r : Int} (h1 : 65 ≤ r) (h2 : r ≤ 90) : Calls Try.prog 28 #[.int .i64 r] w fun e w' => e = .returned (.int .i64 1) ∧ Below w.heap.size w w' := by
  have hv : 1 ≤ Lib.runeLen r := by unfold Lib.runeLen; repeat' split
                                    all_goals omega
  have HR := hid (show 0 ≤ r ∧ r ≤ 1114111 by omega)
  have g128 : decide (128 ≤ r) = false := by simp; omega
  have g97 : decide (97 ≤ r) = false := by simp; omega
  have g65 : decide (65 ≤ r) = true := by simp; omega
  have g48 : decide (48 ≤ r) = true := by simp; omega
  have g9 : decide (9 ≤ r) = true := by simp; omega
  have g33 : decide (33 ≤ r) = true := by simp; omega
  have l122 : decide (r ≤ 122) = true := by simp; omega
  have l90 : decide (r ≤ 90) = true := by simp; omega
  have l57 : decide (r ≤ 57) = false := by simp; omega
  have l10 : decide (r ≤ 10) = false := by simp; omega
  have l126 : decide (r ≤ 126) = true := by simp; omega
  have e95 : (r == 95) = false := by simp; omega
  have e13 : (r == 13) = false := by simp; omega
  have e32 : (r == 32) = false := by simp; omega
  clear h1 h2
  go_enter Try.func28, Try.ntmps28
  go_wp2_with (first | (go_at_call 37; refine (width_any HR.out.1 HR.out.2 hv).mono ?_; rintro e w1 ⟨rfl, rfl⟩) | (go_at_call 36; go_in))
  go_ret
  exact ⟨rfl, (by repeat (first | (with_reducible exact Below.refl _ _) | (with_reducible exact bl_mm) | (with_reducible refine bl_dr ?_) | (with_reducible refine bl_drN ?_ _) | (with_reducible refine bl_al ?_ _) | (with_reducible refine bl_more ?_ _ _)))⟩
set_option maxHeartbeats 1000000 in
theorem class_10 {w : World} {r : Int} (h1 : 91 ≤ r) (h2 : r ≤ 94) : Calls Try.prog 28 #[.int .i64 r] w fun e w' => e = .returned (.int .i64 4) ∧ Below w.heap.size w w' := by
  have hv : 1 ≤ Lib.runeLen r := by unfold Lib.runeLen; repeat' split
                                    all_goals omega
  have HR := hid (show 0 ≤ r ∧ r ≤ 1114111 by omega)
  have g128 : decide (128 ≤ r) = false := by simp; omega
  have g97 : decide (97 ≤ r) = false := by simp; omega
  have g65 : decide (65 ≤ r) = true := by simp; omega
  have g48 : decide (48 ≤ r) = true := by simp; omega
  have g9 : decide (9 ≤ r) = true := by simp; omega
  have g33 : decide (33 ≤ r) = true := by simp; omega
  have l122 : decide (r ≤ 122) = true := by simp; omega
  have l90 : decide (r ≤ 90) = false := by simp; omega
  have l57 : decide (r ≤ 57) = false := by simp; omega
  have l10 : decide (r ≤ 10) = false := by simp; omega
  have l126 : decide (r ≤ 126) = true := by simp; omega
  have e95 : (r == 95) = false := by simp; omega
  have e13 : (r == 13) = false := by simp; omega
  have e32 : (r == 32) = false := by simp; omega
  clear h1 h2
  go_enter Try.func28, Try.ntmps28
  go_wp2_with (first | (go_at_call 37; refine (width_any HR.out.1 HR.out.2 hv).mono ?_; rintro e w1 ⟨rfl, rfl⟩) | (go_at_call 36; go_in))
  go_ret
  exact ⟨rfl, (by repeat (first | (with_reducible exact Below.refl _ _) | (with_reducible exact bl_mm) | (with_reducible refine bl_dr ?_) | (with_reducible refine bl_drN ?_ _) | (with_reducible refine bl_al ?_ _) | (with_reducible refine bl_more ?_ _ _)))⟩
set_option maxHeartbeats 1000000 in
theorem class_11 {w : World} {r : Int} (h1 : 95 ≤ r) (h2 : r ≤ 95) : Calls Try.prog 28 #[.int .i64 r] w fun e w' => e = .returned (.int .i64 1) ∧ Below w.heap.size w w' := by
  have hv : 1 ≤ Lib.runeLen r := by unfold Lib.runeLen; repeat' split
                                    all_goals omega
  have HR := hid (show 0 ≤ r ∧ r ≤ 1114111 by omega)
  have g128 : decide (128 ≤ r) = false := by simp; omega
  have g97 : decide (97 ≤ r) = false := by simp; omega
  have g65 : decide (65 ≤ r) = true := by simp; omega
  have g48 : decide (48 ≤ r) = true := by simp; omega
  have g9 : decide (9 ≤ r) = true := by simp; omega
  have g33 : decide (33 ≤ r) = true := by simp; omega
  have l122 : decide (r ≤ 122) = true := by simp; omega
  have l90 : decide (r ≤ 90) = false := by simp; omega
  have l57 : decide (r ≤ 57) = false := by simp; omega
  have l10 : decide (r ≤ 10) = false := by simp; omega
  have l126 : decide (r ≤ 126) = true := by simp; omega
  have e95 : (r == 95) = true := by simp; omega
  have e13 : (r == 13) = false := by simp; omega
  have e32 : (r == 32) = false := by simp; omega
  clear h1 h2
  go_enter Try.func28, Try.ntmps28
  go_wp2_with (first | (go_at_call 37; refine (width_any HR.out.1 HR.out.2 hv).mono ?_; rintro e w1 ⟨rfl, rfl⟩) | (go_at_call 36; go_in))
  go_ret
  exact ⟨rfl, (by repeat (first | (with_reducible exact Below.refl _ _) | (with_reducible exact bl_mm) | (with_reducible refine bl_dr ?_) | (with_reducible refine bl_drN ?_ _) | (with_reducible refine bl_al ?_ _) | (with_reducible refine bl_more ?_ _ _)))⟩
set_option maxHeartbeats 1000000 in
theorem class_12 {w : World} {r : Int} (h1 : 96 ≤ r) (h2 : r ≤ 96) : Calls Try.prog 28 #[.int .i64 r] w fun e w' => e = .returned (.int .i64 4) ∧ Below w.heap.size w w' := by
  have hv : 1 ≤ Lib.runeLen r := by unfold Lib.runeLen; repeat' split
                                    all_goals omega
  have HR := hid (show 0 ≤ r ∧ r ≤ 1114111 by omega)
  have g128 : decide (128 ≤ r) = false := by simp; omega
  have g97 : decide (97 ≤ r) = false := by simp; omega
  have g65 : decide (65 ≤ r) = true := by simp; omega
  have g48 : decide (48 ≤ r) = true := by simp; omega
  have g9 : decide (9 ≤ r) = true := by simp; omega
  have g33 : decide (33 ≤ r) = true := by simp; omega
  have l122 : decide (r ≤ 122) = true := by simp; omega
  have l90 : decide (r ≤ 90) = false := by simp; omega
  have l57 : decide (r ≤ 57) = false := by simp; omega
  have l10 : decide (r ≤ 10) = false := by simp; omega
  have l126 : decide (r ≤ 126) = true := by simp; omega
  have e95 : (r == 95) = false := by simp; omega
  have e13 : (r == 13) = false := by simp; omega
  have e32 : (r == 32) = false := by simp; omega
  clear h1 h2
  go_enter Try.func28, Try.ntmps28
  go_wp2_with (first | (go_at_call 37; refine (width_any HR.out.1 HR.out.2 hv).mono ?_; rintro e w1 ⟨rfl, rfl⟩) | (go_at_call 36; go_in))
  go_ret
  exact ⟨rfl, (by repeat (first | (with_reducible exact Below.refl _ _) | (with_reducible exact bl_mm) | (with_reducible refine bl_dr ?_) | (with_reducible refine bl_drN ?_ _) | (with_reducible refine bl_al ?_ _) | (with_reducible refine bl_more ?_ _ _)))⟩
set_option maxHeartbeats 1000000 in
theorem class_13 {w : World} {r : Int} (h1 : 97 ≤ r) (h2 : r ≤ 122) : Calls Try.prog 28 #[.int .i64 r] w fun e w' => e = .returned (.int .i64 1) ∧ Below w.heap.size w w' := by
  have hv : 1 ≤ Lib.runeLen r := by unfold Lib.runeLen; repeat' split
                                    all_goals omega
  have HR := hid (show 0 ≤ r ∧ r ≤ 1114111 by omega)
  have g128 : decide (128 ≤ r) = false := by simp; omega
  have g97 : decide (97 ≤ r) = true := by simp; omega
  have g65 : decide (65 ≤ r) = true := by simp; omega
  have g48 : decide (48 ≤ r) = true := by simp; omega
  have g9 : decide (9 ≤ r) = true := by simp; omega
  have g33 : decide (33 ≤ r) = true := by simp; omega
  have l122 : decide (r ≤ 122) = true := by simp; omega
  have l90 : decide (r ≤ 90) = false := by simp; omega
  have l57 : decide (r ≤ 57) = false := by simp; omega
  have l10 : decide (r ≤ 10) = false := by simp; omega
  have l126 : decide (r ≤ 126) = true := by simp; omega
  have e95 : (r == 95) = false := by simp; omega
  have e13 : (r == 13) = false := by simp; omega
  have e32 : (r == 32) = false := by simp; omega
  clear h1 h2
  go_enter Try.func28, Try.ntmps28
  go_wp2_with (first | (go_at_call 37; refine (width_any HR.out.1 HR.out.2 hv).mono ?_; rintro e w1 ⟨rfl, rfl⟩) | (go_at_call 36; go_in))
  go_ret
  exact ⟨rfl, (by repeat (first | (with_reducible exact Below.refl _ _) | (with_reducible exact bl_mm) | (with_reducible refine bl_dr ?_) | (with_reducible refine bl_drN ?_ _) | (with_reducible refine bl_al ?_ _) | (with_reducible refine bl_more ?_ _ _)))⟩
set_option maxHeartbeats 1000000 in
theorem class_14 {w : World} {r : Int} (h1 : 123 ≤ r) (h2 : r ≤ 126) : Calls Try.prog 28 #[.int .i64 r] w fun e w' => e = .returned (.int .i64 4) ∧ Below w.heap.size w w' := by
  have hv : 1 ≤ Lib.runeLen r := by unfold Lib.runeLen; repeat' split
                                    all_goals omega
  have HR := hid (show 0 ≤ r ∧ r ≤ 1114111 by omega)
  have g128 : decide (128 ≤ r) = false := by simp; omega
  have g97 : decide (97 ≤ r) = true := by simp; omega
  have g65 : decide (65 ≤ r) = true := by simp; omega
  have g48 : decide (48 ≤ r) = true := by simp; omega
  have g9 : decide (9 ≤ r) = true := by simp; omega
  have g33 : decide (33 ≤ r) = true := by simp; omega
  have l122 : decide (r ≤ 122) = false := by simp; omega
  have l90 : decide (r ≤ 90) = false := by simp; omega
  have l57 : decide (r ≤ 57) = false := by simp; omega
  have l10 : decide (r ≤ 10) = false := by simp; omega
  have l126 : decide (r ≤ 126) = true := by simp; omega
  have e95 : (r == 95) = false := by simp; omega
  have e13 : (r == 13) = false := by simp; omega
  have e32 : (r == 32) = false := by simp; omega
  clear h1 h2
  go_enter Try.func28, Try.ntmps28
  go_wp2_with (first | (go_at_call 37; refine (width_any HR.out.1 HR.out.2 hv).mono ?_; rintro e w1 ⟨rfl, rfl⟩) | (go_at_call 36; go_in))
  go_ret
  exact ⟨rfl, (by repeat (first | (with_reducible exact Below.refl _ _) | (with_reducible exact bl_mm) | (with_reducible refine bl_dr ?_) | (with_reducible refine bl_drN ?_ _) | (with_reducible refine bl_al ?_ _) | (with_reducible refine bl_more ?_ _ _)))⟩
set_option maxHeartbeats 1000000 in
theorem class_15 {w : World} {r : Int} (h1 : 127 ≤ r) (h2 : r ≤ 127) : Calls Try.prog 28 #[.int .i64 r] w fun e w' => e = .returned (.int .i64 0) ∧ Below w.heap.size w w' := by
  have hv : 1 ≤ Lib.runeLen r := by unfold Lib.runeLen; repeat' split
                                    all_goals omega
  have HR := hid (show 0 ≤ r ∧ r ≤ 1114111 by omega)
  have g128 : decide (128 ≤ r) = false := by simp; omega
  have g97 : decide (97 ≤ r) = true := by simp; omega
  have g65 : decide (65 ≤ r) = true := by simp; omega
  have g48 : decide (48 ≤ r) = true := by simp; omega
  have g9 : decide (9 ≤ r) = true := by simp; omega
  have g33 : decide (33 ≤ r) = true := by simp; omega
  have l122 : decide (r ≤ 122) = false := by simp; omega
  have l90 : decide (r ≤ 90) = false := by simp; omega
  have l57 : decide (r ≤ 57) = false := by simp; omega
  have l10 : decide (r ≤ 10) = false := by simp; omega
  have l126 : decide (r ≤ 126) = false := by simp; omega
  have e95 : (r == 95) = false := by simp; omega
  have e13 : (r == 13) = false := by simp; omega
  have e32 : (r == 32) = false := by simp; omega
  clear h1 h2
  go_enter Try.func28, Try.ntmps28
  go_wp2_with (first | (go_at_call 37; refine (width_any HR.out.1 HR.out.2 hv).mono ?_; rintro e w1 ⟨rfl, rfl⟩) | (go_at_call 36; go_in))
  go_ret
  exact ⟨rfl, (by repeat (first | (with_reducible exact Below.refl _ _) | (with_reducible exact bl_mm) | (with_reducible refine bl_dr ?_) | (with_reducible refine bl_drN ?_ _) | (with_reducible refine bl_al ?_ _) | (with_reducible refine bl_more ?_ _ _)))⟩
set_option maxHeartbeats 1000000 in
theorem class_16 {w : World} {r : Int} (h1 : 128 ≤ r) (h2 : r ≤ 1114111) (h3 : r < 55296 ∨ 57343 < r) : Calls Try.prog 28 #[.int .i64 r] w fun e w' => e = .returned (.int .i64 1) ∧ Below w.heap.size w w' := by
  have hv : 1 ≤ Lib.runeLen r := by unfold Lib.runeLen; repeat' split
                                    all_goals omega
  have HR := hid (show 0 ≤ r ∧ r ≤ 1114111 by omega)
  have g128 : decide (128 ≤ r) = true := by simp; omega
  have g97 : decide (97 ≤ r) = true := by simp; omega
  have g65 : decide (65 ≤ r) = true := by simp; omega
  have g48 : decide (48 ≤ r) = true := by simp; omega
  have g9 : decide (9 ≤ r) = true := by simp; omega
  have g33 : decide (33 ≤ r) = true := by simp; omega
  have l122 : decide (r ≤ 122) = false := by simp; omega
  have l90 : decide (r ≤ 90) = false := by simp; omega
  have l57 : decide (r ≤ 57) = false := by simp; omega
  have l10 : decide (r ≤ 10) = false := by simp; omega
  have l126 : decide (r ≤ 126) = false := by simp; omega
  have e95 : (r == 95) = false := by simp; omega
  have e13 : (r == 13) = false := by simp; omega
  have e32 : (r == 32) = false := by simp; omega
  clear h1 h2 h3
  go_enter Try.func28, Try.ntmps28
  go_wp2_with (first | (go_at_call 37; refine (width_any HR.out.1 HR.out.2 hv).mono ?_; rintro e w1 ⟨rfl, rfl⟩) | (go_at_call 36; go_in))
  go_ret
  exact ⟨rfl, (by repeat (first | (with_reducible exact Below.refl _ _) | (with_reducible exact bl_mm) | (with_reducible refine bl_dr ?_) | (with_reducible refine bl_drN ?_ _) | (with_reducible refine bl_al ?_ _) | (with_reducible refine bl_more ?_ _ _)))⟩
end Go.Proofs.Ythekoefcienipaa
