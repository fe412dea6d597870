/- What a code point is. -/
import Derived.Test.YtidilpciolladaaGa
import Derived.Test.YtidilpciolladaaShelf
import Derived.Lib.Small
import Derived.Lib.OthersKept
import Derived.Deep.Cut
import Derived.IntWalk
/- What a code point is. -/
namespace Go.Proofs.Ytidilpciolladaa
open Go.RowKit

set_option maxHeartbeats 1000000 in
theorem width_any {w : World} {r : Int} (h0 : 0 ≤ r) (h1 : r ≤ 1114111) (hv : 1 ≤ Lib.runeLen r) : Calls Try.prog 91 #[.int .i64 r] w fun e w' => e = .returned (.int .i64 (Lib.runeLen r)) ∧ w' = w := by
  have i1 : ¬ r < 0 := by omega
  have i2 : ¬ 1114111 < r := by omega
  have y1 : IntKind.i32.wrap r = r := by unfold IntKind.wrap; simp [IntKind.bits, IntKind.signed]; omega
  have y2 : max 0 (Lib.runeLen r) = Lib.runeLen r := by omega
  clear h0 h1
  go_enter Try.func91, Try.ntmps91
  go_wp2_with (go_at_call 99; refine (Go.Proofs.Try.utf8_RuneLen r _).mono ?_; rintro e w1 ⟨rfl, rfl⟩)
  go_ret
  exact ⟨rfl, rfl⟩
set_option maxHeartbeats 1000000 in
theorem class_0 {w : World} {r : Int} (h1 : 0 ≤ r) (h2 : r ≤ 8) : Calls Try.prog 77 #[.int .i64 r] w fun e w' => e = .returned (.int .i64 0) ∧ Below w.heap.size w w' := by
  have hv : 1 ≤ Lib.runeLen r := by unfold Lib.runeLen; repeat' split
                                    all_goals omega
  have HR := hid (show 0 ≤ r ∧ r ≤ 1114111 by omega)
  have g128 : decide (128 ≤ r) = false := by simp; omega
  have g97 : decide (97 ≤ r) = false := by simp; omega
  have g65 : decide (65 ≤ r) = false := by simp; omega
  have g48 : decide (48 ≤ r) = false := by simp; omega
  have g9 : decide (9 ≤ r) = false := by simp; omega
  have g33 : decide (33 ≤ r) = false := by simp; omega
  have l122 : decide (r ≤ 122) = true := by simp; omega
  have l90 : decide (r ≤ 90) = true := by simp; omega
  have l57 : decide (r ≤ 57) = true := by simp; omega
  have l10 : decide (r ≤ 10) = true := by simp; omega
  have l126 : decide (r ≤ 126) = true := by simp; omega
  have e95 : (r == 95) = false := by simp; omega
  have e13 : (r == 13) = false := by simp; omega
  have e32 : (r == 32) = false := by simp; omega
  clear h1 h2
  go_enter Try.func77, Try.ntmps77
  go_wp2_with (first | (go_at_call 91; refine (width_any HR.out.1 HR.out.2 hv).mono ?_; rintro e w1 ⟨rfl, rfl⟩) | (go_at_call 90; go_in))
  go_ret
  exact ⟨rfl, (by repeat (first | (with_reducible exact Below.refl _ _) | (with_reducible exact bl_mm) | (with_reducible refine bl_dr ?_) | (with_reducible refine bl_drN ?_ _) | (with_reducible refine bl_al ?_ _) | (with_reducible refine bl_more ?_ _ _)))⟩
set_option maxHeartbeats 1000000 in
theorem class_1 {w : World} {r : Int} (h1 : 9 ≤ r) (h2 : r ≤ 10) : Calls Try.prog 77 #[.int .i64 r] w fun e w' => e = .returned (.int .i64 3) ∧ Below w.heap.size w w' := by
  have hv : 1 ≤ Lib.runeLen r := by unfold Lib.runeLen; repeat' split
                                    all_goals omega
  have HR := hid (show 0 ≤ r ∧ r ≤ 1114111 by omega)
  have g128 : decide (128 ≤ r) = false := by simp; omega
  have g97 : decide (97 ≤ r) = false := by simp; omega
  have g65 : decide (65 ≤ r) = false := by simp; omega
  have g48 : decide (48 ≤ r) = false := by simp; omega
  have g9 : decide (9 ≤ r) = true := by simp; omega
  have g33 : decide (33 ≤ r) = false := by simp; omega
  have l122 : decide (r ≤ 122) = true := by simp; omega
  have l90 : decide (r ≤ 90) = true := by simp; omega
  have l57 : decide (r ≤ 57) = true := by simp; omega
  have l10 : decide (r ≤ 10) = true := by simp; omega
  have l126 : decide (r ≤ 126) = true := by simp; omega
  have e95 : (r == 95) = false := by simp; omega
  have e13 : (r == 13) = false := by simp; omega
  have e32 : (r == 32) = false := by simp; omega
  clear h1 h2
  go_enter Try.func77, Try.ntmps77
  go_wp2_with (first | (go_at_call 91; refine (width_any HR.out.1 HR.out.2 hv).mono ?_; rintro e w1 ⟨rfl, rfl⟩) | (go_at_call 90; go_in))
  go_ret
  exact ⟨rfl, (by repeat (first | (with_reducible exact Below.refl _ _) | (with_reducible exact bl_mm) | (with_reducible refine bl_dr ?_) | (with_reducible refine bl_drN ?_ _) | (with_reducible refine bl_al ?_ _) | (with_reducible refine bl_more ?_ _ _)))⟩
set_option maxHeartbeats 1000000 in
theorem class_2 {w : World} {r : Int} (h1 : 11 ≤ r) (h2 : r ≤ 12) : Calls Try.prog 77 #[.int .i64 r] w fun e w' => e = .returned (.int .i64 0) ∧ Below w.heap.size w w' := by
  have hv : 1 ≤ Lib.runeLen r := by unfold Lib.runeLen; repeat' split
                                    all_goals omega
  have HR := hid (show 0 ≤ r ∧ r ≤ 1114111 by omega)
  have g128 : decide (128 ≤ r) = false := by simp; omega
  have g97 : decide (97 ≤ r) = false := by simp; omega
  have g65 : decide (65 ≤ r) = false := by simp; omega
  have g48 : decide (48 ≤ r) = false := by simp; omega
  have g9 : decide (9 ≤ r) = true := by simp; omega
  have g33 : decide (33 ≤ r) = false := by simp; omega
  have l122 : decide (r ≤ 122) = true := by simp; omega
  have l90 : decide (r ≤ 90) = true := by simp; omega
  have l57 : decide (r ≤ 57) = true := by simp; omega
  have l10 : decide (r ≤ 10) = false := by simp; omega
  have l126 : decide (r ≤ 126) = true := by simp; omega
  have e95 : (r == 95) = false := by simp; omega
  have e13 : (r == 13) = false := by simp; omega
  have e32 : (r == 32) = false := by simp; omega
  clear h1 h2
  go_enter Try.func77, Try.ntmps77
  go_wp2_with (first | (go_at_call 91; refine (width_any HR.out.1 HR.out.2 hv).mono ?_; rintro e w1 ⟨rfl, rfl⟩) | (go_at_call 90; go_in))
  go_ret
  exact ⟨rfl, (by repeat (first | (with_reducible exact Below.refl _ _) | (with_reducible exact bl_mm) | (with_reducible refine bl_dr ?_) | (with_reducible refine bl_drN ?_ _) | (with_reducible refine bl_al ?_ _) | (with_reducible refine bl_more ?_ _ _)))⟩
set_option maxHeartbeats 1000000 in
theorem class_3 {w : World} {r : Int} (h1 : 13 ≤ r) (h2 : r ≤ 13) : Calls Try.prog 77 #[.int .i64 r] w fun e w' => e = .returned (.int .i64 3) ∧ Below w.heap.size w w' := by
  have hv : 1 ≤ Lib.runeLen r := by unfold Lib.runeLen; repeat' split
                                    all_goals omega
  have HR := hid (show 0 ≤ r ∧ r ≤ 1114111 by omega)
  have g128 : decide (128 ≤ r) = false := by simp; omega
  have g97 : decide (97 ≤ r) = false := by simp; omega
  have g65 : decide (65 ≤ r) = false := by simp; omega
  have g48 : decide (48 ≤ r) = false := by simp; omega
  have g9 : decide (9 ≤ r) = true := by simp; omega
  have g33 : decide (33 ≤ r) = false := by simp; omega
  have l122 : decide (r ≤ 122) = true := by simp; omega
  have l90 : decide (r ≤ 90) = true := by simp; omega
  have l57 : decide (r ≤ 57) = true := by simp; omega
  have l10 : decide (r ≤ 10) = false := by simp; omega
  have l126 : decide (r ≤ 126) = true := by simp; omega
  have e95 : (r == 95) = false := by simp; omega
  have e13 : (r == 13) = true := by simp; omega
  have e32 : (r == 32) = false := by simp; omega
  clear h1 h2
  go_enter Try.func77, Try.ntmps77
  go_wp2_with (first | (go_at_call 91; refine (width_any HR.out.1 HR.out.2 hv).mono ?_; rintro e w1 ⟨rfl, rfl⟩) | (go_at_call 90; go_in))
  go_ret
  exact ⟨rfl, (by repeat (first | (with_reducible exact Below.refl _ _) | (with_reducible exact bl_mm) | (with_reducible refine bl_dr ?_) | (with_reducible refine bl_drN ?_ _) | (with_reducible refine bl_al ?_ _) | (with_reducible refine bl_more ?_ _ _)))⟩
set_option maxHeartbeats 1000000 in
theorem class_4 {w : World} {r : Int} (h1 : 14 ≤ r) (h2 : r ≤ 31) : Calls Try.prog 77 #[.int .i64 r] w fun e w' => e = .returned (.int .i64 0) ∧ Below w.heap.size w w' := by
  have hv : 1 ≤ Lib.runeLen r := by unfold Lib.runeLen; repeat' split
                                    all_goals omega
  have HR := hid (show 0 ≤ r ∧ r ≤ 1114111 by omega)
  have g128 : decide (128 ≤ r) = false := by simp; omega
  have g97 : decide (97 ≤ r) = false := by simp; omega
  have g65 : decide (65 ≤ r) = false := by simp; omega
  have g48 : decide (48 ≤ r) = false := by simp; omega
  have g9 : decide (9 ≤ r) = true := by simp; omega
  have g33 : decide (33 ≤ r) = false := by simp; omega
  have l122 : decide (r ≤ 122) = true := by simp; omega
  have l90 : decide (r ≤ 90) = true := by simp; omega
  have l57 : decide (r ≤ 57) = true := by simp; omega
  have l10 : decide (r ≤ 10) = false := by simp; omega
  have l126 : decide (r ≤ 126) = true := by simp; omega
  have e95 : (r == 95) = false := by simp; omega
  have e13 : (r == 13) = false := by simp; omega
  have e32 : (r == 32) = false := by simp; omega
  clear h1 h2
  go_enter Try.func77, Try.ntmps77
  go_wp2_with (first | (go_at_call 91; refine (width_any HR.out.1 HR.out.2 hv).mono ?_; rintro e w1 ⟨rfl, rfl⟩) | (go_at_call 90; go_in))
  go_ret
  exact ⟨rfl, (by repeat (first | (with_reducible exact Below.refl _ _) | (with_reducible exact bl_mm) | (with_reducible refine bl_dr ?_) | (with_reducible refine bl_drN ?_ _) | (with_reducible refine bl_al ?_ _) | (with_reducible refine bl_more ?_ _ _)))⟩
set_option maxHeartbeats 1000000 in
theorem class_5 {w : World} {r : Int} (h1 : 32 ≤ r) (h2 : r ≤ 32) : Calls Try.prog 77 #[.int .i64 r] w fun e w' => e = .returned (.int .i64 3) ∧ Below w.heap.size w w' := by
  have hv : 1 ≤ Lib.runeLen r := by unfold Lib.runeLen; repeat' split
                                    all_goals omega
  have HR := hid (show 0 ≤ r ∧ r ≤ 1114111 by omega)
  have g128 : decide (128 ≤ r) = false := by simp; omega
  have g97 : decide (97 ≤ r) = false := by simp; omega
  have g65 : decide (65 ≤ r) = false := by simp; omega
  have g48 : decide (48 ≤ r) = false := by simp; omega
  have g9 : decide (9 ≤ r) = true := by simp; omega
  have g33 : decide (33 ≤ r) = false := by simp; omega
  have l122 : decide (r ≤ 122) = true := by simp; omega
  have l90 : decide (r ≤ 90) = true := by simp; omega
  have l57 : decide (r ≤ 57) = true := by simp; omega
  have l10 : decide (r ≤ 10) = false := by simp; omega
  have l126 : decide (r ≤ 126) = true := by simp; omega
  have e95 : (r == 95) = false := by simp; omega
  have e13 : (r == 13) = false := by simp; omega
  have e32 : (r == 32) = true := by simp; omega
  clear h1 h2
  go_enter Try.func77, Try.ntmps77
  go_wp2_with (first | (go_at_call 91; refine (width_any HR.out.1 HR.out.2 hv).mono ?_; rintro e w1 ⟨rfl, rfl⟩) | (go_at_call 90; go_in))
  go_ret
  exact ⟨rfl, (by repeat (first | (with_reducible exact Below.refl _ _) | (with_reducible exact bl_mm) | (with_reducible refine bl_dr ?_) | (with_reducible refine bl_drN ?_ _) | (with_reducible refine bl_al ?_ _) | (with_reducible refine bl_more ?_ _ _)))⟩
set_option maxHeartbeats 1000000 in
theorem class_6 {w : World} {r : Int} (h1 : 33 ≤ r) (h2 : r ≤ 47) : Calls Try.prog 77 #[.int .i64 r] w fun e w' => e = .returned (.int .i64 4) ∧ Below w.heap.size w w' := by
  have hv : 1 ≤ Lib.runeLen r := by unfold Lib.runeLen; repeat' split
                                    all_goals omega
  have HR := hid (show 0 ≤ r ∧ r ≤ 1114111 by omega)
  have g128 : decide (128 ≤ r) = false := by simp; omega
  have g97 : decide (97 ≤ r) = false := by simp; omega
  have g65 : decide (65 ≤ r) = false := by simp; omega
  have g48 : decide (48 ≤ r) = false := by simp; omega
  have g9 : decide (9 ≤ r) = true := by simp; omega
  have g33 : decide (33 ≤ r) = true := by simp; omega
  have l122 : decide (r ≤ 122) = true := by simp; omega
  have l90 : decide (r ≤ 90) = true := by simp; omega
  have l57 : decide (r ≤ 57) = true := by simp; omega
  have l10 : decide (r ≤ 10) = false := by simp; omega
  have l126 : decide (r ≤ 126) = true := by simp; omega
  have e95 : (r == 95) = false := by simp; omega
  have e13 : (r == 13) = false := by simp; omega
  have e32 : (r == 32) = false := by simp; omega
  clear h1 h2
  go_enter Try.func77, Try.ntmps77
  go_wp2_with (first | (go_at_call 91; refine (width_any HR.out.1 HR.out.2 hv).mono ?_; rintro e w1 ⟨rfl, rfl⟩) | (go_at_call 90; go_in))
  go_ret
  exact ⟨rfl, (by repeat (first | (with_reducible exact Below.refl _ _) | (with_reducible exact bl_mm) | (with_reducible refine bl_dr ?_) | (with_reducible refine bl_drN ?_ _) | (with_reducible refine bl_al ?_ _) | (with_reducible refine bl_more ?_ _ _)))⟩
set_option maxHeartbeats 1000000 in
theorem class_7 {w : World} {r : Int} (h1 : 48 ≤ r) (h2 : r ≤ 57) : Calls Try.prog 77 #[.int .i64 r] w fun e w' => e = .returned (.int .i64 2) ∧ Below w.heap.size w w' := by
  have hv : 1 ≤ Lib.runeLen r := by unfold Lib.runeLen; repeat' split
                                    all_goals omega
  have HR := hid (show 0 ≤ r ∧ r ≤ 1114111 by omega)
  have g128 : decide (128 ≤ r) = false := by simp; omega
  have g97 : decide (97 ≤ r) = false := by simp; omega
  have g65 : decide (65 ≤ r) = false := by simp; omega
  have g48 : decide (48 ≤ r) = true := by simp; omega
  have g9 : decide (9 ≤ r) = true := by simp; omega
  have g33 : decide (33 ≤ r) = true := by simp; omega
  have l122 : decide (r ≤ 122) = true := by simp; omega
  have l90 : decide (r ≤ 90) = true := by simp; omega
  have l57 : decide (r ≤ 57) = true := by simp; omega
  have l10 : decide (r ≤ 10) = false := by simp; omega
  have l126 : decide (r ≤ 126) = true := by simp; omega
  have e95 : (r == 95) = false := by simp; omega
  have e13 : (r == 13) = false := by simp; omega
  have e32 : (r == 32) = false := by simp; omega
  clear h1 h2
  go_enter Try.func77, Try.ntmps77
  go_wp2_with (first | (go_at_call 91; refine (width_any HR.out.1 HR.out.2 hv).mono ?_; rintro e w1 ⟨rfl, rfl⟩) | (go_at_call 90; go_in))
  go_ret
  exact ⟨rfl, (by repeat (first | (with_reducible exact Below.refl _ _) | (with_reducible exact bl_mm) | (with_reducible refine bl_dr ?_) | (with_reducible refine bl_drN ?_ _) | (with_reducible refine bl_al ?_ _) | (with_reducible refine bl_more ?_ _ _)))⟩
set_option maxHeartbeats 1000000 in
theorem class_8 {w : World} {r : Int} (h1 : 58 ≤ r) (h2 : r ≤ 64) : Calls Try.prog 77 #[.int .i64 r] w fun e w' => e = .returned (.int .i64 4) ∧ Below w.heap.size w w' := by
  have hv : 1 ≤ Lib.runeLen r := by unfold Lib.runeLen; repeat' split
                                    all_goals omega
  have HR := hid (show 0 ≤ r ∧ r ≤ 1114111 by omega)
  have g128 : decide (128 ≤ r) = false := by simp; omega
  have g97 : decide (97 ≤ r) = false := by simp; omega
  have g65 : decide (65 ≤ r) = false := by simp; omega
  have g48 : decide (48 ≤ r) = true := by simp; omega
  have g9 : decide (9 ≤ r) = true := by simp; omega
  have g33 : decide (33 ≤ r) = true := by simp; omega
  have l122 : decide (r ≤ 122) = true := by simp; omega
  have l90 : decide (r ≤ 90) = true := by simp; omega
  have l57 : decide (r ≤ 57) = false := by simp; omega
  have l10 : decide (r ≤ 10) = false := by simp; omega
  have l126 : decide (r ≤ 126) = true := by simp; omega
  have e95 : (r == 95) = false := by simp; omega
  have e13 : (r == 13) = false := by simp; omega
  have e32 : (r == 32) = false := by simp; omega
  clear h1 h2
  go_enter Try.func77, Try.ntmps77
  go_wp2_with (first | (go_at_call 91; refine (width_any HR.out.1 HR.out.2 hv).mono ?_; rintro e w1 ⟨rfl, rfl⟩) | (go_at_call 90; go_in))
  go_ret
  exact ⟨rfl, (by repeat (first | (with_reducible exact Below.refl _ _) | (with_reducible exact bl_mm) | (with_reducible refine bl_dr ?_) | (with_reducible refine bl_drN ?_ _) | (with_reducible refine bl_al ?_ _) | (with_reducible refine bl_more ?_ _ _)))⟩
set_option maxHeartbeats 1000000 in
theorem class_9 {w : World} {r : Int} (h1 : 65 ≤ r) (h2 : r ≤ 90) : Calls Try.prog 77 #[.int .i64 r] w fun e w' => e = .returned (.int .i64 1) ∧ Below w.heap.size w w' := by
  have hv : 1 ≤ Lib.runeLen r := by unfold Lib.runeLen; repeat' split
                                    all_goals omega
  have HR := hid (show 0 ≤ r ∧ r ≤ 1114111 by omega)
  have g128 : decide (128 ≤ r) = false := by simp; omega
  have g97 : decide (97 ≤ r) = false := by simp; omega
  have g65 : decide (65 ≤ r) = true := by simp; omega
  have g48 : decide (48 ≤ r) = true := by simp; omega
  have g9 : decide (9 ≤ r) = true := by simp; omega
  have g33 : decide (33 ≤ r) = true := by simp; omega
  have l122 : decide (r ≤ 122) = true := by simp; omega
  have l90 : decide (r ≤ 90) = true := by simp; omega
  have l57 : decide (r ≤ 57) = false := by simp; omega
  have l10 : decide (r ≤ 10) = false := by simp; omega
  have l126 : decide (r ≤ 126) = true := by simp; omega
  have e95 : (r == 95) = false := by simp; omega
  have e13 : (r == 13) = false := by simp; omega
  have e32 : (r == 32) = false := by simp; omega
  clear h1 h2
  go_enter Try.func77, Try.ntmps77
  go_wp2_with (first | (go_at_call 91; refine (width_any HR.out.1 HR.out.2 hv).mono ?_; rintro e w1 ⟨rfl, rfl⟩) | (go_at_call 90; go_in))
  go_ret
  exact ⟨rfl, (by repeat (first | (with_reducible exact Below.refl _ _) | (with_reducible exact bl_mm) | (with_reducible refine bl_dr ?_) | (with_reducible refine bl_drN ?_ _) | (with_reducible refine bl_al ?_ _) | (with_reducible refine bl_more ?_ _ _)))⟩
set_option maxHeartbeats 1000000 in
theorem class_10 {w : World} {r : Int} (h1 : 91 ≤ r) (h2 : r ≤ 94) : Calls Try.prog 77 #[.int .i64 r] w fun e w' => e = .returned (.int .i64 4) ∧ Below w.heap.size w w' := by
  have hv : 1 ≤ Lib.runeLen r := by unfold Lib.runeLen; repeat' split
                                    all_goals omega
  have HR := hid (show 0 ≤ r ∧ r ≤ 1114111 by omega)
  have g128 : decide (128 ≤ r) = false := by simp; omega
  have g97 : decide (97 ≤ r) = false := by simp; omega
  have g65 : decide (65 ≤ r) = true := by simp; omega
  have g48 : decide (48 ≤ r) = true := by simp; omega
  have g9 : decide (9 ≤ r) = true := by simp; omega
  have g33 : decide (33 ≤ r) = true := by simp; omega
  have l122 : decide (r ≤ 122) = true := by simp; omega
  have l90 : decide (r ≤ 90) = false := by simp; omega
  have l57 : decide (r ≤ 57) = false := by simp; omega
  have l10 : decide (r ≤ 10) = false := by simp; omega
  have l126 : decide (r ≤ 126) = true := by simp; omega
  have e95 : (r == 95) = false := by simp; omega
  have e13 : (r == 13) = false := by simp; omega
  have e32 : (r == 32) = false := by simp; omega
  clear h1 h2
  go_enter Try.func77, Try.ntmps77
  go_wp2_with (first | (go_at_call 91; refine (width_any HR.out.1 HR.out.2 hv).mono ?_; rintro e w1 ⟨rfl, rfl⟩) | (go_at_call 90; go_in))
  go_ret
  exact ⟨rfl, (by repeat (first | (with_reducible exact Below.refl _ _) | (with_reducible exact bl_mm) | (with_reducible refine bl_dr ?_) | (with_reducible refine bl_drN ?_ _) | (with_reducible refine bl_al ?_ _) | (with_reducible refine bl_more ?_ _ _)))⟩
set_option maxHeartbeats 1000000 in
theorem class_11 {w : World} {r : Int} (h1 : 95 ≤ r) (h2 : r ≤ 95) : Calls Try.prog 77 #[.int .i64 r] w fun e w' => e = .returned (.int .i64 1) ∧ Below w.heap.size w w' := by
  have hv : 1 ≤ Lib.runeLen r := by unfold Lib.runeLen; repeat' split
                                    all_goals omega
  have HR := hid (show 0 ≤ r ∧ r ≤ 1114111 by omega)
  have g128 : decide (128 ≤ r) = false := by simp; omega
  have g97 : decide (97 ≤ r) = false := by simp; omega
  have g65 : decide (65 ≤ r) = true := by simp; omega
  have g48 : decide (48 ≤ r) = true := by simp; omega
  have g9 : decide (9 ≤ r) = true := by simp; omega
  have g33 : decide (33 ≤ r) = true := by simp; omega
  have l122 : decide (r ≤ 122) = true := by simp; omega
  have l90 : decide (r ≤ 90) = false := by simp; omega
  have l57 : decide (r ≤ 57) = false := by simp; omega
  have l10 : decide (r ≤ 10) = false := by simp; omega
  have l126 : decide (r ≤ 126) = true := by simp; omega
  have e95 : (r == 95) = true := by simp; omega
  have e13 : (r == 13) = false := by simp; omega
  have e32 : (r == 32) = false := by simp; omega
  clear h1 h2
  go_enter Try.func77, Try.ntmps77
  go_wp2_with (first | (go_at_call 91; refine (width_any HR.out.1 HR.out.2 hv).mono ?_; rintro e w1 ⟨rfl, rfl⟩) | (go_at_call 90; go_in))
  go_ret
  exact ⟨rfl, (by repeat (first | (with_reducible exact Below.refl _ _) | (with_reducible exact bl_mm) | (with_reducible refine bl_dr ?_) | (with_reducible refine bl_drN ?_ _) | (with_reducible refine bl_al ?_ _) | (with_reducible refine bl_more ?_ _ _)))⟩
set_option maxHeartbeats 1000000 in
theorem class_12 {w : World} {r : Int} (h1 : 96 ≤ r) (h2 : r ≤ 96) : Calls Try.prog 77 #[.int .i64 r] w fun e w' => e = .returned (.int .i64 4) ∧ Below w.heap.size w w' := by
  have hv : 1 ≤ Lib.runeLen r := by unfold Lib.runeLen; repeat' split
                                    all_goals omega
  have HR := hid (show 0 ≤ r ∧ r ≤ 1114111 by omega)
  have g128 : decide (128 ≤ r) = false := by simp; omega
  have g97 : decide (97 ≤ r) = false := by simp; omega
  have g65 : decide (65 ≤ r) = true := by simp; omega
  have g48 : decide (48 ≤ r) = true := by simp; omega
  have g9 : decide (9 ≤ r) = true := by simp; omega
  have g33 : decide (33 ≤ r) = true := by simp; omega
  have l122 : decide (r ≤ 122) = true := by simp; omega
  have l90 : decide (r ≤ 90) = false := by simp; omega
  have l57 : decide (r ≤ 57) = false := by simp; omega
  have l10 : decide (r ≤ 10) = false := by simp; omega
  have l126 : decide (r ≤ 126) = true := by simp; omega
  have e95 : (r == 95) = false := by simp; omega
  have e13 : (r == 13) = false := by simp; omega
  have e32 : (r == 32) = false := by simp; omega
  clear h1 h2
  go_enter Try.func77, Try.ntmps77
  go_wp2_with (first | (go_at_call 91; refine (width_any HR.out.1 HR.out.2 hv).mono ?_; rintro e w1 ⟨rfl, rfl⟩) | (go_at_call 90; go_in))
  go_ret
  exact ⟨rfl, (by repeat (first | (with_reducible exact Below.refl _ _) | (with_reducible exact bl_mm) | (with_reducible refine bl_dr ?_) | (with_reducible refine bl_drN ?_ _) | (with_reducible refine bl_al ?_ _) | (with_reducible refine bl_more ?_ _ _)))⟩
set_option maxHeartbeats 1000000 in
theorem class_13 {w : World} {r : Int} (h1 : 97 ≤ r) (h2 : r ≤ 122) : Calls Try.prog 77 #[.int .i64 r] w fun e w' => e = .returned (.int .i64 1) ∧ Below w.heap.size w w' := by
  have hv : 1 ≤ Lib.runeLen r := by unfold Lib.runeLen; repeat' split
                                    all_goals omega
  have HR := hid (show 0 ≤ r ∧ r ≤ 1114111 by omega)
  have g128 : decide (128 ≤ r) = false := by simp; omega
  have g97 : decide (97 ≤ r) = true := by simp; omega
  have g65 : decide (65 ≤ r) = true := by simp; omega
  have g48 : decide (48 ≤ r) = true := by simp; omega
  have g9 : decide (9 ≤ r) = true := by simp; omega
  have g33 : decide (33 ≤ r) = true := by simp; omega
  have l122 : decide (r ≤ 122) = true := by simp; omega
  have l90 : decide (r ≤ 90) = false := by simp; omega
  have l57 : decide (r ≤ 57) = false := by simp; omega
  have l10 : decide (r ≤ 10) = false := by simp; omega
  have l126 : decide (r ≤ 126) = true := by simp; omega
  have e95 : (r == 95) = false := by simp; omega
  have e13 : (r == 13) = false := by simp; omega
  have e32 : (r == 32) = false := by simp; omega
  clear h1 h2
  go_enter Try.func77, Try.ntmps77
  go_wp2_with (first | (go_at_call 91; refine (width_any HR.out.1 HR.out.2 hv).mono ?_; rintro e w1 ⟨rfl, rfl⟩) | (go_at_call 90; go_in))
  go_ret
  exact ⟨rfl, (by repeat (first | (with_reducible exact Below.refl _ _) | (with_reducible exact bl_mm) | (with_reducible refine bl_dr ?_) | (with_reducible refine bl_drN ?_ _) | (with_reducible refine bl_al ?_ _) | (with_reducible refine bl_more ?_ _ _)))⟩
set_option maxHeartbeats 1000000 in
theorem class_14 {w : World} {r : Int} (h1 : 123 ≤ r) (h2 : r ≤ 126) : Calls Try.prog 77 #[.int .i64 r] w fun e w' => e = .returned (.int .i64 4) ∧ Below w.heap.size w w' := by
  have hv : 1 ≤ Lib.runeLen r := by unfold Lib.runeLen; repeat' split
                                    all_goals omega
  have HR := hid (show 0 ≤ r ∧ r ≤ 1114111 by omega)
  have g128 : decide (128 ≤ r) = false := by simp; omega
  have g97 : decide (97 ≤ r) = true := by simp; omega
  have g65 : decide (65 ≤ r) = true := by simp; omega
  have g48 : decide (48 ≤ r) = true := by simp; omega
  have g9 : decide (9 ≤ r) = true := by simp; omega
  have g33 : decide (33 ≤ r) = true := by simp; omega
  have l122 : decide (r ≤ 122) = false := by simp; omega
  have l90 : decide (r ≤ 90) = false := by simp; omega
  have l57 : decide (r ≤ 57) = false := by simp; omega
  have l10 : decide (r ≤ 10) = false := by simp; omega
  have l126 : decide (r ≤ 126) = true := by simp; omega
  have e95 : (r == 95) = false := by simp; omega
  have e13 : (r == 13) = false := by simp; omega
  have e32 : (r == 32) = false := by simp; omega
  clear h1 h2
  go_enter Try.func77, Try.ntmps77
  go_wp2_with (first | (go_at_call 91; refine (width_any HR.out.1 HR.out.2 hv).mono ?_; rintro e w1 ⟨rfl, rfl⟩) | (go_at_call 90; go_in))
  go_ret
  exact ⟨rfl, (by repeat (first | (with_reducible exact Below.refl _ _) | (with_reducible exact bl_mm) | (with_reducible refine bl_dr ?_) | (with_reducible refine bl_drN ?_ _) | (with_reducible refine bl_al ?_ _) | (with_reducible refine bl_more ?_ _ _)))⟩
set_option maxHeartbeats 1000000 in
theorem class_15 {w : World} {r : Int} (h1 : 127 ≤ r) (h2 : r ≤ 127) : Calls Try.prog 77 #[.int .i64 r] w fun e w' => e = .returned (.int .i64 0) ∧ Below w.heap.size w w' := by
  have hv : 1 ≤ Lib.runeLen r := by unfold Lib.runeLen; repeat' split
                                    all_goals omega
  have HR := hid (show 0 ≤ r ∧ r ≤ 1114111 by omega)
  have g128 : decide (128 ≤ r) = false := by simp; omega
  have g97 : decide (97 ≤ r) = true := by simp; omega
  have g65 : decide (65 ≤ r) = true := by simp; omega
  have g48 : decide (48 ≤ r) = true := by simp; omega
  have g9 : decide (9 ≤ r) = true := by simp; omega
  have g33 : decide (33 ≤ r) = true := by simp; omega
  have l122 : decide (r ≤ 122) = false := by simp; omega
  have l90 : decide (r ≤ 90) = false := by simp; omega
  have l57 : decide (r ≤ 57) = false := by simp; omega
  have l10 : decide (r ≤ 10) = false := by simp; omega
  have l126 : decide (r ≤ 126) = false := by simp; omega
  have e95 : (r == 95) = false := by simp; omega
  have e13 : (r == 13) = false := by simp; omega
  have e32 : (r == 32) = false := by simp; omega
  clear h1 h2
  go_enter Try.func77, Try.ntmps77
  go_wp2_with (first | (go_at_call 91; refine (width_any HR.out.1 HR.out.2 hv).mono ?_; rintro e w1 ⟨rfl, rfl⟩) | (go_at_call 90; go_in))
  go_ret
  exact ⟨rfl, (by repeat (first | (with_reducible exact Below.refl _ _) | (with_reducible exact bl_mm) | (with_reducible refine bl_dr ?_) | (with_reducible refine bl_drN ?_ _) | (with_reducible refine bl_al ?_ _) | (with_reducible refine bl_more ?_ _ _)))⟩
set_option maxHeartbeats 1000000 in
theorem class_16 {w : World} {r : Int} (h1 : 128 ≤ r) (h2 : r ≤ 1114111) (h3 : r < 55296 ∨ 57343 < r) : Calls Try.prog 77 #[.int .i64 r] w fun e w' => e = .returned (.int .i64 1) ∧ Below w.heap.size w w' := by
  have hv : 1 ≤ Lib.runeLen r := by unfold Lib.runeLen; repeat' split
                                    all_goals omega
  have HR := hid (show 0 ≤ r ∧ r ≤ 1114111 by omega)
  have g128 : decide (128 ≤ r) = true := by simp; omega
  have g97 : decide (97 ≤ r) = true := by simp; omega
  have g65 : decide (65 ≤ r) = true := by simp; omega
  have g48 : decide (48 ≤ r) = true := by simp; omega
  have g9 : decide (9 ≤ r) = true := by simp; omega
  have g33 : decide (33 ≤ r) = true := by simp; omega
  have l122 : decide (r ≤ 122) = false := by simp; omega
  have l90 : decide (r ≤ 90) = false := by simp; omega
  have l57 : decide (r ≤ 57) = false := by simp; omega
  have l10 : decide (r ≤ 10) = false := by simp; omega
  have l126 : decide (r ≤ 126) = false := by simp; omega
  have e95 : (r == 95) = false := by simp; omega
  have e13 : (r == 13) = false := by simp; omega
  have e32 : (r == 32) = false := by simp; omega
  clear h1 h2 h3
  go_enter Try.func77, Try.ntmps77
  go_wp2_with (first | (go_at_call 91; refine (width_any HR.out.1 HR.out.2 hv).mono ?_; rintro e w1 ⟨rfl, rfl⟩) | (go_at_call 90; go_in))
  go_ret
  exact ⟨rfl, (by repeat (first | (with_reducible exact Below.refl _ _) | (with_reducible exact bl_mm) | (with_reducible refine bl_dr ?_) | (with_reducible refine bl_drN ?_ _) | (with_reducible refine bl_al ?_ _) | (with_reducible refine bl_more ?_ _ _)))⟩
end Go.Proofs.Ytidilpciolladaa

/- The document's classes of code points; both are one. -/
namespace Go.Proofs.Ytidilpciolladaa
open Go.RowKit

/-- What a code point is: 0 Other, 1 Letter, 2 Digit, 3 Blank, 4 Mark. -/
def cls (r : Int) : Int :=
  if 128 ≤ r ∨ (97 ≤ r ∧ r ≤ 122) ∨ (65 ≤ r ∧ r ≤ 90) ∨ r = 95 then 1 else if 48 ≤ r ∧ r ≤ 57 then 2 else if r = 9 ∨ r = 10 ∨ r = 13 ∨ r = 32 then 3 else if 33 ≤ r ∧ r ≤ 126 then 4 else 0
def okR (r : Int) : Prop := 0 ≤ r ∧ r ≤ 1114111 ∧ (r < 55296 ∨ 57343 < r)
theorem class_any {w : World} {r : Int} (h : okR r) : Calls Try.prog 77 #[.int .i64 r] w fun e w' => e = .returned (.int .i64 (cls r)) ∧ Below w.heap.size w w' := by
  obtain ⟨h0, h1, h2⟩ := h
  by_cases b0 : r ≤ 8
  · have e : cls r = 0 := by unfold cls; (repeat' split) <;> first | rfl | omega
    rw [e]; exact class_0 (by omega) b0
  by_cases b1 : r ≤ 10
  · have e : cls r = 3 := by unfold cls; (repeat' split) <;> first | rfl | omega
    rw [e]; exact class_1 (by omega) b1
  by_cases b2 : r ≤ 12
  · have e : cls r = 0 := by unfold cls; (repeat' split) <;> first | rfl | omega
    rw [e]; exact class_2 (by omega) b2
  by_cases b3 : r ≤ 13
  · have e : cls r = 3 := by unfold cls; (repeat' split) <;> first | rfl | omega
    rw [e]; exact class_3 (by omega) b3
  by_cases b4 : r ≤ 31
  · have e : cls r = 0 := by unfold cls; (repeat' split) <;> first | rfl | omega
    rw [e]; exact class_4 (by omega) b4
  by_cases b5 : r ≤ 32
  · have e : cls r = 3 := by unfold cls; (repeat' split) <;> first | rfl | omega
    rw [e]; exact class_5 (by omega) b5
  by_cases b6 : r ≤ 47
  · have e : cls r = 4 := by unfold cls; (repeat' split) <;> first | rfl | omega
    rw [e]; exact class_6 (by omega) b6
  by_cases b7 : r ≤ 57
  · have e : cls r = 2 := by unfold cls; (repeat' split) <;> first | rfl | omega
    rw [e]; exact class_7 (by omega) b7
  by_cases b8 : r ≤ 64
  · have e : cls r = 4 := by unfold cls; (repeat' split) <;> first | rfl | omega
    rw [e]; exact class_8 (by omega) b8
  by_cases b9 : r ≤ 90
  · have e : cls r = 1 := by unfold cls; (repeat' split) <;> first | rfl | omega
    rw [e]; exact class_9 (by omega) b9
  by_cases b10 : r ≤ 94
  · have e : cls r = 4 := by unfold cls; (repeat' split) <;> first | rfl | omega
    rw [e]; exact class_10 (by omega) b10
  by_cases b11 : r ≤ 95
  · have e : cls r = 1 := by unfold cls; (repeat' split) <;> first | rfl | omega
    rw [e]; exact class_11 (by omega) b11
  by_cases b12 : r ≤ 96
  · have e : cls r = 4 := by unfold cls; (repeat' split) <;> first | rfl | omega
    rw [e]; exact class_12 (by omega) b12
  by_cases b13 : r ≤ 122
  · have e : cls r = 1 := by unfold cls; (repeat' split) <;> first | rfl | omega
    rw [e]; exact class_13 (by omega) b13
  by_cases b14 : r ≤ 126
  · have e : cls r = 4 := by unfold cls; (repeat' split) <;> first | rfl | omega
    rw [e]; exact class_14 (by omega) b14
  by_cases b15 : r ≤ 127
  · have e : cls r = 0 := by unfold cls; (repeat' split) <;> first | rfl | omega
    rw [e]; exact class_15 (by omega) b15
  have e : cls r = 1 := by unfold cls; (repeat' split) <;> first | rfl | omega
  rw [e]; exact class_16 (by omega) h1 h2
set_option maxHeartbeats 1000000 in
theorem is_any {w : World} {r : Int} (h : okR r) : Calls Try.prog 74 #[.int .i64 r] w fun e w' => e = .returned (.bool true) ∧ w = w' := by
  obtain ⟨h0, h1, h2⟩ := h
  have i1 : decide (0 ≤ r) = true := by simpa using h0
  have i2 : decide (r ≤ 1114111) = true := by simpa using h1
  by_cases h3 : r < 55296
  · have i3 : decide (r < 55296) = true := by simpa using h3
    clear h0 h1 h2 h3
    go_enter Try.func74, Try.ntmps74
    go_wp2
    go_ret
    exact ⟨rfl, rfl⟩
  · have i3 : decide (r < 55296) = false := by simpa using h3
    have i4 : decide (57343 < r) = true := by simp; omega
    clear h0 h1 h2 h3
    go_enter Try.func74, Try.ntmps74
    go_wp2
    go_ret
    exact ⟨rfl, rfl⟩
set_option maxHeartbeats 1000000 in
theorem rclass_0 {w : World} {r : Int} (h : okR r) (h1 : 0 ≤ r) (h2 : r ≤ 8) : Calls Try.prog 45 #[.int .i64 r] w fun e w' => e = .returned (.int .i64 0) ∧ Below w.heap.size w w' := by
  have HR := hid h
  have g128 : decide (128 ≤ r) = false := by simp; omega
  have g97 : decide (97 ≤ r) = false := by simp; omega
  have g65 : decide (65 ≤ r) = false := by simp; omega
  have g48 : decide (48 ≤ r) = false := by simp; omega
  have l122 : decide (r ≤ 122) = true := by simp; omega
  have l90 : decide (r ≤ 90) = true := by simp; omega
  have l57 : decide (r ≤ 57) = true := by simp; omega
  have e95 : (r == 95) = false := by simp; omega
  have e9 : (r == 9) = false := by simp; omega
  have e10 : (r == 10) = false := by simp; omega
  have e13 : (r == 13) = false := by simp; omega
  have e32 : (r == 32) = false := by simp; omega
  have k32 : decide (32 < r) = false := by simp; omega
  have k127 : decide (r < 127) = true := by simp; omega
  clear h h1 h2
  go_enter Try.func45, Try.ntmps45
  go_wp2_with (first | (go_at_call 74; refine (is_any HR.out).mono ?_; rintro e w1 ⟨rfl, rfl⟩))
  go_ret
  exact ⟨rfl, (by repeat (first | (with_reducible exact Below.refl _ _) | (with_reducible exact bl_mm) | (with_reducible refine bl_dr ?_) | (with_reducible refine bl_drN ?_ _) | (with_reducible refine bl_al ?_ _) | (with_reducible refine bl_more ?_ _ _)))⟩
set_option maxHeartbeats 1000000 in
theorem rclass_1 {w : World} {r : Int} (h : okR r) (h1 : 9 ≤ r) (h2 : r ≤ 9) : Calls Try.prog 45 #[.int .i64 r] w fun e w' => e = .returned (.int .i64 3) ∧ Below w.heap.size w w' := by
  have HR := hid h
  have g128 : decide (128 ≤ r) = false := by simp; omega
  have g97 : decide (97 ≤ r) = false := by simp; omega
  have g65 : decide (65 ≤ r) = false := by simp; omega
  have g48 : decide (48 ≤ r) = false := by simp; omega
  have l122 : decide (r ≤ 122) = true := by simp; omega
  have l90 : decide (r ≤ 90) = true := by simp; omega
  have l57 : decide (r ≤ 57) = true := by simp; omega
  have e95 : (r == 95) = false := by simp; omega
  have e9 : (r == 9) = true := by simp; omega
  have e10 : (r == 10) = false := by simp; omega
  have e13 : (r == 13) = false := by simp; omega
  have e32 : (r == 32) = false := by simp; omega
  have k32 : decide (32 < r) = false := by simp; omega
  have k127 : decide (r < 127) = true := by simp; omega
  clear h h1 h2
  go_enter Try.func45, Try.ntmps45
  go_wp2_with (first | (go_at_call 74; refine (is_any HR.out).mono ?_; rintro e w1 ⟨rfl, rfl⟩))
  go_ret
  exact ⟨rfl, (by repeat (first | (with_reducible exact Below.refl _ _) | (with_reducible exact bl_mm) | (with_reducible refine bl_dr ?_) | (with_reducible refine bl_drN ?_ _) | (with_reducible refine bl_al ?_ _) | (with_reducible refine bl_more ?_ _ _)))⟩
set_option maxHeartbeats 1000000 in
theorem rclass_2 {w : World} {r : Int} (h : okR r) (h1 : 10 ≤ r) (h2 : r ≤ 10) : Calls Try.prog 45 #[.int .i64 r] w fun e w' => e = .returned (.int .i64 3) ∧ Below w.heap.size w w' := by
  have HR := hid h
  have g128 : decide (128 ≤ r) = false := by simp; omega
  have g97 : decide (97 ≤ r) = false := by simp; omega
  have g65 : decide (65 ≤ r) = false := by simp; omega
  have g48 : decide (48 ≤ r) = false := by simp; omega
  have l122 : decide (r ≤ 122) = true := by simp; omega
  have l90 : decide (r ≤ 90) = true := by simp; omega
  have l57 : decide (r ≤ 57) = true := by simp; omega
  have e95 : (r == 95) = false := by simp; omega
  have e9 : (r == 9) = false := by simp; omega
  have e10 : (r == 10) = true := by simp; omega
  have e13 : (r == 13) = false := by simp; omega
  have e32 : (r == 32) = false := by simp; omega
  have k32 : decide (32 < r) = false := by simp; omega
  have k127 : decide (r < 127) = true := by simp; omega
  clear h h1 h2
  go_enter Try.func45, Try.ntmps45
  go_wp2_with (first | (go_at_call 74; refine (is_any HR.out).mono ?_; rintro e w1 ⟨rfl, rfl⟩))
  go_ret
  exact ⟨rfl, (by repeat (first | (with_reducible exact Below.refl _ _) | (with_reducible exact bl_mm) | (with_reducible refine bl_dr ?_) | (with_reducible refine bl_drN ?_ _) | (with_reducible refine bl_al ?_ _) | (with_reducible refine bl_more ?_ _ _)))⟩
set_option maxHeartbeats 1000000 in
theorem rclass_3 {w : World} {r : Int} (h : okR r) (h1 : 11 ≤ r) (h2 : r ≤ 12) : Calls Try.prog 45 #[.int .i64 r] w fun e w' => e = .returned (.int .i64 0) ∧ Below w.heap.size w w' := by
  have HR := hid h
  have g128 : decide (128 ≤ r) = false := by simp; omega
  have g97 : decide (97 ≤ r) = false := by simp; omega
  have g65 : decide (65 ≤ r) = false := by simp; omega
  have g48 : decide (48 ≤ r) = false := by simp; omega
  have l122 : decide (r ≤ 122) = true := by simp; omega
  have l90 : decide (r ≤ 90) = true := by simp; omega
  have l57 : decide (r ≤ 57) = true := by simp; omega
  have e95 : (r == 95) = false := by simp; omega
  have e9 : (r == 9) = false := by simp; omega
  have e10 : (r == 10) = false := by simp; omega
  have e13 : (r == 13) = false := by simp; omega
  have e32 : (r == 32) = false := by simp; omega
  have k32 : decide (32 < r) = false := by simp; omega
  have k127 : decide (r < 127) = true := by simp; omega
  clear h h1 h2
  go_enter Try.func45, Try.ntmps45
  go_wp2_with (first | (go_at_call 74; refine (is_any HR.out).mono ?_; rintro e w1 ⟨rfl, rfl⟩))
  go_ret
  exact ⟨rfl, (by repeat (first | (with_reducible exact Below.refl _ _) | (with_reducible exact bl_mm) | (with_reducible refine bl_dr ?_) | (with_reducible refine bl_drN ?_ _) | (with_reducible refine bl_al ?_ _) | (with_reducible refine bl_more ?_ _ _)))⟩
set_option maxHeartbeats 1000000 in
theorem rclass_4 {w : World} {r : Int} (h : okR r) (h1 : 13 ≤ r) (h2 : r ≤ 13) : Calls Try.prog 45 #[.int .i64 r] w fun e w' => e = .returned (.int .i64 3) ∧ Below w.heap.size w w' := by
  have HR := hid h
  have g128 : decide (128 ≤ r) = false := by simp; omega
  have g97 : decide (97 ≤ r) = false := by simp; omega
  have g65 : decide (65 ≤ r) = false := by simp; omega
  have g48 : decide (48 ≤ r) = false := by simp; omega
  have l122 : decide (r ≤ 122) = true := by simp; omega
  have l90 : decide (r ≤ 90) = true := by simp; omega
  have l57 : decide (r ≤ 57) = true := by simp; omega
  have e95 : (r == 95) = false := by simp; omega
  have e9 : (r == 9) = false := by simp; omega
  have e10 : (r == 10) = false := by simp; omega
  have e13 : (r == 13) = true := by simp; omega
  have e32 : (r == 32) = false := by simp; omega
  have k32 : decide (32 < r) = false := by simp; omega
  have k127 : decide (r < 127) = true := by simp; omega
  clear h h1 h2
  go_enter Try.func45, Try.ntmps45
  go_wp2_with (first | (go_at_call 74; refine (is_any HR.out).mono ?_; rintro e w1 ⟨rfl, rfl⟩))
  go_ret
  exact ⟨rfl, (by repeat (first | (with_reducible exact Below.refl _ _) | (with_reducible exact bl_mm) | (with_reducible refine bl_dr ?_) | (with_reducible refine bl_drN ?_ _) | (with_reducible refine bl_al ?_ _) | (with_reducible refine bl_more ?_ _ _)))⟩
set_option maxHeartbeats 1000000 in
theorem rclass_5 {w : World} {r : Int} (h : okR r) (h1 : 14 ≤ r) (h2 : r ≤ 31) : Calls Try.prog 45 #[.int .i64 r] w fun e w' => e = .returned (.int .i64 0) ∧ Below w.heap.size w w' := by
  have HR := hid h
  have g128 : decide (128 ≤ r) = false := by simp; omega
  have g97 : decide (97 ≤ r) = false := by simp; omega
  have g65 : decide (65 ≤ r) = false := by simp; omega
  have g48 : decide (48 ≤ r) = false := by simp; omega
  have l122 : decide (r ≤ 122) = true := by simp; omega
  have l90 : decide (r ≤ 90) = true := by simp; omega
  have l57 : decide (r ≤ 57) = true := by simp; omega
  have e95 : (r == 95) = false := by simp; omega
  have e9 : (r == 9) = false := by simp; omega
  have e10 : (r == 10) = false := by simp; omega
  have e13 : (r == 13) = false := by simp; omega
  have e32 : (r == 32) = false := by simp; omega
  have k32 : decide (32 < r) = false := by simp; omega
  have k127 : decide (r < 127) = true := by simp; omega
  clear h h1 h2
  go_enter Try.func45, Try.ntmps45
  go_wp2_with (first | (go_at_call 74; refine (is_any HR.out).mono ?_; rintro e w1 ⟨rfl, rfl⟩))
  go_ret
  exact ⟨rfl, (by repeat (first | (with_reducible exact Below.refl _ _) | (with_reducible exact bl_mm) | (with_reducible refine bl_dr ?_) | (with_reducible refine bl_drN ?_ _) | (with_reducible refine bl_al ?_ _) | (with_reducible refine bl_more ?_ _ _)))⟩
set_option maxHeartbeats 1000000 in
theorem rclass_6 {w : World} {r : Int} (h : okR r) (h1 : 32 ≤ r) (h2 : r ≤ 32) : Calls Try.prog 45 #[.int .i64 r] w fun e w' => e = .returned (.int .i64 3) ∧ Below w.heap.size w w' := by
  have HR := hid h
  have g128 : decide (128 ≤ r) = false := by simp; omega
  have g97 : decide (97 ≤ r) = false := by simp; omega
  have g65 : decide (65 ≤ r) = false := by simp; omega
  have g48 : decide (48 ≤ r) = false := by simp; omega
  have l122 : decide (r ≤ 122) = true := by simp; omega
  have l90 : decide (r ≤ 90) = true := by simp; omega
  have l57 : decide (r ≤ 57) = true := by simp; omega
  have e95 : (r == 95) = false := by simp; omega
  have e9 : (r == 9) = false := by simp; omega
  have e10 : (r == 10) = false := by simp; omega
  have e13 : (r == 13) = false := by simp; omega
  have e32 : (r == 32) = true := by simp; omega
  have k32 : decide (32 < r) = false := by simp; omega
  have k127 : decide (r < 127) = true := by simp; omega
  clear h h1 h2
  go_enter Try.func45, Try.ntmps45
  go_wp2_with (first | (go_at_call 74; refine (is_any HR.out).mono ?_; rintro e w1 ⟨rfl, rfl⟩))
  go_ret
  exact ⟨rfl, (by repeat (first | (with_reducible exact Below.refl _ _) | (with_reducible exact bl_mm) | (with_reducible refine bl_dr ?_) | (with_reducible refine bl_drN ?_ _) | (with_reducible refine bl_al ?_ _) | (with_reducible refine bl_more ?_ _ _)))⟩
set_option maxHeartbeats 1000000 in
theorem rclass_7 {w : World} {r : Int} (h : okR r) (h1 : 33 ≤ r) (h2 : r ≤ 47) : Calls Try.prog 45 #[.int .i64 r] w fun e w' => e = .returned (.int .i64 4) ∧ Below w.heap.size w w' := by
  have HR := hid h
  have g128 : decide (128 ≤ r) = false := by simp; omega
  have g97 : decide (97 ≤ r) = false := by simp; omega
  have g65 : decide (65 ≤ r) = false := by simp; omega
  have g48 : decide (48 ≤ r) = false := by simp; omega
  have l122 : decide (r ≤ 122) = true := by simp; omega
  have l90 : decide (r ≤ 90) = true := by simp; omega
  have l57 : decide (r ≤ 57) = true := by simp; omega
  have e95 : (r == 95) = false := by simp; omega
  have e9 : (r == 9) = false := by simp; omega
  have e10 : (r == 10) = false := by simp; omega
  have e13 : (r == 13) = false := by simp; omega
  have e32 : (r == 32) = false := by simp; omega
  have k32 : decide (32 < r) = true := by simp; omega
  have k127 : decide (r < 127) = true := by simp; omega
  clear h h1 h2
  go_enter Try.func45, Try.ntmps45
  go_wp2_with (first | (go_at_call 74; refine (is_any HR.out).mono ?_; rintro e w1 ⟨rfl, rfl⟩))
  go_ret
  exact ⟨rfl, (by repeat (first | (with_reducible exact Below.refl _ _) | (with_reducible exact bl_mm) | (with_reducible refine bl_dr ?_) | (with_reducible refine bl_drN ?_ _) | (with_reducible refine bl_al ?_ _) | (with_reducible refine bl_more ?_ _ _)))⟩
set_option maxHeartbeats 1000000 in
theorem rclass_8 {w : World} {r : Int} (h : okR r) (h1 : 48 ≤ r) (h2 : r ≤ 57) : Calls Try.prog 45 #[.int .i64 r] w fun e w' => e = .returned (.int .i64 2) ∧ Below w.heap.size w w' := by
  have HR := hid h
  have g128 : decide (128 ≤ r) = false := by simp; omega
  have g97 : decide (97 ≤ r) = false := by simp; omega
  have g65 : decide (65 ≤ r) = false := by simp; omega
  have g48 : decide (48 ≤ r) = true := by simp; omega
  have l122 : decide (r ≤ 122) = true := by simp; omega
  have l90 : decide (r ≤ 90) = true := by simp; omega
  have l57 : decide (r ≤ 57) = true := by simp; omega
  have e95 : (r == 95) = false := by simp; omega
  have e9 : (r == 9) = false := by simp; omega
  have e10 : (r == 10) = false := by simp; omega
  have e13 : (r == 13) = false := by simp; omega
  have e32 : (r == 32) = false := by simp; omega
  have k32 : decide (32 < r) = true := by simp; omega
  have k127 : decide (r < 127) = true := by simp; omega
  clear h h1 h2
  go_enter Try.func45, Try.ntmps45
  go_wp2_with (first | (go_at_call 74; refine (is_any HR.out).mono ?_; rintro e w1 ⟨rfl, rfl⟩))
  go_ret
  exact ⟨rfl, (by repeat (first | (with_reducible exact Below.refl _ _) | (with_reducible exact bl_mm) | (with_reducible refine bl_dr ?_) | (with_reducible refine bl_drN ?_ _) | (with_reducible refine bl_al ?_ _) | (with_reducible refine bl_more ?_ _ _)))⟩
set_option maxHeartbeats 1000000 in
theorem rclass_9 {w : World} {r : Int} (h : okR r) (h1 : 58 ≤ r) (h2 : r ≤ 64) : Calls Try.prog 45 #[.int .i64 r] w fun e w' => e = .returned (.int .i64 4) ∧ Below w.heap.size w w' := by
  have HR := hid h
  have g128 : decide (128 ≤ r) = false := by simp; omega
  have g97 : decide (97 ≤ r) = false := by simp; omega
  have g65 : decide (65 ≤ r) = false := by simp; omega
  have g48 : decide (48 ≤ r) = true := by simp; omega
  have l122 : decide (r ≤ 122) = true := by simp; omega
  have l90 : decide (r ≤ 90) = true := by simp; omega
  have l57 : decide (r ≤ 57) = false := by simp; omega
  have e95 : (r == 95) = false := by simp; omega
  have e9 : (r == 9) = false := by simp; omega
  have e10 : (r == 10) = false := by simp; omega
  have e13 : (r == 13) = false := by simp; omega
  have e32 : (r == 32) = false := by simp; omega
  have k32 : decide (32 < r) = true := by simp; omega
  have k127 : decide (r < 127) = true := by simp; omega
  clear h h1 h2
  go_enter Try.func45, Try.ntmps45
  go_wp2_with (first | (go_at_call 74; refine (is_any HR.out).mono ?_; rintro e w1 ⟨rfl, rfl⟩))
  go_ret
  exact ⟨rfl, (by repeat (first | (with_reducible exact Below.refl _ _) | (with_reducible exact bl_mm) | (with_reducible refine bl_dr ?_) | (with_reducible refine bl_drN ?_ _) | (with_reducible refine bl_al ?_ _) | (with_reducible refine bl_more ?_ _ _)))⟩
set_option maxHeartbeats 1000000 in
theorem rclass_10 {w : World} {r : Int} (h : okR r) (h1 : 65 ≤ r) (h2 : r ≤ 90) : Calls Try.prog 45 #[.int .i64 r] w fun e w' => e = .returned (.int .i64 1) ∧ Below w.heap.size w w' := by
  have HR := hid h
  have g128 : decide (128 ≤ r) = false := by simp; omega
  have g97 : decide (97 ≤ r) = false := by simp; omega
  have g65 : decide (65 ≤ r) = true := by simp; omega
  have g48 : decide (48 ≤ r) = true := by simp; omega
  have l122 : decide (r ≤ 122) = true := by simp; omega
  have l90 : decide (r ≤ 90) = true := by simp; omega
  have l57 : decide (r ≤ 57) = false := by simp; omega
  have e95 : (r == 95) = false := by simp; omega
  have e9 : (r == 9) = false := by simp; omega
  have e10 : (r == 10) = false := by simp; omega
  have e13 : (r == 13) = false := by simp; omega
  have e32 : (r == 32) = false := by simp; omega
  have k32 : decide (32 < r) = true := by simp; omega
  have k127 : decide (r < 127) = true := by simp; omega
  clear h h1 h2
  go_enter Try.func45, Try.ntmps45
  go_wp2_with (first | (go_at_call 74; refine (is_any HR.out).mono ?_; rintro e w1 ⟨rfl, rfl⟩))
  go_ret
  exact ⟨rfl, (by repeat (first | (with_reducible exact Below.refl _ _) | (with_reducible exact bl_mm) | (with_reducible refine bl_dr ?_) | (with_reducible refine bl_drN ?_ _) | (with_reducible refine bl_al ?_ _) | (with_reducible refine bl_more ?_ _ _)))⟩
set_option maxHeartbeats 1000000 in
theorem rclass_11 {w : World} {r : Int} (h : okR r) (h1 : 91 ≤ r) (h2 : r ≤ 94) : Calls Try.prog 45 #[.int .i64 r] w fun e w' => e = .returned (.int .i64 4) ∧ Below w.heap.size w w' := by
  have HR := hid h
  have g128 : decide (128 ≤ r) = false := by simp; omega
  have g97 : decide (97 ≤ r) = false := by simp; omega
  have g65 : decide (65 ≤ r) = true := by simp; omega
  have g48 : decide (48 ≤ r) = true := by simp; omega
  have l122 : decide (r ≤ 122) = true := by simp; omega
  have l90 : decide (r ≤ 90) = false := by simp; omega
  have l57 : decide (r ≤ 57) = false := by simp; omega
  have e95 : (r == 95) = false := by simp; omega
  have e9 : (r == 9) = false := by simp; omega
  have e10 : (r == 10) = false := by simp; omega
  have e13 : (r == 13) = false := by simp; omega
  have e32 : (r == 32) = false := by simp; omega
  have k32 : decide (32 < r) = true := by simp; omega
  have k127 : decide (r < 127) = true := by simp; omega
  clear h h1 h2
  go_enter Try.func45, Try.ntmps45
  go_wp2_with (first | (go_at_call 74; refine (is_any HR.out).mono ?_; rintro e w1 ⟨rfl, rfl⟩))
  go_ret
  exact ⟨rfl, (by repeat (first | (with_reducible exact Below.refl _ _) | (with_reducible exact bl_mm) | (with_reducible refine bl_dr ?_) | (with_reducible refine bl_drN ?_ _) | (with_reducible refine bl_al ?_ _) | (with_reducible refine bl_more ?_ _ _)))⟩
set_option maxHeartbeats 1000000 in
theorem rclass_12 {w : World} {r : Int} (h : okR r) (h1 : 95 ≤ r) (h2 : r ≤ 95) : Calls Try.prog 45 #[.int .i64 r] w fun e w' => e = .returned (.int .i64 1) ∧ Below w.heap.size w w' := by
  have HR := hid h
  have g128 : decide (128 ≤ r) = false := by simp; omega
  have g97 : decide (97 ≤ r) = false := by simp; omega
  have g65 : decide (65 ≤ r) = true := by simp; omega
  have g48 : decide (48 ≤ r) = true := by simp; omega
  have l122 : decide (r ≤ 122) = true := by simp; omega
  have l90 : decide (r ≤ 90) = false := by simp; omega
  have l57 : decide (r ≤ 57) = false := by simp; omega
  have e95 : (r == 95) = true := by simp; omega
  have e9 : (r == 9) = false := by simp; omega
  have e10 : (r == 10) = false := by simp; omega
  have e13 : (r == 13) = false := by simp; omega
  have e32 : (r == 32) = false := by simp; omega
  have k32 : decide (32 < r) = true := by simp; omega
  have k127 : decide (r < 127) = true := by simp; omega
  clear h h1 h2
  go_enter Try.func45, Try.ntmps45
  go_wp2_with (first | (go_at_call 74; refine (is_any HR.out).mono ?_; rintro e w1 ⟨rfl, rfl⟩))
  go_ret
  exact ⟨rfl, (by repeat (first | (with_reducible exact Below.refl _ _) | (with_reducible exact bl_mm) | (with_reducible refine bl_dr ?_) | (with_reducible refine bl_drN ?_ _) | (with_reducible refine bl_al ?_ _) | (with_reducible refine bl_more ?_ _ _)))⟩
set_option maxHeartbeats 1000000 in
theorem rclass_13 {w : World} {r : Int} (h : okR r) (h1 : 96 ≤ r) (h2 : r ≤ 96) : Calls Try.prog 45 #[.int .i64 r] w fun e w' => e = .returned (.int .i64 4) ∧ Below w.heap.size w w' := by
  have HR := hid h
  have g128 : decide (128 ≤ r) = false := by simp; omega
  have g97 : decide (97 ≤ r) = false := by simp; omega
  have g65 : decide (65 ≤ r) = true := by simp; omega
  have g48 : decide (48 ≤ r) = true := by simp; omega
  have l122 : decide (r ≤ 122) = true := by simp; omega
  have l90 : decide (r ≤ 90) = false := by simp; omega
  have l57 : decide (r ≤ 57) = false := by simp; omega
  have e95 : (r == 95) = false := by simp; omega
  have e9 : (r == 9) = false := by simp; omega
  have e10 : (r == 10) = false := by simp; omega
  have e13 : (r == 13) = false := by simp; omega
  have e32 : (r == 32) = false := by simp; omega
  have k32 : decide (32 < r) = true := by simp; omega
  have k127 : decide (r < 127) = true := by simp; omega
  clear h h1 h2
  go_enter Try.func45, Try.ntmps45
  go_wp2_with (first | (go_at_call 74; refine (is_any HR.out).mono ?_; rintro e w1 ⟨rfl, rfl⟩))
  go_ret
  exact ⟨rfl, (by repeat (first | (with_reducible exact Below.refl _ _) | (with_reducible exact bl_mm) | (with_reducible refine bl_dr ?_) | (with_reducible refine bl_drN ?_ _) | (with_reducible refine bl_al ?_ _) | (with_reducible refine bl_more ?_ _ _)))⟩
set_option maxHeartbeats 1000000 in
theorem rclass_14 {w : World} {r : Int} (h : okR r) (h1 : 97 ≤ r) (h2 : r ≤ 122) : Calls Try.prog 45 #[.int .i64 r] w fun e w' => e = .returned (.int .i64 1) ∧ Below w.heap.size w w' := by
  have HR := hid h
  have g128 : decide (128 ≤ r) = false := by simp; omega
  have g97 : decide (97 ≤ r) = true := by simp; omega
  have g65 : decide (65 ≤ r) = true := by simp; omega
  have g48 : decide (48 ≤ r) = true := by simp; omega
  have l122 : decide (r ≤ 122) = true := by simp; omega
  have l90 : decide (r ≤ 90) = false := by simp; omega
  have l57 : decide (r ≤ 57) = false := by simp; omega
  have e95 : (r == 95) = false := by simp; omega
  have e9 : (r == 9) = false := by simp; omega
  have e10 : (r == 10) = false := by simp; omega
  have e13 : (r == 13) = false := by simp; omega
  have e32 : (r == 32) = false := by simp; omega
  have k32 : decide (32 < r) = true := by simp; omega
  have k127 : decide (r < 127) = true := by simp; omega
  clear h h1 h2
  go_enter Try.func45, Try.ntmps45
  go_wp2_with (first | (go_at_call 74; refine (is_any HR.out).mono ?_; rintro e w1 ⟨rfl, rfl⟩))
  go_ret
  exact ⟨rfl, (by repeat (first | (with_reducible exact Below.refl _ _) | (with_reducible exact bl_mm) | (with_reducible refine bl_dr ?_) | (with_reducible refine bl_drN ?_ _) | (with_reducible refine bl_al ?_ _) | (with_reducible refine bl_more ?_ _ _)))⟩
set_option maxHeartbeats 1000000 in
theorem rclass_15 {w : World} {r : Int} (h : okR r) (h1 : 123 ≤ r) (h2 : r ≤ 126) : Calls Try.prog 45 #[.int .i64 r] w fun e w' => e = .returned (.int .i64 4) ∧ Below w.heap.size w w' := by
  have HR := hid h
  have g128 : decide (128 ≤ r) = false := by simp; omega
  have g97 : decide (97 ≤ r) = true := by simp; omega
  have g65 : decide (65 ≤ r) = true := by simp; omega
  have g48 : decide (48 ≤ r) = true := by simp; omega
  have l122 : decide (r ≤ 122) = false := by simp; omega
  have l90 : decide (r ≤ 90) = false := by simp; omega
  have l57 : decide (r ≤ 57) = false := by simp; omega
  have e95 : (r == 95) = false := by simp; omega
  have e9 : (r == 9) = false := by simp; omega
  have e10 : (r == 10) = false := by simp; omega
  have e13 : (r == 13) = false := by simp; omega
  have e32 : (r == 32) = false := by simp; omega
  have k32 : decide (32 < r) = true := by simp; omega
  have k127 : decide (r < 127) = true := by simp; omega
  clear h h1 h2
  go_enter Try.func45, Try.ntmps45
  go_wp2_with (first | (go_at_call 74; refine (is_any HR.out).mono ?_; rintro e w1 ⟨rfl, rfl⟩))
  go_ret
  exact ⟨rfl, (by repeat (first | (with_reducible exact Below.refl _ _) | (with_reducible exact bl_mm) | (with_reducible refine bl_dr ?_) | (with_reducible refine bl_drN ?_ _) | (with_reducible refine bl_al ?_ _) | (with_reducible refine bl_more ?_ _ _)))⟩
set_option maxHeartbeats 1000000 in
theorem rclass_16 {w : World} {r : Int} (h : okR r) (h1 : 127 ≤ r) (h2 : r ≤ 127) : Calls Try.prog 45 #[.int .i64 r] w fun e w' => e = .returned (.int .i64 0) ∧ Below w.heap.size w w' := by
  have HR := hid h
  have g128 : decide (128 ≤ r) = false := by simp; omega
  have g97 : decide (97 ≤ r) = true := by simp; omega
  have g65 : decide (65 ≤ r) = true := by simp; omega
  have g48 : decide (48 ≤ r) = true := by simp; omega
  have l122 : decide (r ≤ 122) = false := by simp; omega
  have l90 : decide (r ≤ 90) = false := by simp; omega
  have l57 : decide (r ≤ 57) = false := by simp; omega
  have e95 : (r == 95) = false := by simp; omega
  have e9 : (r == 9) = false := by simp; omega
  have e10 : (r == 10) = false := by simp; omega
  have e13 : (r == 13) = false := by simp; omega
  have e32 : (r == 32) = false := by simp; omega
  have k32 : decide (32 < r) = true := by simp; omega
  have k127 : decide (r < 127) = false := by simp; omega
  clear h h1 h2
  go_enter Try.func45, Try.ntmps45
  go_wp2_with (first | (go_at_call 74; refine (is_any HR.out).mono ?_; rintro e w1 ⟨rfl, rfl⟩))
  go_ret
  exact ⟨rfl, (by repeat (first | (with_reducible exact Below.refl _ _) | (with_reducible exact bl_mm) | (with_reducible refine bl_dr ?_) | (with_reducible refine bl_drN ?_ _) | (with_reducible refine bl_al ?_ _) | (with_reducible refine bl_more ?_ _ _)))⟩
set_option maxHeartbeats 1000000 in
theorem rclass_17 {w : World} {r : Int} (h : okR r) (h1 : 128 ≤ r) : Calls Try.prog 45 #[.int .i64 r] w fun e w' => e = .returned (.int .i64 1) ∧ Below w.heap.size w w' := by
  have HR := hid h
  have g128 : decide (128 ≤ r) = true := by simp; omega
  have g97 : decide (97 ≤ r) = true := by simp; omega
  have g65 : decide (65 ≤ r) = true := by simp; omega
  have g48 : decide (48 ≤ r) = true := by simp; omega
  have l122 : decide (r ≤ 122) = false := by simp; omega
  have l90 : decide (r ≤ 90) = false := by simp; omega
  have l57 : decide (r ≤ 57) = false := by simp; omega
  have e95 : (r == 95) = false := by simp; omega
  have e9 : (r == 9) = false := by simp; omega
  have e10 : (r == 10) = false := by simp; omega
  have e13 : (r == 13) = false := by simp; omega
  have e32 : (r == 32) = false := by simp; omega
  have k32 : decide (32 < r) = true := by simp; omega
  have k127 : decide (r < 127) = false := by simp; omega
  clear h h1
  go_enter Try.func45, Try.ntmps45
  go_wp2_with (first | (go_at_call 74; refine (is_any HR.out).mono ?_; rintro e w1 ⟨rfl, rfl⟩))
  go_ret
  exact ⟨rfl, (by repeat (first | (with_reducible exact Below.refl _ _) | (with_reducible exact bl_mm) | (with_reducible refine bl_dr ?_) | (with_reducible refine bl_drN ?_ _) | (with_reducible refine bl_al ?_ _) | (with_reducible refine bl_more ?_ _ _)))⟩
theorem rclass_any {w : World} {r : Int} (h : okR r) : Calls Try.prog 45 #[.int .i64 r] w fun e w' => e = .returned (.int .i64 (cls r)) ∧ Below w.heap.size w w' := by
  obtain ⟨h0, h1, h2⟩ := id h
  by_cases b0 : r ≤ 8
  · have e : cls r = 0 := by unfold cls; (repeat' split) <;> first | rfl | omega
    rw [e]; exact rclass_0 h (by omega) b0
  by_cases b1 : r ≤ 9
  · have e : cls r = 3 := by unfold cls; (repeat' split) <;> first | rfl | omega
    rw [e]; exact rclass_1 h (by omega) b1
  by_cases b2 : r ≤ 10
  · have e : cls r = 3 := by unfold cls; (repeat' split) <;> first | rfl | omega
    rw [e]; exact rclass_2 h (by omega) b2
  by_cases b3 : r ≤ 12
  · have e : cls r = 0 := by unfold cls; (repeat' split) <;> first | rfl | omega
    rw [e]; exact rclass_3 h (by omega) b3
  by_cases b4 : r ≤ 13
  · have e : cls r = 3 := by unfold cls; (repeat' split) <;> first | rfl | omega
    rw [e]; exact rclass_4 h (by omega) b4
  by_cases b5 : r ≤ 31
  · have e : cls r = 0 := by unfold cls; (repeat' split) <;> first | rfl | omega
    rw [e]; exact rclass_5 h (by omega) b5
  by_cases b6 : r ≤ 32
  · have e : cls r = 3 := by unfold cls; (repeat' split) <;> first | rfl | omega
    rw [e]; exact rclass_6 h (by omega) b6
  by_cases b7 : r ≤ 47
  · have e : cls r = 4 := by unfold cls; (repeat' split) <;> first | rfl | omega
    rw [e]; exact rclass_7 h (by omega) b7
  by_cases b8 : r ≤ 57
  · have e : cls r = 2 := by unfold cls; (repeat' split) <;> first | rfl | omega
    rw [e]; exact rclass_8 h (by omega) b8
  by_cases b9 : r ≤ 64
  · have e : cls r = 4 := by unfold cls; (repeat' split) <;> first | rfl | omega
    rw [e]; exact rclass_9 h (by omega) b9
  by_cases b10 : r ≤ 90
  · have e : cls r = 1 := by unfold cls; (repeat' split) <;> first | rfl | omega
    rw [e]; exact rclass_10 h (by omega) b10
  by_cases b11 : r ≤ 94
  · have e : cls r = 4 := by unfold cls; (repeat' split) <;> first | rfl | omega
    rw [e]; exact rclass_11 h (by omega) b11
  by_cases b12 : r ≤ 95
  · have e : cls r = 1 := by unfold cls; (repeat' split) <;> first | rfl | omega
    rw [e]; exact rclass_12 h (by omega) b12
  by_cases b13 : r ≤ 96
  · have e : cls r = 4 := by unfold cls; (repeat' split) <;> first | rfl | omega
    rw [e]; exact rclass_13 h (by omega) b13
  by_cases b14 : r ≤ 122
  · have e : cls r = 1 := by unfold cls; (repeat' split) <;> first | rfl | omega
    rw [e]; exact rclass_14 h (by omega) b14
  by_cases b15 : r ≤ 126
  · have e : cls r = 4 := by unfold cls; (repeat' split) <;> first | rfl | omega
    rw [e]; exact rclass_15 h (by omega) b15
  by_cases b16 : r ≤ 127
  · have e : cls r = 0 := by unfold cls; (repeat' split) <;> first | rfl | omega
    rw [e]; exact rclass_16 h (by omega) b16
  have e : cls r = 1 := by unfold cls; (repeat' split) <;> first | rfl | omega
  rw [e]; exact rclass_17 h (by omega)
end Go.Proofs.Ytidilpciolladaa

/- Where no code point stands. -/
namespace Go.Proofs.Ytidilpciolladaa
open Go.RowKit

/-- No code point stands at i. -/
def bad (s : ByteArray) (i : Nat) : Bool := decide (Utf8.decode s i = (65533, 1))
set_option maxHeartbeats 1000000 in
theorem broken_no {w : World} {s : ByteArray} {i : Nat} {r : Int} (h : r ≠ 65533) : Calls Try.prog 61 #[.string s, .int .i64 i, .int .i32 r] w fun e w' => e = .returned (.bool false) ∧ w = w' := by
  have i1 : (r == 65533) = false := by simpa using h
  clear h
  go_enter Try.func61, Try.ntmps61
  go_wp2
  go_ret
  exact ⟨rfl, rfl⟩
set_option maxHeartbeats 1000000 in
theorem broken_eq {w : World} {s : ByteArray} {i : Nat} (hi : i ≤ s.size) : Calls Try.prog 61 #[.string s, .int .i64 i, .int .i32 65533] w fun e w' => e = .returned (.bool (!(Lib.hasPrefix (s.data.toList.drop i) [239, 191, 189]))) ∧ w = w' := by
  have i1 : (i : Int) ≤ (s.size : Int) := by omega
  have i2 : (0 : Int) ≤ (i : Int) := by omega
  go_enter Try.func61, Try.ntmps61
  go_wp2_with (go_at_call 81; refine (Go.Proofs.Try.strings_HasPrefix _ _ _).mono ?_; rintro e w1 ⟨rfl, rfl⟩)
  go_ret
  refine ⟨?_, rfl⟩
  show Ending.returned (.bool (!Lib.hasPrefix (List.take (s.size - i) (List.drop i s.data.toList)) [239, 191, 189])) = _
  rw [List.take_of_length_le (by rw [List.length_drop]; exact Nat.le_refl _)]
/-! ### in plain Lean -/
theorem get_drop {s : ByteArray} {i k : Nat} (h : i + k < s.size) : (s.data.toList.drop i)[k]? = some (s.get! (i + k)) := by
  have h' : i + k < s.data.size := h
  rw [List.getElem?_drop, Array.getElem?_toList, Array.getElem?_eq_getElem h']
  simp only [ByteArray.get!, Array.getElem!_eq_getD, Array.getD, h', dite_true]
  rfl
theorem pre3 {s : ByteArray} {i : Nat} : Lib.hasPrefix (s.data.toList.drop i) [239, 191, 189] = true ↔ i + 2 < s.size ∧ s.get! (i + 0) = 239 ∧ s.get! (i + 1) = 191 ∧ s.get! (i + 2) = 189 := by
  have hl : (s.data.toList.drop i).length = s.size - i := by rw [List.length_drop]; rfl
  unfold Lib.hasPrefix
  rw [List.isPrefixOf_iff_prefix]
  constructor
  · rintro ⟨t, ht⟩
    have h3 : i + 2 < s.size := by have := congrArg List.length ht; rw [hl] at this; simp at this; omega
    have g0 := get_drop (s := s) (i := i) (k := 0) (by omega)
    have g1 := get_drop (s := s) (i := i) (k := 1) (by omega)
    have g2 := get_drop (s := s) (i := i) (k := 2) (by omega)
    rw [← ht] at g0 g1 g2
    simp only [List.cons_append, List.nil_append, List.getElem?_cons_zero, List.getElem?_cons_succ, Option.some.injEq] at g0 g1 g2
    exact ⟨h3, g0.symm, g1.symm, g2.symm⟩
  · rintro ⟨h3, e0, e1, e2⟩
    refine ⟨(s.data.toList.drop i).drop 3, ?_⟩
    apply List.ext_getElem?
    intro k
    rcases k with _ | _ | _ | k
    · rw [get_drop (by omega), e0]; rfl
    · rw [get_drop (by omega), e1]; rfl
    · rw [get_drop (by omega), e2]; rfl
    · simp only [List.cons_append, List.nil_append, List.getElem?_cons_succ, List.getElem?_drop]
      congr 1; omega
theorem bad_prefix {s : ByteArray} {i : Nat} (h : (Utf8.decode s i).1 = 65533) : (!Lib.hasPrefix (s.data.toList.drop i) [239, 191, 189]) = bad s i := by
  unfold bad
  cases hp : Lib.hasPrefix (s.data.toList.drop i) [239, 191, 189] with
  | true =>
    obtain ⟨h3, e0, e1, e2⟩ := pre3.1 hp
    have e : Utf8.decode s i = (65533, 3) := by
      unfold Utf8.decode
      simp only [e0, e1, e2]
      have a1 : i + 1 < s.size := by omega
      simp [a1, h3, Utf8.valid]
    rw [e]; rfl
  | false =>
    have hn : ¬ (i + 2 < s.size ∧ s.get! (i + 0) = 239 ∧ s.get! (i + 1) = 191 ∧ s.get! (i + 2) = 189) := fun h => by rw [pre3.2 h] at hp; cases hp
    suffices Utf8.decode s i = (65533, 1) by rw [this]; rfl
    unfold Utf8.decode at h ⊢
    simp only [Utf8.runeError] at h ⊢
    have b0 := (s.get! (i + 0)).toNat_lt
    split at h
    · have h : (s.get! (i + 0)).toNat = 65533 := h
      omega
    · rename_i c0
      rw [if_neg c0]
      split at h
      · rename_i c1
        rw [if_pos c1]
        split at h
        · simp at h; omega
        · rename_i c2
          rw [if_neg c2]
      · rename_i c1
        rw [if_neg c1]
        split at h
        · rename_i c2
          rw [if_pos c2]
          split at h
          · exfalso
            simp only [Bool.and_eq_true, beq_iff_eq, decide_eq_true_eq] at c2 h
            obtain ⟨⟨d1, d2, d3⟩, d4, d5⟩ := c2
            exact hn ⟨d4, UInt8.toNat_inj.1 (by show _ = 239; omega), UInt8.toNat_inj.1 (by show _ = 191; omega), UInt8.toNat_inj.1 (by show _ = 189; omega)⟩
          · rename_i c3
            rw [if_neg c3]
        · rename_i c2
          rw [if_neg c2]
          split at h
          · rename_i c3
            rw [if_pos c3]
            split at h
            · rename_i c4
              simp only [Bool.and_eq_true, decide_eq_true_eq] at c4
              have h := Eq.trans (id h) rfl
              simp only at h
              omega
            · rename_i c4
              rw [if_neg c4]
          · rename_i c3
            rw [if_neg c3]
theorem bad_no {s : ByteArray} {i : Nat} (h : (Utf8.decode s i).1 ≠ 65533) : bad s i = false := by
  unfold bad
  exact decide_eq_false (fun e => h (by rw [e]))
theorem broken_any {w : World} {s : ByteArray} {i : Nat} (hi : i ≤ s.size) : Calls Try.prog 61 #[.string s, .int .i64 i, .int .i32 (Utf8.decode s i).1] w fun e w' => e = .returned (.bool (bad s i)) ∧ w = w' := by
  by_cases h : (Utf8.decode s i).1 = 65533
  · rw [h, ← bad_prefix h]
    exact broken_eq hi
  · rw [bad_no h]
    exact broken_no (by omega)
end Go.Proofs.Ytidilpciolladaa

/- A text, code point by code point. -/
namespace Go.Proofs.Ytidilpciolladaa
open Go.RowKit

theorem width_pos (s : ByteArray) (i : Nat) : 1 ≤ (Utf8.decode s i).2 := by
  unfold Utf8.decode
  simp only
  (repeat' split) <;> simp
theorem width_le {s : ByteArray} {i : Nat} (_ : i < s.size) : i + (Utf8.decode s i).2 ≤ s.size := by
  unfold Utf8.decode
  simp only [Bool.and_eq_true, decide_eq_true_eq]
  (repeat' split) <;> first | (simp only; omega)
/-- The first place from i on at which no code point stands. -/
def badAt (s : ByteArray) (i : Nat) : Option Nat := if h : i < s.size then (if bad s i then some i else badAt s (i + max 1 (Utf8.decode s i).2)) else none
termination_by s.size - i
decreasing_by omega
theorem badAt_end {s : ByteArray} {i : Nat} (h : ¬ i < s.size) : badAt s i = none := by rw [badAt, dif_neg h]
theorem badAt_here {s : ByteArray} {i : Nat} (h : i < s.size) (hb : bad s i = true) : badAt s i = some i := by rw [badAt, dif_pos h, if_pos hb]
theorem badAt_next {s : ByteArray} {i : Nat} (h : i < s.size) (hb : bad s i = false) : badAt s i = badAt s (i + (Utf8.decode s i).2) := by
  rw [badAt, dif_pos h, if_neg (by rw [hb]; decide), Nat.max_eq_right (width_pos s i)]
def badI (o : Option Nat) : Int := match o with | some i => i | none => -1
theorem iter_lit {W w : World} {k : Nat} {s : ByteArray} {p q : Nat} {e : Array Obj} {d : Nat} (hk : k = w.heap.size) (hW : W = more (w.alloc (.stringIter s p)) e d) : W.iterAt k s q = more (w.alloc (.stringIter s q)) e d := by
  subst hk hW
  unfold World.iterAt more World.alloc
  simp only
  congr 1
  rw [Array.setIfInBounds_append_left (by simp), Array.push_eq_append, Array.push_eq_append, Array.setIfInBounds_append_right (by simp)]
  simp
theorem iter_heap {w : World} {s : ByteArray} {p : Nat} {e : Array Obj} {d : Nat} : (more (w.alloc (.stringIter s p)) e d).heap[w.heap.size]? = some (.stringIter s p) := (more_heap (by simp)).trans (heap_alloc_new w _)
theorem next_any {P : Program} (w : World) (s : ByteArray) (p : Nat) (e : Array Obj) (d : Nat) (h : p < s.size) (ty : TypeId) :
    (Instr.next (.pointer (some ⟨w.heap.size, 0, none⟩)) true ty).run P (more (w.alloc (.stringIter s p)) e d) = .ok (.tuple #[.bool true, .int .i64 p, .int .i32 (Utf8.decode s p).1]) (more (w.alloc (.stringIter s (p + (Utf8.decode s p).2))) e d) := by
  rw [Lib.run_next_any_at _ _ s p ty iter_heap h, iter_lit rfl rfl]
theorem next_end {P : Program} (w : World) (s : ByteArray) (p : Nat) (e : Array Obj) (d : Nat) (h : ¬ p < s.size) (ty : TypeId) :
    (Instr.next (.pointer (some ⟨w.heap.size, 0, none⟩)) true ty).run P (more (w.alloc (.stringIter s p)) e d) = .ok (.tuple #[.bool false]) (more (w.alloc (.stringIter s p)) e d) :=
  Lib.run_next_end_at _ _ s p ty iter_heap h
set_option maxHeartbeats 1000000 in
theorem bad_any {w : World} {s : ByteArray} : Calls Try.prog 38 #[.string s] w fun e w' => e = .returned (.int .i64 (badI (badAt s 0))) ∧ Below w.heap.size w w' := by
  go_enter Try.func38, Try.ntmps38
  go_wp2
  go_loopg [] (s.size + 1) (fun k wr => ∃ (p : Nat) (e : Array Obj) (d : Nat), p + k = s.size + 1 ∧ badAt s 0 = badAt s p ∧ wr = more (w.alloc (.stringIter s p)) e d)
  case atStart =>
    obtain ⟨e, d, h⟩ := more_of (show Below (w.alloc (.stringIter s 0)).heap.size (w.alloc (.stringIter s 0)) (w.iter s 0) from Below.refl _ _)
    exact ⟨0, e, d, by omega, rfl, h⟩
  case round =>
    obtain ⟨p, e, d, hk, hb, rfl⟩ := hrel
    have HB := hid hb
    have HK := hid hk
    clear hb
    by_cases hp : p < s.size
    · have hnx := fun ty => next_any (P := Try.prog) w s p e d hp ty
      have HLE := hid (Nat.le_of_lt hp)
      have HW := hid (width_pos s p)
      have HWL := hid (width_le hp)
      have HPP := hid (And.intro hp trivial)
      clear hk hp
      cases hbd : bad s p with
      | true =>
        have HBD := hid hbd
        go_wp2_with (first | (go_at_call 61; refine (broken_any HLE.out).mono ?_; rintro e w1 ⟨rfl, rfl⟩))
        go_ret
        refine ⟨?_, (by repeat (first | (with_reducible exact Below.refl _ _) | (with_reducible exact bl_mm) | (with_reducible refine bl_dr ?_) | (with_reducible refine bl_drN ?_ _) | (with_reducible refine bl_al ?_ _) | (with_reducible refine bl_more ?_ _ _)))⟩
        rw [HB.out, badAt_here HPP.out.1 HBD.out]
        rfl
      | false =>
        have HBD := hid hbd
        go_wp2_with (first | (go_at_call 61; refine (broken_any HLE.out).mono ?_; rintro e w1 ⟨rfl, rfl⟩))
        go_roundg (s.size + 1 - (p + (Utf8.decode s p).2))
        case measure => have := HK.out; have := HW.out; have := HWL.out; omega
        case rel => exact ⟨p + (Utf8.decode s p).2, _, _, by have := HWL.out; omega, by rw [HB.out]; exact badAt_next HPP.out.1 HBD.out, rfl⟩
    · have hnx := fun ty => next_end (P := Try.prog) w s p e d hp ty
      have HPP := hid (And.intro hp trivial)
      clear hk hp
      go_wp2
      go_ret
      refine ⟨?_, (by repeat (first | (with_reducible exact Below.refl _ _) | (with_reducible exact bl_mm) | (with_reducible refine bl_dr ?_) | (with_reducible refine bl_drN ?_ _) | (with_reducible refine bl_al ?_ _) | (with_reducible refine bl_more ?_ _ _)))⟩
      rw [HB.out, badAt_end HPP.out.1]
      rfl
end Go.Proofs.Ytidilpciolladaa

/- The reader's state; a name shut. -/
namespace Go.Proofs.Ytidilpciolladaa
open Go.RowKit

structure Tok where
  kind : Int
  text : ByteArray
  at_ : Int
abbrev intE : Enc Int := Enc.int .i64
def tokE : Enc Tok := Enc.iso (Enc.pair intE (Enc.pair Enc.str intE)) (fun t => (t.kind, t.text, t.at_))
def tokCells (t : Tok) : List Value := [.int .i64 t.kind, .string t.text, .int .i64 t.at_]
theorem tokE_mk {K : Nat → Prop} {w : World} (t : Tok) : tokE.rd K w t (tokCells t) := ⟨[_], _, rfl, rfl, [_], _, rfl, rfl, rfl⟩
theorem tokE_open {K : Nat → Prop} {w : World} {t : Tok} {cs : List Value} (h : tokE.rd K w t cs) : cs = tokCells t := by
  obtain ⟨_, _, rfl, rfl, _, _, rfl, rfl, rfl⟩ := h
  rfl
theorem info38 : (Try.prog.info? 48).map (fun i => (i.zero, i.size, i.bytes)) = some (some (.agg #[.int .i64 0, .string ⟨#[]⟩, .int .i64 0]), 3, 32) := by kernel_rfl
theorem app23 {K : Nat → Prop} {g : Nat} {w : World} {v x : Value} {xs ys : List Tok} (h : tokE.Spine 48 K g w v xs) (hy : tokE.Src K w x ys) (hKg : ∀ b, K b → b < w.heap.size → b ≠ g) (hlen : xs.length + ys.length ≤ 4294967296) :
    ∃ v' w' g', (Builtin.append_ #[40, 40] 40 #[v, x]).run Try.prog w = .ok v' w' ∧ tokE.Spine 48 (fun b => K b ∧ b < w.heap.size) g' w' v' (xs ++ ys) ∧ Ext (fun b => b = g ∧ capOf v ≠ 0) w w' ∧ Grew g w w' v v' g' := by
  obtain ⟨i0, hi, hz0, hz1, hz2⟩ := info_parts info38
  exact h.append 40 40 40 i0 _ Try.underlying40 ⟨_, Try.underlying40⟩ hi hz0 hz1 rfl (by decide) hy hKg hlen (by rw [hz2]; decide)
theorem wpList_app23 {w : World} {ops : Array Oper} {rest : List Oper} {o : Oper} {a : Act} {Q : Exit → Act → World → Prop} {K : Nat → Prop} {g : Nat} {xs ys : List Tok} {v x : Value}
    (hg : o.guard = none) (s x' : Operand) (hop : o.op = Op.call { callee := Callee.builtin Builtin.append, args := #[s, x'], argTypes := #[40, 40] }) (hty : o.type = 40)
    (hv : a.eval s = v) (hx : a.eval x' = x) (hs : tokE.Spine 48 K g w v xs) (hy : tokE.Src K w x ys) (hKg : ∀ b, K b → b < w.heap.size → b ≠ g) (hlen : xs.length + ys.length ≤ 4294967296)
    (h : ∀ v' w' g', tokE.Spine 48 (fun b => K b ∧ b < w.heap.size) g' w' v' (xs ++ ys) → Ext (fun b => b = g ∧ capOf v ≠ 0) w w' → Grew g w w' v v' g' → wpList Try.prog ops Q rest (a.put o.dst v') w') :
    wpList Try.prog ops Q (o :: rest) a w := by
  subst hv; subst hx
  obtain ⟨v', w', g', hrun, h1, h2, h3⟩ := app23 hs hy hKg hlen
  exact wpList_append_run hg s x' 40 40 hop (by rw [hty]; exact hrun) (h v' w' g' h1 h2 h3)
/-- The reader's state: tokens, whether a remark goes on, where a name began. -/
structure LS where
  out : List Tok
  remark : Bool
  begun : Int
abbrev No : Nat → Prop := fun _ => False
structure LxS (w : World) (x g : Nat) (s : ByteArray) (m : LS) : Prop where
  few : m.out.length ≤ 65537
  own : g = x ∨ g < w.heap.size
  at_ : ∃ v, w.heap[x]? = some (.cells #[.string s, v, .bool m.remark, .int .i64 m.begun] 78 (0, 0)) ∧ tokE.Spine 48 No g w v m.out
structure Up (d g : Nat) (w : World) (g' : Nat) (w' : World) : Prop where
  ext : Ext (fun b => b = d ∨ b = g) w w'
  new : g' = g ∨ w.heap.size ≤ g'
theorem Up.of_below {d g : Nat} {w w' : World} (h : Below w.heap.size w w') : Up d g w g w' := ⟨Ext.of_below h, .inl rfl⟩
theorem Up.trans {d g g1 g2 : Nat} {w w1 w2 : World} (h : Up d g w g1 w1) (k : Up d g1 w1 g2 w2) : Up d g w g2 w2 := by
  refine ⟨h.ext.trans k.ext (fun x hx hs => ?_), ?_⟩
  · rcases hs with h1 | h1
    · exact .inl h1
    · rcases h.new with h2 | h2
      · exact .inr (by omega)
      · omega
  · have := h.ext.size
    rcases h.new with h2 | h2 <;> rcases k.new with h3 | h3
    · exact .inl (by omega)
    · exact .inr (by omega)
    · exact .inr (by omega)
    · exact .inr (by omega)
theorem LxS.lt {w : World} {x g : Nat} {s : ByteArray} {m : LS} (h : LxS w x g s m) : x < w.heap.size := by
  obtain ⟨v, h1, _⟩ := h.at_
  exact (Array.getElem?_eq_some_iff.1 h1).1
theorem LxS.below {w w' : World} {x g : Nat} {s : ByteArray} {m : LS} (h : LxS w x g s m) (hb : Below w.heap.size w w') : LxS w' x g s m := by
  obtain ⟨v, h1, h2⟩ := h.at_
  have := hb.size
  exact ⟨h.few, h.own.imp id (fun h => by omega), v, (hb.block x h.lt).trans h1, h2.step (fun cur hc => (hb.block g (Array.getElem?_eq_some_iff.1 hc).1).trans hc) (fun b hk _ => hk.elim)⟩
theorem LxS.ne {w : World} {x g : Nat} {v : Value} {out : List Tok} {cs : Array Value} (h1 : w.heap[x]? = some (.cells cs 78 (0, 0))) (h2 : tokE.Spine 48 No g w v out) (hc : capOf v ≠ 0) : g ≠ x := by
  obtain ⟨cur, hcur⟩ := h2.type hc
  rintro rfl
  rw [h1] at hcur
  cases hcur
/-- A field of the state written. -/
theorem LxS.setBegun {w : World} {x g : Nat} {s : ByteArray} {m : LS} (h : LxS w x g s m) (b : Int) : LxS (w.setCell ⟨x, 3, none⟩ (.int .i64 b)) x g s { m with begun := b } := by
  obtain ⟨v, h1, h2⟩ := h.at_
  refine ⟨h.few, h.own.imp id (fun h => by simpa using h), v, by simp [World.setCell, Array.getElem?_modify, h1], h2.step (fun cur hc => ?_) (fun b hk _ => hk.elim)⟩
  have hne : g ≠ x := by rintro rfl; rw [h1] at hc; cases hc
  rw [Below.heap_setCell _ _ _ _ hne]; exact hc
theorem LxS.setRemark {w : World} {x g : Nat} {s : ByteArray} {m : LS} (h : LxS w x g s m) (b : Bool) : LxS (w.setCell ⟨x, 2, none⟩ (.bool b)) x g s { m with remark := b } := by
  obtain ⟨v, h1, h2⟩ := h.at_
  refine ⟨h.few, h.own.imp id (fun h => by simpa using h), v, by simp [World.setCell, Array.getElem?_modify, h1], h2.step (fun cur hc => ?_) (fun b hk _ => hk.elim)⟩
  have hne : g ≠ x := by rintro rfl; rw [h1] at hc; cases hc
  rw [Below.heap_setCell _ _ _ _ hne]; exact hc
theorem LxS.appended {w W3 W2 : World} {x g g2 : Nat} {s : ByteArray} {m : LS} {v v2 : Value} {out' : List Tok} {K : Nat → Prop} (hb : w.heap[x]? = some (.cells #[.string s, v, .bool m.remark, .int .i64 m.begun] 78 (0, 0))) (hbw : Below w.heap.size w W3)
    (hown : g = x ∨ g < w.heap.size) (hne : capOf v ≠ 0 → g ≠ x) (he : Ext (fun b => b = g ∧ capOf v ≠ 0) W3 W2) (hg2 : (g2 = g ∧ W2.heap.size = W3.heap.size) ∨ (g2 = W3.heap.size ∧ W2.heap.size = W3.heap.size + 1))
    (hs : tokE.Spine 48 K g2 W2 v2 out') (hK : ∀ b, ¬ K b) (hfew : out'.length ≤ 65537) :
    LxS (W2.setCell ⟨x, 1, none⟩ v2) x g2 s ⟨out', m.remark, m.begun⟩ ∧ Up x g w g2 (W2.setCell ⟨x, 1, none⟩ v2) := by
  have hd : x < w.heap.size := (Array.getElem?_eq_some_iff.1 hb).1
  have h3 := hbw.size
  have hd2 : W2.heap[x]? = some (.cells #[.string s, v, .bool m.remark, .int .i64 m.begun] 78 (0, 0)) := by
    rw [he.block x (by omega) (fun h => hne h.2 h.1.symm), hbw.block x hd]; exact hb
  refine ⟨⟨hfew, ?_, v2, by simp [World.setCell, Array.getElem?_modify, hd2], hs.step (fun cur hc => ?_) (fun b hb _ => (hK b hb).elim)⟩, ⟨?_, ?_⟩⟩
  · rcases hg2 with ⟨h, h'⟩ | ⟨h, h'⟩
    · rcases hown with h1 | h1
      · exact .inl (h.trans h1)
      · exact .inr (by simp; omega)
    · exact .inr (by simp; omega)
  · have hne' : g2 ≠ x := by rintro rfl; rw [hd2] at hc; cases hc
    rw [Below.heap_setCell _ _ _ _ hne']; exact hc
  · refine (Ext.of_below (S := fun b => b = x ∨ b = g) hbw).trans (T := fun b => b = x ∨ b = g) ((he.mono (fun x _ h => .inr h.1)).trans (T := fun b => b = x ∨ b = g) (Ext.setCell _ _ _ (.inl rfl)) (fun _ _ h => h)) (fun _ _ h => h)
  · rcases hg2 with ⟨h, _⟩ | ⟨h, _⟩
    · exact .inl h
    · exact .inr (by omega)
end Go.Proofs.Ytidilpciolladaa

/- A name shut. -/
namespace Go.Proofs.Ytidilpciolladaa
open Go.RowKit

theorem cell_blk {w : World} {b : Nat} {cs : Array Value} {t : TypeId} {fr : Nat × Nat} (h : w.heap[b]? = some (.cells cs t fr)) (i : Nat) : w.cell? ⟨b, i, none⟩ = cs[i]? := by simp [World.cell?, h]
theorem frz_blk {w : World} {b : Nat} {cs : Array Value} {t : TypeId} (h : w.heap[b]? = some (.cells cs t (0, 0))) (i : Nat) : w.frozen? ⟨b, i, none⟩ = false := by simp [World.frozen?, h]
theorem alloc_blk {X : World} {o : Obj} {b : Nat} (h : b = X.heap.size) : (X.alloc o).heap[b]? = some o := by subst h; exact heap_alloc_new X o
theorem tok_free {K : Nat → Prop} {g : Nat} {w : World} {v : Value} {xs : List Tok} (h : tokE.Spine 48 K g w v xs) : tokE.Spine 48 No g w v xs := by
  obtain ⟨A, c, rfl, h2, h3, h4⟩ := h
  refine ⟨A, c, rfl, h2, h3, fun hc0 => ?_⟩
  obtain ⟨off, cur, cs, rfl, hb, hle, hf, hc⟩ := h4 hc0
  exact ⟨off, cur, cs, rfl, hb, hle, ⟨hf.1, hf.2.1, fun i hi => by rw [tokE_open (hf.2.2 i hi)]; exact tokE_mk _⟩, hc⟩
def shutS (s : ByteArray) (m : LS) (a : Nat) : LS := if m.begun < 0 then m else ⟨m.out ++ [⟨1, s.extract m.begun.toNat a, m.begun⟩], m.remark, -1⟩
def shutOK (m : LS) (a : Nat) : Bool := decide (m.begun < 0) || decide ((a : Int) - m.begun ≤ 24)
set_option maxRecDepth 20000 in
set_option maxHeartbeats 4000000 in
theorem shut_any {w : World} {x g : Nat} {s : ByteArray} {m : LS} {a : Nat} (h : LxS w x g s m) (hb : m.begun ≤ a) (ha : a ≤ s.size) (hz : s.size ≤ 65536) (hf : m.out.length ≤ 65536) :
    Calls Try.prog 40 #[.pointer (some ⟨x, 0, none⟩), .int .i64 a] w fun e w' => ∃ g', e = .returned (.bool (shutOK m a)) ∧ LxS w' x g' s (shutS s m a) ∧ Up x g w g' w' := by
  obtain ⟨out, remark, begun⟩ := m
  simp only at hb hf
  by_cases hneg : begun < 0
  · obtain ⟨v, hb1, hb2⟩ := h.at_
    have h3 : w.cell? ⟨x, 3, none⟩ = some (.int .i64 begun) := cell_blk hb1 3
    have HLS := hid h
    have HN := hid hneg
    clear hb1 hb2 h
    go_enter Try.func40, Try.ntmps40
    go_wp2_with (first | ((with_reducible refine wp_region_plan (id := 5) (.eff [(true, 0), (true, 1), (true, 2), (true, 3), (true, 4), (false, 5), (false, 6), (false, 7), (false, 8), (false, 9), (false, 10), (false, 11), (false, 12), (false, 13)] 14 [0, 1, 2, 3, 4] (.eff [] 15 [0] (.eff [(false, 16), (false, 17)] 18 [] (.fin [])))) ?_ ?_ ?_ ?_ ?_ ?_); kernel_rfl; kernel_rfl; kernel_rfl; kernel_rfl; (intro c a d v w h; cases d <;> exact h)) | (with_reducible refine wpPlan_eff ?_) | (with_reducible refine wpPlan_fin ?_) | (with_reducible refine wpPlan_two ?_) | (with_reducible refine wpOpPair ?_ ?_) | ((with_reducible apply wpPre_keep); rfl; intro K' hK'; go_simp; refine hK' _ _ ?_; intro f hf; clear hK' K') | ((with_reducible apply wpPre_drop); rfl; intro K' hK'; go_simp; refine hK' _ _ ?_; intro f; clear hK' K') | (with_reducible refine wpPre_nil ?_) | ((with_reducible apply wpOp_list); rfl) | (with_reducible refine heldPair ?_ ?_) | ((with_reducible refine heldH_no ?_ ?_); rfl) | (with_reducible refine heldH_yes ?_ ?_) | (with_reducible exact heldH_nil) | (unfold YAt; go_simp; done))
    go_ret
    refine ⟨g, by unfold shutOK; simp [HN.out], ?_, Up.of_below (by repeat (first | (with_reducible exact Below.refl _ _) | (with_reducible exact bl_mm) | (with_reducible refine bl_dr ?_) | (with_reducible refine bl_drN ?_ _) | (with_reducible refine bl_al ?_ _) | (with_reducible refine bl_more ?_ _ _)))⟩
    unfold shutS
    rw [if_pos HN.out]
    exact HLS.out.below (by repeat (first | (with_reducible exact Below.refl _ _) | (with_reducible exact bl_mm) | (with_reducible refine bl_dr ?_) | (with_reducible refine bl_drN ?_ _) | (with_reducible refine bl_al ?_ _) | (with_reducible refine bl_more ?_ _ _)))
  · obtain ⟨fr, rfl⟩ : ∃ fr : Nat, begun = fr := ⟨begun.toNat, by omega⟩
    have hfa : fr ≤ a := by omega
    obtain ⟨v, hb1, hb2⟩ := h.at_
    have h3 : w.cell? ⟨x, 3, none⟩ = some (.int .i64 fr) := cell_blk hb1 3
    have f3 : w.frozen? ⟨x, 3, none⟩ = false := frz_blk hb1 3
    have HN := hid hneg
    have HX := hid (h.setBegun (-1))
    have HU : Hid (Up x g w g (w.setCell ⟨x, 3, none⟩ (.int .i64 (-1)))) := hid ⟨Ext.setCell _ _ _ (.inl rfl), .inl rfl⟩
    clear hb1 hb2 h hneg hb
    go_enter Try.func40, Try.ntmps40
    go_upto_region 5 with (first | ((with_reducible refine wp_region_plan (id := 5) (.eff [(true, 0), (true, 1), (true, 2), (true, 3), (true, 4), (false, 5), (false, 6), (false, 7), (false, 8), (false, 9), (false, 10), (false, 11), (false, 12), (false, 13)] 14 [0, 1, 2, 3, 4] (.eff [] 15 [0] (.eff [(false, 16), (false, 17)] 18 [] (.fin [])))) ?_ ?_ ?_ ?_ ?_ ?_); kernel_rfl; kernel_rfl; kernel_rfl; kernel_rfl; (intro c a d v w h; cases d <;> exact h)) | (with_reducible refine wpPlan_eff ?_) | (with_reducible refine wpPlan_fin ?_) | (with_reducible refine wpPlan_two ?_) | (with_reducible refine wpOpPair ?_ ?_) | ((with_reducible apply wpPre_keep); rfl; intro K' hK'; go_simp; refine hK' _ _ ?_; intro f hf; clear hK' K') | ((with_reducible apply wpPre_drop); rfl; intro K' hK'; go_simp; refine hK' _ _ ?_; intro f; clear hK' K') | (with_reducible refine wpPre_nil ?_) | ((with_reducible apply wpOp_list); rfl) | (with_reducible refine heldPair ?_ ?_) | ((with_reducible refine heldH_no ?_ ?_); rfl) | (with_reducible refine heldH_yes ?_ ?_) | (with_reducible exact heldH_nil) | (unfold YAt; go_simp; done))
    generalize w.setCell ⟨x, 3, none⟩ (.int .i64 (-1)) = W0 at HX HU ⊢
    clear h3 f3
    obtain ⟨A, c, hb, hsp, hne, hown⟩ : ∃ A c, W0.heap[x]? = some (.cells #[.string s, .slice A out.length c, .bool remark, .int .i64 (-1)] 78 (0, 0)) ∧ tokE.Spine 48 No g W0 (.slice A out.length c) out ∧ (c ≠ 0 → g ≠ x) ∧ (g = x ∨ g < W0.heap.size) := by
      obtain ⟨v, h1, h2⟩ := HX.out.at_
      obtain ⟨A, c, rfl, _, _⟩ := h2.form
      exact ⟨A, c, h1, h2, fun hc => LxS.ne h1 h2 hc, HX.out.own⟩
    have hx := HX.out.lt
    have h0 : W0.cell? ⟨x, 0, none⟩ = some (.string s) := cell_blk hb 0
    have h1 : W0.cell? ⟨x, 1, none⟩ = some (.slice A out.length c) := cell_blk hb 1
    have f1 : W0.frozen? ⟨x, 1, none⟩ = false := frz_blk hb 1
    have HS := hid (fun (W : World) (hW : Below W0.heap.size W0 W) => hsp.step (K' := fun b => W0.heap.size ≤ b) (w' := W) (fun cur hc => (hW.block g (Array.getElem?_eq_some_iff.1 hc).1).trans hc) (fun b hk hl => hk.elim))
    have HG := hid hne
    have HB := hid hb
    have HO := hid hown
    have HF := hid hf
    have HC : Hid (c = 0 ∨ (x ≠ g ∧ g < W0.heap.size)) := by
      by_cases hc0 : c = 0
      · exact .inl hc0
      · rcases hown with h | h
        · exact absurd h (hne hc0)
        · exact .inr ⟨fun e => hne hc0 e.symm, h⟩
    clear hb hsp hne hown hf
    rcases HC.out with rfl | ⟨hxg, hgl⟩
    · go_wp2_with (first | ((with_reducible refine wp_region_plan (id := 5) (.eff [(true, 0), (true, 1), (true, 2), (true, 3), (true, 4), (false, 5), (false, 6), (false, 7), (false, 8), (false, 9), (false, 10), (false, 11), (false, 12), (false, 13)] 14 [0, 1, 2, 3, 4] (.eff [] 15 [0] (.eff [(false, 16), (false, 17)] 18 [] (.fin [])))) ?_ ?_ ?_ ?_ ?_ ?_); kernel_rfl; kernel_rfl; kernel_rfl; kernel_rfl; (intro c a d v w h; cases d <;> exact h)) | (with_reducible refine wpPlan_eff ?_) | (with_reducible refine wpPlan_fin ?_) | (with_reducible refine wpPlan_two ?_) | (with_reducible refine wpOpPair ?_ ?_) | ((with_reducible apply wpPre_keep); rfl; intro K' hK'; go_simp; refine hK' _ _ ?_; intro f hf; clear hK' K') | ((with_reducible apply wpPre_drop); rfl; intro K' hK'; go_simp; refine hK' _ _ ?_; intro f; clear hK' K') | (with_reducible refine wpPre_nil ?_) | ((with_reducible apply wpOp_list); rfl) | (with_reducible refine heldPair ?_ ?_) | ((with_reducible refine heldH_no ?_ ?_); rfl) | (with_reducible refine heldH_yes ?_ ?_) | (with_reducible exact heldH_nil) | (unfold YAt; go_simp; done) | (at_builtin; refine wpList_app23 (ys := [⟨1, s.extract fr a, fr⟩]) (by rfl) (.tmp 22) (.tmp 32) (by rfl) (by rfl) (by rfl) (by rfl) (HS.out _ ?hA) ?hB ?hC ?hD ?_; rotate_left 4; intro v2 w2 g2 hs2 he2 hg2; obtain ⟨A2, c2, rfl, _, _⟩ := hs2.form; have HS2 := hid hs2; have HE2 := hid he2; have HG2 := hid hg2; clear hs2 hg2; obtain ⟨ex2, dx2, rfl⟩ := more_of (below_of_ext he2 (by simp [capOf])); clear he2))
      case hA => exact (by repeat (first | (with_reducible exact Below.refl _ _) | (with_reducible exact bl_mm) | (with_reducible refine bl_dr ?_) | (with_reducible refine bl_drN ?_ _) | (with_reducible refine bl_al ?_ _) | (with_reducible refine bl_more ?_ _ _)))
      case hD => have := HF.out; omega
      case hC =>
        intro b hb _ hbg
        rcases HO.out with h | h <;> omega
      case hB => exact (Enc.Row.one_blk (K := fun b => W0.heap.size ≤ b) (cs := tokCells ⟨1, s.extract fr a, fr⟩) (show ((W0.alloc (.cells #[.int .i64 1, .string (s.extract fr a), .int .i64 fr] 48)).drew).heap[W0.heap.size]? = some (.cells (tokCells ⟨1, s.extract fr a, fr⟩).toArray 48 (0, 0)) from heap_alloc_new W0 _) (tokE_mk _) (Nat.le_refl _)).src
      go_ret
      have hf := LxS.appended (m := ⟨out, remark, -1⟩) (out' := out ++ [⟨1, s.extract fr a, fr⟩]) HB.out (by repeat (first | (with_reducible exact Below.refl _ _) | (with_reducible exact bl_mm) | (with_reducible refine bl_dr ?_) | (with_reducible refine bl_drN ?_ _) | (with_reducible refine bl_al ?_ _) | (with_reducible refine bl_more ?_ _ _))) HO.out HG.out HE2.out HG2.out.two (tok_free HS2.out) (fun _ h => h) (by have := HF.out; simp; omega)
      refine ⟨?_, g2, Eq.subst (motive := fun W => LxS W x g2 s (shutS s ⟨out, remark, fr⟩ a) ∧ Up x g w g2 W) ?_ ⟨?_, HU.out.trans hf.2⟩⟩
      · unfold shutOK; simp; omega
      · go_simp
      · unfold shutS; rw [if_neg (show ¬ (fr : Int) < 0 by omega)]; simpa using hf.1
    · go_wp2_with (first | ((with_reducible refine wp_region_plan (id := 5) (.eff [(true, 0), (true, 1), (true, 2), (true, 3), (true, 4), (false, 5), (false, 6), (false, 7), (false, 8), (false, 9), (false, 10), (false, 11), (false, 12), (false, 13)] 14 [0, 1, 2, 3, 4] (.eff [] 15 [0] (.eff [(false, 16), (false, 17)] 18 [] (.fin [])))) ?_ ?_ ?_ ?_ ?_ ?_); kernel_rfl; kernel_rfl; kernel_rfl; kernel_rfl; (intro c a d v w h; cases d <;> exact h)) | (with_reducible refine wpPlan_eff ?_) | (with_reducible refine wpPlan_fin ?_) | (with_reducible refine wpPlan_two ?_) | (with_reducible refine wpOpPair ?_ ?_) | ((with_reducible apply wpPre_keep); rfl; intro K' hK'; go_simp; refine hK' _ _ ?_; intro f hf; clear hK' K') | ((with_reducible apply wpPre_drop); rfl; intro K' hK'; go_simp; refine hK' _ _ ?_; intro f; clear hK' K') | (with_reducible refine wpPre_nil ?_) | ((with_reducible apply wpOp_list); rfl) | (with_reducible refine heldPair ?_ ?_) | ((with_reducible refine heldH_no ?_ ?_); rfl) | (with_reducible refine heldH_yes ?_ ?_) | (with_reducible exact heldH_nil) | (unfold YAt; go_simp; done) | (at_builtin; refine wpList_app23 (ys := [⟨1, s.extract fr a, fr⟩]) (by rfl) (.tmp 22) (.tmp 32) (by rfl) (by rfl) (by rfl) (by rfl) (HS.out _ ?hA) ?hB ?hC ?hD ?_; rotate_left 4; intro v2 w2 g2 hs2 he2 hg2; obtain ⟨A2, c2, rfl, _, _⟩ := hs2.form; have HS2 := hid hs2; have HE2 := hid he2; have HG2 := hid hg2; clear hs2 hg2; obtain ⟨o2, ex2, dx2, rfl⟩ := form_of he2 (Nat.lt_of_lt_of_le hgl (Below.size (B := W0.heap.size) (w := W0) (by repeat (first | (with_reducible exact Below.refl _ _) | (with_reducible exact bl_mm) | (with_reducible refine bl_dr ?_) | (with_reducible refine bl_drN ?_ _) | (with_reducible refine bl_al ?_ _) | (with_reducible refine bl_more ?_ _ _))))); clear he2))
      case hA => exact (by repeat (first | (with_reducible exact Below.refl _ _) | (with_reducible exact bl_mm) | (with_reducible refine bl_dr ?_) | (with_reducible refine bl_drN ?_ _) | (with_reducible refine bl_al ?_ _) | (with_reducible refine bl_more ?_ _ _)))
      case hD => have := HF.out; omega
      case hC =>
        intro b hb _ hbg
        rcases HO.out with h | h <;> omega
      case hB => exact (Enc.Row.one_blk (K := fun b => W0.heap.size ≤ b) (cs := tokCells ⟨1, s.extract fr a, fr⟩) (show ((W0.alloc (.cells #[.int .i64 1, .string (s.extract fr a), .int .i64 fr] 48)).drew).heap[W0.heap.size]? = some (.cells (tokCells ⟨1, s.extract fr a, fr⟩).toArray 48 (0, 0)) from heap_alloc_new W0 _) (tokE_mk _) (Nat.le_refl _)).src
      go_ret
      have hf := LxS.appended (m := ⟨out, remark, -1⟩) (out' := out ++ [⟨1, s.extract fr a, fr⟩]) HB.out (by repeat (first | (with_reducible exact Below.refl _ _) | (with_reducible exact bl_mm) | (with_reducible refine bl_dr ?_) | (with_reducible refine bl_drN ?_ _) | (with_reducible refine bl_al ?_ _) | (with_reducible refine bl_more ?_ _ _))) HO.out HG.out HE2.out HG2.out.two (tok_free HS2.out) (fun _ h => h) (by have := HF.out; simp; omega)
      refine ⟨?_, g2, Eq.subst (motive := fun W => LxS W x g2 s (shutS s ⟨out, remark, fr⟩ a) ∧ Up x g w g2 W) ?_ ⟨?_, HU.out.trans hf.2⟩⟩
      · unfold shutOK; simp; omega
      · go_simp
      · unfold shutS; rw [if_neg (show ¬ (fr : Int) < 0 by omega)]; simpa using hf.1
end Go.Proofs.Ytidilpciolladaa

/- A mark; is it of a name? -/
namespace Go.Proofs.Ytidilpciolladaa
open Go.RowKit

def mk6 : ByteArray := { data := #[123, 125, 40, 41, 59, 44] }
def markR (r : Int) : Bool := decide (0 ≤ Lib.indexByte mk6.data.toList r.toNat.toUInt8)
def markS (s : ByteArray) (m : LS) (a : Nat) (r : Int) : LS :=
  if r = 35 then { m with remark := true } else if cls r = 3 then m else if markR r = true then ⟨m.out ++ [⟨2, s.extract a (a + 1), a⟩], m.remark, m.begun⟩ else m
def markE (r : Int) : Int := if r = 35 then 0 else if cls r = 3 then 0 else if markR r = true then 0 else 10
def namedB (m : LS) (r : Int) : Bool := decide (cls r = 1) || (decide (cls r = 2) && decide (0 ≤ m.begun))
set_option maxHeartbeats 1000000 in
theorem named_any {w : World} {x g : Nat} {s : ByteArray} {m : LS} {r : Int} (h : LxS w x g s m) (hr : okR r) :
    Calls Try.prog 62 #[.pointer (some ⟨x, 0, none⟩), .int .i32 r] w fun e w' => e = .returned (.bool (namedB m r)) ∧ Below w.heap.size w w' := by
  obtain ⟨out, remark, begun⟩ := m
  obtain ⟨v, hb1, _⟩ := h.at_
  have h3 : w.cell? ⟨x, 3, none⟩ = some (.int .i64 begun) := cell_blk hb1 3
  have hx := h.lt
  have HR := hid hr
  have hr0 := hr.1
  have hr1 := hr.2.1
  clear hr
  clear hb1 h
  go_enter Try.func62, Try.ntmps62
  generalize hc : cls r = c
  have HCC := hid hc
  by_cases c1 : c = 1
  · subst c1
    clear hc
    go_wp2_with (first | (go_at_call 77; refine (class_any HR.out).mono ?_; rintro e w1 ⟨rfl, hb1⟩; obtain ⟨ex, dx, rfl⟩ := more_of hb1; clear hb1; rw [HCC.out]))
    go_ret
    exact ⟨by unfold namedB; rw [HCC.out]; rfl, (by repeat (first | (with_reducible exact Below.refl _ _) | (with_reducible exact bl_mm) | (with_reducible refine bl_dr ?_) | (with_reducible refine bl_drN ?_ _) | (with_reducible refine bl_al ?_ _) | (with_reducible refine bl_more ?_ _ _)))⟩
  · by_cases c2 : c = 2
    · subst c2
      clear hc
      by_cases hn : begun < 0
      · have HN := hid hn
        go_wp2_with (first | (go_at_call 77; refine (class_any HR.out).mono ?_; rintro e w1 ⟨rfl, hb1⟩; obtain ⟨ex, dx, rfl⟩ := more_of hb1; clear hb1; rw [HCC.out]))
        go_ret
        exact ⟨by unfold namedB; rw [HCC.out]; have := HN.out; simp <;> omega, (by repeat (first | (with_reducible exact Below.refl _ _) | (with_reducible exact bl_mm) | (with_reducible refine bl_dr ?_) | (with_reducible refine bl_drN ?_ _) | (with_reducible refine bl_al ?_ _) | (with_reducible refine bl_more ?_ _ _)))⟩
      · have HN := hid hn
        go_wp2_with (first | (go_at_call 77; refine (class_any HR.out).mono ?_; rintro e w1 ⟨rfl, hb1⟩; obtain ⟨ex, dx, rfl⟩ := more_of hb1; clear hb1; rw [HCC.out]))
        go_ret
        exact ⟨by unfold namedB; rw [HCC.out]; have := HN.out; simp <;> omega, (by repeat (first | (with_reducible exact Below.refl _ _) | (with_reducible exact bl_mm) | (with_reducible refine bl_dr ?_) | (with_reducible refine bl_drN ?_ _) | (with_reducible refine bl_al ?_ _) | (with_reducible refine bl_more ?_ _ _)))⟩
    · have HN := hid (And.intro c1 c2)
      have c1' : ((c : Int) == 1) = false := by simpa using c1
      have c2' : ((c : Int) == 2) = false := by simpa using c2
      clear c1 c2 hc
      go_wp2_with (first | (go_at_call 77; refine (class_any HR.out).mono ?_; rintro e w1 ⟨rfl, hb1⟩; obtain ⟨ex, dx, rfl⟩ := more_of hb1; clear hb1; rw [HCC.out]))
      go_ret
      exact ⟨by unfold namedB; rw [HCC.out]; have := HN.out; simp <;> omega, (by repeat (first | (with_reducible exact Below.refl _ _) | (with_reducible exact bl_mm) | (with_reducible refine bl_dr ?_) | (with_reducible refine bl_drN ?_ _) | (with_reducible refine bl_al ?_ _) | (with_reducible refine bl_more ?_ _ _)))⟩
set_option maxHeartbeats 4000000 in
theorem mark_any {w : World} {x g : Nat} {s : ByteArray} {m : LS} {a : Nat} {r : Int} (h : LxS w x g s m) (hr : okR r) (hc1 : cls r ≠ 1) (ha : a < s.size) (hz : s.size ≤ 65536) (hf : m.out.length ≤ 65536) :
    Calls Try.prog 63 #[.pointer (some ⟨x, 0, none⟩), .int .i64 a, .int .i32 r] w fun e w' => ∃ g', e = .returned (.int .i64 (markE r)) ∧ LxS w' x g' s (markS s m a r) ∧ Up x g w g' w' := by
  have hr0 := hr.1
  have hr1 : r < 128 := by
    rcases Int.lt_or_le r 128 with h | h
    · exact h
    · exfalso; apply hc1; unfold cls; rw [if_pos (.inl h)]
  have HR := hid hr
  clear hr
  have HX := hid h
  obtain ⟨out, remark, begun⟩ := m
  by_cases q35 : r = 35
  · subst q35
    obtain ⟨v, hb1, _⟩ := h.at_
    have h2 : w.cell? ⟨x, 2, none⟩ = some (.bool remark) := cell_blk hb1 2
    have f2 : w.frozen? ⟨x, 2, none⟩ = false := frz_blk hb1 2
    have hx := h.lt
    clear hb1 h hc1
    go_enter Try.func63, Try.ntmps63
    go_wp2_with (first | ((with_reducible refine wp_region_plan (id := 7) (.eff [(true, 0), (true, 1), (true, 2), (true, 3), (true, 4), (false, 5), (false, 6), (false, 7), (false, 8), (false, 9), (false, 10), (false, 11), (false, 12), (false, 13), (false, 14)] 15 [0, 1, 2, 3, 4] (.eff [] 16 [0] (.eff [(false, 17), (false, 18)] 19 [] (.fin [])))) ?_ ?_ ?_ ?_ ?_ ?_); kernel_rfl; kernel_rfl; kernel_rfl; kernel_rfl; (intro c a d v w h; cases d <;> exact h)) | (with_reducible refine wpPlan_eff ?_) | (with_reducible refine wpPlan_fin ?_) | (with_reducible refine wpPlan_two ?_) | (with_reducible refine wpOpPair ?_ ?_) | ((with_reducible apply wpPre_keep); rfl; intro K' hK'; go_simp; refine hK' _ _ ?_; intro f hf; clear hK' K') | ((with_reducible apply wpPre_drop); rfl; intro K' hK'; go_simp; refine hK' _ _ ?_; intro f; clear hK' K') | (with_reducible refine wpPre_nil ?_) | ((with_reducible apply wpOp_list); rfl) | (with_reducible refine heldPair ?_ ?_) | ((with_reducible refine heldH_no ?_ ?_); rfl) | (with_reducible refine heldH_yes ?_ ?_) | (with_reducible exact heldH_nil) | (unfold YAt; go_simp; done) | (go_at_call 77; refine (class_any HR.out).mono ?_; rintro e w1 ⟨rfl, hb1⟩; obtain ⟨ex, dx, rfl⟩ := more_of hb1; clear hb1))
    go_ret
    have hu : Up x g w g (w.setCell ⟨x, 2, none⟩ (.bool true)) := ⟨Ext.setCell _ _ _ (.inl rfl), .inl rfl⟩
    refine ⟨g, rfl, ?_, hu.trans (Up.of_below (bl_more (Below.refl _ _) _ _))⟩
    exact (HX.out.setRemark true).below (bl_more (Below.refl _ _) _ _)
  · have HN35 := hid q35
    have b35 : (r == 35) = false := by simpa using q35
    by_cases hc3 : cls r = 3
    · have HCC := hid hc3
      have hx := h.lt
      clear h hc1 hc3 q35
      go_enter Try.func63, Try.ntmps63
      go_wp2_with (first | ((with_reducible refine wp_region_plan (id := 7) (.eff [(true, 0), (true, 1), (true, 2), (true, 3), (true, 4), (false, 5), (false, 6), (false, 7), (false, 8), (false, 9), (false, 10), (false, 11), (false, 12), (false, 13), (false, 14)] 15 [0, 1, 2, 3, 4] (.eff [] 16 [0] (.eff [(false, 17), (false, 18)] 19 [] (.fin [])))) ?_ ?_ ?_ ?_ ?_ ?_); kernel_rfl; kernel_rfl; kernel_rfl; kernel_rfl; (intro c a d v w h; cases d <;> exact h)) | (with_reducible refine wpPlan_eff ?_) | (with_reducible refine wpPlan_fin ?_) | (with_reducible refine wpPlan_two ?_) | (with_reducible refine wpOpPair ?_ ?_) | ((with_reducible apply wpPre_keep); rfl; intro K' hK'; go_simp; refine hK' _ _ ?_; intro f hf; clear hK' K') | ((with_reducible apply wpPre_drop); rfl; intro K' hK'; go_simp; refine hK' _ _ ?_; intro f; clear hK' K') | (with_reducible refine wpPre_nil ?_) | ((with_reducible apply wpOp_list); rfl) | (with_reducible refine heldPair ?_ ?_) | ((with_reducible refine heldH_no ?_ ?_); rfl) | (with_reducible refine heldH_yes ?_ ?_) | (with_reducible exact heldH_nil) | (unfold YAt; go_simp; done) | (go_at_call 77; refine (class_any HR.out).mono ?_; rintro e w1 ⟨rfl, hb1⟩; obtain ⟨ex, dx, rfl⟩ := more_of hb1; clear hb1; rw [HCC.out]))
      go_ret
      refine ⟨g, by unfold markE; rw [if_neg HN35.out, if_pos HCC.out]; rfl, ?_, Up.of_below (by repeat (first | (with_reducible exact Below.refl _ _) | (with_reducible exact bl_mm) | (with_reducible refine bl_dr ?_) | (with_reducible refine bl_drN ?_ _) | (with_reducible refine bl_al ?_ _) | (with_reducible refine bl_more ?_ _ _)))⟩
      unfold markS
      rw [if_neg HN35.out, if_pos HCC.out]
      exact HX.out.below (by repeat (first | (with_reducible exact Below.refl _ _) | (with_reducible exact bl_mm) | (with_reducible refine bl_dr ?_) | (with_reducible refine bl_drN ?_ _) | (with_reducible refine bl_al ?_ _) | (with_reducible refine bl_more ?_ _ _)))
    · have HN3 := hid hc3
      have b3 : (cls r == 3) = false := by simpa using hc3
      have hx := h.lt
      have HA := hid hr1
      cases hm : markR r with
      | false =>
        have HMR := hid hm
        clear h hc1 hm
        go_enter Try.func63, Try.ntmps63
        go_wp2_with (first | ((with_reducible refine wp_region_plan (id := 7) (.eff [(true, 0), (true, 1), (true, 2), (true, 3), (true, 4), (false, 5), (false, 6), (false, 7), (false, 8), (false, 9), (false, 10), (false, 11), (false, 12), (false, 13), (false, 14)] 15 [0, 1, 2, 3, 4] (.eff [] 16 [0] (.eff [(false, 17), (false, 18)] 19 [] (.fin [])))) ?_ ?_ ?_ ?_ ?_ ?_); kernel_rfl; kernel_rfl; kernel_rfl; kernel_rfl; (intro c a d v w h; cases d <;> exact h)) | (with_reducible refine wpPlan_eff ?_) | (with_reducible refine wpPlan_fin ?_) | (with_reducible refine wpPlan_two ?_) | (with_reducible refine wpOpPair ?_ ?_) | ((with_reducible apply wpPre_keep); rfl; intro K' hK'; go_simp; refine hK' _ _ ?_; intro f hf; clear hK' K') | ((with_reducible apply wpPre_drop); rfl; intro K' hK'; go_simp; refine hK' _ _ ?_; intro f; clear hK' K') | (with_reducible refine wpPre_nil ?_) | ((with_reducible apply wpOp_list); rfl) | (with_reducible refine heldPair ?_ ?_) | ((with_reducible refine heldH_no ?_ ?_); rfl) | (with_reducible refine heldH_yes ?_ ?_) | (with_reducible exact heldH_nil) | (unfold YAt; go_simp; done) | (go_at_call 77; refine (class_any HR.out).mono ?_; rintro e w1 ⟨rfl, hb1⟩; obtain ⟨ex, dx, rfl⟩ := more_of hb1; clear hb1) | (go_at_call 82; refine (Try.strings_ContainsRune_ascii mk6 r _ (by have := HR.out.1; omega) HA.out).mono ?_; rintro e w2 ⟨rfl, rfl⟩; (have e3 : decide (0 ≤ Lib.indexByte mk6.data.toList r.toNat.toUInt8) = false := HMR.out); rw [e3]; clear e3))
        go_ret
        refine ⟨g, by unfold markE; rw [if_neg HN35.out, if_neg HN3.out, if_neg (by rw [HMR.out]; decide)]; rfl, ?_, Up.of_below (by repeat (first | (with_reducible exact Below.refl _ _) | (with_reducible exact bl_mm) | (with_reducible refine bl_dr ?_) | (with_reducible refine bl_drN ?_ _) | (with_reducible refine bl_al ?_ _) | (with_reducible refine bl_more ?_ _ _)))⟩
        unfold markS
        rw [if_neg HN35.out, if_neg HN3.out, if_neg (by rw [HMR.out]; decide)]
        exact HX.out.below (by repeat (first | (with_reducible exact Below.refl _ _) | (with_reducible exact bl_mm) | (with_reducible refine bl_dr ?_) | (with_reducible refine bl_drN ?_ _) | (with_reducible refine bl_al ?_ _) | (with_reducible refine bl_more ?_ _ _)))
      | true =>
        have HMR := hid hm
        obtain ⟨A, c, hb, hsp, hne, hown⟩ : ∃ A c, w.heap[x]? = some (.cells #[.string s, .slice A out.length c, .bool remark, .int .i64 begun] 78 (0, 0)) ∧ tokE.Spine 48 No g w (.slice A out.length c) out ∧ (c ≠ 0 → g ≠ x) ∧ (g = x ∨ g < w.heap.size) := by
          obtain ⟨v, h1, h2⟩ := HX.out.at_
          obtain ⟨A, c, rfl, _, _⟩ := h2.form
          exact ⟨A, c, h1, h2, fun hc => LxS.ne h1 h2 hc, HX.out.own⟩
        have h0 : w.cell? ⟨x, 0, none⟩ = some (.string s) := cell_blk hb 0
        have h1 : w.cell? ⟨x, 1, none⟩ = some (.slice A out.length c) := cell_blk hb 1
        have f1 : w.frozen? ⟨x, 1, none⟩ = false := frz_blk hb 1
        have HS := hid (fun (W : World) (hW : Below w.heap.size w W) => hsp.step (K' := fun b => w.heap.size ≤ b) (w' := W) (fun cur hc => (hW.block g (Array.getElem?_eq_some_iff.1 hc).1).trans hc) (fun b hk hl => hk.elim))
        have HG := hid hne
        have HB := hid hb
        have HO := hid hown
        have HF := hid hf
        have HC : Hid (c = 0 ∨ (x ≠ g ∧ g < w.heap.size)) := by
          by_cases hc0 : c = 0
          · exact .inl hc0
          · rcases hown with h | h
            · exact absurd h (hne hc0)
            · exact .inr ⟨fun e => hne hc0 e.symm, h⟩
        clear hb hsp hne hown hf h hc1 hm
        rcases HC.out with rfl | ⟨hxg, hgl⟩
        · obtain ⟨b, hab⟩ : ∃ b, b = a + 1 := ⟨_, rfl⟩
          have ha2 : b ≤ s.size := by omega
          have ha1 : a ≤ b := by omega
          have ht : IntKind.i64.wrap ((a : Int) + 1) = (b : Int) := by rw [IntWalk.i64_in _ (by omega)]; omega
          have HAB := hid hab
          clear hab
          go_enter Try.func63, Try.ntmps63
          go_wp2_with (first | ((with_reducible refine wp_region_plan (id := 7) (.eff [(true, 0), (true, 1), (true, 2), (true, 3), (true, 4), (false, 5), (false, 6), (false, 7), (false, 8), (false, 9), (false, 10), (false, 11), (false, 12), (false, 13), (false, 14)] 15 [0, 1, 2, 3, 4] (.eff [] 16 [0] (.eff [(false, 17), (false, 18)] 19 [] (.fin [])))) ?_ ?_ ?_ ?_ ?_ ?_); kernel_rfl; kernel_rfl; kernel_rfl; kernel_rfl; (intro c a d v w h; cases d <;> exact h)) | (with_reducible refine wpPlan_eff ?_) | (with_reducible refine wpPlan_fin ?_) | (with_reducible refine wpPlan_two ?_) | (with_reducible refine wpOpPair ?_ ?_) | ((with_reducible apply wpPre_keep); rfl; intro K' hK'; go_simp; refine hK' _ _ ?_; intro f hf; clear hK' K') | ((with_reducible apply wpPre_drop); rfl; intro K' hK'; go_simp; refine hK' _ _ ?_; intro f; clear hK' K') | (with_reducible refine wpPre_nil ?_) | ((with_reducible apply wpOp_list); rfl) | (with_reducible refine heldPair ?_ ?_) | ((with_reducible refine heldH_no ?_ ?_); rfl) | (with_reducible refine heldH_yes ?_ ?_) | (with_reducible exact heldH_nil) | (unfold YAt; go_simp; done) | (go_at_call 77; refine (class_any HR.out).mono ?_; rintro e w1 ⟨rfl, hb1⟩; obtain ⟨ex, dx, rfl⟩ := more_of hb1; clear hb1) | (go_at_call 82; refine (Try.strings_ContainsRune_ascii mk6 r _ (by have := HR.out.1; omega) HA.out).mono ?_; rintro e w2 ⟨rfl, rfl⟩; (have e3 : decide (0 ≤ Lib.indexByte mk6.data.toList r.toNat.toUInt8) = true := HMR.out); rw [e3]; clear e3) | (at_builtin; refine wpList_app23 (ys := [⟨2, s.extract a b, a⟩]) (by rfl) (.tmp 27) (.tmp 38) (by rfl) (by rfl) (by rfl) (by rfl) (HS.out _ ?hA) ?hB ?hC ?hD ?_; rotate_left 4; intro v2 w2 g2 hs2 he2 hg2; obtain ⟨A2, c2, rfl, _, _⟩ := hs2.form; have HS2 := hid hs2; have HE2 := hid he2; have HG2 := hid hg2; clear hs2 hg2; obtain ⟨ex2, dx2, rfl⟩ := more_of (below_of_ext he2 (by simp [capOf])); clear he2))
          case hA => exact (by repeat (first | (with_reducible exact Below.refl _ _) | (with_reducible exact bl_mm) | (with_reducible refine bl_dr ?_) | (with_reducible refine bl_drN ?_ _) | (with_reducible refine bl_al ?_ _) | (with_reducible refine bl_more ?_ _ _)))
          case hD => have := HF.out; simp only [List.length_cons, List.length_nil]; omega
          case hC =>
            intro b hb _ hbg
            rcases HO.out with h | h <;> omega
          case hB => exact (Enc.Row.one_blk (d := tokE) (K := fun b => w.heap.size ≤ b) (cs := tokCells ⟨2, s.extract a b, a⟩) (t := 48) (alloc_blk (X := more w ex (dx + 1)) (o := .cells (tokCells ⟨2, s.extract a b, a⟩).toArray 48 (0, 0)) (b := w.heap.size + ex.size) (by simp only [more_size])) (tokE_mk _) (by omega)).src
          go_ret
          have hf := LxS.appended (m := ⟨out, remark, begun⟩) (out' := out ++ [⟨2, s.extract a b, a⟩]) HB.out (by repeat (first | (with_reducible exact Below.refl _ _) | (with_reducible exact bl_mm) | (with_reducible refine bl_dr ?_) | (with_reducible refine bl_drN ?_ _) | (with_reducible refine bl_al ?_ _) | (with_reducible refine bl_more ?_ _ _))) HO.out HG.out HE2.out HG2.out.two (tok_free HS2.out) (fun _ h => h) (by have := HF.out; simp; omega)
          refine ⟨g2, ?_, Eq.subst (motive := fun W => LxS W x g2 s (markS s ⟨out, remark, begun⟩ a r) ∧ Up x g w g2 W) ?_ ⟨?_, hf.2⟩⟩
          · unfold markE; rw [if_neg HN35.out, if_neg HN3.out, if_pos HMR.out]; rfl
          · go_simp
          · unfold markS; rw [if_neg HN35.out, if_neg HN3.out, if_pos HMR.out, ← HAB.out]; exact hf.1
        · obtain ⟨b, hab⟩ : ∃ b, b = a + 1 := ⟨_, rfl⟩
          have ha2 : b ≤ s.size := by omega
          have ha1 : a ≤ b := by omega
          have ht : IntKind.i64.wrap ((a : Int) + 1) = (b : Int) := by rw [IntWalk.i64_in _ (by omega)]; omega
          have HAB := hid hab
          clear hab
          go_enter Try.func63, Try.ntmps63
          go_wp2_with (first | ((with_reducible refine wp_region_plan (id := 7) (.eff [(true, 0), (true, 1), (true, 2), (true, 3), (true, 4), (false, 5), (false, 6), (false, 7), (false, 8), (false, 9), (false, 10), (false, 11), (false, 12), (false, 13), (false, 14)] 15 [0, 1, 2, 3, 4] (.eff [] 16 [0] (.eff [(false, 17), (false, 18)] 19 [] (.fin [])))) ?_ ?_ ?_ ?_ ?_ ?_); kernel_rfl; kernel_rfl; kernel_rfl; kernel_rfl; (intro c a d v w h; cases d <;> exact h)) | (with_reducible refine wpPlan_eff ?_) | (with_reducible refine wpPlan_fin ?_) | (with_reducible refine wpPlan_two ?_) | (with_reducible refine wpOpPair ?_ ?_) | ((with_reducible apply wpPre_keep); rfl; intro K' hK'; go_simp; refine hK' _ _ ?_; intro f hf; clear hK' K') | ((with_reducible apply wpPre_drop); rfl; intro K' hK'; go_simp; refine hK' _ _ ?_; intro f; clear hK' K') | (with_reducible refine wpPre_nil ?_) | ((with_reducible apply wpOp_list); rfl) | (with_reducible refine heldPair ?_ ?_) | ((with_reducible refine heldH_no ?_ ?_); rfl) | (with_reducible refine heldH_yes ?_ ?_) | (with_reducible exact heldH_nil) | (unfold YAt; go_simp; done) | (go_at_call 77; refine (class_any HR.out).mono ?_; rintro e w1 ⟨rfl, hb1⟩; obtain ⟨ex, dx, rfl⟩ := more_of hb1; clear hb1) | (go_at_call 82; refine (Try.strings_ContainsRune_ascii mk6 r _ (by have := HR.out.1; omega) HA.out).mono ?_; rintro e w2 ⟨rfl, rfl⟩; (have e3 : decide (0 ≤ Lib.indexByte mk6.data.toList r.toNat.toUInt8) = true := HMR.out); rw [e3]; clear e3) | (at_builtin; refine wpList_app23 (ys := [⟨2, s.extract a b, a⟩]) (by rfl) (.tmp 27) (.tmp 38) (by rfl) (by rfl) (by rfl) (by rfl) (HS.out _ ?hA) ?hB ?hC ?hD ?_; rotate_left 4; intro v2 w2 g2 hs2 he2 hg2; obtain ⟨A2, c2, rfl, _, _⟩ := hs2.form; have HS2 := hid hs2; have HE2 := hid he2; have HG2 := hid hg2; clear hs2 hg2; obtain ⟨o2, ex2, dx2, rfl⟩ := form_of he2 (Nat.lt_of_lt_of_le hgl (Below.size (B := w.heap.size) (w := w) (by repeat (first | (with_reducible exact Below.refl _ _) | (with_reducible exact bl_mm) | (with_reducible refine bl_dr ?_) | (with_reducible refine bl_drN ?_ _) | (with_reducible refine bl_al ?_ _) | (with_reducible refine bl_more ?_ _ _))))); clear he2))
          case hA => exact (by repeat (first | (with_reducible exact Below.refl _ _) | (with_reducible exact bl_mm) | (with_reducible refine bl_dr ?_) | (with_reducible refine bl_drN ?_ _) | (with_reducible refine bl_al ?_ _) | (with_reducible refine bl_more ?_ _ _)))
          case hD => have := HF.out; simp only [List.length_cons, List.length_nil]; omega
          case hC =>
            intro b hb _ hbg
            rcases HO.out with h | h <;> omega
          case hB => exact (Enc.Row.one_blk (d := tokE) (K := fun b => w.heap.size ≤ b) (cs := tokCells ⟨2, s.extract a b, a⟩) (t := 48) (alloc_blk (X := more w ex (dx + 1)) (o := .cells (tokCells ⟨2, s.extract a b, a⟩).toArray 48 (0, 0)) (b := w.heap.size + ex.size) (by simp only [more_size])) (tokE_mk _) (by omega)).src
          go_ret
          have hf := LxS.appended (m := ⟨out, remark, begun⟩) (out' := out ++ [⟨2, s.extract a b, a⟩]) HB.out (by repeat (first | (with_reducible exact Below.refl _ _) | (with_reducible exact bl_mm) | (with_reducible refine bl_dr ?_) | (with_reducible refine bl_drN ?_ _) | (with_reducible refine bl_al ?_ _) | (with_reducible refine bl_more ?_ _ _))) HO.out HG.out HE2.out HG2.out.two (tok_free HS2.out) (fun _ h => h) (by have := HF.out; simp; omega)
          refine ⟨g2, ?_, Eq.subst (motive := fun W => LxS W x g2 s (markS s ⟨out, remark, begun⟩ a r) ∧ Up x g w g2 W) ?_ ⟨?_, hf.2⟩⟩
          · unfold markE; rw [if_neg HN35.out, if_neg HN3.out, if_pos HMR.out]; rfl
          · go_simp
          · unfold markS; rw [if_neg HN35.out, if_neg HN3.out, if_pos HMR.out, ← HAB.out]; exact hf.1
end Go.Proofs.Ytidilpciolladaa

/- A code point taken. -/
namespace Go.Proofs.Ytidilpciolladaa
open Go.RowKit

def takeS (s : ByteArray) (m : LS) (a : Nat) (r : Int) : LS :=
  if m.remark = true then { m with remark := decide (r ≠ 10) } else if namedB m r = true then (if m.begun < 0 then { m with begun := a } else m)
  else if shutOK m a = true then markS s (shutS s m a) a r else shutS s m a
def takeP (m : LS) (a : Nat) (r : Int) : Int := if m.remark = true then a else if namedB m r = true then a else if shutOK m a = true then a else m.begun
def takeE (m : LS) (a : Nat) (r : Int) : Int := if m.remark = true then 0 else if namedB m r = true then 0 else if shutOK m a = true then markE r else 5
theorem named_cls {m : LS} {r : Int} (h : namedB m r = false) : cls r ≠ 1 := by
  intro e
  unfold namedB at h
  rw [e] at h
  simp at h
theorem shutS_few {s : ByteArray} {m : LS} {a n : Nat} (h : m.out.length ≤ n) : (shutS s m a).out.length ≤ n + 1 := by
  unfold shutS
  split
  · omega
  · simp; omega
set_option maxHeartbeats 4000000 in
theorem take_any {w : World} {x g : Nat} {s : ByteArray} {m : LS} {a : Nat} {r : Int} (h : LxS w x g s m) (hr : okR r) (hb : m.begun ≤ a) (ha : a < s.size) (hz : s.size ≤ 65536) (hf : m.out.length ≤ 65535) :
    Calls Try.prog 39 #[.pointer (some ⟨x, 0, none⟩), .int .i64 a, .int .i32 r] w fun e w' => ∃ g', e = .returned (.tuple #[.int .i64 (takeP m a r), .int .i64 (takeE m a r)]) ∧ LxS w' x g' s (takeS s m a r) ∧ Up x g w g' w' := by
  have HX := hid h
  have HR := hid hr
  have HBA := hid hb
  have HAS := hid ha
  have HZ := hid hz
  have HF := hid hf
  obtain ⟨v, hb1, _⟩ := h.at_
  have h2 : w.cell? ⟨x, 2, none⟩ = some (.bool m.remark) := cell_blk hb1 2
  have f2 : w.frozen? ⟨x, 2, none⟩ = false := frz_blk hb1 2
  have h3 : w.cell? ⟨x, 3, none⟩ = some (.int .i64 m.begun) := cell_blk hb1 3
  have f3 : w.frozen? ⟨x, 3, none⟩ = false := frz_blk hb1 3
  have hx := h.lt
  clear hb1 h hr hb ha hz hf
  cases hm : m.remark with
  | true =>
    rw [hm] at h2
    have HM := hid hm
    clear hm
    by_cases hn : r = 10
    · subst hn
      go_enter Try.func39, Try.ntmps39
      go_wp2
      go_ret2
      have hu : Up x g w g (w.setCell ⟨x, 2, none⟩ (.bool false)) := ⟨Ext.setCell _ _ _ (.inl rfl), .inl rfl⟩
      refine ⟨g, by unfold takeP takeE; rw [if_pos HM.out, if_pos HM.out]; rfl, ?_, hu⟩
      unfold takeS
      rw [if_pos HM.out]
      exact HX.out.setRemark false
    · have hn' : (r == 10) = false := by simpa using hn
      have HN := hid hn
      go_enter Try.func39, Try.ntmps39
      go_wp2
      go_ret2
      have hv : (r != 10) = true := by have := HN.out; simpa using this
      rw [hv]
      have hu : Up x g w g (w.setCell ⟨x, 2, none⟩ (.bool true)) := ⟨Ext.setCell _ _ _ (.inl rfl), .inl rfl⟩
      refine ⟨g, by unfold takeP takeE; rw [if_pos HM.out, if_pos HM.out]; rfl, ?_, hu⟩
      unfold takeS
      rw [if_pos HM.out, show decide (r ≠ 10) = true from decide_eq_true HN.out]
      exact HX.out.setRemark true
  | false =>
    rw [hm] at h2
    have HM := hid (show ¬ m.remark = true by rw [hm]; decide)
    clear hm
    cases hnb : namedB m r with
    | true =>
      have HNB := hid hnb
      clear hnb
      by_cases hg : m.begun < 0
      · have HG := hid hg
        go_enter Try.func39, Try.ntmps39
        go_wp2_with (first | (go_at_call 62; refine (named_any (HX.out.below (by repeat (first | (with_reducible exact Below.refl _ _) | (with_reducible exact bl_mm) | (with_reducible refine bl_dr ?_) | (with_reducible refine bl_drN ?_ _) | (with_reducible refine bl_al ?_ _) | (with_reducible refine bl_more ?_ _ _)))) HR.out).mono ?_; rintro e w1 ⟨rfl, hb1⟩; rw [HNB.out]; obtain ⟨ex, dx, rfl⟩ := more_of hb1; clear hb1))
        go_ret2
        have hu : Up x g w g (w.setCell ⟨x, 3, none⟩ (.int .i64 a)) := ⟨Ext.setCell _ _ _ (.inl rfl), .inl rfl⟩
        refine ⟨g, by unfold takeP takeE; rw [if_neg HM.out, if_neg HM.out, if_pos HNB.out, if_pos HNB.out]; rfl, ?_, hu.trans (Up.of_below (bl_more (Below.refl _ _) _ _))⟩
        unfold takeS
        rw [if_neg HM.out, if_pos HNB.out, if_pos HG.out]
        exact (HX.out.setBegun a).below (bl_more (Below.refl _ _) _ _)
      · have HG := hid hg
        go_enter Try.func39, Try.ntmps39
        go_wp2_with (first | (go_at_call 62; refine (named_any (HX.out.below (by repeat (first | (with_reducible exact Below.refl _ _) | (with_reducible exact bl_mm) | (with_reducible refine bl_dr ?_) | (with_reducible refine bl_drN ?_ _) | (with_reducible refine bl_al ?_ _) | (with_reducible refine bl_more ?_ _ _)))) HR.out).mono ?_; rintro e w1 ⟨rfl, hb1⟩; rw [HNB.out]; obtain ⟨ex, dx, rfl⟩ := more_of hb1; clear hb1))
        go_ret2
        refine ⟨g, by unfold takeP takeE; rw [if_neg HM.out, if_neg HM.out, if_pos HNB.out, if_pos HNB.out]; rfl, ?_, Up.of_below (by repeat (first | (with_reducible exact Below.refl _ _) | (with_reducible exact bl_mm) | (with_reducible refine bl_dr ?_) | (with_reducible refine bl_drN ?_ _) | (with_reducible refine bl_al ?_ _) | (with_reducible refine bl_more ?_ _ _)))⟩
        unfold takeS
        rw [if_neg HM.out, if_pos HNB.out, if_neg (show ¬ m.begun < 0 from Int.not_lt.2 HG.out)]
        exact HX.out.below (by repeat (first | (with_reducible exact Below.refl _ _) | (with_reducible exact bl_mm) | (with_reducible refine bl_dr ?_) | (with_reducible refine bl_drN ?_ _) | (with_reducible refine bl_al ?_ _) | (with_reducible refine bl_more ?_ _ _)))
    | false =>
      have HNB := hid hnb
      have HCL := hid (named_cls hnb)
      clear hnb
      cases hso : shutOK m a with
      | true =>
        have HSO := hid hso
        clear hso
        go_enter Try.func39, Try.ntmps39
        go_wp2_with (first | (go_at_call 62; refine (named_any (HX.out.below (by repeat (first | (with_reducible exact Below.refl _ _) | (with_reducible exact bl_mm) | (with_reducible refine bl_dr ?_) | (with_reducible refine bl_drN ?_ _) | (with_reducible refine bl_al ?_ _) | (with_reducible refine bl_more ?_ _ _)))) HR.out).mono ?_; rintro e w1 ⟨rfl, hb1⟩; rw [HNB.out]; obtain ⟨ex, dx, rfl⟩ := more_of hb1; clear hb1) | (go_at_call 40; refine (shut_any (HX.out.below (by repeat (first | (with_reducible exact Below.refl _ _) | (with_reducible exact bl_mm) | (with_reducible refine bl_dr ?_) | (with_reducible refine bl_drN ?_ _) | (with_reducible refine bl_al ?_ _) | (with_reducible refine bl_more ?_ _ _)))) HBA.out (Nat.le_of_lt HAS.out) HZ.out (by have := HF.out; omega)).mono ?_; rintro e w2 ⟨g2, rfl, hl2, hu2⟩; rw [HSO.out]; have HL2 := hid hl2; have HU2 := hid hu2; clear hl2 hu2) | (go_at_call 63; refine (mark_any (HL2.out.below (by repeat (first | (with_reducible exact Below.refl _ _) | (with_reducible exact bl_mm) | (with_reducible refine bl_dr ?_) | (with_reducible refine bl_drN ?_ _) | (with_reducible refine bl_al ?_ _) | (with_reducible refine bl_more ?_ _ _)))) HR.out HCL.out HAS.out HZ.out (shutS_few HF.out)).mono ?_; rintro e w3 ⟨g3, rfl, hl3, hu3⟩; have HL3 := hid hl3; have HU3 := hid hu3; clear hl3 hu3))
        go_ret2
        have hN : ¬ namedB m r = true := by rw [HNB.out]; decide
        refine ⟨g3, by unfold takeP takeE; rw [if_neg HM.out, if_neg HM.out, if_neg hN, if_neg hN, if_pos HSO.out, if_pos HSO.out]; rfl, ?_, ((Up.of_below (bl_more (Below.refl _ _) _ _)).trans HU2.out).trans HU3.out⟩
        unfold takeS
        rw [if_neg HM.out, if_neg hN, if_pos HSO.out]
        exact HL3.out
      | false =>
        have HSO := hid hso
        clear hso
        go_enter Try.func39, Try.ntmps39
        go_wp2_with (first | (go_at_call 62; refine (named_any (HX.out.below (by repeat (first | (with_reducible exact Below.refl _ _) | (with_reducible exact bl_mm) | (with_reducible refine bl_dr ?_) | (with_reducible refine bl_drN ?_ _) | (with_reducible refine bl_al ?_ _) | (with_reducible refine bl_more ?_ _ _)))) HR.out).mono ?_; rintro e w1 ⟨rfl, hb1⟩; rw [HNB.out]; obtain ⟨ex, dx, rfl⟩ := more_of hb1; clear hb1) | (go_at_call 40; refine (shut_any (HX.out.below (by repeat (first | (with_reducible exact Below.refl _ _) | (with_reducible exact bl_mm) | (with_reducible refine bl_dr ?_) | (with_reducible refine bl_drN ?_ _) | (with_reducible refine bl_al ?_ _) | (with_reducible refine bl_more ?_ _ _)))) HBA.out (Nat.le_of_lt HAS.out) HZ.out (by have := HF.out; omega)).mono ?_; rintro e w2 ⟨g2, rfl, hl2, hu2⟩; rw [HSO.out]; have HL2 := hid hl2; have HU2 := hid hu2; clear hl2 hu2) | (go_at_call 63; refine (mark_any (HL2.out.below (by repeat (first | (with_reducible exact Below.refl _ _) | (with_reducible exact bl_mm) | (with_reducible refine bl_dr ?_) | (with_reducible refine bl_drN ?_ _) | (with_reducible refine bl_al ?_ _) | (with_reducible refine bl_more ?_ _ _)))) HR.out HCL.out HAS.out HZ.out (shutS_few HF.out)).mono ?_; rintro e w3 ⟨g3, rfl, hl3, hu3⟩; have HL3 := hid hl3; have HU3 := hid hu3; clear hl3 hu3))
        go_ret2
        have hN : ¬ namedB m r = true := by rw [HNB.out]; decide
        have hS : ¬ shutOK m a = true := by rw [HSO.out]; decide
        refine ⟨g2, by unfold takeP takeE; rw [if_neg HM.out, if_neg HM.out, if_neg hN, if_neg hN, if_neg hS, if_neg hS]; rfl, ?_, (Up.of_below (bl_more (Below.refl _ _) _ _)).trans HU2.out⟩
        unfold takeS
        rw [if_neg HM.out, if_neg hN, if_neg hS]
        exact HL2.out
end Go.Proofs.Ytidilpciolladaa

/- The run over a text. -/
namespace Go.Proofs.Ytidilpciolladaa
open Go.RowKit

theorem valid_ok {c : Int} (h : Utf8.valid c = true) : okR c := by
  unfold Utf8.valid at h
  rw [Bool.or_eq_true, Bool.and_eq_true, Bool.and_eq_true, decide_eq_true_eq, decide_eq_true_eq, decide_eq_true_eq, decide_eq_true_eq] at h
  exact ⟨by omega, by omega, by omega⟩
theorem small_ok {n : Nat} (h : n < 55296) : okR (n : Int) := ⟨by omega, by omega, .inl (by omega)⟩
theorem decode_ok (s : ByteArray) (i : Nat) : okR ((Utf8.decode s i).1 : Int) := by
  have b0 := (s.get! (i + 0)).toNat_lt
  have e : okR ((65533 : Nat) : Int) := ⟨by decide, by decide, .inr (by decide)⟩
  unfold Utf8.decode
  simp only [Utf8.runeError]
  split
  · exact small_ok (by show (s.get! (i + 0)).toNat < 55296; omega)
  · split
    · split
      · exact small_ok (by show _ * 64 + _ % 64 < 55296; omega)
      · exact e
    · split
      · split
        · rename_i h
          exact valid_ok (Bool.and_eq_true_iff.1 h).2
        · exact e
      · split
        · split
          · rename_i h
            exact valid_ok (Bool.and_eq_true_iff.1 h).2
          · exact e
        · exact e
/-- Where the run stands: the state at the end of what is read (left), or the place and the number of what cannot be (right). -/
def runL (s : ByteArray) (m : LS) (p : Nat) : LS ⊕ (Int × Int) :=
  if _h : p < s.size then
    if bad s p = true then .inl m
    else
      let r : Int := (Utf8.decode s p).1
      if takeE m p r = 0 then runL s (takeS s m p r) (p + max 1 (Utf8.decode s p).2) else .inr (takeP m p r, takeE m p r)
  else .inl m
termination_by s.size - p
decreasing_by omega
theorem shutS_begun {s : ByteArray} {m : LS} {a : Nat} : (shutS s m a).begun < 0 := by
  unfold shutS
  split
  · assumption
  · simp
theorem markS_begun {s : ByteArray} {m : LS} {a : Nat} {r : Int} : (markS s m a r).begun = m.begun := by
  unfold markS
  (repeat' split) <;> rfl
theorem markS_few {s : ByteArray} {m : LS} {a : Nat} {r : Int} : (markS s m a r).out.length ≤ m.out.length + 1 := by
  unfold markS
  (repeat' split) <;> simp
/-- A state that lies at a place: few tokens, the name's begin behind it. -/
structure Lies (m : LS) (p : Nat) : Prop where
  begun : m.begun ≤ p
  few : m.out.length + (if m.begun < 0 then 0 else 1) ≤ p
theorem Lies.take {s : ByteArray} {m : LS} {p q : Nat} {r : Int} (h : Lies m p) (hq : p + 1 ≤ q) : Lies (takeS s m p r) q := by
  obtain ⟨h1, h2⟩ := h
  unfold takeS
  split
  · exact ⟨by show m.begun ≤ q; omega, by show m.out.length + (if m.begun < 0 then 0 else 1) ≤ q; omega⟩
  · split
    · split
      · exact ⟨by show (p : Int) ≤ q; omega, by show m.out.length + (if (p : Int) < 0 then 0 else 1) ≤ q; split at h2 <;> split <;> omega⟩
      · exact ⟨by omega, by omega⟩
    · have hs := shutS_begun (s := s) (m := m) (a := p)
      have hf : (shutS s m p).out.length ≤ p := by
        unfold shutS
        split
        · rw [if_pos (by assumption)] at h2; omega
        · rw [if_neg (by assumption)] at h2; simp; omega
      split
      · have := markS_begun (s := s) (m := shutS s m p) (a := p) (r := r)
        have := markS_few (s := s) (m := shutS s m p) (a := p) (r := r)
        exact ⟨by omega, by rw [if_pos (by omega)]; omega⟩
      · exact ⟨by omega, by rw [if_pos hs]; omega⟩
end Go.Proofs.Ytidilpciolladaa

/- Lex: the loop's parts. -/
namespace Go.Proofs.Ytidilpciolladaa
open Go.RowKit

theorem LxS.iter {w : World} {x g : Nat} {s : ByteArray} {m : LS} {k p q : Nat} {t : ByteArray} (h : LxS w x g s m) (hk : w.heap[k]? = some (.stringIter t p)) : LxS (w.iterAt k t q) x g s m := by
  obtain ⟨v, h1, h2⟩ := h.at_
  have hx : x ≠ k := by rintro rfl; rw [h1] at hk; cases hk
  refine ⟨h.few, h.own.imp id (fun h => by rw [Lib.iterAt_size]; exact h), v, (Lib.iterAt_other w k x t q hx).trans h1, h2.step (fun cur hc => ?_) (fun b hb _ => hb.elim)⟩
  have hg : g ≠ k := by rintro rfl; rw [hc] at hk; cases hk
  exact (Lib.iterAt_other w k g t q hg).trans hc
theorem Up.keeps {d g g' k : Nat} {w w' : World} (h : Up d g w g' w') (hk : k < w.heap.size) (hd : k ≠ d) (hg : k ≠ g) : w'.heap[k]? = w.heap[k]? ∧ k ≠ g' := by
  refine ⟨h.ext.block k hk (fun e => e.elim hd hg), ?_⟩
  rcases h.new with e | e
  · rw [e]; exact hg
  · omega
/-- What the loop keeps: the state, the iterator, what lay before. -/
structure Lp (B : Nat) (w0 w : World) (x k g p : Nat) (s : ByteArray) (m : LS) : Prop where
  st : LxS w x g s m
  it : w.heap[k]? = some (.stringIter s p)
  xk : x ≠ k
  kg : k ≠ g
  xB : B ≤ x
  kB : B ≤ k
  gB : B ≤ g
  low : Below B w0 w
theorem Lp.next {B : Nat} {w0 w : World} {x k g p q : Nat} {s : ByteArray} {m : LS} (h : Lp B w0 w x k g p s m) : Lp B w0 (w.iterAt k s q) x k g q s m :=
  ⟨h.st.iter h.it, Lib.iterAt_heap w k s p q h.it, h.xk, h.kg, h.xB, h.kB, h.gB, Lib.below_iterAt h.low h.kB s q⟩
theorem Lp.up {B : Nat} {w0 w w' : World} {x k g g' p : Nat} {s : ByteArray} {m m' : LS} (h : Lp B w0 w x k g p s m) (hB : B ≤ w.heap.size) (hs : LxS w' x g' s m') (hu : Up x g w g' w') : Lp B w0 w' x k g' p s m' := by
  have hk : k < w.heap.size := (Array.getElem?_eq_some_iff.1 h.it).1
  obtain ⟨h1, h2⟩ := hu.keeps hk (Ne.symm h.xk) h.kg
  have hb : Below B w w' := by
    have h3 := h.xB
    have h4 := h.gB
    exact ⟨hu.ext.os, hu.ext.tape, hu.ext.output, hu.ext.size, fun i hi => hu.ext.block i (by omega) (by rintro (e | e) <;> omega)⟩
  exact ⟨hs, h1.trans h.it, h.xk, h2, h.xB, h.kB, by rcases hu.new with e | e; rw [e]; exact h.gB; omega, h.low.trans hb⟩
end Go.Proofs.Ytidilpciolladaa

/- Lex. -/
namespace Go.Proofs.Ytidilpciolladaa
open Go.RowKit

def m0 : LS := ⟨[], false, -1⟩
def endL (s : ByteArray) : Nat := match badAt s 0 with | some i => i | none => s.size
def lexR (s : ByteArray) : List Tok × Int × Int := match runL s m0 0 with
  | .inr (P, E) => ([], P, E)
  | .inl m => if shutOK m (endL s) = true then (match badAt s 0 with | some i => ([], i, 4) | none => ((shutS s m s.size).out, s.size, 0)) else ([], m.begun, 5)
theorem badAt_ge {s : ByteArray} {i j : Nat} (h : badAt s i = some j) : i ≤ j := by
  induction hk : s.size - i using Nat.strongRecOn generalizing i with
  | _ n ih =>
    unfold badAt at h
    split at h
    · split at h
      · cases h; exact Nat.le_refl _
      · have := ih _ (by omega) h rfl
        omega
    · cases h
theorem badI_ne {s : ByteArray} {p : Nat} (hb : badAt s 0 = badAt s p) (hp : p < s.size) (hbd : bad s p = false) : ((p : Int) == badI (badAt s 0)) = false := by
  rw [hb, badAt_next hp hbd]
  have hw := width_pos s p
  cases h : badAt s (p + (Utf8.decode s p).2) with
  | none => simp only [badI]; rw [beq_eq_false_iff_ne]; omega
  | some j => have := badAt_ge h; simp only [badI]; rw [beq_eq_false_iff_ne]; omega
theorem runL_bad {s : ByteArray} {m : LS} {p : Nat} (hp : p < s.size) (hb : bad s p = true) : runL s m p = .inl m := by rw [runL, dif_pos hp, if_pos hb]
theorem runL_end {s : ByteArray} {m : LS} {p : Nat} (hp : ¬ p < s.size) : runL s m p = .inl m := by rw [runL, dif_neg hp]
theorem runL_next {s : ByteArray} {m : LS} {p : Nat} (hp : p < s.size) (hb : bad s p = false) (he : takeE m p (Utf8.decode s p).1 = 0) : runL s m p = runL s (takeS s m p (Utf8.decode s p).1) (p + (Utf8.decode s p).2) := by
  rw [runL, dif_pos hp, if_neg (by rw [hb]; decide)]
  simp only
  rw [if_pos he, Nat.max_eq_right (width_pos s p)]
theorem runL_stop {s : ByteArray} {m : LS} {p : Nat} (hp : p < s.size) (hb : bad s p = false) (he : takeE m p (Utf8.decode s p).1 ≠ 0) : runL s m p = .inr (takeP m p (Utf8.decode s p).1, takeE m p (Utf8.decode s p).1) := by
  rw [runL, dif_pos hp, if_neg (by rw [hb]; decide)]
  simp only
  rw [if_neg he]
set_option maxRecDepth 4000 in
set_option maxHeartbeats 4000000 in
theorem lex_any {w : World} {s : ByteArray} (hz : s.size ≤ 65536) : Calls Try.prog 21 #[.string s] w fun e w' => ∃ v g, e = .returned (.tuple #[v, .int .i64 (lexR s).2.1, .int .i64 (lexR s).2.2]) ∧ tokE.Spine 48 No g w' v (lexR s).1 ∧ w.heap.size ≤ g ∧ Below w.heap.size w w' := by
  have hz' : (s.size : Int) ≤ 65536 := by omega
  have HZ := hid hz
  clear hz
  go_enter Try.func21, Try.ntmps21
  go_wp2_with (first | (go_at_call 38; refine bad_any.mono ?_; rintro e w1 ⟨rfl, hb1⟩; obtain ⟨ex, dx, rfl⟩ := more_of hb1; clear hb1))
  go_loopg [] (s.size + 1) (fun k wr => ∃ (p g : Nat) (m : LS), p + k = s.size + 1 ∧ p ≤ s.size ∧ runL s m0 0 = runL s m p ∧ badAt s 0 = badAt s p ∧ Lies m p ∧ Lp w.heap.size w wr (w.heap.size + ex.size) (w.heap.size + ex.size + 1) g p s m)
  case atStart =>
    have hb1 : Below w.heap.size w (more w ex dx) := bl_more (Below.refl _ _) _ _
    refine ⟨0, _, m0, by omega, Nat.zero_le _, rfl, rfl, ⟨by decide, by decide⟩, ⟨⟨by decide, .inl rfl, .slice none 0 0, ?_, Enc.Spine.nil _ _ _ _ _⟩, ?_, by omega, by omega, by omega, by omega, by omega, ?_⟩⟩
    · have hA : (((more w ex dx).alloc (.cells #[.string s, .slice none 0 0, .bool false, .int .i64 (-1)] 78))).heap[w.heap.size + ex.size]? = some (.cells #[.string s, .slice none 0 0, .bool false, .int .i64 (-1)] 78 (0, 0)) := alloc_blk (by simp only [more_size])
      exact (((Below.refl _ ((more w ex dx).alloc (.cells #[.string s, .slice none 0 0, .bool false, .int .i64 (-1)] 78))).alloc (Nat.le_refl _) (.stringIter s 0)).block (w.heap.size + ex.size) (by simp [more_size])).trans hA
    · exact alloc_blk (X := (more w ex dx).alloc (.cells #[.string s, .slice none 0 0, .bool false, .int .i64 (-1)] 78)) (by simp only [more_size, World.size_alloc])
    · exact show Below w.heap.size w (((more w ex dx).alloc (.cells #[.string s, .slice none 0 0, .bool false, .int .i64 (-1)] 78)).alloc (.stringIter s 0)) from (by repeat (first | (with_reducible exact Below.refl _ _) | (with_reducible exact bl_mm) | (with_reducible refine bl_dr ?_) | (with_reducible refine bl_drN ?_ _) | (with_reducible refine bl_al ?_ _) | (with_reducible refine bl_more ?_ _ _)))
  case round =>
    obtain ⟨p, g, m, hk, hps, hr, hb, hl, hp⟩ := hrel
    have HPS := hid hps
    clear hps
    have HK := hid hk
    have HRU := hid hr
    have HB := hid hb
    have HLI := hid hl
    have HL0 := hid hp
    clear hk hr hb hl hp
    by_cases hp : p < s.size
    · have hnx := fun ty => Lib.run_next_any_at (P := Try.prog) _ _ s p ty HL0.out.it hp
      have HL : Hid (Lp _ _ _ _ _ _ _ _ _) := hid (HL0.out.next (q := p + (Utf8.decode s p).2))
      have HPP := hid (And.intro hp trivial)
      have HD := hid (decode_ok s p)
      generalize wr.iterAt (w.heap.size + ex.size + 1) s (p + (Utf8.decode s p).2) = W1 at hnx HL
      cases hbd : bad s p with
      | true =>
        have hbe : badAt s 0 = some p := by rw [HB.out]; exact badAt_here hp hbd
        have hbI : badI (badAt s 0) = (p : Int) := by rw [hbe]; rfl
        have hlx : lexR s = if shutOK m p = true then ([], (p : Int), 4) else ([], m.begun, 5) := by
          unfold lexR endL
          rw [HRU.out, runL_bad hp hbd, hbe]
        have HLX := hid hlx
        have hi0 : (0 : Int) ≤ p := by omega
        have h3 : W1.cell? ⟨w.heap.size + ex.size, 3, none⟩ = some (.int .i64 m.begun) := by
          obtain ⟨v, h1, _⟩ := HL.out.st.at_
          exact cell_blk h1 3
        have hx1 := HL.out.st.lt
        rw [hbI]
        clear hbe hbI hlx hp hbd HL0
        cases hso : shutOK m p with
        | true =>
          have HSO := hid hso
          clear hso
          go_wp2_with (first | (go_at_call 40; refine (shut_any (HL.out.st.below (by repeat (first | (with_reducible exact Below.refl _ _) | (with_reducible exact bl_mm) | (with_reducible refine bl_dr ?_) | (with_reducible refine bl_drN ?_ _) | (with_reducible refine bl_al ?_ _) | (with_reducible refine bl_more ?_ _ _)))) HLI.out.begun (Nat.le_of_lt HPP.out.1) HZ.out (by have := HLI.out.few; have := HPP.out.1; have := HZ.out; omega)).mono ?_; rintro e w2 ⟨g2, rfl, hl2, hu2⟩; rw [HSO.out]; have HL2 := hid hl2; have HU2 := hid hu2; clear hl2 hu2))
          go_ret3
          rw [HLX.out, if_pos HSO.out]
          exact ⟨.slice none 0 0, w.heap.size, rfl, Enc.Spine.nil _ _ _ _ _, Nat.le_refl _, (HL.out.up HL.out.low.size HL2.out HU2.out).low⟩
        | false =>
          have HSO := hid hso
          clear hso
          go_wp2_with (first | (go_at_call 40; refine (shut_any (HL.out.st.below (by repeat (first | (with_reducible exact Below.refl _ _) | (with_reducible exact bl_mm) | (with_reducible refine bl_dr ?_) | (with_reducible refine bl_drN ?_ _) | (with_reducible refine bl_al ?_ _) | (with_reducible refine bl_more ?_ _ _)))) HLI.out.begun (Nat.le_of_lt HPP.out.1) HZ.out (by have := HLI.out.few; have := HPP.out.1; have := HZ.out; omega)).mono ?_; rintro e w2 ⟨g2, rfl, hl2, hu2⟩; rw [HSO.out]; have HL2 := hid hl2; have HU2 := hid hu2; clear hl2 hu2))
          go_ret3
          rw [HLX.out, if_neg (by rw [HSO.out]; decide)]
          exact ⟨.slice none 0 0, w.heap.size, rfl, Enc.Spine.nil _ _ _ _ _, Nat.le_refl _, (HL.out.up HL.out.low.size HL2.out HU2.out).low⟩
      | false =>
        have HBD := hid hbd
        have hq := badI_ne HB.out hp hbd
        clear hp hbd HL0
        by_cases he : takeE m p (Utf8.decode s p).1 = 0
        · have HE := hid he
          have he' : (takeE m p (Utf8.decode s p).1 == 0) = true := by simpa using he
          clear he
          go_wp2_with (first | (go_at_call 39; refine (take_any (HL.out.st.below (by repeat (first | (with_reducible exact Below.refl _ _) | (with_reducible exact bl_mm) | (with_reducible refine bl_dr ?_) | (with_reducible refine bl_drN ?_ _) | (with_reducible refine bl_al ?_ _) | (with_reducible refine bl_more ?_ _ _)))) HD.out HLI.out.begun HPP.out.1 HZ.out (by have := HLI.out.few; have := HPP.out.1; have := HZ.out; omega)).mono ?_; rintro e w2 ⟨g2, rfl, hl2, hu2⟩; have HL2 := hid hl2; have HU2 := hid hu2; clear hl2 hu2))
          go_roundg (s.size + 1 - (p + (Utf8.decode s p).2))
          case measure => have := HK.out; have := HPP.out.1; have := width_pos s p; have := width_le HPP.out.1; omega
          case rel =>
            refine ⟨p + (Utf8.decode s p).2, g2, takeS s m p (Utf8.decode s p).1, by have := width_le HPP.out.1; omega, width_le HPP.out.1, HRU.out.trans (runL_next HPP.out.1 HBD.out HE.out), HB.out.trans (badAt_next HPP.out.1 HBD.out), HLI.out.take (by have := width_pos s p; omega), ?_⟩
            have hsz := HL.out.low.size
            exact HL.out.up hsz HL2.out HU2.out
        · have HE := hid he
          have he' : (takeE m p (Utf8.decode s p).1 == 0) = false := by simpa using he
          clear he
          go_wp2_with (first | (go_at_call 39; refine (take_any (HL.out.st.below (by repeat (first | (with_reducible exact Below.refl _ _) | (with_reducible exact bl_mm) | (with_reducible refine bl_dr ?_) | (with_reducible refine bl_drN ?_ _) | (with_reducible refine bl_al ?_ _) | (with_reducible refine bl_more ?_ _ _)))) HD.out HLI.out.begun HPP.out.1 HZ.out (by have := HLI.out.few; have := HPP.out.1; have := HZ.out; omega)).mono ?_; rintro e w2 ⟨g2, rfl, hl2, hu2⟩; have HL2 := hid hl2; have HU2 := hid hu2; clear hl2 hu2))
          go_ret3
          have hr : lexR s = ([], takeP m p (Utf8.decode s p).1, takeE m p (Utf8.decode s p).1) := by
            unfold lexR
            rw [HRU.out, runL_stop HPP.out.1 HBD.out HE.out]
          rw [hr]
          have hsz := HL.out.low.size
          have hL := HL.out.up hsz HL2.out HU2.out
          exact ⟨.slice none 0 0, w.heap.size, rfl, Enc.Spine.nil _ _ _ _ _, Nat.le_refl _, hL.low⟩
    · have hnx := fun ty => Lib.run_next_end_at (P := Try.prog) _ _ s p ty HL0.out.it hp
      have hpe : p = s.size := by have := HPS.out; omega
      have hbe : badAt s 0 = none := by rw [HB.out]; exact badAt_end hp
      have hbI : badI (badAt s 0) = -1 := by rw [hbe]; rfl
      have hlx : lexR s = if shutOK m s.size = true then ((shutS s m s.size).out, (s.size : Int), 0) else ([], m.begun, 5) := by
        unfold lexR endL
        rw [HRU.out, runL_end hp, hbe]
      have HLX := hid hlx
      have h3 : wr.cell? ⟨w.heap.size + ex.size, 3, none⟩ = some (.int .i64 m.begun) := by
        obtain ⟨v, h1, _⟩ := HL0.out.st.at_
        exact cell_blk h1 3
      have hx1 := HL0.out.st.lt
      have HL := HL0
      rw [hbI]
      clear hbe hbI hlx hp hpe HL0
      cases hso : shutOK m s.size with
      | true =>
        have HSO := hid hso
        clear hso
        go_wp2_with (first | (go_at_call 40; refine (shut_any (a := s.size) (HL.out.st.below (by repeat (first | (with_reducible exact Below.refl _ _) | (with_reducible exact bl_mm) | (with_reducible refine bl_dr ?_) | (with_reducible refine bl_drN ?_ _) | (with_reducible refine bl_al ?_ _) | (with_reducible refine bl_more ?_ _ _)))) (by have := HLI.out.begun; have := HPS.out; omega) (Nat.le_refl _) HZ.out (by have := HLI.out.few; have := HPS.out; have := HZ.out; omega)).mono ?_; rintro e w2 ⟨g2, rfl, hl2, hu2⟩; rw [HSO.out]; have HL2 := hid hl2; have HU2 := hid hu2; obtain ⟨v2, hb2, hs2⟩ := hl2.at_; have c1 := cell_blk hb2 1; have hx2 := hl2.lt; have HS2 := hid hs2; clear hb2 hs2 hl2 hu2))
        go_ret3
        rw [HLX.out, if_pos HSO.out]
        have hL := HL.out.up HL.out.low.size HL2.out HU2.out
        exact ⟨v2, g2, rfl, HS2.out, hL.gB, hL.low⟩
      | false =>
        have HSO := hid hso
        clear hso
        go_wp2_with (first | (go_at_call 40; refine (shut_any (a := s.size) (HL.out.st.below (by repeat (first | (with_reducible exact Below.refl _ _) | (with_reducible exact bl_mm) | (with_reducible refine bl_dr ?_) | (with_reducible refine bl_drN ?_ _) | (with_reducible refine bl_al ?_ _) | (with_reducible refine bl_more ?_ _ _)))) (by have := HLI.out.begun; have := HPS.out; omega) (Nat.le_refl _) HZ.out (by have := HLI.out.few; have := HPS.out; have := HZ.out; omega)).mono ?_; rintro e w2 ⟨g2, rfl, hl2, hu2⟩; rw [HSO.out]; have HL2 := hid hl2; have HU2 := hid hu2; obtain ⟨v2, hb2, hs2⟩ := hl2.at_; have c1 := cell_blk hb2 1; have hx2 := hl2.lt; have HS2 := hid hs2; clear hb2 hs2 hl2 hu2))
        go_ret3
        rw [HLX.out, if_neg (by rw [HSO.out]; decide)]
        exact ⟨.slice none 0 0, w.heap.size, rfl, Enc.Spine.nil _ _ _ _ _, Nat.le_refl _, (HL.out.up HL.out.low.size HL2.out HU2.out).low⟩
end Go.Proofs.Ytidilpciolladaa

/- Lex of a long text. -/
namespace Go.Proofs.Ytidilpciolladaa
open Go.RowKit

set_option maxRecDepth 4000 in
set_option maxHeartbeats 1000000 in
theorem lex_big {w : World} {s : ByteArray} (hz : 65536 < s.size) : Calls Try.prog 21 #[.string s] w fun e w' => e = .returned (.tuple #[.slice none 0 0, .int .i64 0, .int .i64 5]) ∧ Below w.heap.size w w' := by
  have hz' : (65536 : Int) < s.size := by omega
  go_enter Try.func21, Try.ntmps21
  go_wp2
  go_ret3
  exact ⟨rfl, (by repeat (first | (with_reducible exact Below.refl _ _) | (with_reducible exact bl_mm) | (with_reducible refine bl_dr ?_) | (with_reducible refine bl_drN ?_ _) | (with_reducible refine bl_al ?_ _) | (with_reducible refine bl_more ?_ _ _)))⟩
end Go.Proofs.Ytidilpciolladaa

/- Words. -/
namespace Go.Proofs.Ytidilpciolladaa
open Go.RowKit

abbrev wd0 : ByteArray := { data := #[115, 97, 103, 97] }
abbrev wd1 : ByteArray := { data := #[115, 116, 101, 112] }
abbrev wd2 : ByteArray := { data := #[115, 117, 98] }
abbrev wd3 : ByteArray := { data := #[117, 110, 100, 111] }
abbrev wd4 : ByteArray := { data := #[97, 102, 116, 101, 114] }
abbrev wd5 : ByteArray := { data := #[118, 105, 116, 97, 108] }
abbrev wd6 : ByteArray := { data := #[108, 111, 111, 115, 101] }
abbrev wd7 : ByteArray := { data := #[111, 114] }
def wordB (s : ByteArray) : Bool := decide (s = wd0) || decide (s = wd1) || decide (s = wd2) || decide (s = wd3) || decide (s = wd4) || decide (s = wd5) || decide (s = wd6) || decide (s = wd7)
set_option maxHeartbeats 1000000 in
theorem word_any {w : World} {s : ByteArray} : Calls Try.prog 57 #[.string s] w fun e w' => e = .returned (.bool (wordB s)) ∧ w = w' := by
  by_cases b0 : s = wd0
  · subst b0
    go_enter Try.func57, Try.ntmps57
    go_wp2
    go_ret
    exact ⟨rfl, rfl⟩
  by_cases b1 : s = wd1
  · subst b1
    go_enter Try.func57, Try.ntmps57
    go_wp2
    go_ret
    exact ⟨rfl, rfl⟩
  by_cases b2 : s = wd2
  · subst b2
    go_enter Try.func57, Try.ntmps57
    go_wp2
    go_ret
    exact ⟨rfl, rfl⟩
  by_cases b3 : s = wd3
  · subst b3
    go_enter Try.func57, Try.ntmps57
    go_wp2
    go_ret
    exact ⟨rfl, rfl⟩
  by_cases b4 : s = wd4
  · subst b4
    go_enter Try.func57, Try.ntmps57
    go_wp2
    go_ret
    exact ⟨rfl, rfl⟩
  by_cases b5 : s = wd5
  · subst b5
    go_enter Try.func57, Try.ntmps57
    go_wp2
    go_ret
    exact ⟨rfl, rfl⟩
  by_cases b6 : s = wd6
  · subst b6
    go_enter Try.func57, Try.ntmps57
    go_wp2
    go_ret
    exact ⟨rfl, rfl⟩
  by_cases b7 : s = wd7
  · subst b7
    go_enter Try.func57, Try.ntmps57
    go_wp2
    go_ret
    exact ⟨rfl, rfl⟩
  have e : wordB s = false := by unfold wordB; simp only [b0, b1, b2, b3, b4, b5, b6, b7]; rfl
  have c0 : (s.toList == [115, 97, 103, 97]) = false := by rw [beq_eq_false_iff_ne]; exact fun h => b0 (ByteArray.ext (Array.ext' (by rw [← ByteArray.toList_eq]; exact h)))
  have c1 : (s.toList == [115, 116, 101, 112]) = false := by rw [beq_eq_false_iff_ne]; exact fun h => b1 (ByteArray.ext (Array.ext' (by rw [← ByteArray.toList_eq]; exact h)))
  have c2 : (s.toList == [115, 117, 98]) = false := by rw [beq_eq_false_iff_ne]; exact fun h => b2 (ByteArray.ext (Array.ext' (by rw [← ByteArray.toList_eq]; exact h)))
  have c3 : (s.toList == [117, 110, 100, 111]) = false := by rw [beq_eq_false_iff_ne]; exact fun h => b3 (ByteArray.ext (Array.ext' (by rw [← ByteArray.toList_eq]; exact h)))
  have c4 : (s.toList == [97, 102, 116, 101, 114]) = false := by rw [beq_eq_false_iff_ne]; exact fun h => b4 (ByteArray.ext (Array.ext' (by rw [← ByteArray.toList_eq]; exact h)))
  have c5 : (s.toList == [118, 105, 116, 97, 108]) = false := by rw [beq_eq_false_iff_ne]; exact fun h => b5 (ByteArray.ext (Array.ext' (by rw [← ByteArray.toList_eq]; exact h)))
  have c6 : (s.toList == [108, 111, 111, 115, 101]) = false := by rw [beq_eq_false_iff_ne]; exact fun h => b6 (ByteArray.ext (Array.ext' (by rw [← ByteArray.toList_eq]; exact h)))
  have c7 : (s.toList == [111, 114]) = false := by rw [beq_eq_false_iff_ne]; exact fun h => b7 (ByteArray.ext (Array.ext' (by rw [← ByteArray.toList_eq]; exact h)))
  clear b0 b1 b2 b3 b4 b5 b6 b7
  rw [e]
  clear e
  go_enter Try.func57, Try.ntmps57
  go_wp2
  go_ret
  exact ⟨rfl, rfl⟩
end Go.Proofs.Ytidilpciolladaa
