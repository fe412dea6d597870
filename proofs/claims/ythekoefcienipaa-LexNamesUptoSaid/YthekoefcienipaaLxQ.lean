/- The document's text of a code point. -/
import Derived.Test.YthekoefcienipaaLxP
import Derived.Laws.BytesArg
namespace Go.Proofs.Ythekoefcienipaa
open Go.RowKit

def b8 (n : Nat) : UInt8 := UInt8.ofNat n
/-- The last j bytes of a number's text. -/
def tl (r : Nat) : Nat → List UInt8
  | 0 => []
  | j + 1 => b8 (128 + (r / 64 ^ j) % 64) :: tl r j
theorem conv1 (W : World) (x : Int) : (convert 40 9 (.slice (some ⟨W.heap.size, 0, none⟩) 1 1)).run Try.prog (W.alloc (.cells #[.int .u8 x] 5)) = .ok (.string ⟨#[b8 x.toNat]⟩) (W.alloc (.cells #[.int .u8 x] 5)) := by
  have h := run_convert_bytes_arg (P := Try.prog) (W.alloc (.cells #[.int .u8 x] 5)) 40 5 Try.underlying40 Try.underlying5 W.heap.size 0 1 1 [x] rfl (fun i hi => by
    have : i = 0 := by omega
    subst this
    have := heap_alloc_new W (.cells #[.int .u8 x] 5)
    rw [World.cell?, this]
    rfl) 9 Try.underlying9
  exact h
abbrev hdO : Obj := Obj.cells #[Value.int IntKind.u8 0, Value.int IntKind.u8 0, Value.int IntKind.u8 192, Value.int IntKind.u8 224, Value.int IntKind.u8 240] 5
theorem conv2 (w : World) (ex : Array Obj) (dx : Nat) (x : Int) : (convert 40 9 (.slice (some ⟨w.heap.size + 1 + ex.size, 0, none⟩) 1 1)).run Try.prog ((more (w.alloc hdO) ex dx).alloc (.cells #[.int .u8 x] 5)) = .ok (.string ⟨#[b8 x.toNat]⟩) ((more (w.alloc hdO) ex dx).alloc (.cells #[.int .u8 x] 5)) := by
  have h := conv1 (more (w.alloc hdO) ex dx) x
  rw [more_size, World.size_alloc] at h
  exact h
theorem tl_len (r j : Nat) : (tl r j).length = j := by
  induction j with
  | zero => rfl
  | succ j ih => simp [tl, ih]
theorem cat1 (c : UInt8) (l : List UInt8) : (⟨#[c]⟩ : ByteArray) ++ (⟨l.toArray⟩ : ByteArray) = ⟨(c :: l).toArray⟩ := by
  apply ByteArray.ext
  simp
theorem b8_mod (n : Nat) : b8 (n % 256) = b8 n := by
  apply UInt8.toNat_inj.1
  simp [b8]
theorem add1 (c : UInt8) (l : List UInt8) (h : l.length ≤ 1000) (W : World) : (Op.stringOp .add ⟨#[c]⟩ ⟨l.toArray⟩).run Try.prog W = .ok (.string ⟨(c :: l).toArray⟩) W := by
  have h := run_string_add_sum (P := Try.prog) (w := W) ⟨#[c]⟩ ⟨l.toArray⟩ (by simp [ByteArray.size]; omega)
  rw [cat1] at h
  exact h
theorem wid_le {r : Nat} (h : wid (r : Int) ≠ 0) : r ≤ 1114111 := by
  unfold wid at h
  split at h
  · rename_i h1
    simp [isB] at h1
    omega
  · exact absurd rfl h
set_option maxHeartbeats 1000000 in
theorem one_1 {w : World} {r : Nat} (hr : r < 128) : Calls Try.prog 57 #[.int .i64 r] w fun e w' => e = .returned (.string ⟨#[b8 r]⟩) ∧ Below w.heap.size w w' := by
  have i1 : wid (r : Int) = 1 := by unfold wid isB; simp; omega
  have i2 : (r : Int) % 256 = (r : Int) := by omega
  have HI := hid i1
  clear i1 hr
  have hcv := conv1
  go_enter Try.func57, Try.ntmps57
  go_wp2_with (first | (go_at_call 44; refine wid_any.mono ?_; rintro e w1 ⟨rfl, rfl⟩; rw [HI.out]))
  go_ret
  exact ⟨rfl, (by repeat (first | (with_reducible exact Below.refl _ _) | (with_reducible exact bl_mm) | (with_reducible refine bl_dr ?_) | (with_reducible refine bl_drN ?_ _) | (with_reducible refine bl_al ?_ _) | (with_reducible refine bl_more ?_ _ _)))⟩
set_option maxHeartbeats 1000000 in
theorem one_2 {w : World} {r : Nat} (hn : wid (r : Int) = 2) : Calls Try.prog 57 #[.int .i64 r] w fun e w' => e = .returned (.string ⟨(b8 (192 + r / 64 ^ 1) :: tl r 1).toArray⟩) ∧ Below w.heap.size w w' := by
  have HI := hid hn
  have HR := hid (wid_le (by rw [hn]; decide))
  clear hn
  have hcv := conv2 w
  go_enter Try.func57, Try.ntmps57
  go_wp2_with (first | (go_at_call 44; refine wid_any.mono ?_; rintro e w1 ⟨rfl, rfl⟩; rw [HI.out]))
  go_loopg [0, 5, 6] 1 (fun k vr vs vi wr => ∃ j : Nat, j + 1 + k = 2 ∧ vr = .int .i64 (r / 64 ^ j : Nat) ∧ vs = .string ⟨(tl r j).toArray⟩ ∧ vi = .int .i64 ((j + 1 : Nat) : Int) ∧ ∃ ex dx, wr = more (w.alloc hdO) ex dx)
  case atStart => exact ⟨0, by omega, by simp, rfl, rfl, more_of (Below.refl _ _)⟩
  case round =>
    obtain ⟨j, hk, rfl, rfl, rfl, ex, dx, rfl⟩ := hrel
    have HE := hid (show r / 64 ^ (j + 1) = r / 64 ^ j / 64 by rw [Nat.pow_succ, Nat.div_div_eq_div_mul])
    by_cases hj : j + 1 < 2
    · have HK := hid hk
      clear hk
      have hq0 : r / 64 ^ j ≤ 1114111 := by
        have h1 := HR.out
        have h2 := Nat.div_le_self r (64 ^ j)
        omega
      obtain ⟨q, hqe⟩ : ∃ q, r / 64 ^ j = q := ⟨_, rfl⟩
      rw [hqe] at hq0 ⊢
      have HQ := hid hqe
      rw [hqe] at HE
      clear hqe
      have hw : wrap64 ((q / 64 : Nat) : Int) = ((q / 64 : Nat) : Int) := by rw [wrap64]; omega
      have hc0 : q % 64 < 64 := Nat.mod_lt _ (by decide)
      have hq : ((q : Nat) : Int).tmod 64 = ((q % 64 : Nat) : Int) := rfl
      have hd : ((q : Nat) : Int).tdiv 64 = ((q / 64 : Nat) : Int) := rfl
      generalize q / 64 = q' at hd HE hw
      have hc1 : wrap64 (128 + ((q % 64 : Nat) : Int)) = ((128 + q % 64 : Nat) : Int) := by rw [wrap64]; omega
      have hc2 : ((128 + q % 64 : Nat) : Int) % 256 = ((128 + q % 64 : Nat) : Int) := by omega
      obtain ⟨c2, hce⟩ : ∃ c, 128 + q % 64 = c := ⟨_, rfl⟩
      rw [hce] at hc1 hc2
      have HC := hid hce
      generalize q % 64 = c at hq hc0 hc1 hce
      clear hce
      have hadd := add1 (b8 c2) (tl r j) (by rw [tl_len]; omega)
      have HJ := hid hj
      have hj0 : (j : Int) + 1 < 2 := by omega
      have hj1 : (0 : Int) ≤ j := by omega
      have HW := hid hw
      clear hc0 hj hq0 hw
      go_wp2_with (first | (go_at_call 44; refine wid_any.mono ?_; rintro e w1 ⟨rfl, rfl⟩; rw [HI.out]))
      go_roundg (1 - (j + 1))
      case measure => have := HK.out; omega
      case rel => exact ⟨j + 1, by have := HK.out; omega, by rw [HW.out, HE.out], by rw [tl, HQ.out, HC.out], rfl, more_of (by repeat (first | (with_reducible exact Below.refl _ _) | (with_reducible exact bl_mm) | (with_reducible refine bl_dr ?_) | (with_reducible refine bl_drN ?_ _) | (with_reducible refine bl_al ?_ _) | (with_reducible refine bl_more ?_ _ _)))⟩
    · have hj' : j = 1 := by omega
      subst hj'
      clear hk hj
      go_wp2_with (first | (go_at_call 44; refine wid_any.mono ?_; rintro e w1 ⟨rfl, rfl⟩; rw [HI.out]))
      go_ret
      refine ⟨?_, (by repeat (first | (with_reducible exact Below.refl _ _) | (with_reducible exact bl_mm) | (with_reducible refine bl_dr ?_) | (with_reducible refine bl_drN ?_ _) | (with_reducible refine bl_al ?_ _) | (with_reducible refine bl_more ?_ _ _)))⟩
      have e := cat1 (b8 (192 + r / 64 ^ 1)) (tl r 1)
      rw [show 64 ^ 1 = 64 from rfl] at e ⊢
      simp only [Array.getD]
      rw [← e, ← b8_mod (192 + r / 64)]
      rfl

set_option maxHeartbeats 1000000 in
theorem one_3 {w : World} {r : Nat} (hn : wid (r : Int) = 3) : Calls Try.prog 57 #[.int .i64 r] w fun e w' => e = .returned (.string ⟨(b8 (224 + r / 64 ^ 2) :: tl r 2).toArray⟩) ∧ Below w.heap.size w w' := by
  have HI := hid hn
  have HR := hid (wid_le (by rw [hn]; decide))
  clear hn
  have hcv := conv2 w
  go_enter Try.func57, Try.ntmps57
  go_wp2_with (first | (go_at_call 44; refine wid_any.mono ?_; rintro e w1 ⟨rfl, rfl⟩; rw [HI.out]))
  go_loopg [0, 5, 6] 2 (fun k vr vs vi wr => ∃ j : Nat, j + 1 + k = 3 ∧ vr = .int .i64 (r / 64 ^ j : Nat) ∧ vs = .string ⟨(tl r j).toArray⟩ ∧ vi = .int .i64 ((j + 1 : Nat) : Int) ∧ ∃ ex dx, wr = more (w.alloc hdO) ex dx)
  case atStart => exact ⟨0, by omega, by simp, rfl, rfl, more_of (Below.refl _ _)⟩
  case round =>
    obtain ⟨j, hk, rfl, rfl, rfl, ex, dx, rfl⟩ := hrel
    have HE := hid (show r / 64 ^ (j + 1) = r / 64 ^ j / 64 by rw [Nat.pow_succ, Nat.div_div_eq_div_mul])
    by_cases hj : j + 1 < 3
    · have HK := hid hk
      clear hk
      have hq0 : r / 64 ^ j ≤ 1114111 := by
        have h1 := HR.out
        have h2 := Nat.div_le_self r (64 ^ j)
        omega
      obtain ⟨q, hqe⟩ : ∃ q, r / 64 ^ j = q := ⟨_, rfl⟩
      rw [hqe] at hq0 ⊢
      have HQ := hid hqe
      rw [hqe] at HE
      clear hqe
      have hw : wrap64 ((q / 64 : Nat) : Int) = ((q / 64 : Nat) : Int) := by rw [wrap64]; omega
      have hc0 : q % 64 < 64 := Nat.mod_lt _ (by decide)
      have hq : ((q : Nat) : Int).tmod 64 = ((q % 64 : Nat) : Int) := rfl
      have hd : ((q : Nat) : Int).tdiv 64 = ((q / 64 : Nat) : Int) := rfl
      generalize q / 64 = q' at hd HE hw
      have hc1 : wrap64 (128 + ((q % 64 : Nat) : Int)) = ((128 + q % 64 : Nat) : Int) := by rw [wrap64]; omega
      have hc2 : ((128 + q % 64 : Nat) : Int) % 256 = ((128 + q % 64 : Nat) : Int) := by omega
      obtain ⟨c2, hce⟩ : ∃ c, 128 + q % 64 = c := ⟨_, rfl⟩
      rw [hce] at hc1 hc2
      have HC := hid hce
      generalize q % 64 = c at hq hc0 hc1 hce
      clear hce
      have hadd := add1 (b8 c2) (tl r j) (by rw [tl_len]; omega)
      have HJ := hid hj
      have hj0 : (j : Int) + 1 < 3 := by omega
      have hj1 : (0 : Int) ≤ j := by omega
      have HW := hid hw
      clear hc0 hj hq0 hw
      go_wp2_with (first | (go_at_call 44; refine wid_any.mono ?_; rintro e w1 ⟨rfl, rfl⟩; rw [HI.out]))
      go_roundg (2 - (j + 1))
      case measure => have := HK.out; omega
      case rel => exact ⟨j + 1, by have := HK.out; omega, by rw [HW.out, HE.out], by rw [tl, HQ.out, HC.out], rfl, more_of (by repeat (first | (with_reducible exact Below.refl _ _) | (with_reducible exact bl_mm) | (with_reducible refine bl_dr ?_) | (with_reducible refine bl_drN ?_ _) | (with_reducible refine bl_al ?_ _) | (with_reducible refine bl_more ?_ _ _)))⟩
    · have hj' : j = 2 := by omega
      subst hj'
      clear hk hj
      go_wp2_with (first | (go_at_call 44; refine wid_any.mono ?_; rintro e w1 ⟨rfl, rfl⟩; rw [HI.out]))
      go_ret
      refine ⟨?_, (by repeat (first | (with_reducible exact Below.refl _ _) | (with_reducible exact bl_mm) | (with_reducible refine bl_dr ?_) | (with_reducible refine bl_drN ?_ _) | (with_reducible refine bl_al ?_ _) | (with_reducible refine bl_more ?_ _ _)))⟩
      have e := cat1 (b8 (224 + r / 64 ^ 2)) (tl r 2)
      rw [show 64 ^ 2 = 4096 from rfl] at e ⊢
      simp only [Array.getD]
      rw [← e, ← b8_mod (224 + r / 4096)]
      rfl

set_option maxHeartbeats 1000000 in
theorem one_4 {w : World} {r : Nat} (hn : wid (r : Int) = 4) : Calls Try.prog 57 #[.int .i64 r] w fun e w' => e = .returned (.string ⟨(b8 (240 + r / 64 ^ 3) :: tl r 3).toArray⟩) ∧ Below w.heap.size w w' := by
  have HI := hid hn
  have HR := hid (wid_le (by rw [hn]; decide))
  clear hn
  have hcv := conv2 w
  go_enter Try.func57, Try.ntmps57
  go_wp2_with (first | (go_at_call 44; refine wid_any.mono ?_; rintro e w1 ⟨rfl, rfl⟩; rw [HI.out]))
  go_loopg [0, 5, 6] 3 (fun k vr vs vi wr => ∃ j : Nat, j + 1 + k = 4 ∧ vr = .int .i64 (r / 64 ^ j : Nat) ∧ vs = .string ⟨(tl r j).toArray⟩ ∧ vi = .int .i64 ((j + 1 : Nat) : Int) ∧ ∃ ex dx, wr = more (w.alloc hdO) ex dx)
  case atStart => exact ⟨0, by omega, by simp, rfl, rfl, more_of (Below.refl _ _)⟩
  case round =>
    obtain ⟨j, hk, rfl, rfl, rfl, ex, dx, rfl⟩ := hrel
    have HE := hid (show r / 64 ^ (j + 1) = r / 64 ^ j / 64 by rw [Nat.pow_succ, Nat.div_div_eq_div_mul])
    by_cases hj : j + 1 < 4
    · have HK := hid hk
      clear hk
      have hq0 : r / 64 ^ j ≤ 1114111 := by
        have h1 := HR.out
        have h2 := Nat.div_le_self r (64 ^ j)
        omega
      obtain ⟨q, hqe⟩ : ∃ q, r / 64 ^ j = q := ⟨_, rfl⟩
      rw [hqe] at hq0 ⊢
      have HQ := hid hqe
      rw [hqe] at HE
      clear hqe
      have hw : wrap64 ((q / 64 : Nat) : Int) = ((q / 64 : Nat) : Int) := by rw [wrap64]; omega
      have hc0 : q % 64 < 64 := Nat.mod_lt _ (by decide)
      have hq : ((q : Nat) : Int).tmod 64 = ((q % 64 : Nat) : Int) := rfl
      have hd : ((q : Nat) : Int).tdiv 64 = ((q / 64 : Nat) : Int) := rfl
      generalize q / 64 = q' at hd HE hw
      have hc1 : wrap64 (128 + ((q % 64 : Nat) : Int)) = ((128 + q % 64 : Nat) : Int) := by rw [wrap64]; omega
      have hc2 : ((128 + q % 64 : Nat) : Int) % 256 = ((128 + q % 64 : Nat) : Int) := by omega
      obtain ⟨c2, hce⟩ : ∃ c, 128 + q % 64 = c := ⟨_, rfl⟩
      rw [hce] at hc1 hc2
      have HC := hid hce
      generalize q % 64 = c at hq hc0 hc1 hce
      clear hce
      have hadd := add1 (b8 c2) (tl r j) (by rw [tl_len]; omega)
      have HJ := hid hj
      have hj0 : (j : Int) + 1 < 4 := by omega
      have hj1 : (0 : Int) ≤ j := by omega
      have HW := hid hw
      clear hc0 hj hq0 hw
      go_wp2_with (first | (go_at_call 44; refine wid_any.mono ?_; rintro e w1 ⟨rfl, rfl⟩; rw [HI.out]))
      go_roundg (3 - (j + 1))
      case measure => have := HK.out; omega
      case rel => exact ⟨j + 1, by have := HK.out; omega, by rw [HW.out, HE.out], by rw [tl, HQ.out, HC.out], rfl, more_of (by repeat (first | (with_reducible exact Below.refl _ _) | (with_reducible exact bl_mm) | (with_reducible refine bl_dr ?_) | (with_reducible refine bl_drN ?_ _) | (with_reducible refine bl_al ?_ _) | (with_reducible refine bl_more ?_ _ _)))⟩
    · have hj' : j = 3 := by omega
      subst hj'
      clear hk hj
      go_wp2_with (first | (go_at_call 44; refine wid_any.mono ?_; rintro e w1 ⟨rfl, rfl⟩; rw [HI.out]))
      go_ret
      refine ⟨?_, (by repeat (first | (with_reducible exact Below.refl _ _) | (with_reducible exact bl_mm) | (with_reducible refine bl_dr ?_) | (with_reducible refine bl_drN ?_ _) | (with_reducible refine bl_al ?_ _) | (with_reducible refine bl_more ?_ _ _)))⟩
      have e := cat1 (b8 (240 + r / 64 ^ 3)) (tl r 3)
      rw [show 64 ^ 3 = 262144 from rfl] at e ⊢
      simp only [Array.getD]
      rw [← e, ← b8_mod (240 + r / 262144)]
      rfl

end Go.Proofs.Ythekoefcienipaa
