/- The document's width and text of a number. -/
import Derived.Test.YtidilpciolladaaGb
import Derived.IntWalk
import Derived.Laws.BytesArg
import Derived.Test.YtidilpciolladaaGa
/- The document's width and text of a number. -/
namespace Go.Proofs.Ytidilpciolladaa
open Go.RowKit

def isB (r : Int) : Bool := decide (0 ≤ r) && decide (r ≤ 1114111) && (decide (r < 55296) || decide (57343 < r))
def wid (r : Int) : Int := if isB r = true then (if r < 128 then 1 else if r < 2048 then 2 else if r < 65536 then 3 else 4) else 0
set_option maxHeartbeats 1000000 in
theorem isB_any {w : World} {r : Int} : Calls Try.prog 74 #[.int .i64 r] w fun e w' => e = .returned (.bool (isB r)) ∧ w = w' := by
  unfold isB
  cases i1 : decide (0 ≤ r) with
  | false =>
    go_enter Try.func74, Try.ntmps74
    go_wp2
    go_ret
    exact ⟨rfl, rfl⟩
  | true =>
    cases i2 : decide (r ≤ 1114111) with
    | false =>
      go_enter Try.func74, Try.ntmps74
      go_wp2
      go_ret
      exact ⟨rfl, rfl⟩
    | true =>
      cases i3 : decide (r < 55296) with
      | true =>
        go_enter Try.func74, Try.ntmps74
        go_wp2
        go_ret
        exact ⟨rfl, rfl⟩
      | false =>
        cases i4 : decide (57343 < r) with
        | true =>
          go_enter Try.func74, Try.ntmps74
          go_wp2
          go_ret
          exact ⟨rfl, rfl⟩
        | false =>
          go_enter Try.func74, Try.ntmps74
          go_wp2
          go_ret
          exact ⟨rfl, rfl⟩
set_option maxHeartbeats 1000000 in
theorem wid_any {w : World} {r : Int} : Calls Try.prog 89 #[.int .i64 r] w fun e w' => e = .returned (.int .i64 (wid r)) ∧ w = w' := by
  unfold wid
  cases i1 : isB r with
  | false =>
    go_enter Try.func89, Try.ntmps89
    go_wp2_with (first | (go_at_call 74; refine isB_any.mono ?_; rintro e w1 ⟨rfl, rfl⟩))
    go_ret
    exact ⟨rfl, rfl⟩
  | true =>
    rw [if_pos rfl]
    by_cases i2 : r < 128
    · rw [if_pos i2]
      go_enter Try.func89, Try.ntmps89
      go_wp2_with (first | (go_at_call 74; refine isB_any.mono ?_; rintro e w1 ⟨rfl, rfl⟩))
      go_ret
      exact ⟨rfl, rfl⟩
    · rw [if_neg i2]
      by_cases i3 : r < 2048
      · rw [if_pos i3]
        go_enter Try.func89, Try.ntmps89
        go_wp2_with (first | (go_at_call 74; refine isB_any.mono ?_; rintro e w1 ⟨rfl, rfl⟩))
        go_ret
        exact ⟨rfl, rfl⟩
      · rw [if_neg i3]
        by_cases i4 : r < 65536
        · rw [if_pos i4]
          go_enter Try.func89, Try.ntmps89
          go_wp2_with (first | (go_at_call 74; refine isB_any.mono ?_; rintro e w1 ⟨rfl, rfl⟩))
          go_ret
          exact ⟨rfl, rfl⟩
        · rw [if_neg i4]
          go_enter Try.func89, Try.ntmps89
          go_wp2_with (first | (go_at_call 74; refine isB_any.mono ?_; rintro e w1 ⟨rfl, rfl⟩))
          go_ret
          exact ⟨rfl, rfl⟩
end Go.Proofs.Ytidilpciolladaa

/- The document's text of a code point. -/
namespace Go.Proofs.Ytidilpciolladaa
open Go.RowKit

def b8 (n : Nat) : UInt8 := UInt8.ofNat n
/-- The last j bytes of a number's text. -/
def tl (r : Nat) : Nat → List UInt8
  | 0 => []
  | j + 1 => b8 (128 + (r / 64 ^ j) % 64) :: tl r j
theorem conv1 (W : World) (x : Int) : (convert 98 9 (.slice (some ⟨W.heap.size, 0, none⟩) 1 1)).run Try.prog (W.alloc (.cells #[.int .u8 x] 5)) = .ok (.string ⟨#[b8 x.toNat]⟩) (W.alloc (.cells #[.int .u8 x] 5)) := by
  have h := run_convert_bytes_arg (P := Try.prog) (W.alloc (.cells #[.int .u8 x] 5)) 98 5 Try.underlying98 Try.underlying5 W.heap.size 0 1 1 [x] rfl (fun i hi => by
    have : i = 0 := by omega
    subst this
    have := heap_alloc_new W (.cells #[.int .u8 x] 5)
    rw [World.cell?, this]
    rfl) 9 Try.underlying9
  exact h
abbrev hdO : Obj := Obj.cells #[Value.int IntKind.u8 0, Value.int IntKind.u8 0, Value.int IntKind.u8 192, Value.int IntKind.u8 224, Value.int IntKind.u8 240] 5
theorem conv2 (w : World) (ex : Array Obj) (dx : Nat) (x : Int) : (convert 98 9 (.slice (some ⟨w.heap.size + 1 + ex.size, 0, none⟩) 1 1)).run Try.prog ((more (w.alloc hdO) ex dx).alloc (.cells #[.int .u8 x] 5)) = .ok (.string ⟨#[b8 x.toNat]⟩) ((more (w.alloc hdO) ex dx).alloc (.cells #[.int .u8 x] 5)) := by
  have h := conv1 (more (w.alloc hdO) ex dx) x
  rw [more_size, World.size_alloc] at h
  exact h
theorem tl_len (r j : Nat) : (tl r j).length = j := by
  induction j with
  | zero => rfl
  | succ j ih => simp [tl, ih]
theorem cat1 (c : UInt8) (l : List UInt8) : (⟨#[c]⟩ : ByteArray) ++ (⟨l.toArray⟩ : ByteArray) = ⟨(c :: l).toArray⟩ := by
  apply ByteArray.ext
  simp
theorem b8_mod (n : Nat) : b8 (n % 256) = b8 n := by
  apply UInt8.toNat_inj.1
  simp [b8]
theorem add1 (c : UInt8) (l : List UInt8) (h : l.length ≤ 1000) (W : World) : (Op.stringOp .add ⟨#[c]⟩ ⟨l.toArray⟩).run Try.prog W = .ok (.string ⟨(c :: l).toArray⟩) W := by
  have h := run_string_add_sum (P := Try.prog) (w := W) ⟨#[c]⟩ ⟨l.toArray⟩ (by simp [ByteArray.size]; omega)
  rw [cat1] at h
  exact h
theorem wid_le {r : Nat} (h : wid (r : Int) ≠ 0) : r ≤ 1114111 := by
  unfold wid at h
  split at h
  · rename_i h1
    simp [isB] at h1
    omega
  · exact absurd rfl h
set_option maxHeartbeats 1000000 in
theorem one_1 {w : World} {r : Nat} (hr : r < 128) : Calls Try.prog 105 #[.int .i64 r] w fun e w' => e = .returned (.string ⟨#[b8 r]⟩) ∧ Below w.heap.size w w' := by
  have i1 : wid (r : Int) = 1 := by unfold wid isB; simp; omega
  have i2 : (r : Int) % 256 = (r : Int) := by omega
  have HI := hid i1
  clear i1 hr
  have hcv := conv1
  go_enter Try.func105, Try.ntmps105
  go_wp2_with (first | (go_at_call 89; refine wid_any.mono ?_; rintro e w1 ⟨rfl, rfl⟩; rw [HI.out]))
  go_ret
  exact ⟨rfl, (by repeat (first | (with_reducible exact Below.refl _ _) | (with_reducible exact bl_mm) | (with_reducible refine bl_dr ?_) | (with_reducible refine bl_drN ?_ _) | (with_reducible refine bl_al ?_ _) | (with_reducible refine bl_more ?_ _ _)))⟩
set_option maxHeartbeats 1000000 in
theorem one_2 {w : World} {r : Nat} (hn : wid (r : Int) = 2) : Calls Try.prog 105 #[.int .i64 r] w fun e w' => e = .returned (.string ⟨(b8 (192 + r / 64 ^ 1) :: tl r 1).toArray⟩) ∧ Below w.heap.size w w' := by
  have HI := hid hn
  have HR := hid (wid_le (by rw [hn]; decide))
  clear hn
  have hcv := conv2 w
  go_enter Try.func105, Try.ntmps105
  go_wp2_with (first | (go_at_call 89; refine wid_any.mono ?_; rintro e w1 ⟨rfl, rfl⟩; rw [HI.out]))
  go_loopg [0, 5, 6] 1 (fun k vr vs vi wr => ∃ j : Nat, j + 1 + k = 2 ∧ vr = .int .i64 (r / 64 ^ j : Nat) ∧ vs = .string ⟨(tl r j).toArray⟩ ∧ vi = .int .i64 ((j + 1 : Nat) : Int) ∧ ∃ ex dx, wr = more (w.alloc hdO) ex dx)
  case atStart => exact ⟨0, by omega, by simp, rfl, rfl, more_of (Below.refl _ _)⟩
  case round =>
    obtain ⟨j, hk, rfl, rfl, rfl, ex, dx, rfl⟩ := hrel
    have HE := hid (show r / 64 ^ (j + 1) = r / 64 ^ j / 64 by rw [Nat.pow_succ, Nat.div_div_eq_div_mul])
    by_cases hj : j + 1 < 2
    · have HK := hid hk
      clear hk
      have hq0 : r / 64 ^ j ≤ 1114111 := by
        have h1 := HR.out
        have h2 := Nat.div_le_self r (64 ^ j)
        omega
      obtain ⟨q, hqe⟩ : ∃ q, r / 64 ^ j = q := ⟨_, rfl⟩
      rw [hqe] at hq0 ⊢
      have HQ := hid hqe
      rw [hqe] at HE
      clear hqe
      have hw : wrap64 ((q / 64 : Nat) : Int) = ((q / 64 : Nat) : Int) := by rw [wrap64]; omega
      have hc0 : q % 64 < 64 := Nat.mod_lt _ (by decide)
      have hq : ((q : Nat) : Int).tmod 64 = ((q % 64 : Nat) : Int) := rfl
      have hd : ((q : Nat) : Int).tdiv 64 = ((q / 64 : Nat) : Int) := rfl
      generalize q / 64 = q' at hd HE hw
      have hc1 : wrap64 (128 + ((q % 64 : Nat) : Int)) = ((128 + q % 64 : Nat) : Int) := by rw [wrap64]; omega
      have hc2 : ((128 + q % 64 : Nat) : Int) % 256 = ((128 + q % 64 : Nat) : Int) := by omega
      obtain ⟨c2, hce⟩ : ∃ c, 128 + q % 64 = c := ⟨_, rfl⟩
      rw [hce] at hc1 hc2
      have HC := hid hce
      generalize q % 64 = c at hq hc0 hc1 hce
      clear hce
      have hadd := add1 (b8 c2) (tl r j) (by rw [tl_len]; omega)
      have HJ := hid hj
      have hj0 : (j : Int) + 1 < 2 := by omega
      have hj1 : (0 : Int) ≤ j := by omega
      have HW := hid hw
      clear hc0 hj hq0 hw
      go_wp2_with (first | (go_at_call 89; refine wid_any.mono ?_; rintro e w1 ⟨rfl, rfl⟩; rw [HI.out]))
      go_roundg (1 - (j + 1))
      case measure => have := HK.out; omega
      case rel => exact ⟨j + 1, by have := HK.out; omega, by rw [HW.out, HE.out], by rw [tl, HQ.out, HC.out], rfl, more_of (by repeat (first | (with_reducible exact Below.refl _ _) | (with_reducible exact bl_mm) | (with_reducible refine bl_dr ?_) | (with_reducible refine bl_drN ?_ _) | (with_reducible refine bl_al ?_ _) | (with_reducible refine bl_more ?_ _ _)))⟩
    · have hj' : j = 1 := by omega
      subst hj'
      clear hk hj
      go_wp2_with (first | (go_at_call 89; refine wid_any.mono ?_; rintro e w1 ⟨rfl, rfl⟩; rw [HI.out]))
      go_ret
      refine ⟨?_, (by repeat (first | (with_reducible exact Below.refl _ _) | (with_reducible exact bl_mm) | (with_reducible refine bl_dr ?_) | (with_reducible refine bl_drN ?_ _) | (with_reducible refine bl_al ?_ _) | (with_reducible refine bl_more ?_ _ _)))⟩
      have e := cat1 (b8 (192 + r / 64 ^ 1)) (tl r 1)
      rw [show 64 ^ 1 = 64 from rfl] at e ⊢
      simp only [Array.getD]
      rw [← e, ← b8_mod (192 + r / 64)]
      rfl

set_option maxHeartbeats 1000000 in
theorem one_3 {w : World} {r : Nat} (hn : wid (r : Int) = 3) : Calls Try.prog 105 #[.int .i64 r] w fun e w' => e = .returned (.string ⟨(b8 (224 + r / 64 ^ 2) :: tl r 2).toArray⟩) ∧ Below w.heap.size w w' := by
  have HI := hid hn
  have HR := hid (wid_le (by rw [hn]; decide))
  clear hn
  have hcv := conv2 w
  go_enter Try.func105, Try.ntmps105
  go_wp2_with (first | (go_at_call 89; refine wid_any.mono ?_; rintro e w1 ⟨rfl, rfl⟩; rw [HI.out]))
  go_loopg [0, 5, 6] 2 (fun k vr vs vi wr => ∃ j : Nat, j + 1 + k = 3 ∧ vr = .int .i64 (r / 64 ^ j : Nat) ∧ vs = .string ⟨(tl r j).toArray⟩ ∧ vi = .int .i64 ((j + 1 : Nat) : Int) ∧ ∃ ex dx, wr = more (w.alloc hdO) ex dx)
  case atStart => exact ⟨0, by omega, by simp, rfl, rfl, more_of (Below.refl _ _)⟩
  case round =>
    obtain ⟨j, hk, rfl, rfl, rfl, ex, dx, rfl⟩ := hrel
    have HE := hid (show r / 64 ^ (j + 1) = r / 64 ^ j / 64 by rw [Nat.pow_succ, Nat.div_div_eq_div_mul])
    by_cases hj : j + 1 < 3
    · have HK := hid hk
      clear hk
      have hq0 : r / 64 ^ j ≤ 1114111 := by
        have h1 := HR.out
        have h2 := Nat.div_le_self r (64 ^ j)
        omega
      obtain ⟨q, hqe⟩ : ∃ q, r / 64 ^ j = q := ⟨_, rfl⟩
      rw [hqe] at hq0 ⊢
      have HQ := hid hqe
      rw [hqe] at HE
      clear hqe
      have hw : wrap64 ((q / 64 : Nat) : Int) = ((q / 64 : Nat) : Int) := by rw [wrap64]; omega
      have hc0 : q % 64 < 64 := Nat.mod_lt _ (by decide)
      have hq : ((q : Nat) : Int).tmod 64 = ((q % 64 : Nat) : Int) := rfl
      have hd : ((q : Nat) : Int).tdiv 64 = ((q / 64 : Nat) : Int) := rfl
      generalize q / 64 = q' at hd HE hw
      have hc1 : wrap64 (128 + ((q % 64 : Nat) : Int)) = ((128 + q % 64 : Nat) : Int) := by rw [wrap64]; omega
      have hc2 : ((128 + q % 64 : Nat) : Int) % 256 = ((128 + q % 64 : Nat) : Int) := by omega
      obtain ⟨c2, hce⟩ : ∃ c, 128 + q % 64 = c := ⟨_, rfl⟩
      rw [hce] at hc1 hc2
      have HC := hid hce
      generalize q % 64 = c at hq hc0 hc1 hce
      clear hce
      have hadd := add1 (b8 c2) (tl r j) (by rw [tl_len]; omega)
      have HJ := hid hj
      have hj0 : (j : Int) + 1 < 3 := by omega
      have hj1 : (0 : Int) ≤ j := by omega
      have HW := hid hw
      clear hc0 hj hq0 hw
      go_wp2_with (first | (go_at_call 89; refine wid_any.mono ?_; rintro e w1 ⟨rfl, rfl⟩; rw [HI.out]))
      go_roundg (2 - (j + 1))
      case measure => have := HK.out; omega
      case rel => exact ⟨j + 1, by have := HK.out; omega, by rw [HW.out, HE.out], by rw [tl, HQ.out, HC.out], rfl, more_of (by repeat (first | (with_reducible exact Below.refl _ _) | (with_reducible exact bl_mm) | (with_reducible refine bl_dr ?_) | (with_reducible refine bl_drN ?_ _) | (with_reducible refine bl_al ?_ _) | (with_reducible refine bl_more ?_ _ _)))⟩
    · have hj' : j = 2 := by omega
      subst hj'
      clear hk hj
      go_wp2_with (first | (go_at_call 89; refine wid_any.mono ?_; rintro e w1 ⟨rfl, rfl⟩; rw [HI.out]))
      go_ret
      refine ⟨?_, (by repeat (first | (with_reducible exact Below.refl _ _) | (with_reducible exact bl_mm) | (with_reducible refine bl_dr ?_) | (with_reducible refine bl_drN ?_ _) | (with_reducible refine bl_al ?_ _) | (with_reducible refine bl_more ?_ _ _)))⟩
      have e := cat1 (b8 (224 + r / 64 ^ 2)) (tl r 2)
      rw [show 64 ^ 2 = 4096 from rfl] at e ⊢
      simp only [Array.getD]
      rw [← e, ← b8_mod (224 + r / 4096)]
      rfl

set_option maxHeartbeats 1000000 in
theorem one_4 {w : World} {r : Nat} (hn : wid (r : Int) = 4) : Calls Try.prog 105 #[.int .i64 r] w fun e w' => e = .returned (.string ⟨(b8 (240 + r / 64 ^ 3) :: tl r 3).toArray⟩) ∧ Below w.heap.size w w' := by
  have HI := hid hn
  have HR := hid (wid_le (by rw [hn]; decide))
  clear hn
  have hcv := conv2 w
  go_enter Try.func105, Try.ntmps105
  go_wp2_with (first | (go_at_call 89; refine wid_any.mono ?_; rintro e w1 ⟨rfl, rfl⟩; rw [HI.out]))
  go_loopg [0, 5, 6] 3 (fun k vr vs vi wr => ∃ j : Nat, j + 1 + k = 4 ∧ vr = .int .i64 (r / 64 ^ j : Nat) ∧ vs = .string ⟨(tl r j).toArray⟩ ∧ vi = .int .i64 ((j + 1 : Nat) : Int) ∧ ∃ ex dx, wr = more (w.alloc hdO) ex dx)
  case atStart => exact ⟨0, by omega, by simp, rfl, rfl, more_of (Below.refl _ _)⟩
  case round =>
    obtain ⟨j, hk, rfl, rfl, rfl, ex, dx, rfl⟩ := hrel
    have HE := hid (show r / 64 ^ (j + 1) = r / 64 ^ j / 64 by rw [Nat.pow_succ, Nat.div_div_eq_div_mul])
    by_cases hj : j + 1 < 4
    · have HK := hid hk
      clear hk
      have hq0 : r / 64 ^ j ≤ 1114111 := by
        have h1 := HR.out
        have h2 := Nat.div_le_self r (64 ^ j)
        omega
      obtain ⟨q, hqe⟩ : ∃ q, r / 64 ^ j = q := ⟨_, rfl⟩
      rw [hqe] at hq0 ⊢
      have HQ := hid hqe
      rw [hqe] at HE
      clear hqe
      have hw : wrap64 ((q / 64 : Nat) : Int) = ((q / 64 : Nat) : Int) := by rw [wrap64]; omega
      have hc0 : q % 64 < 64 := Nat.mod_lt _ (by decide)
      have hq : ((q : Nat) : Int).tmod 64 = ((q % 64 : Nat) : Int) := rfl
      have hd : ((q : Nat) : Int).tdiv 64 = ((q / 64 : Nat) : Int) := rfl
      generalize q / 64 = q' at hd HE hw
      have hc1 : wrap64 (128 + ((q % 64 : Nat) : Int)) = ((128 + q % 64 : Nat) : Int) := by rw [wrap64]; omega
      have hc2 : ((128 + q % 64 : Nat) : Int) % 256 = ((128 + q % 64 : Nat) : Int) := by omega
      obtain ⟨c2, hce⟩ : ∃ c, 128 + q % 64 = c := ⟨_, rfl⟩
      rw [hce] at hc1 hc2
      have HC := hid hce
      generalize q % 64 = c at hq hc0 hc1 hce
      clear hce
      have hadd := add1 (b8 c2) (tl r j) (by rw [tl_len]; omega)
      have HJ := hid hj
      have hj0 : (j : Int) + 1 < 4 := by omega
      have hj1 : (0 : Int) ≤ j := by omega
      have HW := hid hw
      clear hc0 hj hq0 hw
      go_wp2_with (first | (go_at_call 89; refine wid_any.mono ?_; rintro e w1 ⟨rfl, rfl⟩; rw [HI.out]))
      go_roundg (3 - (j + 1))
      case measure => have := HK.out; omega
      case rel => exact ⟨j + 1, by have := HK.out; omega, by rw [HW.out, HE.out], by rw [tl, HQ.out, HC.out], rfl, more_of (by repeat (first | (with_reducible exact Below.refl _ _) | (with_reducible exact bl_mm) | (with_reducible refine bl_dr ?_) | (with_reducible refine bl_drN ?_ _) | (with_reducible refine bl_al ?_ _) | (with_reducible refine bl_more ?_ _ _)))⟩
    · have hj' : j = 3 := by omega
      subst hj'
      clear hk hj
      go_wp2_with (first | (go_at_call 89; refine wid_any.mono ?_; rintro e w1 ⟨rfl, rfl⟩; rw [HI.out]))
      go_ret
      refine ⟨?_, (by repeat (first | (with_reducible exact Below.refl _ _) | (with_reducible exact bl_mm) | (with_reducible refine bl_dr ?_) | (with_reducible refine bl_drN ?_ _) | (with_reducible refine bl_al ?_ _) | (with_reducible refine bl_more ?_ _ _)))⟩
      have e := cat1 (b8 (240 + r / 64 ^ 3)) (tl r 3)
      rw [show 64 ^ 3 = 262144 from rfl] at e ⊢
      simp only [Array.getD]
      rw [← e, ← b8_mod (240 + r / 262144)]
      rfl

end Go.Proofs.Ytidilpciolladaa

/- The document's first code point of a text. -/
namespace Go.Proofs.Ytidilpciolladaa
open Go.RowKit

def oneB (r : Nat) : ByteArray := if wid (r : Int) = 1 then ⟨#[b8 r]⟩ else if wid (r : Int) = 2 then ⟨(b8 (192 + r / 64 ^ 1) :: tl r 1).toArray⟩ else if wid (r : Int) = 3 then ⟨(b8 (224 + r / 64 ^ 2) :: tl r 2).toArray⟩ else ⟨(b8 (240 + r / 64 ^ 3) :: tl r 3).toArray⟩
theorem wid_1 {r : Nat} (h : wid (r : Int) = 1) : r < 128 := by
  unfold wid at h
  (repeat' split at h) <;> omega
theorem wid_is (r : Int) : wid r = 0 ∨ wid r = 1 ∨ wid r = 2 ∨ wid r = 3 ∨ wid r = 4 := by
  unfold wid
  (repeat' split) <;> simp
set_option maxRecDepth 20000 in
theorem one_any {w : World} {r : Nat} (h : wid (r : Int) ≠ 0) : Calls Try.prog 105 #[.int .i64 r] w fun e w' => e = .returned (.string (oneB r)) ∧ Below w.heap.size w w' := by
  unfold oneB
  by_cases h1 : wid (r : Int) = 1
  · rw [if_pos h1]; exact one_1 (wid_1 h1)
  · rw [if_neg h1]
    by_cases h2 : wid (r : Int) = 2
    · rw [if_pos h2]; exact one_2 h2
    · rw [if_neg h2]
      by_cases h3 : wid (r : Int) = 3
      · rw [if_pos h3]; exact one_3 h3
      · rw [if_neg h3]; exact one_4 (by have := wid_is r; omega)
def by_ (s : ByteArray) (i : Nat) : Nat := (s.get! i).toNat
/-- j more bytes taken to a number. -/
def cd (s : ByteArray) (b : Nat) : Nat → Nat
  | 0 => b
  | j + 1 => 64 * cd s b j + by_ s (j + 1) % 64
def base (s : ByteArray) (n : Nat) : Nat := if n = 1 then by_ s 0 else if n = 2 then by_ s 0 % 32 else if n = 3 then by_ s 0 % 16 else by_ s 0 % 8
def cand (s : ByteArray) (n : Nat) : Nat := cd s (base s n) (n - 1)
def okN (s : ByteArray) (n : Nat) : Bool := decide (wid (cand s n : Int) = n) && decide (oneB (cand s n) = s.extract 0 n)
def firstF (s : ByteArray) (n : Nat) : Int := if _h : n ≤ 4 then (if n ≤ s.size then (if okN s n = true then cand s n else firstF s (n + 1)) else -1) else -1
termination_by 5 - n
theorem by_lt (s : ByteArray) (i : Nat) : by_ s i < 256 := (s.get! i).toNat_lt
theorem by_get {s : ByteArray} {i : Nat} (h : i < s.size) : wrap64 ((s[i]'h).toNat : Int) = (by_ s i : Int) := by
  have e : s[i]'h = s.get! i := by
    have h' : i < s.data.size := h
    simp only [ByteArray.get!, Array.getElem!_eq_getD, Array.getD, h', dite_true]
    rfl
  rw [e]
  have := by_lt s i
  show wrap64 (by_ s i : Int) = _
  rw [wrap64]
  omega
theorem cd_next {s : ByteArray} {b q : Nat} (hq : 1 ≤ q) : cd s b (q + 1 - 1) = 64 * cd s b (q - 1) + by_ s q % 64 := by
  obtain ⟨j, rfl⟩ : ∃ j, q = j + 1 := ⟨q - 1, by omega⟩
  rfl
theorem cd_lt {s : ByteArray} {b j : Nat} (hb : b < 256) (hj : j ≤ 3) : cd s b j < 67108864 := by
  have h : j = 0 ∨ j = 1 ∨ j = 2 ∨ j = 3 := by omega
  rcases h with rfl | rfl | rfl | rfl <;> simp only [cd] <;> omega
def EqF (s : ByteArray) (n : Nat) : Prop := firstF s 1 = firstF s n
theorem eqs_t {a b : ByteArray} (h : a = b) : (a.toList == b.toList) = true := by rw [h]; simp
theorem eqs_f {a b : ByteArray} (h : a ≠ b) : (a.toList == b.toList) = false := by
  rw [beq_eq_false_iff_ne]
  exact fun h' => h (ByteArray.ext (Array.ext' (by rw [← ByteArray.toList_eq, ← ByteArray.toList_eq]; exact h')))
set_option maxRecDepth 20000 in
set_option maxHeartbeats 4000000 in
theorem first_any {w : World} {s : ByteArray} (hs : 1 ≤ s.size) : Calls Try.prog 98 #[.string s] w fun e w' => e = .returned (.int .i64 (firstF s 1)) ∧ Below w.heap.size w w' := by
  have hs0 : (0 : Int) < s.size := by omega
  have HS := hid hs
  have h0 : 0 < s.size := hs
  clear hs
  go_enter Try.func98, Try.ntmps98
  go_wp2_with (first | ((with_reducible refine wp_region_plan (id := 11) (.eff [(false, 0), (true, 2)] 1 [2] (.eff [(false, 3), (false, 4), (false, 5), (true, 7), (true, 8), (true, 9)] 6 [7, 8, 9] (.fin [(false, 10), (false, 11)]))) ?_ ?_ ?_ ?_ ?_ ?_); kernel_rfl; kernel_rfl; kernel_rfl; kernel_rfl; (intro c a d v w h; cases d <;> exact h)) | (with_reducible refine wpPlan_eff ?_) | (with_reducible refine wpPlan_fin ?_) | (with_reducible refine wpPlan_two ?_) | (with_reducible refine wpOpPair ?_ ?_) | ((with_reducible apply wpPre_keep); rfl; intro K' hK'; go_simp; refine hK' _ _ ?_; intro f hf; clear hK' K') | ((with_reducible apply wpPre_drop); rfl; intro K' hK'; go_simp; refine hK' _ _ ?_; intro f; clear hK' K') | (with_reducible refine wpPre_nil ?_) | ((with_reducible apply wpOp_list); rfl) | (with_reducible refine heldPair ?_ ?_) | ((with_reducible refine heldH_no ?_ ?_); rfl) | (with_reducible refine heldH_yes ?_ ?_) | (with_reducible exact heldH_nil) | (unfold YAt; go_simp; done))
  go_loopg [3] 4 (fun k vn wr => ∃ m : Nat, m + k = 5 ∧ 1 ≤ m ∧ vn = .int .i64 (m : Int) ∧ EqF s m ∧ ∃ ex dx, wr = more w ex dx)
  case atStart => exact ⟨1, by omega, by omega, rfl, rfl, more_of (Below.refl _ _)⟩
  case round =>
    obtain ⟨m, hk, hm, rfl, hf, ex, dx, rfl⟩ := hrel
    have HF := hid hf
    have HGK := hid hk
    clear hf
    have hcs : m = 5 ∨ m = 1 ∨ m = 2 ∨ m = 3 ∨ m = 4 := by omega
    rcases hcs with rfl | rfl | rfl | rfl | rfl
    · clear hk hm
      go_wp2_with (first | ((with_reducible refine wp_region_plan (id := 11) (.eff [(false, 0), (true, 2)] 1 [2] (.eff [(false, 3), (false, 4), (false, 5), (true, 7), (true, 8), (true, 9)] 6 [7, 8, 9] (.fin [(false, 10), (false, 11)]))) ?_ ?_ ?_ ?_ ?_ ?_); kernel_rfl; kernel_rfl; kernel_rfl; kernel_rfl; (intro c a d v w h; cases d <;> exact h)) | (with_reducible refine wpPlan_eff ?_) | (with_reducible refine wpPlan_fin ?_) | (with_reducible refine wpPlan_two ?_) | (with_reducible refine wpOpPair ?_ ?_) | ((with_reducible apply wpPre_keep); rfl; intro K' hK'; go_simp; refine hK' _ _ ?_; intro f hf; clear hK' K') | ((with_reducible apply wpPre_drop); rfl; intro K' hK'; go_simp; refine hK' _ _ ?_; intro f; clear hK' K') | (with_reducible refine wpPre_nil ?_) | ((with_reducible apply wpOp_list); rfl) | (with_reducible refine heldPair ?_ ?_) | ((with_reducible refine heldH_no ?_ ?_); rfl) | (with_reducible refine heldH_yes ?_ ?_) | (with_reducible exact heldH_nil) | (unfold YAt; go_simp; done))
      go_ret
      refine ⟨?_, (by repeat (first | (with_reducible exact Below.refl _ _) | (with_reducible exact bl_mm) | (with_reducible refine bl_dr ?_) | (with_reducible refine bl_drN ?_ _) | (with_reducible refine bl_al ?_ _) | (with_reducible refine bl_more ?_ _ _)))⟩
      rw [show firstF s 1 = _ from HF.out, firstF, dif_neg (by decide)]
      rfl

    · by_cases hsz : 1 ≤ s.size
      · have HZ := hid hsz
        have hsz' : (1 : Int) ≤ s.size := by omega
        have hwb : wrap64 ((s[0]'h0).toNat : Int) = (by_ s 0 : Int) := by_get h0
        have hb8 := by_lt s 0
        obtain ⟨b0, hb0⟩ : ∃ b, by_ s 0 = b := ⟨_, rfl⟩
        rw [hb0] at hwb hb8
        have hmd : (b0 : Int).tmod 64 = ((b0 % 64 : Nat) : Int) := rfl
        have hbs : base s 1 = b0 := by unfold base; rw [hb0]; rfl
        have HB := hid hbs
        have HWB := hid hwb
        have hbl : base s 1 < 256 := by rw [hbs]; omega
        have HBL := hid hbl
        clear hk hm hsz hb8 hb0 hbs hbl
        go_wp2_with (first | ((with_reducible refine wp_region_plan (id := 11) (.eff [(false, 0), (true, 2)] 1 [2] (.eff [(false, 3), (false, 4), (false, 5), (true, 7), (true, 8), (true, 9)] 6 [7, 8, 9] (.fin [(false, 10), (false, 11)]))) ?_ ?_ ?_ ?_ ?_ ?_); kernel_rfl; kernel_rfl; kernel_rfl; kernel_rfl; (intro c a d v w h; cases d <;> exact h)) | (with_reducible refine wpPlan_eff ?_) | (with_reducible refine wpPlan_fin ?_) | (with_reducible refine wpPlan_two ?_) | (with_reducible refine wpOpPair ?_ ?_) | ((with_reducible apply wpPre_keep); rfl; intro K' hK'; go_simp; refine hK' _ _ ?_; intro f hf; clear hK' K') | ((with_reducible apply wpPre_drop); rfl; intro K' hK'; go_simp; refine hK' _ _ ?_; intro f; clear hK' K') | (with_reducible refine wpPre_nil ?_) | ((with_reducible apply wpOp_list); rfl) | (with_reducible refine heldPair ?_ ?_) | ((with_reducible refine heldH_no ?_ ?_); rfl) | (with_reducible refine heldH_yes ?_ ?_) | (with_reducible exact heldH_nil) | (unfold YAt; go_simp; done))
        go_loopg [4, 5] 0 (fun k vr vi wr => ∃ q : Nat, q + k = 1 ∧ 1 ≤ q ∧ vr = .int .i64 (cd s (base s 1) (q - 1) : Nat) ∧ vi = .int .i64 (q : Int) ∧ ∃ ex dx, wr = more w ex dx)
        case atStart => exact ⟨1, by omega, by omega, by rw [HB.out]; first | rfl | (rw [HWB.out]; rfl), rfl, more_of (by repeat (first | (with_reducible exact Below.refl _ _) | (with_reducible exact bl_mm) | (with_reducible refine bl_dr ?_) | (with_reducible refine bl_drN ?_ _) | (with_reducible refine bl_al ?_ _) | (with_reducible refine bl_more ?_ _ _)))⟩
        case round =>
          obtain ⟨q, hk, hq, rfl, rfl, ex1, dx1, rfl⟩ := hrel
          have HK := hid hk
          by_cases hqn : q < 1
          · have hq1 : (q : Int) < 1 := by omega
            have hq2 : (0 : Int) ≤ q := by omega
            have hqs : q < s.size := by have := HZ.out; omega
            have hqs' : (q : Int) < s.size := by omega
            have hwq : wrap64 ((s[q]'hqs).toNat : Int) = (by_ s q : Int) := by_get hqs
            have hcl : cd s (base s 1) (q - 1) < 67108864 := cd_lt HBL.out (by omega)
            have hcn : cd s (base s 1) (q + 1 - 1) = 64 * cd s (base s 1) (q - 1) + by_ s q % 64 := cd_next hq
            have HCN := hid hcn
            clear hk hq hqn hcn
            go_wp2_with (first | ((with_reducible refine wp_region_plan (id := 11) (.eff [(false, 0), (true, 2)] 1 [2] (.eff [(false, 3), (false, 4), (false, 5), (true, 7), (true, 8), (true, 9)] 6 [7, 8, 9] (.fin [(false, 10), (false, 11)]))) ?_ ?_ ?_ ?_ ?_ ?_); kernel_rfl; kernel_rfl; kernel_rfl; kernel_rfl; (intro c a d v w h; cases d <;> exact h)) | (with_reducible refine wpPlan_eff ?_) | (with_reducible refine wpPlan_fin ?_) | (with_reducible refine wpPlan_two ?_) | (with_reducible refine wpOpPair ?_ ?_) | ((with_reducible apply wpPre_keep); rfl; intro K' hK'; go_simp; refine hK' _ _ ?_; intro f hf; clear hK' K') | ((with_reducible apply wpPre_drop); rfl; intro K' hK'; go_simp; refine hK' _ _ ?_; intro f; clear hK' K') | (with_reducible refine wpPre_nil ?_) | ((with_reducible apply wpOp_list); rfl) | (with_reducible refine heldPair ?_ ?_) | ((with_reducible refine heldH_no ?_ ?_); rfl) | (with_reducible refine heldH_yes ?_ ?_) | (with_reducible exact heldH_nil) | (unfold YAt; go_simp; done))
            go_roundg (1 - (q + 1))
            case measure => have := HK.out; omega
            case rel => exact ⟨q + 1, by have := HK.out; omega, by omega, by rw [HCN.out]; push_cast; rfl, by push_cast; rfl, more_of (by repeat (first | (with_reducible exact Below.refl _ _) | (with_reducible exact bl_mm) | (with_reducible refine bl_dr ?_) | (with_reducible refine bl_drN ?_ _) | (with_reducible refine bl_al ?_ _) | (with_reducible refine bl_more ?_ _ _)))⟩
          · have hqe : q = 1 := by omega
            subst hqe
            clear hk hq hqn
            have hcc : cd s (base s 1) (1 - 1) = cand s 1 := rfl
            rw [hcc]
            have HOK := hid (show okN s 1 = (decide (wid (cand s 1 : Int) = 1) && decide (oneB (cand s 1) = s.extract 0 1)) from rfl)
            have HN : Hid (∀ b, okN s 1 = b → firstF s 1 = if b = true then (cand s 1 : Int) else firstF s (1 + 1)) := hid (fun b hb => by rw [show firstF s 1 = _ from HF.out, firstF, dif_pos (by decide), if_pos HZ.out, hb])
            clear hcc
            obtain ⟨c, hc⟩ : ∃ c, cand s 1 = c := ⟨_, rfl⟩
            rw [hc] at HOK HN ⊢
            clear hc
            by_cases hw : wid (c : Int) = 1
            · have HW0 : Hid (wid (c : Int) ≠ 0) := hid (by rw [hw]; decide)
              by_cases ho : oneB c = s.extract 0 1
              · have hoe := eqs_t ho
                have HR : Hid (firstF s 1 = (c : Int)) := hid (HN.out true (by rw [HOK.out, decide_eq_true hw, decide_eq_true ho]; rfl))
                clear ho HOK HN
                go_wp2_with (first | ((with_reducible refine wp_region_plan (id := 11) (.eff [(false, 0), (true, 2)] 1 [2] (.eff [(false, 3), (false, 4), (false, 5), (true, 7), (true, 8), (true, 9)] 6 [7, 8, 9] (.fin [(false, 10), (false, 11)]))) ?_ ?_ ?_ ?_ ?_ ?_); kernel_rfl; kernel_rfl; kernel_rfl; kernel_rfl; (intro c a d v w h; cases d <;> exact h)) | (with_reducible refine wpPlan_eff ?_) | (with_reducible refine wpPlan_fin ?_) | (with_reducible refine wpPlan_two ?_) | (with_reducible refine wpOpPair ?_ ?_) | ((with_reducible apply wpPre_keep); rfl; intro K' hK'; go_simp; refine hK' _ _ ?_; intro f hf; clear hK' K') | ((with_reducible apply wpPre_drop); rfl; intro K' hK'; go_simp; refine hK' _ _ ?_; intro f; clear hK' K') | (with_reducible refine wpPre_nil ?_) | ((with_reducible apply wpOp_list); rfl) | (with_reducible refine heldPair ?_ ?_) | ((with_reducible refine heldH_no ?_ ?_); rfl) | (with_reducible refine heldH_yes ?_ ?_) | (with_reducible exact heldH_nil) | (unfold YAt; go_simp; done) | (go_at_call 89; refine wid_any.mono ?_; rintro e w1 ⟨rfl, rfl⟩) | (go_at_call 105; refine (one_any HW0.out).mono ?_; rintro e w2 ⟨rfl, hb2⟩; obtain ⟨ex2, dx2, rfl⟩ := more_of hb2; clear hb2))
                go_ret
                exact ⟨by rw [HR.out]; rfl, (by repeat (first | (with_reducible exact Below.refl _ _) | (with_reducible exact bl_mm) | (with_reducible refine bl_dr ?_) | (with_reducible refine bl_drN ?_ _) | (with_reducible refine bl_al ?_ _) | (with_reducible refine bl_more ?_ _ _)))⟩
              · have hoe := eqs_f ho
                have HR : Hid (EqF s (1 + 1)) := hid (HN.out false (by rw [HOK.out, decide_eq_false ho]; simp))
                clear ho HOK HN
                go_wp2_with (first | ((with_reducible refine wp_region_plan (id := 11) (.eff [(false, 0), (true, 2)] 1 [2] (.eff [(false, 3), (false, 4), (false, 5), (true, 7), (true, 8), (true, 9)] 6 [7, 8, 9] (.fin [(false, 10), (false, 11)]))) ?_ ?_ ?_ ?_ ?_ ?_); kernel_rfl; kernel_rfl; kernel_rfl; kernel_rfl; (intro c a d v w h; cases d <;> exact h)) | (with_reducible refine wpPlan_eff ?_) | (with_reducible refine wpPlan_fin ?_) | (with_reducible refine wpPlan_two ?_) | (with_reducible refine wpOpPair ?_ ?_) | ((with_reducible apply wpPre_keep); rfl; intro K' hK'; go_simp; refine hK' _ _ ?_; intro f hf; clear hK' K') | ((with_reducible apply wpPre_drop); rfl; intro K' hK'; go_simp; refine hK' _ _ ?_; intro f; clear hK' K') | (with_reducible refine wpPre_nil ?_) | ((with_reducible apply wpOp_list); rfl) | (with_reducible refine heldPair ?_ ?_) | ((with_reducible refine heldH_no ?_ ?_); rfl) | (with_reducible refine heldH_yes ?_ ?_) | (with_reducible exact heldH_nil) | (unfold YAt; go_simp; done) | (go_at_call 89; refine wid_any.mono ?_; rintro e w1 ⟨rfl, rfl⟩) | (go_at_call 105; refine (one_any HW0.out).mono ?_; rintro e w2 ⟨rfl, hb2⟩; obtain ⟨ex2, dx2, rfl⟩ := more_of hb2; clear hb2))
                go_roundg (5 - (1 + 1))
                case measure => have := HGK.out; omega
                case rel => exact ⟨1 + 1, by omega, by omega, rfl, HR.out, more_of (by repeat (first | (with_reducible exact Below.refl _ _) | (with_reducible exact bl_mm) | (with_reducible refine bl_dr ?_) | (with_reducible refine bl_drN ?_ _) | (with_reducible refine bl_al ?_ _) | (with_reducible refine bl_more ?_ _ _)))⟩
            · have hwe : (wid (c : Int) == 1) = false := beq_eq_false_iff_ne.2 hw
              have HR : Hid (EqF s (1 + 1)) := hid (HN.out false (by rw [HOK.out, decide_eq_false hw]; rfl))
              clear hw HOK HN
              go_wp2_with (first | ((with_reducible refine wp_region_plan (id := 11) (.eff [(false, 0), (true, 2)] 1 [2] (.eff [(false, 3), (false, 4), (false, 5), (true, 7), (true, 8), (true, 9)] 6 [7, 8, 9] (.fin [(false, 10), (false, 11)]))) ?_ ?_ ?_ ?_ ?_ ?_); kernel_rfl; kernel_rfl; kernel_rfl; kernel_rfl; (intro c a d v w h; cases d <;> exact h)) | (with_reducible refine wpPlan_eff ?_) | (with_reducible refine wpPlan_fin ?_) | (with_reducible refine wpPlan_two ?_) | (with_reducible refine wpOpPair ?_ ?_) | ((with_reducible apply wpPre_keep); rfl; intro K' hK'; go_simp; refine hK' _ _ ?_; intro f hf; clear hK' K') | ((with_reducible apply wpPre_drop); rfl; intro K' hK'; go_simp; refine hK' _ _ ?_; intro f; clear hK' K') | (with_reducible refine wpPre_nil ?_) | ((with_reducible apply wpOp_list); rfl) | (with_reducible refine heldPair ?_ ?_) | ((with_reducible refine heldH_no ?_ ?_); rfl) | (with_reducible refine heldH_yes ?_ ?_) | (with_reducible exact heldH_nil) | (unfold YAt; go_simp; done) | (go_at_call 89; refine wid_any.mono ?_; rintro e w1 ⟨rfl, rfl⟩) | (go_at_call 105; refine (one_any HW0.out).mono ?_; rintro e w2 ⟨rfl, hb2⟩; obtain ⟨ex2, dx2, rfl⟩ := more_of hb2; clear hb2))
              go_roundg (5 - (1 + 1))
              case measure => have := HGK.out; omega
              case rel => exact ⟨1 + 1, by omega, by omega, rfl, HR.out, more_of (by repeat (first | (with_reducible exact Below.refl _ _) | (with_reducible exact bl_mm) | (with_reducible refine bl_dr ?_) | (with_reducible refine bl_drN ?_ _) | (with_reducible refine bl_al ?_ _) | (with_reducible refine bl_more ?_ _ _)))⟩
      · have hsz' : decide ((1 : Int) ≤ s.size) = false := by rw [decide_eq_false_iff_not]; omega
        have HZ := hid hsz
        clear hk hm hsz
        go_wp2_with (first | ((with_reducible refine wp_region_plan (id := 11) (.eff [(false, 0), (true, 2)] 1 [2] (.eff [(false, 3), (false, 4), (false, 5), (true, 7), (true, 8), (true, 9)] 6 [7, 8, 9] (.fin [(false, 10), (false, 11)]))) ?_ ?_ ?_ ?_ ?_ ?_); kernel_rfl; kernel_rfl; kernel_rfl; kernel_rfl; (intro c a d v w h; cases d <;> exact h)) | (with_reducible refine wpPlan_eff ?_) | (with_reducible refine wpPlan_fin ?_) | (with_reducible refine wpPlan_two ?_) | (with_reducible refine wpOpPair ?_ ?_) | ((with_reducible apply wpPre_keep); rfl; intro K' hK'; go_simp; refine hK' _ _ ?_; intro f hf; clear hK' K') | ((with_reducible apply wpPre_drop); rfl; intro K' hK'; go_simp; refine hK' _ _ ?_; intro f; clear hK' K') | (with_reducible refine wpPre_nil ?_) | ((with_reducible apply wpOp_list); rfl) | (with_reducible refine heldPair ?_ ?_) | ((with_reducible refine heldH_no ?_ ?_); rfl) | (with_reducible refine heldH_yes ?_ ?_) | (with_reducible exact heldH_nil) | (unfold YAt; go_simp; done))
        go_ret
        refine ⟨?_, (by repeat (first | (with_reducible exact Below.refl _ _) | (with_reducible exact bl_mm) | (with_reducible refine bl_dr ?_) | (with_reducible refine bl_drN ?_ _) | (with_reducible refine bl_al ?_ _) | (with_reducible refine bl_more ?_ _ _)))⟩
        rw [show firstF s 1 = _ from HF.out, firstF, dif_pos (by decide), if_neg HZ.out]
        rfl

    · by_cases hsz : 2 ≤ s.size
      · have HZ := hid hsz
        have hsz' : (2 : Int) ≤ s.size := by omega
        have hwb : wrap64 ((s[0]'h0).toNat : Int) = (by_ s 0 : Int) := by_get h0
        have hb8 := by_lt s 0
        obtain ⟨b0, hb0⟩ : ∃ b, by_ s 0 = b := ⟨_, rfl⟩
        rw [hb0] at hwb hb8
        have hmd : (b0 : Int).tmod 32 = ((b0 % 32 : Nat) : Int) := rfl
        have hbs : base s 2 = b0 % 32 := by unfold base; rw [hb0]; rfl
        have HB := hid hbs
        have HWB := hid hwb
        have hbl : base s 2 < 256 := by rw [hbs]; omega
        have HBL := hid hbl
        clear hk hm hsz hb8 hb0 hbs hbl
        go_wp2_with (first | ((with_reducible refine wp_region_plan (id := 11) (.eff [(false, 0), (true, 2)] 1 [2] (.eff [(false, 3), (false, 4), (false, 5), (true, 7), (true, 8), (true, 9)] 6 [7, 8, 9] (.fin [(false, 10), (false, 11)]))) ?_ ?_ ?_ ?_ ?_ ?_); kernel_rfl; kernel_rfl; kernel_rfl; kernel_rfl; (intro c a d v w h; cases d <;> exact h)) | (with_reducible refine wpPlan_eff ?_) | (with_reducible refine wpPlan_fin ?_) | (with_reducible refine wpPlan_two ?_) | (with_reducible refine wpOpPair ?_ ?_) | ((with_reducible apply wpPre_keep); rfl; intro K' hK'; go_simp; refine hK' _ _ ?_; intro f hf; clear hK' K') | ((with_reducible apply wpPre_drop); rfl; intro K' hK'; go_simp; refine hK' _ _ ?_; intro f; clear hK' K') | (with_reducible refine wpPre_nil ?_) | ((with_reducible apply wpOp_list); rfl) | (with_reducible refine heldPair ?_ ?_) | ((with_reducible refine heldH_no ?_ ?_); rfl) | (with_reducible refine heldH_yes ?_ ?_) | (with_reducible exact heldH_nil) | (unfold YAt; go_simp; done))
        go_loopg [4, 5] 1 (fun k vr vi wr => ∃ q : Nat, q + k = 2 ∧ 1 ≤ q ∧ vr = .int .i64 (cd s (base s 2) (q - 1) : Nat) ∧ vi = .int .i64 (q : Int) ∧ ∃ ex dx, wr = more w ex dx)
        case atStart => exact ⟨1, by omega, by omega, by rw [HB.out]; first | rfl | (rw [HWB.out]; rfl), rfl, more_of (by repeat (first | (with_reducible exact Below.refl _ _) | (with_reducible exact bl_mm) | (with_reducible refine bl_dr ?_) | (with_reducible refine bl_drN ?_ _) | (with_reducible refine bl_al ?_ _) | (with_reducible refine bl_more ?_ _ _)))⟩
        case round =>
          obtain ⟨q, hk, hq, rfl, rfl, ex1, dx1, rfl⟩ := hrel
          have HK := hid hk
          by_cases hqn : q < 2
          · have hq1 : (q : Int) < 2 := by omega
            have hq2 : (0 : Int) ≤ q := by omega
            have hqs : q < s.size := by have := HZ.out; omega
            have hqs' : (q : Int) < s.size := by omega
            have hwq : wrap64 ((s[q]'hqs).toNat : Int) = (by_ s q : Int) := by_get hqs
            have hcl : cd s (base s 2) (q - 1) < 67108864 := cd_lt HBL.out (by omega)
            have hcn : cd s (base s 2) (q + 1 - 1) = 64 * cd s (base s 2) (q - 1) + by_ s q % 64 := cd_next hq
            have HCN := hid hcn
            clear hk hq hqn hcn
            go_wp2_with (first | ((with_reducible refine wp_region_plan (id := 11) (.eff [(false, 0), (true, 2)] 1 [2] (.eff [(false, 3), (false, 4), (false, 5), (true, 7), (true, 8), (true, 9)] 6 [7, 8, 9] (.fin [(false, 10), (false, 11)]))) ?_ ?_ ?_ ?_ ?_ ?_); kernel_rfl; kernel_rfl; kernel_rfl; kernel_rfl; (intro c a d v w h; cases d <;> exact h)) | (with_reducible refine wpPlan_eff ?_) | (with_reducible refine wpPlan_fin ?_) | (with_reducible refine wpPlan_two ?_) | (with_reducible refine wpOpPair ?_ ?_) | ((with_reducible apply wpPre_keep); rfl; intro K' hK'; go_simp; refine hK' _ _ ?_; intro f hf; clear hK' K') | ((with_reducible apply wpPre_drop); rfl; intro K' hK'; go_simp; refine hK' _ _ ?_; intro f; clear hK' K') | (with_reducible refine wpPre_nil ?_) | ((with_reducible apply wpOp_list); rfl) | (with_reducible refine heldPair ?_ ?_) | ((with_reducible refine heldH_no ?_ ?_); rfl) | (with_reducible refine heldH_yes ?_ ?_) | (with_reducible exact heldH_nil) | (unfold YAt; go_simp; done))
            go_roundg (2 - (q + 1))
            case measure => have := HK.out; omega
            case rel => exact ⟨q + 1, by have := HK.out; omega, by omega, by rw [HCN.out]; push_cast; rfl, by push_cast; rfl, more_of (by repeat (first | (with_reducible exact Below.refl _ _) | (with_reducible exact bl_mm) | (with_reducible refine bl_dr ?_) | (with_reducible refine bl_drN ?_ _) | (with_reducible refine bl_al ?_ _) | (with_reducible refine bl_more ?_ _ _)))⟩
          · have hqe : q = 2 := by omega
            subst hqe
            clear hk hq hqn
            have hcc : cd s (base s 2) (2 - 1) = cand s 2 := rfl
            rw [hcc]
            have HOK := hid (show okN s 2 = (decide (wid (cand s 2 : Int) = 2) && decide (oneB (cand s 2) = s.extract 0 2)) from rfl)
            have HN : Hid (∀ b, okN s 2 = b → firstF s 1 = if b = true then (cand s 2 : Int) else firstF s (2 + 1)) := hid (fun b hb => by rw [show firstF s 1 = _ from HF.out, firstF, dif_pos (by decide), if_pos HZ.out, hb])
            clear hcc
            obtain ⟨c, hc⟩ : ∃ c, cand s 2 = c := ⟨_, rfl⟩
            rw [hc] at HOK HN ⊢
            clear hc
            by_cases hw : wid (c : Int) = 2
            · have HW0 : Hid (wid (c : Int) ≠ 0) := hid (by rw [hw]; decide)
              by_cases ho : oneB c = s.extract 0 2
              · have hoe := eqs_t ho
                have HR : Hid (firstF s 1 = (c : Int)) := hid (HN.out true (by rw [HOK.out, decide_eq_true hw, decide_eq_true ho]; rfl))
                clear ho HOK HN
                go_wp2_with (first | ((with_reducible refine wp_region_plan (id := 11) (.eff [(false, 0), (true, 2)] 1 [2] (.eff [(false, 3), (false, 4), (false, 5), (true, 7), (true, 8), (true, 9)] 6 [7, 8, 9] (.fin [(false, 10), (false, 11)]))) ?_ ?_ ?_ ?_ ?_ ?_); kernel_rfl; kernel_rfl; kernel_rfl; kernel_rfl; (intro c a d v w h; cases d <;> exact h)) | (with_reducible refine wpPlan_eff ?_) | (with_reducible refine wpPlan_fin ?_) | (with_reducible refine wpPlan_two ?_) | (with_reducible refine wpOpPair ?_ ?_) | ((with_reducible apply wpPre_keep); rfl; intro K' hK'; go_simp; refine hK' _ _ ?_; intro f hf; clear hK' K') | ((with_reducible apply wpPre_drop); rfl; intro K' hK'; go_simp; refine hK' _ _ ?_; intro f; clear hK' K') | (with_reducible refine wpPre_nil ?_) | ((with_reducible apply wpOp_list); rfl) | (with_reducible refine heldPair ?_ ?_) | ((with_reducible refine heldH_no ?_ ?_); rfl) | (with_reducible refine heldH_yes ?_ ?_) | (with_reducible exact heldH_nil) | (unfold YAt; go_simp; done) | (go_at_call 89; refine wid_any.mono ?_; rintro e w1 ⟨rfl, rfl⟩) | (go_at_call 105; refine (one_any HW0.out).mono ?_; rintro e w2 ⟨rfl, hb2⟩; obtain ⟨ex2, dx2, rfl⟩ := more_of hb2; clear hb2))
                go_ret
                exact ⟨by rw [HR.out]; rfl, (by repeat (first | (with_reducible exact Below.refl _ _) | (with_reducible exact bl_mm) | (with_reducible refine bl_dr ?_) | (with_reducible refine bl_drN ?_ _) | (with_reducible refine bl_al ?_ _) | (with_reducible refine bl_more ?_ _ _)))⟩
              · have hoe := eqs_f ho
                have HR : Hid (EqF s (2 + 1)) := hid (HN.out false (by rw [HOK.out, decide_eq_false ho]; simp))
                clear ho HOK HN
                go_wp2_with (first | ((with_reducible refine wp_region_plan (id := 11) (.eff [(false, 0), (true, 2)] 1 [2] (.eff [(false, 3), (false, 4), (false, 5), (true, 7), (true, 8), (true, 9)] 6 [7, 8, 9] (.fin [(false, 10), (false, 11)]))) ?_ ?_ ?_ ?_ ?_ ?_); kernel_rfl; kernel_rfl; kernel_rfl; kernel_rfl; (intro c a d v w h; cases d <;> exact h)) | (with_reducible refine wpPlan_eff ?_) | (with_reducible refine wpPlan_fin ?_) | (with_reducible refine wpPlan_two ?_) | (with_reducible refine wpOpPair ?_ ?_) | ((with_reducible apply wpPre_keep); rfl; intro K' hK'; go_simp; refine hK' _ _ ?_; intro f hf; clear hK' K') | ((with_reducible apply wpPre_drop); rfl; intro K' hK'; go_simp; refine hK' _ _ ?_; intro f; clear hK' K') | (with_reducible refine wpPre_nil ?_) | ((with_reducible apply wpOp_list); rfl) | (with_reducible refine heldPair ?_ ?_) | ((with_reducible refine heldH_no ?_ ?_); rfl) | (with_reducible refine heldH_yes ?_ ?_) | (with_reducible exact heldH_nil) | (unfold YAt; go_simp; done) | (go_at_call 89; refine wid_any.mono ?_; rintro e w1 ⟨rfl, rfl⟩) | (go_at_call 105; refine (one_any HW0.out).mono ?_; rintro e w2 ⟨rfl, hb2⟩; obtain ⟨ex2, dx2, rfl⟩ := more_of hb2; clear hb2))
                go_roundg (5 - (2 + 1))
                case measure => have := HGK.out; omega
                case rel => exact ⟨2 + 1, by omega, by omega, rfl, HR.out, more_of (by repeat (first | (with_reducible exact Below.refl _ _) | (with_reducible exact bl_mm) | (with_reducible refine bl_dr ?_) | (with_reducible refine bl_drN ?_ _) | (with_reducible refine bl_al ?_ _) | (with_reducible refine bl_more ?_ _ _)))⟩
            · have hwe : (wid (c : Int) == 2) = false := beq_eq_false_iff_ne.2 hw
              have HR : Hid (EqF s (2 + 1)) := hid (HN.out false (by rw [HOK.out, decide_eq_false hw]; rfl))
              clear hw HOK HN
              go_wp2_with (first | ((with_reducible refine wp_region_plan (id := 11) (.eff [(false, 0), (true, 2)] 1 [2] (.eff [(false, 3), (false, 4), (false, 5), (true, 7), (true, 8), (true, 9)] 6 [7, 8, 9] (.fin [(false, 10), (false, 11)]))) ?_ ?_ ?_ ?_ ?_ ?_); kernel_rfl; kernel_rfl; kernel_rfl; kernel_rfl; (intro c a d v w h; cases d <;> exact h)) | (with_reducible refine wpPlan_eff ?_) | (with_reducible refine wpPlan_fin ?_) | (with_reducible refine wpPlan_two ?_) | (with_reducible refine wpOpPair ?_ ?_) | ((with_reducible apply wpPre_keep); rfl; intro K' hK'; go_simp; refine hK' _ _ ?_; intro f hf; clear hK' K') | ((with_reducible apply wpPre_drop); rfl; intro K' hK'; go_simp; refine hK' _ _ ?_; intro f; clear hK' K') | (with_reducible refine wpPre_nil ?_) | ((with_reducible apply wpOp_list); rfl) | (with_reducible refine heldPair ?_ ?_) | ((with_reducible refine heldH_no ?_ ?_); rfl) | (with_reducible refine heldH_yes ?_ ?_) | (with_reducible exact heldH_nil) | (unfold YAt; go_simp; done) | (go_at_call 89; refine wid_any.mono ?_; rintro e w1 ⟨rfl, rfl⟩) | (go_at_call 105; refine (one_any HW0.out).mono ?_; rintro e w2 ⟨rfl, hb2⟩; obtain ⟨ex2, dx2, rfl⟩ := more_of hb2; clear hb2))
              go_roundg (5 - (2 + 1))
              case measure => have := HGK.out; omega
              case rel => exact ⟨2 + 1, by omega, by omega, rfl, HR.out, more_of (by repeat (first | (with_reducible exact Below.refl _ _) | (with_reducible exact bl_mm) | (with_reducible refine bl_dr ?_) | (with_reducible refine bl_drN ?_ _) | (with_reducible refine bl_al ?_ _) | (with_reducible refine bl_more ?_ _ _)))⟩
      · have hsz' : decide ((2 : Int) ≤ s.size) = false := by rw [decide_eq_false_iff_not]; omega
        have HZ := hid hsz
        clear hk hm hsz
        go_wp2_with (first | ((with_reducible refine wp_region_plan (id := 11) (.eff [(false, 0), (true, 2)] 1 [2] (.eff [(false, 3), (false, 4), (false, 5), (true, 7), (true, 8), (true, 9)] 6 [7, 8, 9] (.fin [(false, 10), (false, 11)]))) ?_ ?_ ?_ ?_ ?_ ?_); kernel_rfl; kernel_rfl; kernel_rfl; kernel_rfl; (intro c a d v w h; cases d <;> exact h)) | (with_reducible refine wpPlan_eff ?_) | (with_reducible refine wpPlan_fin ?_) | (with_reducible refine wpPlan_two ?_) | (with_reducible refine wpOpPair ?_ ?_) | ((with_reducible apply wpPre_keep); rfl; intro K' hK'; go_simp; refine hK' _ _ ?_; intro f hf; clear hK' K') | ((with_reducible apply wpPre_drop); rfl; intro K' hK'; go_simp; refine hK' _ _ ?_; intro f; clear hK' K') | (with_reducible refine wpPre_nil ?_) | ((with_reducible apply wpOp_list); rfl) | (with_reducible refine heldPair ?_ ?_) | ((with_reducible refine heldH_no ?_ ?_); rfl) | (with_reducible refine heldH_yes ?_ ?_) | (with_reducible exact heldH_nil) | (unfold YAt; go_simp; done))
        go_ret
        refine ⟨?_, (by repeat (first | (with_reducible exact Below.refl _ _) | (with_reducible exact bl_mm) | (with_reducible refine bl_dr ?_) | (with_reducible refine bl_drN ?_ _) | (with_reducible refine bl_al ?_ _) | (with_reducible refine bl_more ?_ _ _)))⟩
        rw [show firstF s 1 = _ from HF.out, firstF, dif_pos (by decide), if_neg HZ.out]
        rfl

    · by_cases hsz : 3 ≤ s.size
      · have HZ := hid hsz
        have hsz' : (3 : Int) ≤ s.size := by omega
        have hwb : wrap64 ((s[0]'h0).toNat : Int) = (by_ s 0 : Int) := by_get h0
        have hb8 := by_lt s 0
        obtain ⟨b0, hb0⟩ : ∃ b, by_ s 0 = b := ⟨_, rfl⟩
        rw [hb0] at hwb hb8
        have hmd : (b0 : Int).tmod 16 = ((b0 % 16 : Nat) : Int) := rfl
        have hbs : base s 3 = b0 % 16 := by unfold base; rw [hb0]; rfl
        have HB := hid hbs
        have HWB := hid hwb
        have hbl : base s 3 < 256 := by rw [hbs]; omega
        have HBL := hid hbl
        clear hk hm hsz hb8 hb0 hbs hbl
        go_wp2_with (first | ((with_reducible refine wp_region_plan (id := 11) (.eff [(false, 0), (true, 2)] 1 [2] (.eff [(false, 3), (false, 4), (false, 5), (true, 7), (true, 8), (true, 9)] 6 [7, 8, 9] (.fin [(false, 10), (false, 11)]))) ?_ ?_ ?_ ?_ ?_ ?_); kernel_rfl; kernel_rfl; kernel_rfl; kernel_rfl; (intro c a d v w h; cases d <;> exact h)) | (with_reducible refine wpPlan_eff ?_) | (with_reducible refine wpPlan_fin ?_) | (with_reducible refine wpPlan_two ?_) | (with_reducible refine wpOpPair ?_ ?_) | ((with_reducible apply wpPre_keep); rfl; intro K' hK'; go_simp; refine hK' _ _ ?_; intro f hf; clear hK' K') | ((with_reducible apply wpPre_drop); rfl; intro K' hK'; go_simp; refine hK' _ _ ?_; intro f; clear hK' K') | (with_reducible refine wpPre_nil ?_) | ((with_reducible apply wpOp_list); rfl) | (with_reducible refine heldPair ?_ ?_) | ((with_reducible refine heldH_no ?_ ?_); rfl) | (with_reducible refine heldH_yes ?_ ?_) | (with_reducible exact heldH_nil) | (unfold YAt; go_simp; done))
        go_loopg [4, 5] 2 (fun k vr vi wr => ∃ q : Nat, q + k = 3 ∧ 1 ≤ q ∧ vr = .int .i64 (cd s (base s 3) (q - 1) : Nat) ∧ vi = .int .i64 (q : Int) ∧ ∃ ex dx, wr = more w ex dx)
        case atStart => exact ⟨1, by omega, by omega, by rw [HB.out]; first | rfl | (rw [HWB.out]; rfl), rfl, more_of (by repeat (first | (with_reducible exact Below.refl _ _) | (with_reducible exact bl_mm) | (with_reducible refine bl_dr ?_) | (with_reducible refine bl_drN ?_ _) | (with_reducible refine bl_al ?_ _) | (with_reducible refine bl_more ?_ _ _)))⟩
        case round =>
          obtain ⟨q, hk, hq, rfl, rfl, ex1, dx1, rfl⟩ := hrel
          have HK := hid hk
          by_cases hqn : q < 3
          · have hq1 : (q : Int) < 3 := by omega
            have hq2 : (0 : Int) ≤ q := by omega
            have hqs : q < s.size := by have := HZ.out; omega
            have hqs' : (q : Int) < s.size := by omega
            have hwq : wrap64 ((s[q]'hqs).toNat : Int) = (by_ s q : Int) := by_get hqs
            have hcl : cd s (base s 3) (q - 1) < 67108864 := cd_lt HBL.out (by omega)
            have hcn : cd s (base s 3) (q + 1 - 1) = 64 * cd s (base s 3) (q - 1) + by_ s q % 64 := cd_next hq
            have HCN := hid hcn
            clear hk hq hqn hcn
            go_wp2_with (first | ((with_reducible refine wp_region_plan (id := 11) (.eff [(false, 0), (true, 2)] 1 [2] (.eff [(false, 3), (false, 4), (false, 5), (true, 7), (true, 8), (true, 9)] 6 [7, 8, 9] (.fin [(false, 10), (false, 11)]))) ?_ ?_ ?_ ?_ ?_ ?_); kernel_rfl; kernel_rfl; kernel_rfl; kernel_rfl; (intro c a d v w h; cases d <;> exact h)) | (with_reducible refine wpPlan_eff ?_) | (with_reducible refine wpPlan_fin ?_) | (with_reducible refine wpPlan_two ?_) | (with_reducible refine wpOpPair ?_ ?_) | ((with_reducible apply wpPre_keep); rfl; intro K' hK'; go_simp; refine hK' _ _ ?_; intro f hf; clear hK' K') | ((with_reducible apply wpPre_drop); rfl; intro K' hK'; go_simp; refine hK' _ _ ?_; intro f; clear hK' K') | (with_reducible refine wpPre_nil ?_) | ((with_reducible apply wpOp_list); rfl) | (with_reducible refine heldPair ?_ ?_) | ((with_reducible refine heldH_no ?_ ?_); rfl) | (with_reducible refine heldH_yes ?_ ?_) | (with_reducible exact heldH_nil) | (unfold YAt; go_simp; done))
            go_roundg (3 - (q + 1))
            case measure => have := HK.out; omega
            case rel => exact ⟨q + 1, by have := HK.out; omega, by omega, by rw [HCN.out]; push_cast; rfl, by push_cast; rfl, more_of (by repeat (first | (with_reducible exact Below.refl _ _) | (with_reducible exact bl_mm) | (with_reducible refine bl_dr ?_) | (with_reducible refine bl_drN ?_ _) | (with_reducible refine bl_al ?_ _) | (with_reducible refine bl_more ?_ _ _)))⟩
          · have hqe : q = 3 := by omega
            subst hqe
            clear hk hq hqn
            have hcc : cd s (base s 3) (3 - 1) = cand s 3 := rfl
            rw [hcc]
            have HOK := hid (show okN s 3 = (decide (wid (cand s 3 : Int) = 3) && decide (oneB (cand s 3) = s.extract 0 3)) from rfl)
            have HN : Hid (∀ b, okN s 3 = b → firstF s 1 = if b = true then (cand s 3 : Int) else firstF s (3 + 1)) := hid (fun b hb => by rw [show firstF s 1 = _ from HF.out, firstF, dif_pos (by decide), if_pos HZ.out, hb])
            clear hcc
            obtain ⟨c, hc⟩ : ∃ c, cand s 3 = c := ⟨_, rfl⟩
            rw [hc] at HOK HN ⊢
            clear hc
            by_cases hw : wid (c : Int) = 3
            · have HW0 : Hid (wid (c : Int) ≠ 0) := hid (by rw [hw]; decide)
              by_cases ho : oneB c = s.extract 0 3
              · have hoe := eqs_t ho
                have HR : Hid (firstF s 1 = (c : Int)) := hid (HN.out true (by rw [HOK.out, decide_eq_true hw, decide_eq_true ho]; rfl))
                clear ho HOK HN
                go_wp2_with (first | ((with_reducible refine wp_region_plan (id := 11) (.eff [(false, 0), (true, 2)] 1 [2] (.eff [(false, 3), (false, 4), (false, 5), (true, 7), (true, 8), (true, 9)] 6 [7, 8, 9] (.fin [(false, 10), (false, 11)]))) ?_ ?_ ?_ ?_ ?_ ?_); kernel_rfl; kernel_rfl; kernel_rfl; kernel_rfl; (intro c a d v w h; cases d <;> exact h)) | (with_reducible refine wpPlan_eff ?_) | (with_reducible refine wpPlan_fin ?_) | (with_reducible refine wpPlan_two ?_) | (with_reducible refine wpOpPair ?_ ?_) | ((with_reducible apply wpPre_keep); rfl; intro K' hK'; go_simp; refine hK' _ _ ?_; intro f hf; clear hK' K') | ((with_reducible apply wpPre_drop); rfl; intro K' hK'; go_simp; refine hK' _ _ ?_; intro f; clear hK' K') | (with_reducible refine wpPre_nil ?_) | ((with_reducible apply wpOp_list); rfl) | (with_reducible refine heldPair ?_ ?_) | ((with_reducible refine heldH_no ?_ ?_); rfl) | (with_reducible refine heldH_yes ?_ ?_) | (with_reducible exact heldH_nil) | (unfold YAt; go_simp; done) | (go_at_call 89; refine wid_any.mono ?_; rintro e w1 ⟨rfl, rfl⟩) | (go_at_call 105; refine (one_any HW0.out).mono ?_; rintro e w2 ⟨rfl, hb2⟩; obtain ⟨ex2, dx2, rfl⟩ := more_of hb2; clear hb2))
                go_ret
                exact ⟨by rw [HR.out]; rfl, (by repeat (first | (with_reducible exact Below.refl _ _) | (with_reducible exact bl_mm) | (with_reducible refine bl_dr ?_) | (with_reducible refine bl_drN ?_ _) | (with_reducible refine bl_al ?_ _) | (with_reducible refine bl_more ?_ _ _)))⟩
              · have hoe := eqs_f ho
                have HR : Hid (EqF s (3 + 1)) := hid (HN.out false (by rw [HOK.out, decide_eq_false ho]; simp))
                clear ho HOK HN
                go_wp2_with (first | ((with_reducible refine wp_region_plan (id := 11) (.eff [(false, 0), (true, 2)] 1 [2] (.eff [(false, 3), (false, 4), (false, 5), (true, 7), (true, 8), (true, 9)] 6 [7, 8, 9] (.fin [(false, 10), (false, 11)]))) ?_ ?_ ?_ ?_ ?_ ?_); kernel_rfl; kernel_rfl; kernel_rfl; kernel_rfl; (intro c a d v w h; cases d <;> exact h)) | (with_reducible refine wpPlan_eff ?_) | (with_reducible refine wpPlan_fin ?_) | (with_reducible refine wpPlan_two ?_) | (with_reducible refine wpOpPair ?_ ?_) | ((with_reducible apply wpPre_keep); rfl; intro K' hK'; go_simp; refine hK' _ _ ?_; intro f hf; clear hK' K') | ((with_reducible apply wpPre_drop); rfl; intro K' hK'; go_simp; refine hK' _ _ ?_; intro f; clear hK' K') | (with_reducible refine wpPre_nil ?_) | ((with_reducible apply wpOp_list); rfl) | (with_reducible refine heldPair ?_ ?_) | ((with_reducible refine heldH_no ?_ ?_); rfl) | (with_reducible refine heldH_yes ?_ ?_) | (with_reducible exact heldH_nil) | (unfold YAt; go_simp; done) | (go_at_call 89; refine wid_any.mono ?_; rintro e w1 ⟨rfl, rfl⟩) | (go_at_call 105; refine (one_any HW0.out).mono ?_; rintro e w2 ⟨rfl, hb2⟩; obtain ⟨ex2, dx2, rfl⟩ := more_of hb2; clear hb2))
                go_roundg (5 - (3 + 1))
                case measure => have := HGK.out; omega
                case rel => exact ⟨3 + 1, by omega, by omega, rfl, HR.out, more_of (by repeat (first | (with_reducible exact Below.refl _ _) | (with_reducible exact bl_mm) | (with_reducible refine bl_dr ?_) | (with_reducible refine bl_drN ?_ _) | (with_reducible refine bl_al ?_ _) | (with_reducible refine bl_more ?_ _ _)))⟩
            · have hwe : (wid (c : Int) == 3) = false := beq_eq_false_iff_ne.2 hw
              have HR : Hid (EqF s (3 + 1)) := hid (HN.out false (by rw [HOK.out, decide_eq_false hw]; rfl))
              clear hw HOK HN
              go_wp2_with (first | ((with_reducible refine wp_region_plan (id := 11) (.eff [(false, 0), (true, 2)] 1 [2] (.eff [(false, 3), (false, 4), (false, 5), (true, 7), (true, 8), (true, 9)] 6 [7, 8, 9] (.fin [(false, 10), (false, 11)]))) ?_ ?_ ?_ ?_ ?_ ?_); kernel_rfl; kernel_rfl; kernel_rfl; kernel_rfl; (intro c a d v w h; cases d <;> exact h)) | (with_reducible refine wpPlan_eff ?_) | (with_reducible refine wpPlan_fin ?_) | (with_reducible refine wpPlan_two ?_) | (with_reducible refine wpOpPair ?_ ?_) | ((with_reducible apply wpPre_keep); rfl; intro K' hK'; go_simp; refine hK' _ _ ?_; intro f hf; clear hK' K') | ((with_reducible apply wpPre_drop); rfl; intro K' hK'; go_simp; refine hK' _ _ ?_; intro f; clear hK' K') | (with_reducible refine wpPre_nil ?_) | ((with_reducible apply wpOp_list); rfl) | (with_reducible refine heldPair ?_ ?_) | ((with_reducible refine heldH_no ?_ ?_); rfl) | (with_reducible refine heldH_yes ?_ ?_) | (with_reducible exact heldH_nil) | (unfold YAt; go_simp; done) | (go_at_call 89; refine wid_any.mono ?_; rintro e w1 ⟨rfl, rfl⟩) | (go_at_call 105; refine (one_any HW0.out).mono ?_; rintro e w2 ⟨rfl, hb2⟩; obtain ⟨ex2, dx2, rfl⟩ := more_of hb2; clear hb2))
              go_roundg (5 - (3 + 1))
              case measure => have := HGK.out; omega
              case rel => exact ⟨3 + 1, by omega, by omega, rfl, HR.out, more_of (by repeat (first | (with_reducible exact Below.refl _ _) | (with_reducible exact bl_mm) | (with_reducible refine bl_dr ?_) | (with_reducible refine bl_drN ?_ _) | (with_reducible refine bl_al ?_ _) | (with_reducible refine bl_more ?_ _ _)))⟩
      · have hsz' : decide ((3 : Int) ≤ s.size) = false := by rw [decide_eq_false_iff_not]; omega
        have HZ := hid hsz
        clear hk hm hsz
        go_wp2_with (first | ((with_reducible refine wp_region_plan (id := 11) (.eff [(false, 0), (true, 2)] 1 [2] (.eff [(false, 3), (false, 4), (false, 5), (true, 7), (true, 8), (true, 9)] 6 [7, 8, 9] (.fin [(false, 10), (false, 11)]))) ?_ ?_ ?_ ?_ ?_ ?_); kernel_rfl; kernel_rfl; kernel_rfl; kernel_rfl; (intro c a d v w h; cases d <;> exact h)) | (with_reducible refine wpPlan_eff ?_) | (with_reducible refine wpPlan_fin ?_) | (with_reducible refine wpPlan_two ?_) | (with_reducible refine wpOpPair ?_ ?_) | ((with_reducible apply wpPre_keep); rfl; intro K' hK'; go_simp; refine hK' _ _ ?_; intro f hf; clear hK' K') | ((with_reducible apply wpPre_drop); rfl; intro K' hK'; go_simp; refine hK' _ _ ?_; intro f; clear hK' K') | (with_reducible refine wpPre_nil ?_) | ((with_reducible apply wpOp_list); rfl) | (with_reducible refine heldPair ?_ ?_) | ((with_reducible refine heldH_no ?_ ?_); rfl) | (with_reducible refine heldH_yes ?_ ?_) | (with_reducible exact heldH_nil) | (unfold YAt; go_simp; done))
        go_ret
        refine ⟨?_, (by repeat (first | (with_reducible exact Below.refl _ _) | (with_reducible exact bl_mm) | (with_reducible refine bl_dr ?_) | (with_reducible refine bl_drN ?_ _) | (with_reducible refine bl_al ?_ _) | (with_reducible refine bl_more ?_ _ _)))⟩
        rw [show firstF s 1 = _ from HF.out, firstF, dif_pos (by decide), if_neg HZ.out]
        rfl

    · by_cases hsz : 4 ≤ s.size
      · have HZ := hid hsz
        have hsz' : (4 : Int) ≤ s.size := by omega
        have hwb : wrap64 ((s[0]'h0).toNat : Int) = (by_ s 0 : Int) := by_get h0
        have hb8 := by_lt s 0
        obtain ⟨b0, hb0⟩ : ∃ b, by_ s 0 = b := ⟨_, rfl⟩
        rw [hb0] at hwb hb8
        have hmd : (b0 : Int).tmod 8 = ((b0 % 8 : Nat) : Int) := rfl
        have hbs : base s 4 = b0 % 8 := by unfold base; rw [hb0]; rfl
        have HB := hid hbs
        have HWB := hid hwb
        have hbl : base s 4 < 256 := by rw [hbs]; omega
        have HBL := hid hbl
        clear hk hm hsz hb8 hb0 hbs hbl
        go_wp2_with (first | ((with_reducible refine wp_region_plan (id := 11) (.eff [(false, 0), (true, 2)] 1 [2] (.eff [(false, 3), (false, 4), (false, 5), (true, 7), (true, 8), (true, 9)] 6 [7, 8, 9] (.fin [(false, 10), (false, 11)]))) ?_ ?_ ?_ ?_ ?_ ?_); kernel_rfl; kernel_rfl; kernel_rfl; kernel_rfl; (intro c a d v w h; cases d <;> exact h)) | (with_reducible refine wpPlan_eff ?_) | (with_reducible refine wpPlan_fin ?_) | (with_reducible refine wpPlan_two ?_) | (with_reducible refine wpOpPair ?_ ?_) | ((with_reducible apply wpPre_keep); rfl; intro K' hK'; go_simp; refine hK' _ _ ?_; intro f hf; clear hK' K') | ((with_reducible apply wpPre_drop); rfl; intro K' hK'; go_simp; refine hK' _ _ ?_; intro f; clear hK' K') | (with_reducible refine wpPre_nil ?_) | ((with_reducible apply wpOp_list); rfl) | (with_reducible refine heldPair ?_ ?_) | ((with_reducible refine heldH_no ?_ ?_); rfl) | (with_reducible refine heldH_yes ?_ ?_) | (with_reducible exact heldH_nil) | (unfold YAt; go_simp; done))
        go_loopg [4, 5] 3 (fun k vr vi wr => ∃ q : Nat, q + k = 4 ∧ 1 ≤ q ∧ vr = .int .i64 (cd s (base s 4) (q - 1) : Nat) ∧ vi = .int .i64 (q : Int) ∧ ∃ ex dx, wr = more w ex dx)
        case atStart => exact ⟨1, by omega, by omega, by rw [HB.out]; first | rfl | (rw [HWB.out]; rfl), rfl, more_of (by repeat (first | (with_reducible exact Below.refl _ _) | (with_reducible exact bl_mm) | (with_reducible refine bl_dr ?_) | (with_reducible refine bl_drN ?_ _) | (with_reducible refine bl_al ?_ _) | (with_reducible refine bl_more ?_ _ _)))⟩
        case round =>
          obtain ⟨q, hk, hq, rfl, rfl, ex1, dx1, rfl⟩ := hrel
          have HK := hid hk
          by_cases hqn : q < 4
          · have hq1 : (q : Int) < 4 := by omega
            have hq2 : (0 : Int) ≤ q := by omega
            have hqs : q < s.size := by have := HZ.out; omega
            have hqs' : (q : Int) < s.size := by omega
            have hwq : wrap64 ((s[q]'hqs).toNat : Int) = (by_ s q : Int) := by_get hqs
            have hcl : cd s (base s 4) (q - 1) < 67108864 := cd_lt HBL.out (by omega)
            have hcn : cd s (base s 4) (q + 1 - 1) = 64 * cd s (base s 4) (q - 1) + by_ s q % 64 := cd_next hq
            have HCN := hid hcn
            clear hk hq hqn hcn
            go_wp2_with (first | ((with_reducible refine wp_region_plan (id := 11) (.eff [(false, 0), (true, 2)] 1 [2] (.eff [(false, 3), (false, 4), (false, 5), (true, 7), (true, 8), (true, 9)] 6 [7, 8, 9] (.fin [(false, 10), (false, 11)]))) ?_ ?_ ?_ ?_ ?_ ?_); kernel_rfl; kernel_rfl; kernel_rfl; kernel_rfl; (intro c a d v w h; cases d <;> exact h)) | (with_reducible refine wpPlan_eff ?_) | (with_reducible refine wpPlan_fin ?_) | (with_reducible refine wpPlan_two ?_) | (with_reducible refine wpOpPair ?_ ?_) | ((with_reducible apply wpPre_keep); rfl; intro K' hK'; go_simp; refine hK' _ _ ?_; intro f hf; clear hK' K') | ((with_reducible apply wpPre_drop); rfl; intro K' hK'; go_simp; refine hK' _ _ ?_; intro f; clear hK' K') | (with_reducible refine wpPre_nil ?_) | ((with_reducible apply wpOp_list); rfl) | (with_reducible refine heldPair ?_ ?_) | ((with_reducible refine heldH_no ?_ ?_); rfl) | (with_reducible refine heldH_yes ?_ ?_) | (with_reducible exact heldH_nil) | (unfold YAt; go_simp; done))
            go_roundg (4 - (q + 1))
            case measure => have := HK.out; omega
            case rel => exact ⟨q + 1, by have := HK.out; omega, by omega, by rw [HCN.out]; push_cast; rfl, by push_cast; rfl, more_of (by repeat (first | (with_reducible exact Below.refl _ _) | (with_reducible exact bl_mm) | (with_reducible refine bl_dr ?_) | (with_reducible refine bl_drN ?_ _) | (with_reducible refine bl_al ?_ _) | (with_reducible refine bl_more ?_ _ _)))⟩
          · have hqe : q = 4 := by omega
            subst hqe
            clear hk hq hqn
            have hcc : cd s (base s 4) (4 - 1) = cand s 4 := rfl
            rw [hcc]
            have HOK := hid (show okN s 4 = (decide (wid (cand s 4 : Int) = 4) && decide (oneB (cand s 4) = s.extract 0 4)) from rfl)
            have HN : Hid (∀ b, okN s 4 = b → firstF s 1 = if b = true then (cand s 4 : Int) else firstF s (4 + 1)) := hid (fun b hb => by rw [show firstF s 1 = _ from HF.out, firstF, dif_pos (by decide), if_pos HZ.out, hb])
            clear hcc
            obtain ⟨c, hc⟩ : ∃ c, cand s 4 = c := ⟨_, rfl⟩
            rw [hc] at HOK HN ⊢
            clear hc
            by_cases hw : wid (c : Int) = 4
            · have HW0 : Hid (wid (c : Int) ≠ 0) := hid (by rw [hw]; decide)
              by_cases ho : oneB c = s.extract 0 4
              · have hoe := eqs_t ho
                have HR : Hid (firstF s 1 = (c : Int)) := hid (HN.out true (by rw [HOK.out, decide_eq_true hw, decide_eq_true ho]; rfl))
                clear ho HOK HN
                go_wp2_with (first | ((with_reducible refine wp_region_plan (id := 11) (.eff [(false, 0), (true, 2)] 1 [2] (.eff [(false, 3), (false, 4), (false, 5), (true, 7), (true, 8), (true, 9)] 6 [7, 8, 9] (.fin [(false, 10), (false, 11)]))) ?_ ?_ ?_ ?_ ?_ ?_); kernel_rfl; kernel_rfl; kernel_rfl; kernel_rfl; (intro c a d v w h; cases d <;> exact h)) | (with_reducible refine wpPlan_eff ?_) | (with_reducible refine wpPlan_fin ?_) | (with_reducible refine wpPlan_two ?_) | (with_reducible refine wpOpPair ?_ ?_) | ((with_reducible apply wpPre_keep); rfl; intro K' hK'; go_simp; refine hK' _ _ ?_; intro f hf; clear hK' K') | ((with_reducible apply wpPre_drop); rfl; intro K' hK'; go_simp; refine hK' _ _ ?_; intro f; clear hK' K') | (with_reducible refine wpPre_nil ?_) | ((with_reducible apply wpOp_list); rfl) | (with_reducible refine heldPair ?_ ?_) | ((with_reducible refine heldH_no ?_ ?_); rfl) | (with_reducible refine heldH_yes ?_ ?_) | (with_reducible exact heldH_nil) | (unfold YAt; go_simp; done) | (go_at_call 89; refine wid_any.mono ?_; rintro e w1 ⟨rfl, rfl⟩) | (go_at_call 105; refine (one_any HW0.out).mono ?_; rintro e w2 ⟨rfl, hb2⟩; obtain ⟨ex2, dx2, rfl⟩ := more_of hb2; clear hb2))
                go_ret
                exact ⟨by rw [HR.out]; rfl, (by repeat (first | (with_reducible exact Below.refl _ _) | (with_reducible exact bl_mm) | (with_reducible refine bl_dr ?_) | (with_reducible refine bl_drN ?_ _) | (with_reducible refine bl_al ?_ _) | (with_reducible refine bl_more ?_ _ _)))⟩
              · have hoe := eqs_f ho
                have HR : Hid (EqF s (4 + 1)) := hid (HN.out false (by rw [HOK.out, decide_eq_false ho]; simp))
                clear ho HOK HN
                go_wp2_with (first | ((with_reducible refine wp_region_plan (id := 11) (.eff [(false, 0), (true, 2)] 1 [2] (.eff [(false, 3), (false, 4), (false, 5), (true, 7), (true, 8), (true, 9)] 6 [7, 8, 9] (.fin [(false, 10), (false, 11)]))) ?_ ?_ ?_ ?_ ?_ ?_); kernel_rfl; kernel_rfl; kernel_rfl; kernel_rfl; (intro c a d v w h; cases d <;> exact h)) | (with_reducible refine wpPlan_eff ?_) | (with_reducible refine wpPlan_fin ?_) | (with_reducible refine wpPlan_two ?_) | (with_reducible refine wpOpPair ?_ ?_) | ((with_reducible apply wpPre_keep); rfl; intro K' hK'; go_simp; refine hK' _ _ ?_; intro f hf; clear hK' K') | ((with_reducible apply wpPre_drop); rfl; intro K' hK'; go_simp; refine hK' _ _ ?_; intro f; clear hK' K') | (with_reducible refine wpPre_nil ?_) | ((with_reducible apply wpOp_list); rfl) | (with_reducible refine heldPair ?_ ?_) | ((with_reducible refine heldH_no ?_ ?_); rfl) | (with_reducible refine heldH_yes ?_ ?_) | (with_reducible exact heldH_nil) | (unfold YAt; go_simp; done) | (go_at_call 89; refine wid_any.mono ?_; rintro e w1 ⟨rfl, rfl⟩) | (go_at_call 105; refine (one_any HW0.out).mono ?_; rintro e w2 ⟨rfl, hb2⟩; obtain ⟨ex2, dx2, rfl⟩ := more_of hb2; clear hb2))
                go_roundg (5 - (4 + 1))
                case measure => have := HGK.out; omega
                case rel => exact ⟨4 + 1, by omega, by omega, rfl, HR.out, more_of (by repeat (first | (with_reducible exact Below.refl _ _) | (with_reducible exact bl_mm) | (with_reducible refine bl_dr ?_) | (with_reducible refine bl_drN ?_ _) | (with_reducible refine bl_al ?_ _) | (with_reducible refine bl_more ?_ _ _)))⟩
            · have hwe : (wid (c : Int) == 4) = false := beq_eq_false_iff_ne.2 hw
              have HR : Hid (EqF s (4 + 1)) := hid (HN.out false (by rw [HOK.out, decide_eq_false hw]; rfl))
              clear hw HOK HN
              go_wp2_with (first | ((with_reducible refine wp_region_plan (id := 11) (.eff [(false, 0), (true, 2)] 1 [2] (.eff [(false, 3), (false, 4), (false, 5), (true, 7), (true, 8), (true, 9)] 6 [7, 8, 9] (.fin [(false, 10), (false, 11)]))) ?_ ?_ ?_ ?_ ?_ ?_); kernel_rfl; kernel_rfl; kernel_rfl; kernel_rfl; (intro c a d v w h; cases d <;> exact h)) | (with_reducible refine wpPlan_eff ?_) | (with_reducible refine wpPlan_fin ?_) | (with_reducible refine wpPlan_two ?_) | (with_reducible refine wpOpPair ?_ ?_) | ((with_reducible apply wpPre_keep); rfl; intro K' hK'; go_simp; refine hK' _ _ ?_; intro f hf; clear hK' K') | ((with_reducible apply wpPre_drop); rfl; intro K' hK'; go_simp; refine hK' _ _ ?_; intro f; clear hK' K') | (with_reducible refine wpPre_nil ?_) | ((with_reducible apply wpOp_list); rfl) | (with_reducible refine heldPair ?_ ?_) | ((with_reducible refine heldH_no ?_ ?_); rfl) | (with_reducible refine heldH_yes ?_ ?_) | (with_reducible exact heldH_nil) | (unfold YAt; go_simp; done) | (go_at_call 89; refine wid_any.mono ?_; rintro e w1 ⟨rfl, rfl⟩) | (go_at_call 105; refine (one_any HW0.out).mono ?_; rintro e w2 ⟨rfl, hb2⟩; obtain ⟨ex2, dx2, rfl⟩ := more_of hb2; clear hb2))
              go_roundg (5 - (4 + 1))
              case measure => have := HGK.out; omega
              case rel => exact ⟨4 + 1, by omega, by omega, rfl, HR.out, more_of (by repeat (first | (with_reducible exact Below.refl _ _) | (with_reducible exact bl_mm) | (with_reducible refine bl_dr ?_) | (with_reducible refine bl_drN ?_ _) | (with_reducible refine bl_al ?_ _) | (with_reducible refine bl_more ?_ _ _)))⟩
      · have hsz' : decide ((4 : Int) ≤ s.size) = false := by rw [decide_eq_false_iff_not]; omega
        have HZ := hid hsz
        clear hk hm hsz
        go_wp2_with (first | ((with_reducible refine wp_region_plan (id := 11) (.eff [(false, 0), (true, 2)] 1 [2] (.eff [(false, 3), (false, 4), (false, 5), (true, 7), (true, 8), (true, 9)] 6 [7, 8, 9] (.fin [(false, 10), (false, 11)]))) ?_ ?_ ?_ ?_ ?_ ?_); kernel_rfl; kernel_rfl; kernel_rfl; kernel_rfl; (intro c a d v w h; cases d <;> exact h)) | (with_reducible refine wpPlan_eff ?_) | (with_reducible refine wpPlan_fin ?_) | (with_reducible refine wpPlan_two ?_) | (with_reducible refine wpOpPair ?_ ?_) | ((with_reducible apply wpPre_keep); rfl; intro K' hK'; go_simp; refine hK' _ _ ?_; intro f hf; clear hK' K') | ((with_reducible apply wpPre_drop); rfl; intro K' hK'; go_simp; refine hK' _ _ ?_; intro f; clear hK' K') | (with_reducible refine wpPre_nil ?_) | ((with_reducible apply wpOp_list); rfl) | (with_reducible refine heldPair ?_ ?_) | ((with_reducible refine heldH_no ?_ ?_); rfl) | (with_reducible refine heldH_yes ?_ ?_) | (with_reducible exact heldH_nil) | (unfold YAt; go_simp; done))
        go_ret
        refine ⟨?_, (by repeat (first | (with_reducible exact Below.refl _ _) | (with_reducible exact bl_mm) | (with_reducible refine bl_dr ?_) | (with_reducible refine bl_drN ?_ _) | (with_reducible refine bl_al ?_ _) | (with_reducible refine bl_more ?_ _ _)))⟩
        rw [show firstF s 1 = _ from HF.out, firstF, dif_pos (by decide), if_neg HZ.out]
        rfl

end Go.Proofs.Ytidilpciolladaa

/- The document's first code point is the decoder's. -/
namespace Go.Proofs.Ytidilpciolladaa
open Go.RowKit

theorem get_all {t : ByteArray} {i : Nat} (h : i < t.size) : t.data.toList[i]? = some (t.get! i) := by
  have := get_drop (s := t) (i := i) (k := 0) (by omega)
  rw [List.getElem?_drop] at this
  exact this
theorem ex_eq {t : ByteArray} {n : Nat} (h : n ≤ t.size) {l : List UInt8} (hl : l.length = n) : (⟨l.toArray⟩ : ByteArray) = t.extract 0 n ↔ ∀ i, i < n → l[i]? = some (t.get! i) := by
  have he : (t.extract 0 n).data.toList = t.data.toList.take n := by
    rw [ByteArray.data_extract, Array.toList_extract]
    simp [List.extract]
  constructor
  · intro e i hi
    have e2 : l = (t.extract 0 n).data.toList := by rw [← e]
    rw [e2, he, List.getElem?_take, if_pos hi]
    exact get_all (by omega)
  · intro e
    apply ByteArray.ext
    apply Array.ext'
    rw [he]
    apply List.ext_getElem?
    intro i
    by_cases hi : i < n
    · rw [List.getElem?_take, if_pos hi]
      exact (e i hi).trans (get_all (t := t) (by omega)).symm
    · rw [List.getElem?_take, if_neg hi]
      exact List.getElem?_eq_none (by show l.length ≤ i; omega)
theorem b8_eq {x : Nat} {t : ByteArray} {i : Nat} : some (b8 x) = some (t.get! i) ↔ x % 256 = by_ t i := by
  rw [Option.some.injEq, ← UInt8.toNat_inj]
  simp [b8, by_]
theorem ok_1 {t : ByteArray} (h : 1 ≤ t.size) : okN t 1 = true ↔ by_ t 0 < 128 := by
  have hb := by_lt t 0
  unfold okN
  rw [Bool.and_eq_true, decide_eq_true_eq, decide_eq_true_eq]
  have hc : cand t 1 = by_ t 0 := rfl
  rw [hc]
  constructor
  · rintro ⟨h1, _⟩; exact wid_1 h1
  · intro h1
    have hw : wid (by_ t 0 : Int) = 1 := by unfold wid isB; simp; omega
    refine ⟨hw, ?_⟩
    unfold oneB
    rw [if_pos hw]
    refine (ex_eq (l := [b8 (by_ t 0)]) h rfl).2 (fun i hi => ?_)
    have : i = 0 := by omega
    subst this
    exact b8_eq.2 (by omega)
theorem wid_2 {c : Nat} (h : c < 2048) : wid (c : Int) = 2 ↔ 128 ≤ c := by
  unfold wid isB
  simp only [Bool.and_eq_true, Bool.or_eq_true, decide_eq_true_eq]
  (repeat' split) <;> omega
theorem wid_3 {c : Nat} (h : c < 65536) : wid (c : Int) = 3 ↔ 2048 ≤ c ∧ Utf8.valid c = true := by
  unfold wid isB Utf8.valid
  simp only [Bool.and_eq_true, Bool.or_eq_true, decide_eq_true_eq]
  (repeat' split) <;> omega
theorem wid_4 {c : Nat} : wid (c : Int) = 4 ↔ 65536 ≤ c ∧ Utf8.valid c = true := by
  unfold wid isB Utf8.valid
  simp only [Bool.and_eq_true, Bool.or_eq_true, decide_eq_true_eq]
  (repeat' split) <;> omega
theorem ok_2 {t : ByteArray} (h : 2 ≤ t.size) : okN t 2 = true ↔ by_ t 0 / 32 = 6 ∧ by_ t 1 / 64 = 2 ∧ 128 ≤ by_ t 0 % 32 * 64 + by_ t 1 % 64 := by
  have hb0 := by_lt t 0
  have hb1 := by_lt t 1
  unfold okN
  rw [Bool.and_eq_true, decide_eq_true_eq, decide_eq_true_eq]
  have hc : cand t 2 = 64 * (by_ t 0 % 32) + by_ t 1 % 64 := rfl
  obtain ⟨c, hcc⟩ : ∃ c, cand t 2 = c := ⟨_, rfl⟩
  rw [hcc] at hc ⊢
  have hw := wid_2 (c := c) (by omega)
  have ho : wid (c : Int) = 2 → (oneB c = t.extract 0 2 ↔ (192 + c / 64) % 256 = by_ t 0 ∧ (128 + c % 64) % 256 = by_ t 1) := by
    intro h2
    unfold oneB
    rw [if_neg (by omega), if_pos h2, ex_eq (l := b8 (192 + c / 64 ^ 1) :: tl c 1) h rfl]
    constructor
    · intro e
      have e0 := b8_eq.1 (e 0 (by decide))
      have e1 := b8_eq.1 (e 1 (by decide))
      rw [Nat.pow_zero, Nat.div_one] at e1
      rw [Nat.pow_one] at e0
      exact ⟨e0, e1⟩
    · rintro ⟨e0, e1⟩ i hi
      have : i = 0 ∨ i = 1 := by omega
      rcases this with rfl | rfl
      · exact b8_eq.2 (by rw [Nat.pow_one]; exact e0)
      · exact b8_eq.2 (by rw [Nat.pow_zero, Nat.div_one]; exact e1)
  constructor
  · rintro ⟨h1, h2⟩
    have := (ho h1).1 h2
    have := hw.1 h1
    omega
  · rintro ⟨h1, h2, h3⟩
    have h4 := hw.2 (by omega)
    exact ⟨h4, (ho h4).2 (by omega)⟩
theorem ok_3 {t : ByteArray} (h : 3 ≤ t.size) : okN t 3 = true ↔ by_ t 0 / 16 = 14 ∧ by_ t 1 / 64 = 2 ∧ by_ t 2 / 64 = 2 ∧ 2048 ≤ by_ t 0 % 16 * 4096 + by_ t 1 % 64 * 64 + by_ t 2 % 64 ∧ Utf8.valid (by_ t 0 % 16 * 4096 + by_ t 1 % 64 * 64 + by_ t 2 % 64 : Nat) = true := by
  have hb0 := by_lt t 0
  have hb1 := by_lt t 1
  have hb2 := by_lt t 2
  unfold okN
  rw [Bool.and_eq_true, decide_eq_true_eq, decide_eq_true_eq]
  have hc : cand t 3 = 64 * (64 * (by_ t 0 % 16) + by_ t 1 % 64) + by_ t 2 % 64 := rfl
  obtain ⟨c, hcc⟩ : ∃ c, cand t 3 = c := ⟨_, rfl⟩
  rw [hcc] at hc ⊢
  have hw := wid_3 (c := c) (by omega)
  have he : by_ t 0 % 16 * 4096 + by_ t 1 % 64 * 64 + by_ t 2 % 64 = c := by omega
  rw [he]
  have ho : wid (c : Int) = 3 → (oneB c = t.extract 0 3 ↔ (224 + c / 4096) % 256 = by_ t 0 ∧ (128 + c / 64 % 64) % 256 = by_ t 1 ∧ (128 + c % 64) % 256 = by_ t 2) := by
    intro h2
    unfold oneB
    rw [if_neg (by omega), if_neg (by omega), if_pos h2, ex_eq (l := b8 (224 + c / 64 ^ 2) :: tl c 2) h rfl]
    constructor
    · intro e
      have e0 := b8_eq.1 (e 0 (by decide))
      have e1 := b8_eq.1 (e 1 (by decide))
      have e2 := b8_eq.1 (e 2 (by decide))
      rw [Nat.pow_zero, Nat.div_one] at e2
      rw [Nat.pow_one] at e1
      exact ⟨e0, e1, e2⟩
    · rintro ⟨e0, e1, e2⟩ i hi
      have : i = 0 ∨ i = 1 ∨ i = 2 := by omega
      rcases this with rfl | rfl | rfl
      · exact b8_eq.2 e0
      · exact b8_eq.2 (by rw [Nat.pow_one]; exact e1)
      · exact b8_eq.2 (by rw [Nat.pow_zero, Nat.div_one]; exact e2)
  constructor
  · rintro ⟨h1, h2⟩
    have h3 := (ho h1).1 h2
    have h4 := hw.1 h1
    exact ⟨by omega, by omega, by omega, h4.1, h4.2⟩
  · rintro ⟨h1, h2, h3, h5, h6⟩
    have h4 := hw.2 ⟨h5, h6⟩
    exact ⟨h4, (ho h4).2 (by omega)⟩
theorem ok_4 {t : ByteArray} (h : 4 ≤ t.size) : okN t 4 = true ↔ by_ t 0 / 8 = 30 ∧ by_ t 1 / 64 = 2 ∧ by_ t 2 / 64 = 2 ∧ by_ t 3 / 64 = 2 ∧ 65536 ≤ by_ t 0 % 8 * 262144 + by_ t 1 % 64 * 4096 + by_ t 2 % 64 * 64 + by_ t 3 % 64 ∧ Utf8.valid (by_ t 0 % 8 * 262144 + by_ t 1 % 64 * 4096 + by_ t 2 % 64 * 64 + by_ t 3 % 64 : Nat) = true := by
  have hb0 := by_lt t 0
  have hb1 := by_lt t 1
  have hb2 := by_lt t 2
  have hb3 := by_lt t 3
  unfold okN
  rw [Bool.and_eq_true, decide_eq_true_eq, decide_eq_true_eq]
  have hc : cand t 4 = 64 * (64 * (64 * (by_ t 0 % 8) + by_ t 1 % 64) + by_ t 2 % 64) + by_ t 3 % 64 := rfl
  obtain ⟨c, hcc⟩ : ∃ c, cand t 4 = c := ⟨_, rfl⟩
  rw [hcc] at hc ⊢
  have hw := wid_4 (c := c)
  have he : by_ t 0 % 8 * 262144 + by_ t 1 % 64 * 4096 + by_ t 2 % 64 * 64 + by_ t 3 % 64 = c := by omega
  rw [he]
  have ho : wid (c : Int) = 4 → (oneB c = t.extract 0 4 ↔ (240 + c / 262144) % 256 = by_ t 0 ∧ (128 + c / 4096 % 64) % 256 = by_ t 1 ∧ (128 + c / 64 % 64) % 256 = by_ t 2 ∧ (128 + c % 64) % 256 = by_ t 3) := by
    intro h2
    unfold oneB
    rw [if_neg (by omega), if_neg (by omega), if_neg (by omega), ex_eq (l := b8 (240 + c / 64 ^ 3) :: tl c 3) h rfl]
    constructor
    · intro e
      have e0 := b8_eq.1 (e 0 (by decide))
      have e1 := b8_eq.1 (e 1 (by decide))
      have e2 := b8_eq.1 (e 2 (by decide))
      have e3 := b8_eq.1 (e 3 (by decide))
      rw [Nat.pow_zero, Nat.div_one] at e3
      rw [Nat.pow_one] at e2
      exact ⟨e0, e1, e2, e3⟩
    · rintro ⟨e0, e1, e2, e3⟩ i hi
      have : i = 0 ∨ i = 1 ∨ i = 2 ∨ i = 3 := by omega
      rcases this with rfl | rfl | rfl | rfl
      · exact b8_eq.2 e0
      · exact b8_eq.2 e1
      · exact b8_eq.2 (by rw [Nat.pow_one]; exact e2)
      · exact b8_eq.2 (by rw [Nat.pow_zero, Nat.div_one]; exact e3)
  constructor
  · rintro ⟨h1, h2⟩
    have h3 := (ho h1).1 h2
    have h4 := hw.1 h1
    exact ⟨by omega, by omega, by omega, by omega, h4.1, h4.2⟩
  · rintro ⟨h1, h2, h3, h5, h6, h7⟩
    have h4 := hw.2 ⟨h6, h7⟩
    exact ⟨h4, (ho h4).2 (by omega)⟩
theorem first_dec {t : ByteArray} (h : 1 ≤ t.size) : firstF t 1 = if bad t 0 = true then -1 else ((Utf8.decode t 0).1 : Int) := by
  have hb0 := by_lt t 0
  have c1 : cand t 1 = by_ t 0 := rfl
  have c2 : cand t 2 = by_ t 0 % 32 * 64 + by_ t 1 % 64 := by show 64 * (by_ t 0 % 32) + by_ t 1 % 64 = _; omega
  have c3 : cand t 3 = by_ t 0 % 16 * 4096 + by_ t 1 % 64 * 64 + by_ t 2 % 64 := by show 64 * (64 * (by_ t 0 % 16) + by_ t 1 % 64) + by_ t 2 % 64 = _; omega
  have c4 : cand t 4 = by_ t 0 % 8 * 262144 + by_ t 1 % 64 * 4096 + by_ t 2 % 64 * 64 + by_ t 3 % 64 := by show 64 * (64 * (64 * (by_ t 0 % 8) + by_ t 1 % 64) + by_ t 2 % 64) + by_ t 3 % 64 = _; omega
  have g : ∀ k, (t.get! k).toNat = by_ t k := fun _ => rfl
  unfold bad Utf8.decode
  simp only [g, Utf8.runeError, Bool.and_eq_true, decide_eq_true_eq, beq_iff_eq, Nat.zero_add, ge_iff_le]
  rw [firstF, dif_pos (by decide), if_pos h, firstF, dif_pos (by decide), firstF, dif_pos (by decide), firstF, dif_pos (by decide), firstF, dif_neg (by decide)]
  simp only [Nat.reduceAdd]
  by_cases k1 : by_ t 0 < 128
  · rw [if_pos ((ok_1 h).2 k1), if_pos k1, if_neg (by intro e; have := congrArg Prod.fst e; simp at this; omega), c1]
  · rw [if_neg (fun e => k1 ((ok_1 h).1 e)), if_neg k1]
    by_cases s2 : 2 ≤ t.size
    · rw [if_pos s2]
      by_cases k2 : by_ t 0 / 32 = 6 ∧ 1 < t.size ∧ by_ t 1 / 64 = 2
      · rw [if_pos k2]
        by_cases k3 : 128 ≤ by_ t 0 % 32 * 64 + by_ t 1 % 64
        · rw [if_pos ((ok_2 s2).2 ⟨k2.1, k2.2.2, k3⟩), if_pos k3, if_neg (by intro e; have := congrArg Prod.snd e; simp at this), c2]
        · have n2 : ¬ okN t 2 = true := fun e => k3 ((ok_2 s2).1 e).2.2
          rw [if_neg n2, if_neg k3, if_pos rfl]
          by_cases s3 : 3 ≤ t.size
          · have n3 : ¬ okN t 3 = true := fun e => by have := ((ok_3 s3).1 e).1; omega
            rw [if_pos s3, if_neg n3]
            by_cases s4 : 4 ≤ t.size
            · have n4 : ¬ okN t 4 = true := fun e => by have := ((ok_4 s4).1 e).1; omega
              rw [if_pos s4, if_neg n4]
            · rw [if_neg s4]
          · rw [if_neg s3]
      · have n2 : ¬ okN t 2 = true := fun e => k2 ⟨((ok_2 s2).1 e).1, s2, ((ok_2 s2).1 e).2.1⟩
        rw [if_neg k2, if_neg n2]
        by_cases s3 : 3 ≤ t.size
        · rw [if_pos s3]
          by_cases k3 : (by_ t 0 / 16 = 14 ∧ 1 < t.size ∧ by_ t 1 / 64 = 2) ∧ 2 < t.size ∧ by_ t 2 / 64 = 2
          · rw [if_pos k3]
            by_cases k4 : 2048 ≤ by_ t 0 % 16 * 4096 + by_ t 1 % 64 * 64 + by_ t 2 % 64 ∧ Utf8.valid (by_ t 0 % 16 * 4096 + by_ t 1 % 64 * 64 + by_ t 2 % 64 : Nat) = true
            · rw [if_pos ((ok_3 s3).2 ⟨k3.1.1, k3.1.2.2, k3.2.2, k4.1, k4.2⟩), if_pos k4, if_neg (by intro e; have := congrArg Prod.snd e; simp at this), c3]
            · have n3 : ¬ okN t 3 = true := fun e => k4 ((ok_3 s3).1 e).2.2.2
              rw [if_neg n3, if_neg k4, if_pos rfl]
              by_cases s4 : 4 ≤ t.size
              · have n4 : ¬ okN t 4 = true := fun e => by have := ((ok_4 s4).1 e).1; omega
                rw [if_pos s4, if_neg n4]
              · rw [if_neg s4]
          · have n3 : ¬ okN t 3 = true := fun e => k3 ⟨⟨((ok_3 s3).1 e).1, s2, ((ok_3 s3).1 e).2.1⟩, s3, ((ok_3 s3).1 e).2.2.1⟩
            rw [if_neg k3, if_neg n3]
            by_cases s4 : 4 ≤ t.size
            · rw [if_pos s4]
              by_cases k5 : ((by_ t 0 / 8 = 30 ∧ 1 < t.size ∧ by_ t 1 / 64 = 2) ∧ 2 < t.size ∧ by_ t 2 / 64 = 2) ∧ 3 < t.size ∧ by_ t 3 / 64 = 2
              · rw [if_pos k5]
                by_cases k6 : 65536 ≤ by_ t 0 % 8 * 262144 + by_ t 1 % 64 * 4096 + by_ t 2 % 64 * 64 + by_ t 3 % 64 ∧ Utf8.valid (by_ t 0 % 8 * 262144 + by_ t 1 % 64 * 4096 + by_ t 2 % 64 * 64 + by_ t 3 % 64 : Nat) = true
                · rw [if_pos ((ok_4 s4).2 ⟨k5.1.1.1, k5.1.1.2.2, k5.1.2.2, k5.2.2, k6.1, k6.2⟩), if_pos k6, if_neg (by intro e; have := congrArg Prod.snd e; simp at this), c4]
                · have n4 : ¬ okN t 4 = true := fun e => k6 ((ok_4 s4).1 e).2.2.2.2
                  rw [if_neg n4, if_neg k6, if_pos rfl]
              · have n4 : ¬ okN t 4 = true := fun e => k5 ⟨⟨⟨((ok_4 s4).1 e).1, s2, ((ok_4 s4).1 e).2.1⟩, s3, ((ok_4 s4).1 e).2.2.1⟩, s4, ((ok_4 s4).1 e).2.2.2.1⟩
                rw [if_neg k5, if_neg n4, if_pos rfl]
            · rw [if_neg s4, if_neg (show ¬ (((by_ t 0 / 8 = 30 ∧ 1 < t.size ∧ by_ t 1 / 64 = 2) ∧ 2 < t.size ∧ by_ t 2 / 64 = 2) ∧ 3 < t.size ∧ by_ t 3 / 64 = 2) by omega), if_pos rfl]
        · rw [if_neg s3, if_neg (show ¬ ((by_ t 0 / 16 = 14 ∧ 1 < t.size ∧ by_ t 1 / 64 = 2) ∧ 2 < t.size ∧ by_ t 2 / 64 = 2) by omega), if_neg (show ¬ (((by_ t 0 / 8 = 30 ∧ 1 < t.size ∧ by_ t 1 / 64 = 2) ∧ 2 < t.size ∧ by_ t 2 / 64 = 2) ∧ 3 < t.size ∧ by_ t 3 / 64 = 2) by omega), if_pos rfl]
    · rw [if_neg s2, if_neg (show ¬ (by_ t 0 / 32 = 6 ∧ 1 < t.size ∧ by_ t 1 / 64 = 2) by omega), if_neg (show ¬ ((by_ t 0 / 16 = 14 ∧ 1 < t.size ∧ by_ t 1 / 64 = 2) ∧ 2 < t.size ∧ by_ t 2 / 64 = 2) by omega), if_neg (show ¬ (((by_ t 0 / 8 = 30 ∧ 1 < t.size ∧ by_ t 1 / 64 = 2) ∧ 2 < t.size ∧ by_ t 2 / 64 = 2) ∧ 3 < t.size ∧ by_ t 3 / 64 = 2) by omega), if_pos rfl]
theorem wid_dec {s : ByteArray} {i : Nat} (hb : bad s i = false) : wid ((Utf8.decode s i).1 : Int) = (Utf8.decode s i).2 := by
  have hb := decide_eq_false_iff_not.1 hb
  have b0 := (s.get! (i + 0)).toNat_lt
  have b1 := (s.get! (i + 1)).toNat_lt
  have b2 := (s.get! (i + 2)).toNat_lt
  have w1 : ∀ n : Nat, n < 128 → wid (n : Int) = 1 := fun n h => by unfold wid isB; simp; omega
  unfold Utf8.decode at hb ⊢
  simp only [Utf8.runeError] at hb ⊢
  split at hb
  · rename_i c0; rw [if_pos c0]; exact w1 _ c0
  · rename_i c0; rw [if_neg c0]
    split at hb
    · rename_i c1; rw [if_pos c1]
      split at hb
      · rename_i c2; rw [if_pos c2]; exact (wid_2 (by omega)).2 c2
      · exact absurd rfl hb
    · rename_i c1; rw [if_neg c1]
      split at hb
      · rename_i c2; rw [if_pos c2]
        split at hb
        · rename_i c3; rw [if_pos c3]
          have c3 := Bool.and_eq_true_iff.1 c3
          exact (wid_3 (by omega)).2 ⟨of_decide_eq_true c3.1, c3.2⟩
        · exact absurd rfl hb
      · rename_i c2; rw [if_neg c2]
        split at hb
        · rename_i c3; rw [if_pos c3]
          split at hb
          · rename_i c4; rw [if_pos c4]
            have c4 := Bool.and_eq_true_iff.1 c4
            exact wid_4.2 ⟨of_decide_eq_true c4.1, c4.2⟩
          · exact absurd rfl hb
        · exact absurd rfl hb
end Go.Proofs.Ytidilpciolladaa

/- The document's reading of a text. -/
namespace Go.Proofs.Ytidilpciolladaa
open Go.RowKit

theorem by_ext {s : ByteArray} {a b j : Nat} (hb : b ≤ s.size) (h : a + j < b ∨ b = s.size) : by_ (s.extract a b) j = by_ s (a + j) := by
  have he : (s.extract a b).data.toList = (s.data.toList.take b).drop a := by
    rw [ByteArray.data_extract, Array.toList_extract]
    simp [List.extract, List.drop_take]
  have hg : ∀ (t : ByteArray) (i : Nat), t.get! i = (t.data.toList[i]?).getD default := by
    intro t i
    simp only [ByteArray.get!, Array.getElem!_eq_getD, Array.getD]
    split
    · rename_i h
      rw [Array.getElem?_toList, Array.getElem?_eq_getElem h]
      rfl
    · rename_i h
      rw [Array.getElem?_toList, Array.getElem?_eq_none (by omega)]
      rfl
  unfold by_
  rw [hg, hg, he, List.getElem?_drop, List.getElem?_take]
  split
  · rfl
  · rename_i h1
    rw [Array.getElem?_toList, Array.getElem?_eq_none (by have : s.data.size = s.size := rfl; omega)]
theorem dec_ext {s : ByteArray} {a b i : Nat} (hb : b ≤ s.size) (h : a + i + 4 ≤ b ∨ b = s.size) : Utf8.decode (s.extract a b) i = Utf8.decode s (a + i) := by
  have hsz : (s.extract a b).size = b - a := by rw [ByteArray.size_extract]; omega
  have g : ∀ k, k < 4 → ((s.extract a b).get! (i + k)).toNat = (s.get! (a + i + k)).toNat := fun k hk => by
    have := by_ext (a := a) (j := i + k) hb (by omega)
    rw [← Nat.add_assoc] at this
    exact this
  have k1 : ∀ k, k < 4 → decide (i + k < (s.extract a b).size) = decide (a + i + k < s.size) := fun k hk => by rw [hsz]; exact decide_eq_decide.2 (by omega)
  unfold Utf8.decode
  simp only [g 0 (by decide), g 1 (by decide), g 2 (by decide), g 3 (by decide), k1 1 (by decide), k1 2 (by decide), k1 3 (by decide)]
theorem bad_ext {s : ByteArray} {a b i : Nat} (hb : b ≤ s.size) (h : a + i + 4 ≤ b ∨ b = s.size) : bad (s.extract a b) i = bad s (a + i) := by
  unfold bad
  rw [dec_ext hb h]
/-- The code points of a text from p on, up to the first bad byte. -/
def rdL (s : ByteArray) (p : Nat) : List Int :=
  if _h : p < s.size then (if bad s p = true then [] else ((Utf8.decode s p).1 : Int) :: rdL s (p + max 1 (Utf8.decode s p).2)) else []
termination_by s.size - p
decreasing_by omega
theorem rdL_end {s : ByteArray} {p : Nat} (h : ¬ p < s.size) : rdL s p = [] := by rw [rdL, dif_neg h]
theorem rdL_bad {s : ByteArray} {p : Nat} (h : bad s p = true) : rdL s p = [] := by
  rw [rdL]
  split
  · simp [h]
  · rfl
theorem rdL_next {s : ByteArray} {p : Nat} (h : p < s.size) (hb : bad s p = false) : rdL s p = ((Utf8.decode s p).1 : Int) :: rdL s (p + (Utf8.decode s p).2) := by
  rw [rdL, dif_pos h, if_neg (by rw [hb]; decide), Nat.max_eq_right (width_pos s p)]
theorem info3 : (Try.prog.info? 3).map (fun i => (i.zero, i.size, i.bytes)) = some (some (.int .i64 0), 1, 8) := by kernel_rfl
theorem app63 {K : Nat → Prop} {g : Nat} {w : World} {v x : Value} {xs ys : List Int} (h : intE.Spine 3 K g w v xs) (hy : intE.Src K w x ys) (hKg : ∀ b, K b → b < w.heap.size → b ≠ g) (hlen : xs.length + ys.length ≤ 4294967296) :
    ∃ v' w' g', (Builtin.append_ #[115, 115] 115 #[v, x]).run Try.prog w = .ok v' w' ∧ intE.Spine 3 (fun b => K b ∧ b < w.heap.size) g' w' v' (xs ++ ys) ∧ Ext (fun b => b = g ∧ capOf v ≠ 0) w w' ∧ Grew g w w' v v' g' := by
  obtain ⟨i0, hi, hz0, hz1, hz2⟩ := info_parts info3
  exact h.append 115 115 115 i0 _ Try.underlying115 ⟨_, Try.underlying115⟩ hi hz0 hz1 rfl (by decide) hy hKg hlen (by rw [hz2]; decide)
theorem wpList_app63 {w : World} {ops : Array Oper} {rest : List Oper} {o : Oper} {a : Act} {Q : Exit → Act → World → Prop} {K : Nat → Prop} {g : Nat} {xs ys : List Int} {v x : Value}
    (hg : o.guard = none) (s x' : Operand) (hop : o.op = Op.call { callee := Callee.builtin Builtin.append, args := #[s, x'], argTypes := #[115, 115] }) (hty : o.type = 115)
    (hv : a.eval s = v) (hx : a.eval x' = x) (hs : intE.Spine 3 K g w v xs) (hy : intE.Src K w x ys) (hKg : ∀ b, K b → b < w.heap.size → b ≠ g) (hlen : xs.length + ys.length ≤ 4294967296)
    (h : ∀ v' w' g', intE.Spine 3 (fun b => K b ∧ b < w.heap.size) g' w' v' (xs ++ ys) → Ext (fun b => b = g ∧ capOf v ≠ 0) w w' → Grew g w w' v v' g' → wpList Try.prog ops Q rest (a.put o.dst v') w') :
    wpList Try.prog ops Q (o :: rest) a w := by
  subst hv; subst hx
  obtain ⟨v', w', g', hrun, h1, h2, h3⟩ := app63 hs hy hKg hlen
  exact wpList_append_run hg s x' 115 115 hop (by rw [hty]; exact hrun) (h v' w' g' h1 h2 h3)
/-- A row of numbers that was made from block N on. -/
structure Nums (N : Nat) (w0 w : World) (g : Nat) (v : Value) (xs : List Int) : Prop where
  sp : intE.Spine 3 No g w v xs
  gN : N ≤ g
  size : N ≤ w.heap.size
  low : Below N w0 w
theorem Nums.below {N : Nat} {w0 w w' : World} {g : Nat} {v : Value} {xs : List Int} (h : Nums N w0 w g v xs) (hb : Below w.heap.size w w') : Nums N w0 w' g v xs :=
  ⟨h.sp.step (fun _ hc => (hb.block g (Array.getElem?_eq_some_iff.1 hc).1).trans hc) (fun _ hk _ => hk.elim), h.gN, Nat.le_trans h.size hb.size, h.low.trans (hb.mono h.size)⟩
theorem Nums.grown {N : Nat} {w0 w w2 : World} {g g2 : Nat} {v v2 : Value} {xs ys : List Int} {K : Nat → Prop} (h : Nums N w0 w g v xs) (hs : intE.Spine 3 K g2 w2 v2 ys) (hK : ∀ b, ¬ K b) (he : Ext (fun b => b = g ∧ capOf v ≠ 0) w w2) (hg : Grew g w w2 v v2 g2) : Nums N w0 w2 g2 v2 ys := by
  have h1 := h.gN
  refine ⟨hs.step (fun _ hc => hc) (fun b hb _ => (hK b hb).elim), by have := h.size; rcases hg.two with e | e <;> omega, Nat.le_trans h.size he.size, h.low.trans (he.toBelow h.size (fun x hx e => by omega))⟩
set_option maxRecDepth 20000 in
set_option maxHeartbeats 4000000 in
theorem read_any {w : World} {s : ByteArray} (hz : s.size ≤ 65536) : Calls Try.prog 88 #[.string s] w fun e w' => ∃ v g, e = .returned (.tuple #[v, .int .i64 (badI (badAt s 0))]) ∧ Nums w.heap.size w w' g v (rdL s 0) := by
  have HZ := hid hz
  have hz' : (s.size : Int) ≤ 65536 := by omega
  clear hz
  go_enter Try.func88, Try.ntmps88
  go_wp2
  go_loopg [4, 5] (s.size + 1) (fun k vo vp wr => ∃ (p g : Nat) (xs : List Int), p + k = s.size + 1 ∧ p ≤ s.size ∧ vp = .int .i64 (p : Int) ∧ rdL s 0 = xs ++ rdL s p ∧ badAt s 0 = badAt s p ∧ xs.length ≤ p ∧ Nums w.heap.size w wr g vo xs)
  case atStart => exact ⟨0, w.heap.size, [], by omega, by omega, rfl, rfl, rfl, by simp, ⟨Enc.Spine.nil _ _ _ _ _, Nat.le_refl _, Nat.le_refl _, Below.refl _ _⟩⟩
  case round =>
    obtain ⟨p, g, xs, hk, hps, rfl, hr, hb, hx, hn⟩ := hrel
    obtain ⟨A, cp, rfl, hf1, hf2⟩ := hn.sp.form
    have HK := hid hk
    have HPS := hid hps
    have HR := hid hr
    have HB := hid hb
    have HX := hid hx
    have HNU := hid hn
    clear hk hps hr hb hx hn hf1 hf2
    by_cases hp : p < s.size
    · have hp1 : (p : Int) < s.size := by omega
      have hp2 : (p : Int) ≤ s.size := by omega
      have hp0 : (0 : Int) ≤ p := by omega
      have HP := hid hp
      have hes : (s.extract p s.size).size = s.size - p := by rw [ByteArray.size_extract]; omega
      have HFS : Hid (1 ≤ (s.extract p s.size).size) := hid (by omega)
      have hfd := first_dec HFS.out
      rw [dec_ext (Nat.le_refl _) (.inr rfl), bad_ext (Nat.le_refl _) (.inr rfl), Nat.add_zero] at hfd
      clear hes
      cases hbd : bad s p with
      | true =>
        rw [hbd, if_pos rfl] at hfd
        have HFV := hid hfd
        have HBD := hid hbd
        clear hfd hbd hp
        go_wp2_with (first | (go_at_call 98; refine (first_any HFS.out).mono ?_; rintro e w1 ⟨rfl, hb1⟩; rw [HFV.out]; obtain ⟨ex1, dx1, rfl⟩ := more_of hb1; clear hb1))
        go_ret2
        refine ⟨.slice A xs.length cp, g, ?_, ?_⟩
        · rw [HB.out, badAt_here HP.out HBD.out]; rfl
        · rw [HR.out, rdL_bad HBD.out, List.append_nil]
          exact HNU.out.below (by repeat (first | (with_reducible exact Below.refl _ _) | (with_reducible exact bl_mm) | (with_reducible refine bl_dr ?_) | (with_reducible refine bl_drN ?_ _) | (with_reducible refine bl_al ?_ _) | (with_reducible refine bl_more ?_ _ _)))
      | false =>
        rw [hbd, if_neg (by decide)] at hfd
        have hdo := decode_ok s p
        have HWD := hid (wid_dec hbd)
        have HBD := hid hbd
        obtain ⟨c, hc⟩ : ∃ c : Int, ((Utf8.decode s p).1 : Int) = c := ⟨_, rfl⟩
        rw [hc] at hfd hdo HWD
        have HC := hid hc
        have hc0 : (c < 0) = False := eq_false (by have := hdo.1; omega)
        have HFV := hid hfd
        clear hfd hbd hp hdo hc
        go_wp2_with (first | (go_at_call 98; refine (first_any HFS.out).mono ?_; rintro e w1 ⟨rfl, hb1⟩; rw [HFV.out]; obtain ⟨ex1, dx1, rfl⟩ := more_of hb1; clear hb1) | (at_builtin; refine wpList_app63 (ys := [c]) (by rfl) (.tmp 19) (.tmp 21) (by rfl) (by rfl) (by rfl) (by rfl) (HNU.out.below (by repeat (first | (with_reducible exact Below.refl _ _) | (with_reducible exact bl_mm) | (with_reducible refine bl_dr ?_) | (with_reducible refine bl_drN ?_ _) | (with_reducible refine bl_al ?_ _) | (with_reducible refine bl_more ?_ _ _)))).sp (Enc.Src.one_blk (cs := [.int .i64 c]) (alloc_blk (by simp [more_size])) rfl) (fun _ h _ => h.elim) (by have := HX.out; have := HPS.out; have := HZ.out; simp; omega) ?_; intro v2 w2 g2 hs2 he2 hg2; obtain ⟨A2, c2, rfl, _, _⟩ := hs2.form; have HS2 := hid hs2; have HE2 := hid he2; have HG2 := hid hg2; clear hs2 hg2 he2) | (go_at_call 89; refine wid_any.mono ?_; rintro e w3 ⟨rfl, rfl⟩; rw [HWD.out]))
        go_roundg (s.size + 1 - (p + (Utf8.decode s p).2))
        case measure => have := HK.out; have := HP.out; have := width_pos s p; have := width_le HP.out; omega
        case rel =>
          have h1 := width_le HP.out
          have h2 := width_pos s p
          have h3 := HZ.out
          refine ⟨p + (Utf8.decode s p).2, g2, xs ++ [c], by omega, h1, ?_, ?_, ?_, by have := HX.out; simp; omega, ?_⟩
          · have : wrap64 ((p : Int) + ((Utf8.decode s p).2 : Int)) = ((p + (Utf8.decode s p).2 : Nat) : Int) := by rw [wrap64]; omega
            rw [this]
          · rw [HR.out, rdL_next HP.out HBD.out, HC.out, List.append_assoc]; rfl
          · rw [HB.out]; exact badAt_next HP.out HBD.out
          · exact (HNU.out.below (by repeat (first | (with_reducible exact Below.refl _ _) | (with_reducible exact bl_mm) | (with_reducible refine bl_dr ?_) | (with_reducible refine bl_drN ?_ _) | (with_reducible refine bl_al ?_ _) | (with_reducible refine bl_more ?_ _ _)))).grown (K := fun b => No b ∧ b < ((more wr ex1 dx1).alloc (Obj.cells #[Value.int IntKind.i64 c] 3)).heap.size) (by have h := HS2.out; rw [List.length_append] at h; exact h) (fun _ h => h.1) HE2.out HG2.out
    · have hp1 : ¬ (p : Int) < s.size := by omega
      have HP := hid hp
      clear hp
      go_wp2
      go_ret2
      refine ⟨.slice A xs.length cp, ?_, g, ?_⟩
      · rw [HB.out, badAt_end HP.out]; rfl
      rw [HR.out, rdL_end HP.out, List.append_nil]
      exact HNU.out
end Go.Proofs.Ytidilpciolladaa

/- The document's point. -/
namespace Go.Proofs.Ytidilpciolladaa
open Go.RowKit

def decB (b0 b1 b2 b3 : Nat) (h1 h2 h3 : Bool) : Nat × Nat :=
  if b0 < 128 then (b0, 1)
  else if (b0 / 32 == 6 && (h1 && b1 / 64 == 2)) = true then (if b0 % 32 * 64 + b1 % 64 ≥ 128 then (b0 % 32 * 64 + b1 % 64, 2) else (65533, 1))
  else if (b0 / 16 == 14 && (h1 && b1 / 64 == 2) && (h2 && b2 / 64 == 2)) = true then (if (decide (b0 % 16 * 4096 + b1 % 64 * 64 + b2 % 64 ≥ 2048) && Utf8.valid ((b0 % 16 * 4096 + b1 % 64 * 64 + b2 % 64 : Nat) : Int)) = true then (b0 % 16 * 4096 + b1 % 64 * 64 + b2 % 64, 3) else (65533, 1))
  else if (b0 / 8 == 30 && (h1 && b1 / 64 == 2) && (h2 && b2 / 64 == 2) && (h3 && b3 / 64 == 2)) = true then (if (decide (b0 % 8 * 262144 + b1 % 64 * 4096 + b2 % 64 * 64 + b3 % 64 ≥ 65536) && Utf8.valid ((b0 % 8 * 262144 + b1 % 64 * 4096 + b2 % 64 * 64 + b3 % 64 : Nat) : Int)) = true then (b0 % 8 * 262144 + b1 % 64 * 4096 + b2 % 64 * 64 + b3 % 64, 4) else (65533, 1))
  else (65533, 1)
theorem dec_decB (s : ByteArray) (i : Nat) : Utf8.decode s i = decB (by_ s i) (by_ s (i + 1)) (by_ s (i + 2)) (by_ s (i + 3)) (decide (i + 1 < s.size)) (decide (i + 2 < s.size)) (decide (i + 3 < s.size)) := rfl
theorem decB_cut {b0 b1 b2 b3 c0 c1 c2 c3 n : Nat} {h1 h2 h3 : Bool} {D : Nat × Nat} (hD : decB b0 b1 b2 b3 h1 h2 h3 = D) (hb : D ≠ (65533, 1)) (hn : D.2 = n) (g0 : c0 = b0) (g1 : 1 < n → c1 = b1) (g2 : 2 < n → c2 = b2) (g3 : 3 < n → c3 = b3) : decB c0 c1 c2 c3 (decide (1 < n)) (decide (2 < n)) (decide (3 < n)) = D := by
  subst g0
  unfold decB at hD
  split at hD
  · rename_i k0
    unfold decB
    rw [if_pos k0]; exact hD
  · rename_i k0
    split at hD
    · rename_i k1
      split at hD
      · rename_i k2
        subst hD
        have hn : 2 = n := hn
        subst hn
        obtain rfl := g1 (by decide)
        simp only [Bool.and_eq_true, beq_iff_eq] at k1
        unfold decB
        rw [if_neg k0, if_pos (by simp only [Bool.and_eq_true, beq_iff_eq, decide_eq_true_eq]; omega), if_pos k2]
      · exact absurd hD.symm hb
    · rename_i k1
      split at hD
      · rename_i k2
        split at hD
        · rename_i k3
          subst hD
          have hn : 3 = n := hn
          subst hn
          obtain rfl := g1 (by decide)
          obtain rfl := g2 (by decide)
          simp only [Bool.and_eq_true, beq_iff_eq] at k1 k2
          unfold decB
          rw [if_neg k0, if_neg (by simp only [Bool.and_eq_true, beq_iff_eq, decide_eq_true_eq]; omega), if_pos (by simp only [Bool.and_eq_true, beq_iff_eq, decide_eq_true_eq]; omega), if_pos k3]
        · exact absurd hD.symm hb
      · rename_i k2
        split at hD
        · rename_i k3
          split at hD
          · rename_i k4
            subst hD
            have hn : 4 = n := hn
            subst hn
            obtain rfl := g1 (by decide)
            obtain rfl := g2 (by decide)
            obtain rfl := g3 (by decide)
            simp only [Bool.and_eq_true, beq_iff_eq] at k1 k2 k3
            unfold decB
            rw [if_neg k0, if_neg (by simp only [Bool.and_eq_true, beq_iff_eq, decide_eq_true_eq]; omega), if_neg (by simp only [Bool.and_eq_true, beq_iff_eq, decide_eq_true_eq]; omega), if_pos (by simp only [Bool.and_eq_true, beq_iff_eq, decide_eq_true_eq]; omega), if_pos k4]
          · exact absurd hD.symm hb
        · exact absurd hD.symm hb
theorem dec_cut {s : ByteArray} {a : Nat} (ha : a < s.size) (hb : bad s a = false) : Utf8.decode (s.extract a (a + (Utf8.decode s a).2)) 0 = Utf8.decode s a := by
  have hle := width_le ha
  have hsz : (s.extract a (a + (Utf8.decode s a).2)).size = (Utf8.decode s a).2 := by rw [ByteArray.size_extract]; omega
  have hb := decide_eq_false_iff_not.1 hb
  have hw := width_pos s a
  rw [dec_decB (s.extract a _) 0, hsz]
  simp only [Nat.zero_add]
  exact decB_cut (dec_decB s a).symm hb rfl (by_ext hle (.inl (by omega))) (fun h => by_ext hle (.inl (by omega))) (fun h => by_ext hle (.inl (by omega))) (fun h => by_ext hle (.inl (by omega)))
/-- How long the first code point is; 0: there is none. -/
def cutW (s : ByteArray) : Nat := if s.size = 0 then 0 else if bad s 0 = true then 0 else (Utf8.decode s 0).2
theorem cutW_le (s : ByteArray) : cutW s ≤ s.size := by
  unfold cutW
  split
  · omega
  · split
    · omega
    · have := width_le (s := s) (i := 0) (by omega); omega
theorem Nums.cell {N : Nat} {w0 w : World} {g n c : Nat} {A : Option Addr} {x : Int} {xs : List Int} (h : Nums N w0 w g (.slice A n c) (x :: xs)) : ∃ b off, A = some ⟨b, off, none⟩ ∧ b < w.heap.size ∧ w.cell? ⟨b, off, none⟩ = some (.int .i64 x) := by
  have hr := h.sp.row (K' := fun _ => True) (fun _ _ _ => trivial) trivial
  obtain ⟨b, off, cs, e, _, hl, h1, h2⟩ := hr.get 0 (by simp)
  refine ⟨b, off, e, hl, ?_⟩
  have h1 : cs = [.int .i64 x] := h1
  have := h2 0 (.int .i64 x) (by rw [h1]; rfl)
  simpa using this
set_option maxRecDepth 20000 in
set_option maxHeartbeats 4000000 in
theorem cut_any {w : World} {s : ByteArray} (hz : s.size ≤ 65536) : Calls Try.prog 72 #[.string s, .int .i64 1] w fun e w' => e = .returned (.tuple #[.string (s.extract 0 (cutW s)), .string (s.extract (cutW s) s.size)]) ∧ Below w.heap.size w w' := by
  have HZ := hid hz
  by_cases h : s.size = 0 ∨ bad s 0 = true
  · have hl : rdL s 0 = [] := by
      rcases h with h | h
      · exact rdL_end (by omega)
      · exact rdL_bad h
    have hc : cutW s = 0 := by
      unfold cutW
      split
      · rfl
      · rw [if_pos (h.resolve_left (by assumption))]
    rw [hc]
    have hz' : (0 : Int) ≤ s.size := by omega
    have HL := hid hl
    clear hl hc hz h
    go_enter Try.func72, Try.ntmps72
    go_wp2_with (first | ((with_reducible refine wp_region_plan (id := 7) (.fin [(false, 0), (false, 1), (false, 2), (false, 3), (false, 4), (false, 5), (false, 6), (false, 7)]) ?_ ?_ ?_ ?_ ?_ ?_); kernel_rfl; kernel_rfl; kernel_rfl; kernel_rfl; (intro c a d v w h; cases d <;> exact h)) | (with_reducible refine wpPlan_eff ?_) | (with_reducible refine wpPlan_fin ?_) | (with_reducible refine wpPlan_two ?_) | (with_reducible refine wpOpPair ?_ ?_) | ((with_reducible apply wpPre_keep); rfl; intro K' hK'; go_simp; refine hK' _ _ ?_; intro f hf; clear hK' K') | ((with_reducible apply wpPre_drop); rfl; intro K' hK'; go_simp; refine hK' _ _ ?_; intro f; clear hK' K') | (with_reducible refine wpPre_nil ?_) | ((with_reducible apply wpOp_list); rfl) | (with_reducible refine heldPair ?_ ?_) | ((with_reducible refine heldH_no ?_ ?_); rfl) | (with_reducible refine heldH_yes ?_ ?_) | (with_reducible exact heldH_nil) | (unfold YAt; go_simp; done) | (go_at_call 88; refine (read_any HZ.out).mono ?_; rintro e w1 ⟨v1, g1, rfl, hn1⟩; obtain ⟨A1, c1, rfl, _, _⟩ := hn1.sp.form; have HN1 := hid hn1; have hlow := hn1.low; clear hn1; obtain ⟨ex1, dx1, rfl⟩ := more_of hlow; clear hlow; rw [HL.out] at HN1 ⊢))
    go_loopg [8, 9] 1 (fun k va vi wr => va = .int .i64 0 ∧ vi = .int .i64 0 ∧ wr = more w ex1 dx1)
    case atStart => exact ⟨rfl, rfl, rfl⟩
    case round =>
      obtain ⟨rfl, rfl, rfl⟩ := hrel
      go_wp2_with (first | ((with_reducible refine wp_region_plan (id := 7) (.fin [(false, 0), (false, 1), (false, 2), (false, 3), (false, 4), (false, 5), (false, 6), (false, 7)]) ?_ ?_ ?_ ?_ ?_ ?_); kernel_rfl; kernel_rfl; kernel_rfl; kernel_rfl; (intro c a d v w h; cases d <;> exact h)) | (with_reducible refine wpPlan_eff ?_) | (with_reducible refine wpPlan_fin ?_) | (with_reducible refine wpPlan_two ?_) | (with_reducible refine wpOpPair ?_ ?_) | ((with_reducible apply wpPre_keep); rfl; intro K' hK'; go_simp; refine hK' _ _ ?_; intro f hf; clear hK' K') | ((with_reducible apply wpPre_drop); rfl; intro K' hK'; go_simp; refine hK' _ _ ?_; intro f; clear hK' K') | (with_reducible refine wpPre_nil ?_) | ((with_reducible apply wpOp_list); rfl) | (with_reducible refine heldPair ?_ ?_) | ((with_reducible refine heldH_no ?_ ?_); rfl) | (with_reducible refine heldH_yes ?_ ?_) | (with_reducible exact heldH_nil) | (unfold YAt; go_simp; done) | (go_at_call 88; refine (read_any HZ.out).mono ?_; rintro e w1 ⟨v1, g1, rfl, hn1⟩; obtain ⟨A1, c1, rfl, _, _⟩ := hn1.sp.form; have HN1 := hid hn1; have hlow := hn1.low; clear hn1; obtain ⟨ex1, dx1, rfl⟩ := more_of hlow; clear hlow; rw [HL.out] at HN1 ⊢))
      go_ret2
      refine ⟨?_, (by repeat (first | (with_reducible exact Below.refl _ _) | (with_reducible exact bl_mm) | (with_reducible refine bl_dr ?_) | (with_reducible refine bl_drN ?_ _) | (with_reducible refine bl_al ?_ _) | (with_reducible refine bl_more ?_ _ _)))⟩
      rw [ByteArray.extract_zero_size, show s.extract 0 0 = ByteArray.empty by simp]
      rfl
  · have hn : 0 < s.size := by omega
    have hb : bad s 0 = false := by
      cases hbd : bad s 0 with
      | true => exact absurd (.inr hbd) h
      | false => rfl
    have hl := rdL_next hn hb
    have hc : cutW s = (Utf8.decode s 0).2 := by
      unfold cutW
      rw [if_neg (by omega), if_neg (by rw [hb]; decide)]
    have hwl := cutW_le s
    have hwd := wid_dec hb
    rw [← hc] at hl hwd
    rw [Nat.zero_add] at hl
    obtain ⟨c, hcc⟩ : ∃ c : Int, ((Utf8.decode s 0).1 : Int) = c := ⟨_, rfl⟩
    obtain ⟨W, hW⟩ : ∃ W, cutW s = W := ⟨_, rfl⟩
    obtain ⟨ls, hls⟩ : ∃ ls, rdL s (cutW s) = ls := ⟨_, rfl⟩
    rw [hls, hcc] at hl
    rw [hcc] at hwd
    rw [hW] at hwd hwl ⊢
    have HL := hid hl
    have HWD := hid hwd
    have hw1 : (W : Int) ≤ s.size := by omega
    have hw0 : (0 : Int) ≤ W := by omega
    have hw2 : wrap64 (W : Int) = (W : Int) := by rw [wrap64]; omega
    have hls0 : decide ((0 : Int) < (ls.length : Int) + 1) = true := by rw [decide_eq_true_eq]; omega
    clear hl hwd hls hcc hW hc hb hn h hz
    go_enter Try.func72, Try.ntmps72
    go_wp2_with (first | ((with_reducible refine wp_region_plan (id := 7) (.fin [(false, 0), (false, 1), (false, 2), (false, 3), (false, 4), (false, 5), (false, 6), (false, 7)]) ?_ ?_ ?_ ?_ ?_ ?_); kernel_rfl; kernel_rfl; kernel_rfl; kernel_rfl; (intro c a d v w h; cases d <;> exact h)) | (with_reducible refine wpPlan_eff ?_) | (with_reducible refine wpPlan_fin ?_) | (with_reducible refine wpPlan_two ?_) | (with_reducible refine wpOpPair ?_ ?_) | ((with_reducible apply wpPre_keep); rfl; intro K' hK'; go_simp; refine hK' _ _ ?_; intro f hf; clear hK' K') | ((with_reducible apply wpPre_drop); rfl; intro K' hK'; go_simp; refine hK' _ _ ?_; intro f; clear hK' K') | (with_reducible refine wpPre_nil ?_) | ((with_reducible apply wpOp_list); rfl) | (with_reducible refine heldPair ?_ ?_) | ((with_reducible refine heldH_no ?_ ?_); rfl) | (with_reducible refine heldH_yes ?_ ?_) | (with_reducible exact heldH_nil) | (unfold YAt; go_simp; done) | (go_at_call 88; refine (read_any HZ.out).mono ?_; rintro e w1 ⟨v1, g1, rfl, hn1⟩; obtain ⟨A1, c1, rfl, _, _⟩ := hn1.sp.form; have HN1 := hid hn1; have hlow := hn1.low; clear hn1; obtain ⟨ex1, dx1, rfl⟩ := more_of hlow; clear hlow; rw [HL.out] at HN1 ⊢))
    obtain ⟨bb, oo, rfl, hlt, hcell⟩ := HN1.out.cell
    go_loopg [8, 9] 1 (fun k va vi wr => wr = more w ex1 dx1 ∧ ((k = 1 ∧ va = .int .i64 0 ∧ vi = .int .i64 0) ∨ (k = 0 ∧ va = .int .i64 (W : Int) ∧ vi = .int .i64 1)))
    case atStart => exact ⟨rfl, .inl ⟨rfl, rfl, rfl⟩⟩
    case round =>
      obtain ⟨rfl, hrel⟩ := hrel
      rcases hrel with ⟨rfl, rfl, rfl⟩ | ⟨rfl, rfl, rfl⟩
      · go_wp2_with (first | ((with_reducible refine wp_region_plan (id := 7) (.fin [(false, 0), (false, 1), (false, 2), (false, 3), (false, 4), (false, 5), (false, 6), (false, 7)]) ?_ ?_ ?_ ?_ ?_ ?_); kernel_rfl; kernel_rfl; kernel_rfl; kernel_rfl; (intro c a d v w h; cases d <;> exact h)) | (with_reducible refine wpPlan_eff ?_) | (with_reducible refine wpPlan_fin ?_) | (with_reducible refine wpPlan_two ?_) | (with_reducible refine wpOpPair ?_ ?_) | ((with_reducible apply wpPre_keep); rfl; intro K' hK'; go_simp; refine hK' _ _ ?_; intro f hf; clear hK' K') | ((with_reducible apply wpPre_drop); rfl; intro K' hK'; go_simp; refine hK' _ _ ?_; intro f; clear hK' K') | (with_reducible refine wpPre_nil ?_) | ((with_reducible apply wpOp_list); rfl) | (with_reducible refine heldPair ?_ ?_) | ((with_reducible refine heldH_no ?_ ?_); rfl) | (with_reducible refine heldH_yes ?_ ?_) | (with_reducible exact heldH_nil) | (unfold YAt; go_simp; done) | (go_at_call 89; refine wid_any.mono ?_; rintro e w3 ⟨rfl, rfl⟩; rw [HWD.out]))
        go_roundg 0
        case measure => decide
        case rel => exact ⟨rfl, .inr ⟨rfl, by rw [hw2], rfl⟩⟩
      · go_wp2_with (first | ((with_reducible refine wp_region_plan (id := 7) (.fin [(false, 0), (false, 1), (false, 2), (false, 3), (false, 4), (false, 5), (false, 6), (false, 7)]) ?_ ?_ ?_ ?_ ?_ ?_); kernel_rfl; kernel_rfl; kernel_rfl; kernel_rfl; (intro c a d v w h; cases d <;> exact h)) | (with_reducible refine wpPlan_eff ?_) | (with_reducible refine wpPlan_fin ?_) | (with_reducible refine wpPlan_two ?_) | (with_reducible refine wpOpPair ?_ ?_) | ((with_reducible apply wpPre_keep); rfl; intro K' hK'; go_simp; refine hK' _ _ ?_; intro f hf; clear hK' K') | ((with_reducible apply wpPre_drop); rfl; intro K' hK'; go_simp; refine hK' _ _ ?_; intro f; clear hK' K') | (with_reducible refine wpPre_nil ?_) | ((with_reducible apply wpOp_list); rfl) | (with_reducible refine heldPair ?_ ?_) | ((with_reducible refine heldH_no ?_ ?_); rfl) | (with_reducible refine heldH_yes ?_ ?_) | (with_reducible exact heldH_nil) | (unfold YAt; go_simp; done) | (go_at_call 89; refine wid_any.mono ?_; rintro e w3 ⟨rfl, rfl⟩; rw [HWD.out]))
        all_goals
          go_ret2
          exact ⟨rfl, (by repeat (first | (with_reducible exact Below.refl _ _) | (with_reducible exact bl_mm) | (with_reducible refine bl_dr ?_) | (with_reducible refine bl_drN ?_ _) | (with_reducible refine bl_al ?_ _) | (with_reducible refine bl_more ?_ _ _)))⟩
theorem one_rd {s : ByteArray} (hs : cutW s ≠ 0) : rdL (s.extract 0 (cutW s)) 0 = [((Utf8.decode s 0).1 : Int)] ∧ badAt (s.extract 0 (cutW s)) 0 = none := by
  unfold cutW at hs ⊢
  split at hs
  · exact absurd rfl hs
  · rename_i h0
    split at hs
    · exact absurd rfl hs
    · rename_i hb
      rw [if_neg h0, if_neg hb]
      have hb : bad s 0 = false := by
        cases hbd : bad s 0 with
        | true => exact absurd hbd hb
        | false => rfl
      have hp : 0 < s.size := by omega
      have hd := dec_cut hp hb
      rw [Nat.zero_add] at hd
      have hle := width_le hp
      have hw := width_pos s 0
      have hsz : (s.extract 0 (Utf8.decode s 0).2).size = (Utf8.decode s 0).2 := by rw [ByteArray.size_extract]; omega
      have hb' : bad (s.extract 0 (Utf8.decode s 0).2) 0 = false := by unfold bad; rw [hd]; exact hb
      have hend : ¬ 0 + (Utf8.decode s 0).2 < (s.extract 0 (Utf8.decode s 0).2).size := by omega
      constructor
      · rw [rdL_next (by omega) hb', hd, rdL_end hend]
      · rw [badAt_next (by omega) hb', hd, badAt_end hend]
theorem no_rd {s : ByteArray} (hs : cutW s = 0) : rdL (s.extract 0 (cutW s)) 0 = [] ∧ badAt (s.extract 0 (cutW s)) 0 = none := by
  have hsz : ¬ 0 < (s.extract 0 (cutW s)).size := by rw [ByteArray.size_extract]; omega
  exact ⟨rdL_end hsz, badAt_end hsz⟩
set_option maxRecDepth 20000 in
set_option maxHeartbeats 4000000 in
theorem runes_any {w : World} {s : ByteArray} {l : List Int} (hz : s.size ≤ 65536) (hl : rdL s 0 = l) (hb : badAt s 0 = none) : Calls Try.prog 73 #[.string s] w fun e w' => ∃ v g, e = .returned (.tuple #[v, .int .i64 0]) ∧ Nums w.heap.size w w' g v l := by
  have HZ := hid hz
  have HL := hid hl
  have HB := hid hb
  clear hz hl hb
  go_enter Try.func73, Try.ntmps73
  go_wp2_with (first | (go_at_call 88; refine (read_any HZ.out).mono ?_; rintro e w1 ⟨v1, g1, rfl, hn1⟩; rw [HL.out] at hn1; rw [HB.out]; obtain ⟨A1, c1, rfl, _, _⟩ := hn1.sp.form; have HN1 := hid hn1; have hlow := hn1.low; clear hn1))
  go_ret2
  exact ⟨.slice A1 l.length c1, g1, rfl, HN1.out⟩
def ptN (s : ByteArray) (a : Nat) : Nat := if bad s a = true then 0 else (Utf8.decode s a).2
def ptR (s : ByteArray) (a : Nat) : Int := if bad s a = true then 0 else ((Utf8.decode s a).1 : Int)
set_option maxRecDepth 20000 in
set_option maxHeartbeats 4000000 in
theorem point_any {w : World} {s : ByteArray} {a : Nat} (ha : a < s.size) (hz : s.size ≤ 65536) : Calls Try.prog 44 #[.string s, .int .i64 a] w fun e w' => e = .returned (.tuple #[.int .i64 (ptR s a), .int .i64 (ptN s a)]) ∧ Below w.heap.size w w' := by
  have hmin : min (s.size : Int) ((a : Int) + 4) = ((min s.size (a + 4) : Nat) : Int) := by omega
  have hw4 : wrap64 ((a : Int) + 4) = (a : Int) + 4 := by rw [wrap64]; omega
  obtain ⟨m, hm⟩ : ∃ m, min s.size (a + 4) = m := ⟨_, rfl⟩
  rw [hm] at hmin
  have hm1 : (m : Int) ≤ s.size := by omega
  have hm2 : (a : Int) ≤ m := by omega
  have hm0 : (0 : Int) ≤ a := by omega
  have hmb : m ≤ s.size := by omega
  have hm4 : a + 0 + 4 ≤ m ∨ m = s.size := by omega
  have hts : (s.extract a m).size = m - a := by rw [ByteArray.size_extract]; omega
  have hd := dec_ext (s := s) (a := a) (b := m) (i := 0) hmb hm4
  have hbb := bad_ext (s := s) (a := a) (b := m) (i := 0) hmb hm4
  rw [Nat.add_zero] at hd hbb
  have hcw : cutW (s.extract a m) = ptN s a := by
    unfold cutW ptN
    rw [if_neg (by omega), hbb, hd]
  have HZT : Hid ((s.extract a m).size ≤ 65536) := hid (by omega)
  have hfs : ((s.extract a m).extract 0 (cutW (s.extract a m))).size = ptN s a := by
    rw [ByteArray.size_extract, ← hcw]
    have := cutW_le (s.extract a m)
    omega
  have HZF : Hid (((s.extract a m).extract 0 (cutW (s.extract a m))).size ≤ 65536) := hid (by
    have := cutW_le (s.extract a m)
    rw [hfs]
    omega)
  by_cases hz0 : ptN s a = 0
  · have hb1 : bad s a = true := by
      cases hbd : bad s a with
      | true => rfl
      | false =>
        unfold ptN at hz0
        rw [if_neg (by rw [hbd]; decide)] at hz0
        have := width_pos s a
        omega
    have hr0 : ptR s a = 0 := by unfold ptR; rw [if_pos hb1]
    have hno := no_rd (hcw.trans hz0)
    have HL := hid hno.1
    have HB := hid hno.2
    rw [hz0, hr0]
    obtain ⟨t1, ht1⟩ : ∃ t1, (s.extract a m).extract 0 (cutW (s.extract a m)) = t1 := ⟨_, rfl⟩
    rw [ht1] at HL HB HZF
    have HT := hid ht1
    clear ha hz hm hmb hm4 hts hd hbb hcw hfs hz0 hb1 hr0 hno ht1
    go_enter Try.func44, Try.ntmps44
    go_wp2_with (first | (go_at_call 72; refine (cut_any HZT.out).mono ?_; rintro e w1 ⟨rfl, hb1⟩; rw [HT.out]; obtain ⟨ex1, dx1, rfl⟩ := more_of hb1; clear hb1) | (go_at_call 73; refine (runes_any HZF.out HL.out HB.out).mono ?_; rintro e w2 ⟨v2, g2, rfl, hn2⟩; obtain ⟨A2, c2, rfl, _, _⟩ := hn2.sp.form; have HN2 := hid hn2; have HLOW := hid hn2.low; clear hn2))
    go_ret2
    refine ⟨?_, (show Below w.heap.size w (more w ex1 dx1) from (by repeat (first | (with_reducible exact Below.refl _ _) | (with_reducible exact bl_mm) | (with_reducible refine bl_dr ?_) | (with_reducible refine bl_drN ?_ _) | (with_reducible refine bl_al ?_ _) | (with_reducible refine bl_more ?_ _ _)))).trans (HLOW.out.mono (by simp [more_size]))⟩
    rfl
  · have hb1 : bad s a = false := by
      cases hbd : bad s a with
      | false => rfl
      | true => exact absurd (by unfold ptN; rw [if_pos hbd]) hz0
    have hr0 : ptR s a = ((Utf8.decode s a).1 : Int) := by unfold ptR; rw [if_neg (by rw [hb1]; decide)]
    have hno := one_rd (by rw [hcw]; exact hz0)
    rw [hd, ← hr0] at hno
    have HL := hid hno.1
    have HB := hid hno.2
    obtain ⟨t1, ht1⟩ : ∃ t1, (s.extract a m).extract 0 (cutW (s.extract a m)) = t1 := ⟨_, rfl⟩
    rw [ht1] at HL HB HZF
    have HT := hid ht1
    have hfs' : (t1.size : Int) = (ptN s a : Nat) := by rw [← ht1, hfs]
    clear ha hz hm hmb hm4 hts hd hbb hcw hfs hz0 hb1 hr0 hno ht1
    go_enter Try.func44, Try.ntmps44
    go_wp2_with (first | (go_at_call 72; refine (cut_any HZT.out).mono ?_; rintro e w1 ⟨rfl, hb1⟩; rw [HT.out]; obtain ⟨ex1, dx1, rfl⟩ := more_of hb1; clear hb1) | (go_at_call 73; refine (runes_any HZF.out HL.out HB.out).mono ?_; rintro e w2 ⟨v2, g2, rfl, hn2⟩; obtain ⟨A2, c2, rfl, _, _⟩ := hn2.sp.form; have HLOW := hid hn2.low; obtain ⟨bb, oo, rfl, hlt, hcell⟩ := hn2.cell; clear hn2))
    go_ret2
    refine ⟨?_, (show Below w.heap.size w (more w ex1 dx1) from (by repeat (first | (with_reducible exact Below.refl _ _) | (with_reducible exact bl_mm) | (with_reducible refine bl_dr ?_) | (with_reducible refine bl_drN ?_ _) | (with_reducible refine bl_al ?_ _) | (with_reducible refine bl_more ?_ _ _)))).trans (HLOW.out.mono (by simp [more_size]))⟩
    rfl
end Go.Proofs.Ytidilpciolladaa

/- The document's run of a name, and its marks. -/
namespace Go.Proofs.Ytidilpciolladaa
open Go.RowKit

theorem pt_ok (s : ByteArray) (a : Nat) : okR (ptR s a) := by
  unfold ptR
  split
  · exact small_ok (n := 0) (by decide)
  · exact decode_ok s a
def namC (r : Int) : Bool := decide (cls r = 1) || decide (cls r = 2)
/-- Where a name's code points end, from p on. -/
def runE (s : ByteArray) (p : Nat) : Nat :=
  if _h : p < s.size then (if bad s p = true then p else if namC (Utf8.decode s p).1 = true then runE s (p + max 1 (Utf8.decode s p).2) else p) else p
termination_by s.size - p
decreasing_by omega
theorem runE_end {s : ByteArray} {p : Nat} (h : ¬ p < s.size) : runE s p = p := by rw [runE, dif_neg h]
theorem runE_bad {s : ByteArray} {p : Nat} (h : bad s p = true) : runE s p = p := by
  rw [runE]
  split
  · simp [h]
  · rfl
theorem runE_no {s : ByteArray} {p : Nat} (h : namC (Utf8.decode s p).1 = false) : runE s p = p := by
  rw [runE]
  split
  · simp [h]
  · rfl
theorem runE_next {s : ByteArray} {p : Nat} (h : p < s.size) (hb : bad s p = false) (hn : namC (Utf8.decode s p).1 = true) : runE s p = runE s (p + (Utf8.decode s p).2) := by
  rw [runE, dif_pos h, if_neg (by rw [hb]; decide), if_pos hn, Nat.max_eq_right (width_pos s p)]
theorem runE_ge (s : ByteArray) (p : Nat) : p ≤ runE s p := by
  induction hk : s.size - p using Nat.strongRecOn generalizing p with
  | _ n ih =>
    rw [runE]
    split
    · split
      · exact Nat.le_refl _
      · split
        · have := ih (s.size - (p + max 1 (Utf8.decode s p).2)) (by omega) (p + max 1 (Utf8.decode s p).2) rfl
          omega
        · exact Nat.le_refl _
    · exact Nat.le_refl _
theorem runE_le {s : ByteArray} {p : Nat} (hp : p ≤ s.size) : runE s p ≤ s.size := by
  induction hk : s.size - p using Nat.strongRecOn generalizing p with
  | _ n ih =>
    rw [runE]
    split
    · rename_i h
      split
      · exact hp
      · split
        · have h1 := width_le h
          have h2 := width_pos s p
          exact ih (s.size - (p + max 1 (Utf8.decode s p).2)) (by omega) (p := p + max 1 (Utf8.decode s p).2) (by omega) rfl
        · exact hp
    · exact hp
set_option maxRecDepth 20000 in
set_option maxHeartbeats 4000000 in
theorem run_any {w : World} {s : ByteArray} {a : Nat} (ha : a ≤ s.size) (hz : s.size ≤ 65536) : Calls Try.prog 46 #[.string s, .int .i64 a] w fun e w' => e = .returned (.int .i64 (runE s a)) ∧ Below w.heap.size w w' := by
  have HZ := hid hz
  have hz' : (s.size : Int) ≤ 65536 := by omega
  have HA := hid ha
  clear hz ha
  go_enter Try.func46, Try.ntmps46
  go_wp2
  go_loopg [1] (s.size + 1) (fun k va wr => ∃ p : Nat, p + k = s.size + 1 + a ∧ a ≤ p ∧ p ≤ s.size ∧ va = .int .i64 (p : Int) ∧ runE s a = runE s p ∧ ∃ ex dx, wr = more w ex dx)
  case atStart => exact ⟨a, by omega, Nat.le_refl _, HA.out, rfl, rfl, more_of (Below.refl _ _)⟩
  case round =>
    obtain ⟨p, hk, hap, hps, rfl, hr, ex, dx, rfl⟩ := hrel
    have HK := hid hk
    have HPS := hid hps
    have HAP := hid hap
    have HR := hid hr
    clear hk hps hap hr
    by_cases hp : p < s.size
    · have hp1 : (p : Int) < s.size := by omega
      have HP := hid hp
      cases hbd : bad s p with
      | true =>
        have HPR : Hid (ptR s p = 0) := hid (by unfold ptR; rw [if_pos hbd])
        have HPN : Hid (ptN s p = 0) := hid (by unfold ptN; rw [if_pos hbd])
        have HOK : Hid (okR 0) := hid (small_ok (n := 0) (by decide))
        have HCL : Hid (cls 0 = 0) := hid rfl
        have HBD := hid hbd
        clear hbd hp
        go_wp2_with (first | (go_at_call 44; refine (point_any HP.out HZ.out).mono ?_; rintro e w1 ⟨rfl, hb1⟩; obtain ⟨ex1, dx1, rfl⟩ := more_of hb1; clear hb1; rw [HPR.out, HPN.out]) | (go_at_call 45; refine (rclass_any HOK.out).mono ?_; rintro e w2 ⟨rfl, hb2⟩; obtain ⟨ex2, dx2, rfl⟩ := more_of hb2; clear hb2; rw [HCL.out]))
        go_ret
        refine ⟨?_, (by repeat (first | (with_reducible exact Below.refl _ _) | (with_reducible exact bl_mm) | (with_reducible refine bl_dr ?_) | (with_reducible refine bl_drN ?_ _) | (with_reducible refine bl_al ?_ _) | (with_reducible refine bl_more ?_ _ _)))⟩
        rw [HR.out, runE_bad HBD.out]
        rfl
      | false =>
        obtain ⟨r, hre⟩ : ∃ r : Int, ((Utf8.decode s p).1 : Int) = r := ⟨_, rfl⟩
        obtain ⟨n, hne⟩ : ∃ n, (Utf8.decode s p).2 = n := ⟨_, rfl⟩
        have HPR : Hid (ptR s p = r) := hid (by unfold ptR; rw [if_neg (by rw [hbd]; decide), hre])
        have HPN : Hid (ptN s p = n) := hid (by unfold ptN; rw [if_neg (by rw [hbd]; decide), hne])
        have HOK : Hid (okR r) := hid (by rw [← hre]; exact decode_ok s p)
        have hw := width_pos s p
        have hwl := width_le hp
        rw [hne] at hw hwl
        obtain ⟨c, hcl⟩ : ∃ c, cls r = c := ⟨_, rfl⟩
        have HCL := hid hcl
        have HNX : Hid (namC r = true → runE s p = runE s (p + n)) := hid (fun h => by have := runE_next hp hbd (by rw [hre]; exact h); rwa [hne] at this)
        have HNO : Hid (namC r = false → runE s p = p) := hid (fun h => runE_no (by rw [hre]; exact h))
        have hn0 : ((n : Int) == 0) = false := by rw [beq_eq_false_iff_ne]; omega
        have hpn : wrap64 ((p : Int) + n) = ((p + n : Nat) : Int) := by rw [wrap64]; omega
        have HWL := hid hwl
        have HW := hid hw
        have HNC : Hid (namC r = (decide (c = 1) || decide (c = 2))) := hid (by unfold namC; rw [hcl])
        clear hre hne hbd hp hcl hw hwl
        by_cases hc1 : c = 1
        · subst hc1
          go_wp2_with (first | (go_at_call 44; refine (point_any HP.out HZ.out).mono ?_; rintro e w1 ⟨rfl, hb1⟩; obtain ⟨ex1, dx1, rfl⟩ := more_of hb1; clear hb1; rw [HPR.out, HPN.out]) | (go_at_call 45; refine (rclass_any HOK.out).mono ?_; rintro e w2 ⟨rfl, hb2⟩; obtain ⟨ex2, dx2, rfl⟩ := more_of hb2; clear hb2; rw [HCL.out]))
          go_roundg (s.size + 1 + a - (p + n))
          case measure => have := HK.out; have := HW.out; have := HWL.out; omega
          case rel => exact ⟨p + n, by have := HWL.out; have := HAP.out; omega, by have := HAP.out; omega, HWL.out, by rw [hpn], by rw [HR.out]; exact HNX.out (by rw [HNC.out]; rfl), more_of (by repeat (first | (with_reducible exact Below.refl _ _) | (with_reducible exact bl_mm) | (with_reducible refine bl_dr ?_) | (with_reducible refine bl_drN ?_ _) | (with_reducible refine bl_al ?_ _) | (with_reducible refine bl_more ?_ _ _)))⟩
        · by_cases hc2 : c = 2
          · subst hc2
            clear hc1
            go_wp2_with (first | (go_at_call 44; refine (point_any HP.out HZ.out).mono ?_; rintro e w1 ⟨rfl, hb1⟩; obtain ⟨ex1, dx1, rfl⟩ := more_of hb1; clear hb1; rw [HPR.out, HPN.out]) | (go_at_call 45; refine (rclass_any HOK.out).mono ?_; rintro e w2 ⟨rfl, hb2⟩; obtain ⟨ex2, dx2, rfl⟩ := more_of hb2; clear hb2; rw [HCL.out]))
            go_roundg (s.size + 1 + a - (p + n))
            case measure => have := HK.out; have := HW.out; have := HWL.out; omega
            case rel => exact ⟨p + n, by have := HWL.out; have := HAP.out; omega, by have := HAP.out; omega, HWL.out, by rw [hpn], by rw [HR.out]; exact HNX.out (by rw [HNC.out]; rfl), more_of (by repeat (first | (with_reducible exact Below.refl _ _) | (with_reducible exact bl_mm) | (with_reducible refine bl_dr ?_) | (with_reducible refine bl_drN ?_ _) | (with_reducible refine bl_al ?_ _) | (with_reducible refine bl_more ?_ _ _)))⟩
          · have hb1 : (c != 1) = true := by simpa using hc1
            have hb2 : (c != 2) = true := by simpa using hc2
            have HX : Hid (namC r = false) := hid (by rw [HNC.out, decide_eq_false hc1, decide_eq_false hc2]; rfl)
            clear hc1 hc2
            go_wp2_with (first | (go_at_call 44; refine (point_any HP.out HZ.out).mono ?_; rintro e w1 ⟨rfl, hb1⟩; obtain ⟨ex1, dx1, rfl⟩ := more_of hb1; clear hb1; rw [HPR.out, HPN.out]) | (go_at_call 45; refine (rclass_any HOK.out).mono ?_; rintro e w2 ⟨rfl, hb2⟩; obtain ⟨ex2, dx2, rfl⟩ := more_of hb2; clear hb2; rw [HCL.out]))
            go_ret
            refine ⟨?_, (by repeat (first | (with_reducible exact Below.refl _ _) | (with_reducible exact bl_mm) | (with_reducible refine bl_dr ?_) | (with_reducible refine bl_drN ?_ _) | (with_reducible refine bl_al ?_ _) | (with_reducible refine bl_more ?_ _ _)))⟩
            rw [HR.out, HNO.out HX.out]
            rfl
    · have hp1 : ¬ (p : Int) < s.size := by omega
      have HP := hid hp
      clear hp
      go_wp2
      go_ret
      refine ⟨?_, (by repeat (first | (with_reducible exact Below.refl _ _) | (with_reducible exact bl_mm) | (with_reducible refine bl_dr ?_) | (with_reducible refine bl_drN ?_ _) | (with_reducible refine bl_al ?_ _) | (with_reducible refine bl_more ?_ _ _)))⟩
      rw [HR.out, runE_end HP.out]
      rfl
def markD (r : Int) : Bool := (r == 123) || (r == 125) || (r == 40) || (r == 41) || (r == 59) || (r == 44)
set_option maxRecDepth 20000 in
set_option maxHeartbeats 1000000 in
theorem markD_any {w : World} {r : Int} : Calls Try.prog 47 #[.int .i64 r] w fun e w' => e = .returned (.bool (markD r)) ∧ w = w' := by
  unfold markD
  cases i0 : (r == 123) with
  | true =>
    go_enter Try.func47, Try.ntmps47
    go_wp2
    go_ret
    exact ⟨rfl, rfl⟩
  | false =>
    cases i1 : (r == 125) with
    | true =>
      go_enter Try.func47, Try.ntmps47
      go_wp2
      go_ret
      exact ⟨rfl, rfl⟩
    | false =>
      cases i2 : (r == 40) with
      | true =>
        go_enter Try.func47, Try.ntmps47
        go_wp2
        go_ret
        exact ⟨rfl, rfl⟩
      | false =>
        cases i3 : (r == 41) with
        | true =>
          go_enter Try.func47, Try.ntmps47
          go_wp2
          go_ret
          exact ⟨rfl, rfl⟩
        | false =>
          cases i4 : (r == 59) with
          | true =>
            go_enter Try.func47, Try.ntmps47
            go_wp2
            go_ret
            exact ⟨rfl, rfl⟩
          | false =>
            cases i5 : (r == 44) with
            | true =>
              go_enter Try.func47, Try.ntmps47
              go_wp2
              go_ret
              exact ⟨rfl, rfl⟩
            | false =>
              go_enter Try.func47, Try.ntmps47
              go_wp2
              go_ret
              exact ⟨rfl, rfl⟩
end Go.Proofs.Ytidilpciolladaa
