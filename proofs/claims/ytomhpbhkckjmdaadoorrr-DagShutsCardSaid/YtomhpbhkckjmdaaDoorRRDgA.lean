/- Sets of nodes as bits; a set's nodes, rising. -/
import Derived.Test.YtomhpbhkckjmdaaDoorRRArr
import Derived.Test.YtomhpbhkckjmdaaDoorRRDraw
import Derived.Laws.Bits64b
import Derived.Lib.TrailingZeros
import Derived.Shelf.Spec.TrailingZeros
namespace Go.Proofs.YtomhpbhkckjmdaaDoorRR
open Go.RowKit

theorem cell_blk {w : World} {b : Nat} {cs : Array Value} {t : TypeId} {fr : Nat × Nat} (h : w.heap[b]? = some (.cells cs t fr)) (i : Nat) : w.cell? ⟨b, i, none⟩ = cs[i]? := by simp [World.cell?, h]
theorem frz_blk {w : World} {b : Nat} {cs : Array Value} {t : TypeId} (h : w.heap[b]? = some (.cells cs t (0, 0))) (i : Nat) : w.frozen? ⟨b, i, none⟩ = false := by simp [World.frozen?, h]
theorem alloc_blk {X : World} {o : Obj} {b : Nat} (h : b = X.heap.size) : (X.alloc o).heap[b]? = some o := by subst h; exact heap_alloc_new X o
abbrev M64 : Nat := 18446744073709551616
theorem wrap_u64_in (n : Nat) (h : n < M64) : IntKind.u64.wrap (n : Int) = (n : Int) := by
  rw [IntKind.wrap_u64]
  exact Int.emod_eq_of_lt (by omega) (by have : n < 18446744073709551616 := h; omega)
/-- What stands in a and not in b. -/
def dif (a b : Nat) : Nat := (BitVec.ofNat 64 a &&& ~~~ BitVec.ofNat 64 b).toNat
theorem dif_lt (a b : Nat) : dif a b < M64 := (BitVec.ofNat 64 a &&& ~~~ BitVec.ofNat 64 b).isLt
theorem dif_bit (a b : Nat) (ha : a < M64) (i : Nat) : (dif a b).testBit i = (a.testBit i && !b.testBit i) := by
  unfold dif
  rw [BitVec.testBit_toNat, BitVec.getLsbD_and, BitVec.getLsbD_not, BitVec.getLsbD_ofNat, BitVec.getLsbD_ofNat]
  by_cases h : i < 64
  · simp [h]
  · have : a.testBit i = false := Nat.testBit_lt_two_pow (Nat.lt_of_lt_of_le ha (Nat.pow_le_pow_right (by decide) (by omega) : 2 ^ 64 ≤ 2 ^ i))
    simp [this]
theorem bits_dif (a b : Nat) : bits .andNot .u64 (a : Int) (b : Int) = (dif a b : Int) := by
  have h : bits .andNot .u64 (a : Int) (b : Int) = IntKind.u64.wrap ((dif a b : Nat) : Int) := by
    unfold bits dif
    simp only [BitVec.ofInt_natCast]
    rfl
  rw [h, wrap_u64_in _ (dif_lt a b)]
def bitN (i : Nat) : Nat := 2 ^ i
theorem bitN_bit (i j : Nat) : (bitN i).testBit j = decide (i = j) := Nat.testBit_two_pow
theorem pow_lt64 {i : Nat} (h : i < 64) : bitN i < M64 := Nat.pow_lt_pow_right (by decide) h
theorem or_lt64 {a b : Nat} (ha : a < M64) (hb : b < M64) : a ||| b < M64 := Nat.or_lt_two_pow (n := 64) ha hb
theorem bits_add (S i : Nat) (hS : S < M64) (hi : i < 64) : bits .or .u64 (S : Int) ((bitN i : Nat) : Int) = ((S ||| bitN i : Nat) : Int) := bits_or_u64_nat S (bitN i) hS (pow_lt64 hi)
theorem and_pow (S i : Nat) : S &&& bitN i = if S.testBit i then bitN i else 0 := by
  apply Nat.eq_of_testBit_eq
  intro j
  rw [Nat.testBit_and, bitN_bit]
  split
  · rename_i h
    rw [bitN_bit]
    by_cases hj : i = j
    · subst hj; simp [h]
    · simp [hj]
  · rename_i h
    rw [Nat.zero_testBit]
    by_cases hj : i = j
    · subst hj; simp [h]
    · simp [hj]
theorem bits_has (S i : Nat) (hS : S < M64) (hi : i < 64) : bits .and .u64 (S : Int) ((bitN i : Nat) : Int) = (((if S.testBit i then bitN i else 0) : Nat) : Int) := by
  rw [bits_and_u64_nat S (bitN i) hS (pow_lt64 hi), and_pow]
theorem bits_has_eq (S i : Nat) (hS : S < M64) (hi : i < 64) : (bits .and .u64 (S : Int) ((bitN i : Nat) : Int) == 0) = !S.testBit i := by
  rw [bits_has S i hS hi]
  by_cases h : S.testBit i = true
  · rw [h]
    have : 0 < bitN i := Nat.two_pow_pos i
    have h2 : ((bitN i : Nat) : Int) ≠ 0 := by omega
    simp only [if_true, Bool.not_true]
    exact beq_eq_false_iff_ne.2 h2
  · have h := eq_false_of_ne_true h
    rw [h]; rfl
theorem bits_dif_eq (a b : Nat) : (bits .andNot .u64 (a : Int) (b : Int) == 0) = decide (dif a b = 0) := by
  rw [bits_dif]
  by_cases h : dif a b = 0
  · simp [h]
  · simp [h]
/-- a has no node that b has not. -/
theorem dif_zero {a b : Nat} (ha : a < M64) : dif a b = 0 ↔ ∀ i, a.testBit i = true → b.testBit i = true := by
  constructor
  · intro h i hi
    have := dif_bit a b ha i
    rw [h, Nat.zero_testBit, hi] at this
    cases hb : b.testBit i with
    | true => rfl
    | false => rw [hb] at this; cases this
  · intro h
    apply Nat.eq_of_testBit_eq
    intro i
    rw [dif_bit a b ha, Nat.zero_testBit]
    cases hi : a.testBit i with
    | false => rfl
    | true => rw [h i hi]; rfl

set_option maxHeartbeats 1000000 in
theorem one_any {w : World} (i : Nat) (hi : i < 64) : Calls Tryd.prog 29 #[.int .i64 (i : Int)] w fun e w' => e = .returned (.int .u64 ((bitN i : Nat) : Int)) ∧ w' = w := by
  have h0 : (0 : Int) ≤ (i : Int) := by omega
  have h1 : (i : Int) < 64 := by omega
  have w1 : IntKind.u64.wrap (i : Int) = (i : Int) := wrap_u64_in i (by unfold M64; omega)
  have w2 : IntKind.u64.wrap (2 ^ i) = ((bitN i : Nat) : Int) := by
    have := wrap_u64_in _ (pow_lt64 hi)
    rw [← this]
    unfold bitN
    push_cast
    rfl
  go_enter Tryd.func29, Tryd.ntmps29
  go_wp2
  go_ret
  exact ⟨rfl, rfl⟩
end Go.Proofs.YtomhpbhkckjmdaaDoorRR
