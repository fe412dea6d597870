/- LexBlanks, walked. -/
import Derived.Test.YthekoefcienipaaLxBb
namespace Go.Proofs.Ythekoefcienipaa
open Go.RowKit

def blk (k : Nat) : ByteArray := match k with
  | 0 => ⟨#[32]⟩ | 1 => ⟨#[10, 9]⟩ | 2 => ⟨#[35, 32, 115, 97, 103, 97, 32, 123, 59, 10]⟩ | 3 => ⟨#[13, 32]⟩ | 4 => ⟨#[32, 35, 195, 188, 33, 10, 32]⟩ | _ => ⟨#[32, 32]⟩
abbrev tailB : ByteArray := ⟨#[32, 35, 32, 116, 104, 101, 32, 101, 110, 100]⟩
theorem skip_blk (k : Nat) : skips (blk k) := by
  show skipF _ _ _ _ = _
  unfold blk
  split <;> kernel_rfl
theorem stop_blk (k : Nat) : (blk k).size ≠ 0 ∧ StopL (blk k).data.toList := by
  unfold blk
  split <;> exact ⟨by decide, fun c hc => by cases hc; exact ⟨by decide, by decide⟩⟩
theorem blk_size (k : Nat) : (blk k).size ≤ 10 := by
  unfold blk
  split <;> decide
/-- The blanks' kinds: k i for the text i. -/
def itemsB (k : Nat → Nat) (xs : List ByteArray) : List (ByteArray × ByteArray) := (List.range xs.length).map (fun i => (blk (k i), xs.getD i ⟨#[]⟩))
/-- The text up to the text j. -/
def catB (k : Nat → Nat) (xs : List ByteArray) (j : Nat) : ByteArray := ⟨(flat ((itemsB k xs).take j)).toArray⟩
theorem itemsB_len (k : Nat → Nat) (xs : List ByteArray) : (itemsB k xs).length = xs.length := by simp [itemsB]
theorem flat_append (a b : List (ByteArray × ByteArray)) : flat (a ++ b) = flat a ++ flat b := by
  induction a with
  | nil => rfl
  | cons y r ih => obtain ⟨u, v⟩ := y; simp [flat, ih]
theorem catB_next {k : Nat → Nat} {xs : List ByteArray} {j : Nat} (hj : j < xs.length) : catB k xs (j + 1) = catB k xs j ++ blk (k j) ++ (xs[j]'hj) := by
  apply bytes_eq
  rw [cat_data, cat_data]
  unfold catB
  have hl : j < (itemsB k xs).length := by rw [itemsB_len]; exact hj
  rw [List.take_succ_eq_append_getElem hl, flat_append]
  have e : (itemsB k xs)[j]'hl = (blk (k j), xs[j]'hj) := by simp [itemsB, hj]
  rw [e]
  simp [flat]
theorem itemsB_mem {k : Nat → Nat} {xs : List ByteArray} {y : ByteArray × ByteArray} (h : y ∈ itemsB k xs) : y.2 ∈ xs ∧ ∃ m, y.1 = blk m := by
  unfold itemsB at h
  obtain ⟨i, hi, rfl⟩ := List.mem_map.1 h
  have hi := List.mem_range.1 hi
  exact ⟨by simp [hi], k i, rfl⟩
theorem itemsB_txt (k : Nat → Nat) (xs : List ByteArray) : (itemsB k xs).map (fun y => (kindT y.2, y.2)) = (xs.map tokT).map txt := by
  apply List.ext_getElem
  · simp [itemsB]
  · intro i h1 h2
    have hi : i < xs.length := by simpa [itemsB] using h1
    simp [itemsB, tokT, txt, hi]
theorem catB_size {k : Nat → Nat} {xs : List ByteArray} (hok : ∀ y ∈ xs, okT y = true) (hl : xs.length ≤ 300) (j : Nat) : (catB k xs j).size ≤ 10200 := by
  have e : (catB k xs j).size = (flat ((itemsB k xs).take j)).length := by simp [catB, ByteArray.size]
  have h := flat_len ((itemsB k xs).take j) 34 (fun y hy => by
    obtain ⟨h1, m, h2⟩ := itemsB_mem (List.mem_of_mem_take hy)
    have := okT_size (hok _ h1)
    have := blk_size m
    rw [h2]; omega)
  have h2 : ((itemsB k xs).take j).length ≤ 300 := by rw [List.length_take, itemsB_len]; omega
  rw [e]
  omega
theorem blanks_law {k : Nat → Nat} {xs : List ByteArray} (hok : ∀ y ∈ xs, okT y = true) (hl : xs.length ≤ 300) : ∃ U, dR (catB k xs xs.length ++ tailB) = (U, ((catB k xs xs.length).size : Int) + 10, 0) ∧ (xs.map tokT).map txt = U.map txt := by
  have hsz := catB_size (k := k) hok hl xs.length
  have hd : (catB k xs xs.length ++ tailB).data.toList = flat (itemsB k xs) ++ tailB.data.toList := by
    rw [cat_data]
    unfold catB
    rw [List.take_of_length_le (by rw [itemsB_len]; exact Nat.le_refl _)]
  have hlen : (catB k xs xs.length ++ tailB).size = (catB k xs xs.length).size + 10 := by rw [ByteArray.size_append]; rfl
  obtain ⟨n, hn⟩ : ∃ n, (catB k xs xs.length).size = n := ⟨_, rfl⟩
  rw [hn] at hlen hsz ⊢
  obtain ⟨S, hS⟩ : ∃ S, catB k xs xs.length ++ tailB = S := ⟨_, rfl⟩
  rw [hS] at hd hlen ⊢
  have hly := lay (s := S) (tail := tailB.data.toList) (fun c hc => by cases hc; exact ⟨by decide, by decide⟩) (itemsB k xs) 0 [] (Nat.zero_le _) (by rw [List.drop_zero, hd])
    (fun y hy => by
      obtain ⟨h1, m, h2⟩ := itemsB_mem hy
      exact ⟨hok _ h1, by rw [h2]; exact skip_blk m⟩)
    (fun y hy => by
      obtain ⟨_, m, h2⟩ := itemsB_mem (List.mem_of_mem_tail hy)
      rw [h2]; exact stop_blk m)
  obtain ⟨h1, _⟩ := hly
  have ht : tailB.data.toList.length = 10 := rfl
  rw [ht, hlen, Nat.add_sub_cancel, List.nil_append] at h1
  have hf : (flat (itemsB k xs)).length = n := by
    have := congrArg List.length hd
    rw [List.length_append, ht] at this
    have hs : S.data.toList.length = S.size := rfl
    omega
  have he : S.extract n (n + 10) = tailB := by
    apply bytes_eq
    rw [ByteArray.data_extract, Array.toList_extract, List.extract_eq_take_drop, hd, show n + 10 - n = 10 by omega, ← hf, List.drop_left]
    rfl
  have hsk := skip_up (a := n) (b := n + 10) (by omega) (by omega) he (toksP 0 (itemsB k xs)) 11 0 false true (by kernel_rfl) (by omega)
  rw [Nat.add_zero] at hsk
  rw [hsk, dL_end (s := S) (p := n + 10) (by omega)] at h1
  refine ⟨toksP 0 (itemsB k xs), ?_, ?_⟩
  · rw [dR_inl h1, hlen]
    rfl
  · rw [toksP_txt, itemsB_txt]
end Go.Proofs.Ythekoefcienipaa
