/- The document's first code point is the decoder's. -/
import Derived.Test.YthekoefcienipaaLxR
import Derived.Test.YthekoefcienipaaLxI
namespace Go.Proofs.Ythekoefcienipaa
open Go.RowKit

theorem get_all {t : ByteArray} {i : Nat} (h : i < t.size) : t.data.toList[i]? = some (t.get! i) := by
  have := get_drop (s := t) (i := i) (k := 0) (by omega)
  rw [List.getElem?_drop] at this
  exact this
theorem ex_eq {t : ByteArray} {n : Nat} (h : n ≤ t.size) {l : List UInt8} (hl : l.length = n) : (⟨l.toArray⟩ : ByteArray) = t.extract 0 n ↔ ∀ i, i < n → l[i]? = some (t.get! i) := by
  have he : (t.extract 0 n).data.toList = t.data.toList.take n := by
    rw [ByteArray.data_extract, Array.toList_extract]
    simp [List.extract]
  constructor
  · intro e i hi
    have e2 : l = (t.extract 0 n).data.toList := by rw [← e]
    rw [e2, he, List.getElem?_take, if_pos hi]
    exact get_all (by omega)
  · intro e
    apply ByteArray.ext
    apply Array.ext'
    rw [he]
    apply List.ext_getElem?
    intro i
    by_cases hi : i < n
    · rw [List.getElem?_take, if_pos hi]
      exact (e i hi).trans (get_all (t := t) (by omega)).symm
    · rw [List.getElem?_take, if_neg hi]
      exact List.getElem?_eq_none (by show l.length ≤ i; omega)
theorem b8_eq {x : Nat} {t : ByteArray} {i : Nat} : some (b8 x) = some (t.get! i) ↔ x % 256 = by_ t i := by
  rw [Option.some.injEq, ← UInt8.toNat_inj]
  simp [b8, by_]
theorem ok_1 {t : ByteArray} (h : 1 ≤ t.size) : okN t 1 = true ↔ by_ t 0 < 128 := by
  have hb := by_lt t 0
  unfold okN
  rw [Bool.and_eq_true, decide_eq_true_eq, decide_eq_true_eq]
  have hc : cand t 1 = by_ t 0 := rfl
  rw [hc]
  constructor
  · rintro ⟨h1, _⟩; exact wid_1 h1
  · intro h1
    have hw : wid (by_ t 0 : Int) = 1 := by unfold wid isB; simp; omega
    refine ⟨hw, ?_⟩
    unfold oneB
    rw [if_pos hw]
    refine (ex_eq (l := [b8 (by_ t 0)]) h rfl).2 (fun i hi => ?_)
    have : i = 0 := by omega
    subst this
    exact b8_eq.2 (by omega)
theorem wid_2 {c : Nat} (h : c < 2048) : wid (c : Int) = 2 ↔ 128 ≤ c := by
  unfold wid isB
  simp only [Bool.and_eq_true, Bool.or_eq_true, decide_eq_true_eq]
  (repeat' split) <;> omega
theorem wid_3 {c : Nat} (h : c < 65536) : wid (c : Int) = 3 ↔ 2048 ≤ c ∧ Utf8.valid c = true := by
  unfold wid isB Utf8.valid
  simp only [Bool.and_eq_true, Bool.or_eq_true, decide_eq_true_eq]
  (repeat' split) <;> omega
theorem wid_4 {c : Nat} : wid (c : Int) = 4 ↔ 65536 ≤ c ∧ Utf8.valid c = true := by
  unfold wid isB Utf8.valid
  simp only [Bool.and_eq_true, Bool.or_eq_true, decide_eq_true_eq]
  (repeat' split) <;> omega
theorem ok_2 {t : ByteArray} (h : 2 ≤ t.size) : okN t 2 = true ↔ by_ t 0 / 32 = 6 ∧ by_ t 1 / 64 = 2 ∧ 128 ≤ by_ t 0 % 32 * 64 + by_ t 1 % 64 := by
  have hb0 := by_lt t 0
  have hb1 := by_lt t 1
  unfold okN
  rw [Bool.and_eq_true, decide_eq_true_eq, decide_eq_true_eq]
  have hc : cand t 2 = 64 * (by_ t 0 % 32) + by_ t 1 % 64 := rfl
  obtain ⟨c, hcc⟩ : ∃ c, cand t 2 = c := ⟨_, rfl⟩
  rw [hcc] at hc ⊢
  have hw := wid_2 (c := c) (by omega)
  have ho : wid (c : Int) = 2 → (oneB c = t.extract 0 2 ↔ (192 + c / 64) % 256 = by_ t 0 ∧ (128 + c % 64) % 256 = by_ t 1) := by
    intro h2
    unfold oneB
    rw [if_neg (by omega), if_pos h2, ex_eq (l := b8 (192 + c / 64 ^ 1) :: tl c 1) h rfl]
    constructor
    · intro e
      have e0 := b8_eq.1 (e 0 (by decide))
      have e1 := b8_eq.1 (e 1 (by decide))
      rw [Nat.pow_zero, Nat.div_one] at e1
      rw [Nat.pow_one] at e0
      exact ⟨e0, e1⟩
    · rintro ⟨e0, e1⟩ i hi
      have : i = 0 ∨ i = 1 := by omega
      rcases this with rfl | rfl
      · exact b8_eq.2 (by rw [Nat.pow_one]; exact e0)
      · exact b8_eq.2 (by rw [Nat.pow_zero, Nat.div_one]; exact e1)
  constructor
  · rintro ⟨h1, h2⟩
    have := (ho h1).1 h2
    have := hw.1 h1
    omega
  · rintro ⟨h1, h2, h3⟩
    have h4 := hw.2 (by omega)
    exact ⟨h4, (ho h4).2 (by omega)⟩
theorem ok_3 {t : ByteArray} (h : 3 ≤ t.size) : okN t 3 = true ↔ by_ t 0 / 16 = 14 ∧ by_ t 1 / 64 = 2 ∧ by_ t 2 / 64 = 2 ∧ 2048 ≤ by_ t 0 % 16 * 4096 + by_ t 1 % 64 * 64 + by_ t 2 % 64 ∧ Utf8.valid (by_ t 0 % 16 * 4096 + by_ t 1 % 64 * 64 + by_ t 2 % 64 : Nat) = true := by
  have hb0 := by_lt t 0
  have hb1 := by_lt t 1
  have hb2 := by_lt t 2
  unfold okN
  rw [Bool.and_eq_true, decide_eq_true_eq, decide_eq_true_eq]
  have hc : cand t 3 = 64 * (64 * (by_ t 0 % 16) + by_ t 1 % 64) + by_ t 2 % 64 := rfl
  obtain ⟨c, hcc⟩ : ∃ c, cand t 3 = c := ⟨_, rfl⟩
  rw [hcc] at hc ⊢
  have hw := wid_3 (c := c) (by omega)
  have he : by_ t 0 % 16 * 4096 + by_ t 1 % 64 * 64 + by_ t 2 % 64 = c := by omega
  rw [he]
  have ho : wid (c : Int) = 3 → (oneB c = t.extract 0 3 ↔ (224 + c / 4096) % 256 = by_ t 0 ∧ (128 + c / 64 % 64) % 256 = by_ t 1 ∧ (128 + c % 64) % 256 = by_ t 2) := by
    intro h2
    unfold oneB
    rw [if_neg (by omega), if_neg (by omega), if_pos h2, ex_eq (l := b8 (224 + c / 64 ^ 2) :: tl c 2) h rfl]
    constructor
    · intro e
      have e0 := b8_eq.1 (e 0 (by decide))
      have e1 := b8_eq.1 (e 1 (by decide))
      have e2 := b8_eq.1 (e 2 (by decide))
      rw [Nat.pow_zero, Nat.div_one] at e2
      rw [Nat.pow_one] at e1
      exact ⟨e0, e1, e2⟩
    · rintro ⟨e0, e1, e2⟩ i hi
      have : i = 0 ∨ i = 1 ∨ i = 2 := by omega
      rcases this with rfl | rfl | rfl
      · exact b8_eq.2 e0
      · exact b8_eq.2 (by rw [Nat.pow_one]; exact e1)
      · exact b8_eq.2 (by rw [Nat.pow_zero, Nat.div_one]; exact e2)
  constructor
  · rintro ⟨h1, h2⟩
    have h3 := (ho h1).1 h2
    have h4 := hw.1 h1
    exact ⟨by omega, by omega, by omega, h4.1, h4.2⟩
  · rintro ⟨h1, h2, h3, h5, h6⟩
    have h4 := hw.2 ⟨h5, h6⟩
    exact ⟨h4, (ho h4).2 (by omega)⟩
theorem ok_4 {t : ByteArray} (h : 4 ≤ t.size) : okN t 4 = true ↔ by_ t 0 / 8 = 30 ∧ by_ t 1 / 64 = 2 ∧ by_ t 2 / 64 = 2 ∧ by_ t 3 / 64 = 2 ∧ 65536 ≤ by_ t 0 % 8 * 262144 + by_ t 1 % 64 * 4096 + by_ t 2 % 64 * 64 + by_ t 3 % 64 ∧ Utf8.valid (by_ t 0 % 8 * 262144 + by_ t 1 % 64 * 4096 + by_ t 2 % 64 * 64 + by_ t 3 % 64 : Nat) = true := by
  have hb0 := by_lt t 0
  have hb1 := by_lt t 1
  have hb2 := by_lt t 2
  have hb3 := by_lt t 3
  unfold okN
  rw [Bool.and_eq_true, decide_eq_true_eq, decide_eq_true_eq]
  have hc : cand t 4 = 64 * (64 * (64 * (by_ t 0 % 8) + by_ t 1 % 64) + by_ t 2 % 64) + by_ t 3 % 64 := rfl
  obtain ⟨c, hcc⟩ : ∃ c, cand t 4 = c := ⟨_, rfl⟩
  rw [hcc] at hc ⊢
  have hw := wid_4 (c := c)
  have he : by_ t 0 % 8 * 262144 + by_ t 1 % 64 * 4096 + by_ t 2 % 64 * 64 + by_ t 3 % 64 = c := by omega
  rw [he]
  have ho : wid (c : Int) = 4 → (oneB c = t.extract 0 4 ↔ (240 + c / 262144) % 256 = by_ t 0 ∧ (128 + c / 4096 % 64) % 256 = by_ t 1 ∧ (128 + c / 64 % 64) % 256 = by_ t 2 ∧ (128 + c % 64) % 256 = by_ t 3) := by
    intro h2
    unfold oneB
    rw [if_neg (by omega), if_neg (by omega), if_neg (by omega), ex_eq (l := b8 (240 + c / 64 ^ 3) :: tl c 3) h rfl]
    constructor
    · intro e
      have e0 := b8_eq.1 (e 0 (by decide))
      have e1 := b8_eq.1 (e 1 (by decide))
      have e2 := b8_eq.1 (e 2 (by decide))
      have e3 := b8_eq.1 (e 3 (by decide))
      rw [Nat.pow_zero, Nat.div_one] at e3
      rw [Nat.pow_one] at e2
      exact ⟨e0, e1, e2, e3⟩
    · rintro ⟨e0, e1, e2, e3⟩ i hi
      have : i = 0 ∨ i = 1 ∨ i = 2 ∨ i = 3 := by omega
      rcases this with rfl | rfl | rfl | rfl
      · exact b8_eq.2 e0
      · exact b8_eq.2 e1
      · exact b8_eq.2 (by rw [Nat.pow_one]; exact e2)
      · exact b8_eq.2 (by rw [Nat.pow_zero, Nat.div_one]; exact e3)
  constructor
  · rintro ⟨h1, h2⟩
    have h3 := (ho h1).1 h2
    have h4 := hw.1 h1
    exact ⟨by omega, by omega, by omega, by omega, h4.1, h4.2⟩
  · rintro ⟨h1, h2, h3, h5, h6, h7⟩
    have h4 := hw.2 ⟨h6, h7⟩
    exact ⟨h4, (ho h4).2 (by omega)⟩
theorem first_dec {t : ByteArray} (h : 1 ≤ t.size) : firstF t 1 = if bad t 0 = true then -1 else ((Utf8.decode t 0).1 : Int) := by
  have hb0 := by_lt t 0
  have c1 : cand t 1 = by_ t 0 := rfl
  have c2 : cand t 2 = by_ t 0 % 32 * 64 + by_ t 1 % 64 := by show 64 * (by_ t 0 % 32) + by_ t 1 % 64 = _; omega
  have c3 : cand t 3 = by_ t 0 % 16 * 4096 + by_ t 1 % 64 * 64 + by_ t 2 % 64 := by show 64 * (64 * (by_ t 0 % 16) + by_ t 1 % 64) + by_ t 2 % 64 = _; omega
  have c4 : cand t 4 = by_ t 0 % 8 * 262144 + by_ t 1 % 64 * 4096 + by_ t 2 % 64 * 64 + by_ t 3 % 64 := by show 64 * (64 * (64 * (by_ t 0 % 8) + by_ t 1 % 64) + by_ t 2 % 64) + by_ t 3 % 64 = _; omega
  have g : ∀ k, (t.get! k).toNat = by_ t k := fun _ => rfl
  unfold bad Utf8.decode
  simp only [g, Utf8.runeError, Bool.and_eq_true, decide_eq_true_eq, beq_iff_eq, Nat.zero_add, ge_iff_le]
  rw [firstF, dif_pos (by decide), if_pos h, firstF, dif_pos (by decide), firstF, dif_pos (by decide), firstF, dif_pos (by decide), firstF, dif_neg (by decide)]
  simp only [Nat.reduceAdd]
  by_cases k1 : by_ t 0 < 128
  · rw [if_pos ((ok_1 h).2 k1), if_pos k1, if_neg (by intro e; have := congrArg Prod.fst e; simp at this; omega), c1]
  · rw [if_neg (fun e => k1 ((ok_1 h).1 e)), if_neg k1]
    by_cases s2 : 2 ≤ t.size
    · rw [if_pos s2]
      by_cases k2 : by_ t 0 / 32 = 6 ∧ 1 < t.size ∧ by_ t 1 / 64 = 2
      · rw [if_pos k2]
        by_cases k3 : 128 ≤ by_ t 0 % 32 * 64 + by_ t 1 % 64
        · rw [if_pos ((ok_2 s2).2 ⟨k2.1, k2.2.2, k3⟩), if_pos k3, if_neg (by intro e; have := congrArg Prod.snd e; simp at this), c2]
        · have n2 : ¬ okN t 2 = true := fun e => k3 ((ok_2 s2).1 e).2.2
          rw [if_neg n2, if_neg k3, if_pos rfl]
          by_cases s3 : 3 ≤ t.size
          · have n3 : ¬ okN t 3 = true := fun e => by have := ((ok_3 s3).1 e).1; omega
            rw [if_pos s3, if_neg n3]
            by_cases s4 : 4 ≤ t.size
            · have n4 : ¬ okN t 4 = true := fun e => by have := ((ok_4 s4).1 e).1; omega
              rw [if_pos s4, if_neg n4]
            · rw [if_neg s4]
          · rw [if_neg s3]
      · have n2 : ¬ okN t 2 = true := fun e => k2 ⟨((ok_2 s2).1 e).1, s2, ((ok_2 s2).1 e).2.1⟩
        rw [if_neg k2, if_neg n2]
        by_cases s3 : 3 ≤ t.size
        · rw [if_pos s3]
          by_cases k3 : (by_ t 0 / 16 = 14 ∧ 1 < t.size ∧ by_ t 1 / 64 = 2) ∧ 2 < t.size ∧ by_ t 2 / 64 = 2
          · rw [if_pos k3]
            by_cases k4 : 2048 ≤ by_ t 0 % 16 * 4096 + by_ t 1 % 64 * 64 + by_ t 2 % 64 ∧ Utf8.valid (by_ t 0 % 16 * 4096 + by_ t 1 % 64 * 64 + by_ t 2 % 64 : Nat) = true
            · rw [if_pos ((ok_3 s3).2 ⟨k3.1.1, k3.1.2.2, k3.2.2, k4.1, k4.2⟩), if_pos k4, if_neg (by intro e; have := congrArg Prod.snd e; simp at this), c3]
            · have n3 : ¬ okN t 3 = true := fun e => k4 ((ok_3 s3).1 e).2.2.2
              rw [if_neg n3, if_neg k4, if_pos rfl]
              by_cases s4 : 4 ≤ t.size
              · have n4 : ¬ okN t 4 = true := fun e => by have := ((ok_4 s4).1 e).1; omega
                rw [if_pos s4, if_neg n4]
              · rw [if_neg s4]
          · have n3 : ¬ okN t 3 = true := fun e => k3 ⟨⟨((ok_3 s3).1 e).1, s2, ((ok_3 s3).1 e).2.1⟩, s3, ((ok_3 s3).1 e).2.2.1⟩
            rw [if_neg k3, if_neg n3]
            by_cases s4 : 4 ≤ t.size
            · rw [if_pos s4]
              by_cases k5 : ((by_ t 0 / 8 = 30 ∧ 1 < t.size ∧ by_ t 1 / 64 = 2) ∧ 2 < t.size ∧ by_ t 2 / 64 = 2) ∧ 3 < t.size ∧ by_ t 3 / 64 = 2
              · rw [if_pos k5]
                by_cases k6 : 65536 ≤ by_ t 0 % 8 * 262144 + by_ t 1 % 64 * 4096 + by_ t 2 % 64 * 64 + by_ t 3 % 64 ∧ Utf8.valid (by_ t 0 % 8 * 262144 + by_ t 1 % 64 * 4096 + by_ t 2 % 64 * 64 + by_ t 3 % 64 : Nat) = true
                · rw [if_pos ((ok_4 s4).2 ⟨k5.1.1.1, k5.1.1.2.2, k5.1.2.2, k5.2.2, k6.1, k6.2⟩), if_pos k6, if_neg (by intro e; have := congrArg Prod.snd e; simp at this), c4]
                · have n4 : ¬ okN t 4 = true := fun e => k6 ((ok_4 s4).1 e).2.2.2.2
                  rw [if_neg n4, if_neg k6, if_pos rfl]
              · have n4 : ¬ okN t 4 = true := fun e => k5 ⟨⟨⟨((ok_4 s4).1 e).1, s2, ((ok_4 s4).1 e).2.1⟩, s3, ((ok_4 s4).1 e).2.2.1⟩, s4, ((ok_4 s4).1 e).2.2.2.1⟩
                rw [if_neg k5, if_neg n4, if_pos rfl]
            · rw [if_neg s4, if_neg (show ¬ (((by_ t 0 / 8 = 30 ∧ 1 < t.size ∧ by_ t 1 / 64 = 2) ∧ 2 < t.size ∧ by_ t 2 / 64 = 2) ∧ 3 < t.size ∧ by_ t 3 / 64 = 2) by omega), if_pos rfl]
        · rw [if_neg s3, if_neg (show ¬ ((by_ t 0 / 16 = 14 ∧ 1 < t.size ∧ by_ t 1 / 64 = 2) ∧ 2 < t.size ∧ by_ t 2 / 64 = 2) by omega), if_neg (show ¬ (((by_ t 0 / 8 = 30 ∧ 1 < t.size ∧ by_ t 1 / 64 = 2) ∧ 2 < t.size ∧ by_ t 2 / 64 = 2) ∧ 3 < t.size ∧ by_ t 3 / 64 = 2) by omega), if_pos rfl]
    · rw [if_neg s2, if_neg (show ¬ (by_ t 0 / 32 = 6 ∧ 1 < t.size ∧ by_ t 1 / 64 = 2) by omega), if_neg (show ¬ ((by_ t 0 / 16 = 14 ∧ 1 < t.size ∧ by_ t 1 / 64 = 2) ∧ 2 < t.size ∧ by_ t 2 / 64 = 2) by omega), if_neg (show ¬ (((by_ t 0 / 8 = 30 ∧ 1 < t.size ∧ by_ t 1 / 64 = 2) ∧ 2 < t.size ∧ by_ t 2 / 64 = 2) ∧ 3 < t.size ∧ by_ t 3 / 64 = 2) by omega), if_pos rfl]
theorem wid_dec {s : ByteArray} {i : Nat} (hb : bad s i = false) : wid ((Utf8.decode s i).1 : Int) = (Utf8.decode s i).2 := by
  have hb := decide_eq_false_iff_not.1 hb
  have b0 := (s.get! (i + 0)).toNat_lt
  have b1 := (s.get! (i + 1)).toNat_lt
  have b2 := (s.get! (i + 2)).toNat_lt
  have w1 : ∀ n : Nat, n < 128 → wid (n : Int) = 1 := fun n h => by unfold wid isB; simp; omega
  unfold Utf8.decode at hb ⊢
  simp only [Utf8.runeError] at hb ⊢
  split at hb
  · rename_i c0; rw [if_pos c0]; exact w1 _ c0
  · rename_i c0; rw [if_neg c0]
    split at hb
    · rename_i c1; rw [if_pos c1]
      split at hb
      · rename_i c2; rw [if_pos c2]; exact (wid_2 (by omega)).2 c2
      · exact absurd rfl hb
    · rename_i c1; rw [if_neg c1]
      split at hb
      · rename_i c2; rw [if_pos c2]
        split at hb
        · rename_i c3; rw [if_pos c3]
          have c3 := Bool.and_eq_true_iff.1 c3
          exact (wid_3 (by omega)).2 ⟨of_decide_eq_true c3.1, c3.2⟩
        · exact absurd rfl hb
      · rename_i c2; rw [if_neg c2]
        split at hb
        · rename_i c3; rw [if_pos c3]
          split at hb
          · rename_i c4; rw [if_pos c4]
            have c4 := Bool.and_eq_true_iff.1 c4
            exact wid_4.2 ⟨of_decide_eq_true c4.1, c4.2⟩
          · exact absurd rfl hb
        · exact absurd rfl hb
end Go.Proofs.Ythekoefcienipaa
