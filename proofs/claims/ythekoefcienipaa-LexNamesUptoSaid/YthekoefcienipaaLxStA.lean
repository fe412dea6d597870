/- Parts of a text. -/
import Derived.Test.YthekoefcienipaaLxLw
namespace Go.Proofs.Ythekoefcienipaa
open Go.RowKit

theorem decB_pre {b0 b1 b2 b3 c0 c1 c2 c3 n : Nat} {h1 h2 h3 k1 k2 k3 : Bool} {D : Nat × Nat} (hD : decB b0 b1 b2 b3 h1 h2 h3 = D) (hb : D ≠ (65533, 1)) (hn : D.2 = n) (g0 : c0 = b0) (g1 : 1 < n → c1 = b1 ∧ k1 = true) (g2 : 2 < n → c2 = b2 ∧ k2 = true) (g3 : 3 < n → c3 = b3 ∧ k3 = true) : decB c0 c1 c2 c3 k1 k2 k3 = D := by
  subst g0
  unfold decB at hD
  split at hD
  · rename_i i0
    unfold decB
    rw [if_pos i0]; exact hD
  · rename_i i0
    split at hD
    · rename_i i1
      split at hD
      · rename_i i2
        subst hD
        have hn : 2 = n := hn
        subst hn
        obtain ⟨rfl, rfl⟩ := g1 (by decide)
        simp only [Bool.and_eq_true, beq_iff_eq] at i1
        unfold decB
        rw [if_neg i0, if_pos (by simp only [Bool.and_eq_true, beq_iff_eq]; exact ⟨i1.1, trivial, i1.2.2⟩), if_pos i2]
      · exact absurd hD.symm hb
    · rename_i i1
      split at hD
      · rename_i i2
        split at hD
        · rename_i i3
          subst hD
          have hn : 3 = n := hn
          subst hn
          obtain ⟨rfl, rfl⟩ := g1 (by decide)
          obtain ⟨rfl, rfl⟩ := g2 (by decide)
          simp only [Bool.and_eq_true, beq_iff_eq] at i1 i2
          unfold decB
          rw [if_neg i0, if_neg (by simp only [Bool.and_eq_true, beq_iff_eq]; omega), if_pos (by simp only [Bool.and_eq_true, beq_iff_eq]; exact ⟨⟨i2.1.1, trivial, i2.1.2.2⟩, trivial, i2.2.2⟩), if_pos i3]
        · exact absurd hD.symm hb
      · rename_i i2
        split at hD
        · rename_i i3
          split at hD
          · rename_i i4
            subst hD
            have hn : 4 = n := hn
            subst hn
            obtain ⟨rfl, rfl⟩ := g1 (by decide)
            obtain ⟨rfl, rfl⟩ := g2 (by decide)
            obtain ⟨rfl, rfl⟩ := g3 (by decide)
            simp only [Bool.and_eq_true, beq_iff_eq] at i1 i2 i3
            unfold decB
            rw [if_neg i0, if_neg (by simp only [Bool.and_eq_true, beq_iff_eq]; omega), if_neg (by simp only [Bool.and_eq_true, beq_iff_eq]; omega), if_pos (by simp only [Bool.and_eq_true, beq_iff_eq]; exact ⟨⟨⟨i3.1.1.1, trivial, i3.1.1.2.2⟩, trivial, i3.1.2.2⟩, trivial, i3.2.2⟩), if_pos i4]
          · exact absurd hD.symm hb
        · exact absurd hD.symm hb
theorem size_ext {s : ByteArray} {a b : Nat} (hb : b ≤ s.size) : (s.extract a b).size = b - a := by rw [ByteArray.size_extract]; omega
/-- What stands whole within a part of a text is read there as in the text. -/
theorem dec_down {s : ByteArray} {a b i : Nat} (hb : b ≤ s.size) (hbd : bad s (a + i) = false) (hi : a + i + (Utf8.decode s (a + i)).2 ≤ b) : Utf8.decode (s.extract a b) i = Utf8.decode s (a + i) := by
  have hw := width_pos s (a + i)
  have hz := size_ext (a := a) hb
  have hb1 := decide_eq_false_iff_not.1 hbd
  rw [dec_decB (s.extract a b) i]
  refine decB_pre (dec_decB s (a + i)).symm hb1 rfl (by_ext hb (.inl (by omega))) (fun h => ⟨?_, ?_⟩) (fun h => ⟨?_, ?_⟩) (fun h => ⟨?_, ?_⟩)
  · rw [by_ext hb (.inl (by omega)), Nat.add_assoc]
  · rw [decide_eq_true_eq]; omega
  · rw [by_ext hb (.inl (by omega)), Nat.add_assoc]
  · rw [decide_eq_true_eq]; omega
  · rw [by_ext hb (.inl (by omega)), Nat.add_assoc]
  · rw [decide_eq_true_eq]; omega
theorem dec_up {s : ByteArray} {a b i : Nat} (hb : b ≤ s.size) (hi : i < (s.extract a b).size) (hbd : bad (s.extract a b) i = false) : Utf8.decode s (a + i) = Utf8.decode (s.extract a b) i := by
  have hwl := width_le hi
  have hz := size_ext (a := a) hb
  have hb1 := decide_eq_false_iff_not.1 hbd
  rw [dec_decB s (a + i)]
  refine decB_pre (dec_decB (s.extract a b) i).symm hb1 rfl (by_ext hb (.inl (by omega))).symm (fun h => ⟨?_, ?_⟩) (fun h => ⟨?_, ?_⟩) (fun h => ⟨?_, ?_⟩)
  · rw [by_ext hb (.inl (by omega)), Nat.add_assoc]
  · rw [decide_eq_true_eq]; omega
  · rw [by_ext hb (.inl (by omega)), Nat.add_assoc]
  · rw [decide_eq_true_eq]; omega
  · rw [by_ext hb (.inl (by omega)), Nat.add_assoc]
  · rw [decide_eq_true_eq]; omega
theorem bad_down {s : ByteArray} {a b i : Nat} (hb : b ≤ s.size) (hbd : bad s (a + i) = false) (hi : a + i + (Utf8.decode s (a + i)).2 ≤ b) : bad (s.extract a b) i = false := by
  unfold bad
  rw [dec_down hb hbd hi]
  exact hbd
theorem bad_up {s : ByteArray} {a b i : Nat} (hb : b ≤ s.size) (hi : i < (s.extract a b).size) (hbd : bad (s.extract a b) i = false) : bad s (a + i) = false := by
  unfold bad
  rw [dec_up hb hi hbd]
  exact hbd
theorem ext_ext {s : ByteArray} {a b p q : Nat} (hq : a + q ≤ b) : (s.extract a b).extract p q = s.extract (a + p) (a + q) := by
  apply bytes_eq
  simp only [ByteArray.data_extract, Array.toList_extract, List.extract_eq_take_drop]
  have h1 : min (q - p) (b - a - p) = a + q - (a + p) := by omega
  rw [List.drop_take, List.take_take, List.drop_drop, h1]
/-- A step of one code point that begins no name: whether a remark goes on, the tokens; none: it can't be. -/
def stepC (s : ByteArray) (p n : Nat) (r : Int) (rem : Bool) (out : List Tok) : Option (Bool × List Tok) :=
  if (rem || r == 35) = true then some (r != 10, out) else if markD r = true then some (rem, out ++ [⟨2, s.extract p (p + n), p⟩]) else if cls r = 3 then some (rem, out) else none
theorem dL_char {s : ByteArray} {p : Nat} {rem : Bool} {out : List Tok} (h : p < s.size) (hb : bad s p = false) (hn : rem = true ∨ cls (Utf8.decode s p).1 ≠ 1) :
    dL s p rem out = match stepC s p (Utf8.decode s p).2 (Utf8.decode s p).1 rem out with | some (rem', out') => dL s (p + (Utf8.decode s p).2) rem' out' | none => .inr (p, 10) := by
  rw [dL_step h hb]
  unfold stepC
  by_cases h1 : (rem || ((Utf8.decode s p).1 : Int) == 35) = true
  · rw [if_pos h1, if_pos h1]
  · rw [if_neg h1, if_neg h1]
    have hc : cls (Utf8.decode s p).1 ≠ 1 := by
      rcases hn with h | h
      · rw [h] at h1; exact absurd rfl h1
      · exact h
    rw [if_neg hc]
    split
    · rfl
    · split <;> rfl
theorem dL_name {s : ByteArray} {p : Nat} {out : List Tok} (h : p < s.size) (hb : bad s p = false) (hc : cls (Utf8.decode s p).1 = 1) :
    dL s p false out = if (runE s p : Int) - p > 24 then .inr (p, 5) else dL s (runE s p) false (out ++ [⟨1, s.extract p (runE s p), p⟩]) := by
  rw [dL_step h hb, cls35 hc, Bool.false_or, if_neg Bool.false_ne_true, if_pos hc]
/-- The document's reading comes from p, with these tokens, to b, with those. -/
inductive Reach (s : ByteArray) : Nat → Bool → List Tok → Nat → Bool → List Tok → Prop where
  | refl (p : Nat) (rem : Bool) (out : List Tok) : Reach s p rem out p rem out
  | char {p : Nat} {rem rem' rem2 : Bool} {out out' out2 : List Tok} {b : Nat} (hp : p < s.size) (hb : bad s p = false) (hn : rem = true ∨ cls (Utf8.decode s p).1 ≠ 1)
      (hs : stepC s p (Utf8.decode s p).2 (Utf8.decode s p).1 rem out = some (rem', out')) (ht : Reach s (p + (Utf8.decode s p).2) rem' out' b rem2 out2) : Reach s p rem out b rem2 out2
  | name {p : Nat} {rem2 : Bool} {out out2 : List Tok} {b : Nat} (hp : p < s.size) (hb : bad s p = false) (hc : cls (Utf8.decode s p).1 = 1) (hl : ¬ (runE s p : Int) - p > 24)
      (ht : Reach s (runE s p) false (out ++ [⟨1, s.extract p (runE s p), p⟩]) b rem2 out2) : Reach s p false out b rem2 out2
theorem Reach.le {s : ByteArray} {p b : Nat} {rem rem2 : Bool} {out out2 : List Tok} (h : Reach s p rem out b rem2 out2) : p ≤ b := by
  induction h with
  | refl => exact Nat.le_refl _
  | char hp hb hn hs ht ih => omega
  | @name p rem2 out out2 b hp hb hc hl ht ih => have := runE_ge s p; omega
theorem Reach.dL {s : ByteArray} {p b : Nat} {rem rem2 : Bool} {out out2 : List Tok} (h : Reach s p rem out b rem2 out2) : dL s p rem out = dL s b rem2 out2 := by
  induction h with
  | refl => rfl
  | char hp hb hn hs ht ih => rw [dL_char hp hb hn, hs]; exact ih
  | name hp hb hc hl ht ih => rw [dL_name hp hb hc, if_neg hl]; exact ih
theorem Reach.trans {s : ByteArray} {p b c : Nat} {rem rem2 rem3 : Bool} {out out2 out3 : List Tok} (h : Reach s p rem out b rem2 out2) (k : Reach s b rem2 out2 c rem3 out3) : Reach s p rem out c rem3 out3 := by
  induction h with
  | refl => exact k
  | char hp hb hn hs ht ih => exact .char hp hb hn hs (ih k)
  | name hp hb hc hl ht ih => exact .name hp hb hc hl (ih k)
theorem run_stop {s : ByteArray} {p : Nat} (hE : runE s p < s.size) (hb : bad s (runE s p) = false) : namC (Utf8.decode s (runE s p)).1 = false := by
  induction hk : s.size - p using Nat.strongRecOn generalizing p with
  | _ n ih =>
    by_cases hps : p < s.size
    · cases hbd : bad s p with
      | true => rw [runE_bad hbd] at hb; rw [hbd] at hb; cases hb
      | false =>
        cases hn : namC (Utf8.decode s p).1 with
        | false => rw [runE_no hn]; exact hn
        | true =>
          have hw := width_pos s p
          rw [runE_next hps hbd hn] at hE hb ⊢
          exact ih _ (by omega) hE hb rfl
    · rw [runE_end hps] at hE; omega
/-- A name that ends within a part of a text ends there in the part. -/
theorem run_pre {s : ByteArray} {p b : Nat} (hbs : b ≤ s.size) (hE : runE s p ≤ b) (hst : runE s p < b → namC (Utf8.decode (s.extract 0 b) (runE s p)).1 = false) : runE (s.extract 0 b) p = runE s p := by
  induction hk : s.size - p using Nat.strongRecOn generalizing p with
  | _ n ih =>
    have hz := size_ext (a := 0) hbs
    by_cases hnx : p < s.size ∧ bad s p = false ∧ namC (Utf8.decode s p).1 = true
    · obtain ⟨hps, hbd, hn⟩ := hnx
      have hw := width_pos s p
      have hge := runE_ge s (p + (Utf8.decode s p).2)
      rw [runE_next hps hbd hn] at hE hst ⊢
      have hd := dec_down (a := 0) (i := p) hbs (by rw [Nat.zero_add]; exact hbd) (by rw [Nat.zero_add]; omega)
      have hb2 := bad_down (a := 0) (i := p) hbs (by rw [Nat.zero_add]; exact hbd) (by rw [Nat.zero_add]; omega)
      rw [Nat.zero_add] at hd
      rw [runE_next (by omega) hb2 (by rw [hd]; exact hn), hd]
      exact ih _ (by omega) hE hst rfl
    · have hself : runE s p = p := by
        by_cases hps : p < s.size
        · cases hbd : bad s p with
          | true => exact runE_bad hbd
          | false =>
            cases hn : namC (Utf8.decode s p).1 with
            | false => exact runE_no hn
            | true => exact absurd ⟨hps, hbd, hn⟩ hnx
        · exact runE_end hps
      rw [hself] at hE hst ⊢
      by_cases hpb : p < b
      · exact runE_no (hst hpb)
      · exact runE_end (by omega)
theorem cls_nam {r : Int} (h : namC r = false) : cls r ≠ 1 := by
  unfold namC at h
  rw [Bool.or_eq_false_iff, decide_eq_false_iff_not] at h
  exact h.1
/-- Where the reading comes to, the part of the text up to there is read so too. -/
theorem Reach.pre {s : ByteArray} {p b : Nat} {rem rem2 : Bool} {out out2 : List Tok} (h : Reach s p rem out b rem2 out2) (hbs : b ≤ s.size) : Reach (s.extract 0 b) p rem out b rem2 out2 := by
  induction h with
  | refl => exact .refl _ _ _
  | @char p rem rem' rem2 out out' out2 b hp hb hn hs ht ih =>
    have hle := ht.le
    have hz := size_ext (a := 0) hbs
    have hw := width_pos s p
    have hd := dec_down (a := 0) (i := p) hbs (by rw [Nat.zero_add]; exact hb) (by rw [Nat.zero_add]; omega)
    have hb2 := bad_down (a := 0) (i := p) hbs (by rw [Nat.zero_add]; exact hb) (by rw [Nat.zero_add]; omega)
    rw [Nat.zero_add] at hd
    have hx := ext_ext (a := 0) (p := p) (q := p + (Utf8.decode s p).2) (s := s) (b := b) (by omega)
    rw [Nat.zero_add, Nat.zero_add] at hx
    refine .char (by omega) hb2 (by rw [hd]; exact hn) (rem' := rem') (out' := out') ?_ (by rw [hd]; exact ih hbs)
    rw [hd]
    unfold stepC at hs ⊢
    rw [hx]
    exact hs
  | @name p rem2 out out2 b hp hb hc hl ht ih =>
    have hle := ht.le
    have hz := size_ext (a := 0) hbs
    have hgt := runE_gt hp hb hc
    have hw := width_pos s p
    have hnx := runE_next hp hb (by unfold namC; rw [hc]; rfl)
    have hge := runE_ge s (p + (Utf8.decode s p).2)
    rw [← hnx] at hge
    have hd := dec_down (a := 0) (i := p) hbs (by rw [Nat.zero_add]; exact hb) (by rw [Nat.zero_add]; omega)
    have hb2 := bad_down (a := 0) (i := p) hbs (by rw [Nat.zero_add]; exact hb) (by rw [Nat.zero_add]; omega)
    rw [Nat.zero_add] at hd
    have hr : runE (s.extract 0 b) p = runE s p := by
      refine run_pre hbs hle (fun hlt => ?_)
      cases ht with
      | refl => omega
      | char hp' hb' hn' hs' ht' =>
        have hle' := ht'.le
        have hd' := dec_down (a := 0) (i := runE s p) hbs (by rw [Nat.zero_add]; exact hb') (by rw [Nat.zero_add]; omega)
        rw [Nat.zero_add] at hd'
        rw [hd']
        exact run_stop hp' hb'
      | name hp' hb' hc' hl' ht' =>
        have := run_stop hp' hb'
        exact absurd hc' (cls_nam this)
    have hx := ext_ext (a := 0) (p := p) (q := runE s p) (s := s) (b := b) (by omega)
    rw [Nat.zero_add, Nat.zero_add] at hx
    refine .name (by omega) hb2 (by rw [hd]; exact hc) (by rw [hr]; exact hl) ?_
    rw [hr, hx]
    exact ih hbs
end Go.Proofs.Ythekoefcienipaa
