/- Parts of a text. -/
import Derived.Test.YtidilpciolladaaGd
import Derived.Test.YtidilpciolladaaGa
/- Parts of a text. -/
namespace Go.Proofs.Ytidilpciolladaa
open Go.RowKit

theorem decB_pre {b0 b1 b2 b3 c0 c1 c2 c3 n : Nat} {h1 h2 h3 k1 k2 k3 : Bool} {D : Nat × Nat} (hD : decB b0 b1 b2 b3 h1 h2 h3 = D) (hb : D ≠ (65533, 1)) (hn : D.2 = n) (g0 : c0 = b0) (g1 : 1 < n → c1 = b1 ∧ k1 = true) (g2 : 2 < n → c2 = b2 ∧ k2 = true) (g3 : 3 < n → c3 = b3 ∧ k3 = true) : decB c0 c1 c2 c3 k1 k2 k3 = D := by
  subst g0
  unfold decB at hD
  split at hD
  · rename_i i0
    unfold decB
    rw [if_pos i0]; exact hD
  · rename_i i0
    split at hD
    · rename_i i1
      split at hD
      · rename_i i2
        subst hD
        have hn : 2 = n := hn
        subst hn
        obtain ⟨rfl, rfl⟩ := g1 (by decide)
        simp only [Bool.and_eq_true, beq_iff_eq] at i1
        unfold decB
        rw [if_neg i0, if_pos (by simp only [Bool.and_eq_true, beq_iff_eq]; exact ⟨i1.1, trivial, i1.2.2⟩), if_pos i2]
      · exact absurd hD.symm hb
    · rename_i i1
      split at hD
      · rename_i i2
        split at hD
        · rename_i i3
          subst hD
          have hn : 3 = n := hn
          subst hn
          obtain ⟨rfl, rfl⟩ := g1 (by decide)
          obtain ⟨rfl, rfl⟩ := g2 (by decide)
          simp only [Bool.and_eq_true, beq_iff_eq] at i1 i2
          unfold decB
          rw [if_neg i0, if_neg (by simp only [Bool.and_eq_true, beq_iff_eq]; omega), if_pos (by simp only [Bool.and_eq_true, beq_iff_eq]; exact ⟨⟨i2.1.1, trivial, i2.1.2.2⟩, trivial, i2.2.2⟩), if_pos i3]
        · exact absurd hD.symm hb
      · rename_i i2
        split at hD
        · rename_i i3
          split at hD
          · rename_i i4
            subst hD
            have hn : 4 = n := hn
            subst hn
            obtain ⟨rfl, rfl⟩ := g1 (by decide)
            obtain ⟨rfl, rfl⟩ := g2 (by decide)
            obtain ⟨rfl, rfl⟩ := g3 (by decide)
            simp only [Bool.and_eq_true, beq_iff_eq] at i1 i2 i3
            unfold decB
            rw [if_neg i0, if_neg (by simp only [Bool.and_eq_true, beq_iff_eq]; omega), if_neg (by simp only [Bool.and_eq_true, beq_iff_eq]; omega), if_pos (by simp only [Bool.and_eq_true, beq_iff_eq]; exact ⟨⟨⟨i3.1.1.1, trivial, i3.1.1.2.2⟩, trivial, i3.1.2.2⟩, trivial, i3.2.2⟩), if_pos i4]
          · exact absurd hD.symm hb
        · exact absurd hD.symm hb
theorem size_ext {s : ByteArray} {a b : Nat} (hb : b ≤ s.size) : (s.extract a b).size = b - a := by rw [ByteArray.size_extract]; omega
/-- What stands whole within a part of a text is read there as in the text. -/
theorem dec_down {s : ByteArray} {a b i : Nat} (hb : b ≤ s.size) (hbd : bad s (a + i) = false) (hi : a + i + (Utf8.decode s (a + i)).2 ≤ b) : Utf8.decode (s.extract a b) i = Utf8.decode s (a + i) := by
  have hw := width_pos s (a + i)
  have hz := size_ext (a := a) hb
  have hb1 := decide_eq_false_iff_not.1 hbd
  rw [dec_decB (s.extract a b) i]
  refine decB_pre (dec_decB s (a + i)).symm hb1 rfl (by_ext hb (.inl (by omega))) (fun h => ⟨?_, ?_⟩) (fun h => ⟨?_, ?_⟩) (fun h => ⟨?_, ?_⟩)
  · rw [by_ext hb (.inl (by omega)), Nat.add_assoc]
  · rw [decide_eq_true_eq]; omega
  · rw [by_ext hb (.inl (by omega)), Nat.add_assoc]
  · rw [decide_eq_true_eq]; omega
  · rw [by_ext hb (.inl (by omega)), Nat.add_assoc]
  · rw [decide_eq_true_eq]; omega
theorem dec_up {s : ByteArray} {a b i : Nat} (hb : b ≤ s.size) (hi : i < (s.extract a b).size) (hbd : bad (s.extract a b) i = false) : Utf8.decode s (a + i) = Utf8.decode (s.extract a b) i := by
  have hwl := width_le hi
  have hz := size_ext (a := a) hb
  have hb1 := decide_eq_false_iff_not.1 hbd
  rw [dec_decB s (a + i)]
  refine decB_pre (dec_decB (s.extract a b) i).symm hb1 rfl (by_ext hb (.inl (by omega))).symm (fun h => ⟨?_, ?_⟩) (fun h => ⟨?_, ?_⟩) (fun h => ⟨?_, ?_⟩)
  · rw [by_ext hb (.inl (by omega)), Nat.add_assoc]
  · rw [decide_eq_true_eq]; omega
  · rw [by_ext hb (.inl (by omega)), Nat.add_assoc]
  · rw [decide_eq_true_eq]; omega
  · rw [by_ext hb (.inl (by omega)), Nat.add_assoc]
  · rw [decide_eq_true_eq]; omega
theorem bad_down {s : ByteArray} {a b i : Nat} (hb : b ≤ s.size) (hbd : bad s (a + i) = false) (hi : a + i + (Utf8.decode s (a + i)).2 ≤ b) : bad (s.extract a b) i = false := by
  unfold bad
  rw [dec_down hb hbd hi]
  exact hbd
theorem bad_up {s : ByteArray} {a b i : Nat} (hb : b ≤ s.size) (hi : i < (s.extract a b).size) (hbd : bad (s.extract a b) i = false) : bad s (a + i) = false := by
  unfold bad
  rw [dec_up hb hi hbd]
  exact hbd
theorem ext_ext {s : ByteArray} {a b p q : Nat} (hq : a + q ≤ b) : (s.extract a b).extract p q = s.extract (a + p) (a + q) := by
  apply bytes_eq
  simp only [ByteArray.data_extract, Array.toList_extract, List.extract_eq_take_drop]
  have h1 : min (q - p) (b - a - p) = a + q - (a + p) := by omega
  rw [List.drop_take, List.take_take, List.drop_drop, h1]
/-- A step of one code point that begins no name: whether a remark goes on, the tokens; none: it can't be. -/
def stepC (s : ByteArray) (p n : Nat) (r : Int) (rem : Bool) (out : List Tok) : Option (Bool × List Tok) :=
  if (rem || r == 35) = true then some (r != 10, out) else if markD r = true then some (rem, out ++ [⟨2, s.extract p (p + n), p⟩]) else if cls r = 3 then some (rem, out) else none
theorem dL_char {s : ByteArray} {p : Nat} {rem : Bool} {out : List Tok} (h : p < s.size) (hb : bad s p = false) (hn : rem = true ∨ cls (Utf8.decode s p).1 ≠ 1) :
    dL s p rem out = match stepC s p (Utf8.decode s p).2 (Utf8.decode s p).1 rem out with | some (rem', out') => dL s (p + (Utf8.decode s p).2) rem' out' | none => .inr (p, 10) := by
  rw [dL_step h hb]
  unfold stepC
  by_cases h1 : (rem || ((Utf8.decode s p).1 : Int) == 35) = true
  · rw [if_pos h1, if_pos h1]
  · rw [if_neg h1, if_neg h1]
    have hc : cls (Utf8.decode s p).1 ≠ 1 := by
      rcases hn with h | h
      · rw [h] at h1; exact absurd rfl h1
      · exact h
    rw [if_neg hc]
    split
    · rfl
    · split <;> rfl
theorem dL_name {s : ByteArray} {p : Nat} {out : List Tok} (h : p < s.size) (hb : bad s p = false) (hc : cls (Utf8.decode s p).1 = 1) :
    dL s p false out = if (runE s p : Int) - p > 24 then .inr (p, 5) else dL s (runE s p) false (out ++ [⟨1, s.extract p (runE s p), p⟩]) := by
  rw [dL_step h hb, cls35 hc, Bool.false_or, if_neg Bool.false_ne_true, if_pos hc]
/-- The document's reading comes from p, with these tokens, to b, with those. -/
inductive Reach (s : ByteArray) : Nat → Bool → List Tok → Nat → Bool → List Tok → Prop where
  | refl (p : Nat) (rem : Bool) (out : List Tok) : Reach s p rem out p rem out
  | char {p : Nat} {rem rem' rem2 : Bool} {out out' out2 : List Tok} {b : Nat} (hp : p < s.size) (hb : bad s p = false) (hn : rem = true ∨ cls (Utf8.decode s p).1 ≠ 1)
      (hs : stepC s p (Utf8.decode s p).2 (Utf8.decode s p).1 rem out = some (rem', out')) (ht : Reach s (p + (Utf8.decode s p).2) rem' out' b rem2 out2) : Reach s p rem out b rem2 out2
  | name {p : Nat} {rem2 : Bool} {out out2 : List Tok} {b : Nat} (hp : p < s.size) (hb : bad s p = false) (hc : cls (Utf8.decode s p).1 = 1) (hl : ¬ (runE s p : Int) - p > 24)
      (ht : Reach s (runE s p) false (out ++ [⟨1, s.extract p (runE s p), p⟩]) b rem2 out2) : Reach s p false out b rem2 out2
theorem Reach.le {s : ByteArray} {p b : Nat} {rem rem2 : Bool} {out out2 : List Tok} (h : Reach s p rem out b rem2 out2) : p ≤ b := by
  induction h with
  | refl => exact Nat.le_refl _
  | char hp hb hn hs ht ih => omega
  | @name p rem2 out out2 b hp hb hc hl ht ih => have := runE_ge s p; omega
theorem Reach.dL {s : ByteArray} {p b : Nat} {rem rem2 : Bool} {out out2 : List Tok} (h : Reach s p rem out b rem2 out2) : dL s p rem out = dL s b rem2 out2 := by
  induction h with
  | refl => rfl
  | char hp hb hn hs ht ih => rw [dL_char hp hb hn, hs]; exact ih
  | name hp hb hc hl ht ih => rw [dL_name hp hb hc, if_neg hl]; exact ih
theorem Reach.trans {s : ByteArray} {p b c : Nat} {rem rem2 rem3 : Bool} {out out2 out3 : List Tok} (h : Reach s p rem out b rem2 out2) (k : Reach s b rem2 out2 c rem3 out3) : Reach s p rem out c rem3 out3 := by
  induction h with
  | refl => exact k
  | char hp hb hn hs ht ih => exact .char hp hb hn hs (ih k)
  | name hp hb hc hl ht ih => exact .name hp hb hc hl (ih k)
theorem run_stop {s : ByteArray} {p : Nat} (hE : runE s p < s.size) (hb : bad s (runE s p) = false) : namC (Utf8.decode s (runE s p)).1 = false := by
  induction hk : s.size - p using Nat.strongRecOn generalizing p with
  | _ n ih =>
    by_cases hps : p < s.size
    · cases hbd : bad s p with
      | true => rw [runE_bad hbd] at hb; rw [hbd] at hb; cases hb
      | false =>
        cases hn : namC (Utf8.decode s p).1 with
        | false => rw [runE_no hn]; exact hn
        | true =>
          have hw := width_pos s p
          rw [runE_next hps hbd hn] at hE hb ⊢
          exact ih _ (by omega) hE hb rfl
    · rw [runE_end hps] at hE; omega
/-- A name that ends within a part of a text ends there in the part. -/
theorem run_pre {s : ByteArray} {p b : Nat} (hbs : b ≤ s.size) (hE : runE s p ≤ b) (hst : runE s p < b → namC (Utf8.decode (s.extract 0 b) (runE s p)).1 = false) : runE (s.extract 0 b) p = runE s p := by
  induction hk : s.size - p using Nat.strongRecOn generalizing p with
  | _ n ih =>
    have hz := size_ext (a := 0) hbs
    by_cases hnx : p < s.size ∧ bad s p = false ∧ namC (Utf8.decode s p).1 = true
    · obtain ⟨hps, hbd, hn⟩ := hnx
      have hw := width_pos s p
      have hge := runE_ge s (p + (Utf8.decode s p).2)
      rw [runE_next hps hbd hn] at hE hst ⊢
      have hd := dec_down (a := 0) (i := p) hbs (by rw [Nat.zero_add]; exact hbd) (by rw [Nat.zero_add]; omega)
      have hb2 := bad_down (a := 0) (i := p) hbs (by rw [Nat.zero_add]; exact hbd) (by rw [Nat.zero_add]; omega)
      rw [Nat.zero_add] at hd
      rw [runE_next (by omega) hb2 (by rw [hd]; exact hn), hd]
      exact ih _ (by omega) hE hst rfl
    · have hself : runE s p = p := by
        by_cases hps : p < s.size
        · cases hbd : bad s p with
          | true => exact runE_bad hbd
          | false =>
            cases hn : namC (Utf8.decode s p).1 with
            | false => exact runE_no hn
            | true => exact absurd ⟨hps, hbd, hn⟩ hnx
        · exact runE_end hps
      rw [hself] at hE hst ⊢
      by_cases hpb : p < b
      · exact runE_no (hst hpb)
      · exact runE_end (by omega)
theorem cls_nam {r : Int} (h : namC r = false) : cls r ≠ 1 := by
  unfold namC at h
  rw [Bool.or_eq_false_iff, decide_eq_false_iff_not] at h
  exact h.1
/-- Where the reading comes to, the part of the text up to there is read so too. -/
theorem Reach.pre {s : ByteArray} {p b : Nat} {rem rem2 : Bool} {out out2 : List Tok} (h : Reach s p rem out b rem2 out2) (hbs : b ≤ s.size) : Reach (s.extract 0 b) p rem out b rem2 out2 := by
  induction h with
  | refl => exact .refl _ _ _
  | @char p rem rem' rem2 out out' out2 b hp hb hn hs ht ih =>
    have hle := ht.le
    have hz := size_ext (a := 0) hbs
    have hw := width_pos s p
    have hd := dec_down (a := 0) (i := p) hbs (by rw [Nat.zero_add]; exact hb) (by rw [Nat.zero_add]; omega)
    have hb2 := bad_down (a := 0) (i := p) hbs (by rw [Nat.zero_add]; exact hb) (by rw [Nat.zero_add]; omega)
    rw [Nat.zero_add] at hd
    have hx := ext_ext (a := 0) (p := p) (q := p + (Utf8.decode s p).2) (s := s) (b := b) (by omega)
    rw [Nat.zero_add, Nat.zero_add] at hx
    refine .char (by omega) hb2 (by rw [hd]; exact hn) (rem' := rem') (out' := out') ?_ (by rw [hd]; exact ih hbs)
    rw [hd]
    unfold stepC at hs ⊢
    rw [hx]
    exact hs
  | @name p rem2 out out2 b hp hb hc hl ht ih =>
    have hle := ht.le
    have hz := size_ext (a := 0) hbs
    have hgt := runE_gt hp hb hc
    have hw := width_pos s p
    have hnx := runE_next hp hb (by unfold namC; rw [hc]; rfl)
    have hge := runE_ge s (p + (Utf8.decode s p).2)
    rw [← hnx] at hge
    have hd := dec_down (a := 0) (i := p) hbs (by rw [Nat.zero_add]; exact hb) (by rw [Nat.zero_add]; omega)
    have hb2 := bad_down (a := 0) (i := p) hbs (by rw [Nat.zero_add]; exact hb) (by rw [Nat.zero_add]; omega)
    rw [Nat.zero_add] at hd
    have hr : runE (s.extract 0 b) p = runE s p := by
      refine run_pre hbs hle (fun hlt => ?_)
      cases ht with
      | refl => omega
      | char hp' hb' hn' hs' ht' =>
        have hle' := ht'.le
        have hd' := dec_down (a := 0) (i := runE s p) hbs (by rw [Nat.zero_add]; exact hb') (by rw [Nat.zero_add]; omega)
        rw [Nat.zero_add] at hd'
        rw [hd']
        exact run_stop hp' hb'
      | name hp' hb' hc' hl' ht' =>
        have := run_stop hp' hb'
        exact absurd hc' (cls_nam this)
    have hx := ext_ext (a := 0) (p := p) (q := runE s p) (s := s) (b := b) (by omega)
    rw [Nat.zero_add, Nat.zero_add] at hx
    refine .name (by omega) hb2 (by rw [hd]; exact hc) (by rw [hr]; exact hl) ?_
    rw [hr, hx]
    exact ih hbs
end Go.Proofs.Ytidilpciolladaa

/- Where a text is cut, and where it stops. -/
namespace Go.Proofs.Ytidilpciolladaa
open Go.RowKit

theorem run_suf {s : ByteArray} {a i : Nat} (ha : a ≤ s.size) : a + runE (s.extract a s.size) i = runE s (a + i) := by
  have hz := size_ext (a := a) (Nat.le_refl s.size)
  have hd : ∀ i, Utf8.decode (s.extract a s.size) i = Utf8.decode s (a + i) := fun i => dec_ext (Nat.le_refl _) (.inr rfl)
  have hbd : ∀ i, bad (s.extract a s.size) i = bad s (a + i) := fun i => bad_ext (Nat.le_refl _) (.inr rfl)
  induction hk : s.size - (a + i) using Nat.strongRecOn generalizing i with
  | _ n ih =>
    by_cases hps : a + i < s.size
    · cases hb : bad s (a + i) with
      | true => rw [runE_bad hb, runE_bad (by rw [hbd]; exact hb)]
      | false =>
        cases hn : namC (Utf8.decode s (a + i)).1 with
        | false => rw [runE_no hn, runE_no (by rw [hd]; exact hn)]
        | true =>
          have hw := width_pos s (a + i)
          rw [runE_next hps hb hn, runE_next (by omega) (by rw [hbd]; exact hb) (by rw [hd]; exact hn), hd, Nat.add_assoc]
          exact ih _ (by omega) rfl
    · rw [runE_end hps, runE_end (by omega)]
def Err (s : ByteArray) (b : Nat) (E : Int) : Prop :=
  (bad s b = true ∧ E = 4) ∨ (bad s b = false ∧ cls (Utf8.decode s b).1 = 1 ∧ (runE s b : Int) - b > 24 ∧ E = 5) ∨ (bad s b = false ∧ cls (Utf8.decode s b).1 ≠ 1 ∧ stepC s b (Utf8.decode s b).2 (Utf8.decode s b).1 false [] = none ∧ E = 10)
theorem stepC_none {s : ByteArray} {p n : Nat} {r : Int} {rem : Bool} {out : List Tok} (h : stepC s p n r rem out = none) (t : ByteArray) (q m : Nat) : rem = false ∧ stepC t q m r false [] = none := by
  unfold stepC at h ⊢
  split at h
  · cases h
  · rename_i h1
    split at h
    · cases h
    · rename_i h2
      split at h
      · cases h
      · rename_i h3
        have hr : rem = false := by
          cases rem with
          | false => rfl
          | true => exact absurd rfl h1
        rw [hr] at h1
        rw [if_neg h1, if_neg h2, if_neg h3]
        exact ⟨hr, rfl⟩
theorem err_at {s : ByteArray} {p : Nat} {rem : Bool} {out : List Tok} {P E : Int} (h : dL s p rem out = .inr (P, E)) (hp : p ≤ s.size) : ∃ (b : Nat) (rem' : Bool) (out' : List Tok), P = (b : Int) ∧ b < s.size ∧ Reach s p rem out b rem' out' ∧ Err s b E := by
  induction hk : s.size - p using Nat.strongRecOn generalizing p rem out with
  | _ n ih =>
    by_cases hps : p < s.size
    · cases hb : bad s p with
      | true =>
        rw [dL_bad hps hb] at h
        cases h
        exact ⟨p, rem, out, rfl, hps, .refl _ _ _, .inl ⟨hb, rfl⟩⟩
      | false =>
        have hw := width_pos s p
        have hwl := width_le hps
        by_cases hn : rem = true ∨ cls (Utf8.decode s p).1 ≠ 1
        · rw [dL_char hps hb hn] at h
          cases hs : stepC s p (Utf8.decode s p).2 (Utf8.decode s p).1 rem out with
          | some x =>
            obtain ⟨rem', out'⟩ := x
            rw [hs] at h
            obtain ⟨b, r2, o2, h1, h2, h3, h4⟩ := ih _ (by omega) h hwl rfl
            exact ⟨b, r2, o2, h1, h2, .char hps hb hn hs h3, h4⟩
          | none =>
            rw [hs] at h
            cases h
            obtain ⟨hr, hs'⟩ := stepC_none hs s p (Utf8.decode s p).2
            have hc : cls (Utf8.decode s p).1 ≠ 1 := hn.resolve_left (by rw [hr]; decide)
            exact ⟨p, rem, out, rfl, hps, .refl _ _ _, .inr (.inr ⟨hb, hc, hs', rfl⟩)⟩
        · have hr : rem = false := by
            cases rem with
            | false => rfl
            | true => exact absurd (.inl rfl) hn
          have hc : cls (Utf8.decode s p).1 = 1 := by
            refine Decidable.by_contra (fun hc => hn (.inr hc))
          subst hr
          have hgt := runE_gt hps hb hc
          rw [dL_name hps hb hc] at h
          by_cases hl : (runE s p : Int) - p > 24
          · rw [if_pos hl] at h
            cases h
            exact ⟨p, false, out, rfl, hps, .refl _ _ _, .inr (.inl ⟨hb, hc, hl, rfl⟩)⟩
          · rw [if_neg hl] at h
            obtain ⟨b, r2, o2, h1, h2, h3, h4⟩ := ih _ (by omega) h (runE_le hp) rfl
            exact ⟨b, r2, o2, h1, h2, .name hps hb hc hl h3, h4⟩
    · rw [dL_end hps] at h; cases h
theorem err_suf {s : ByteArray} {b : Nat} {E : Int} (hb : b < s.size) (h : Err s b E) : dL (s.extract b s.size) 0 false [] = .inr (0, E) := by
  have hz := size_ext (a := b) (Nat.le_refl s.size)
  have hd : Utf8.decode (s.extract b s.size) 0 = Utf8.decode s b := dec_ext (Nat.le_refl _) (.inr rfl)
  have hbd : bad (s.extract b s.size) 0 = bad s b := bad_ext (Nat.le_refl _) (.inr rfl)
  have h0 : 0 < (s.extract b s.size).size := by omega
  have hr := run_suf (i := 0) (Nat.le_of_lt hb)
  rw [Nat.add_zero] at hr
  rcases h with ⟨h1, rfl⟩ | ⟨h1, h2, h3, rfl⟩ | ⟨h1, h2, h3, rfl⟩
  · rw [dL_bad h0 (by rw [hbd]; exact h1)]; rfl
  · rw [dL_name h0 (by rw [hbd]; exact h1) (by rw [hd]; exact h2), if_pos (by omega)]; rfl
  · rw [dL_char h0 (by rw [hbd]; exact h1) (by rw [hd]; exact .inr h2), hd, (stepC_none h3 _ 0 _).2]; rfl
theorem err_ne {s : ByteArray} {b : Nat} {E : Int} (h : Err s b E) : E ≠ 0 := by
  rcases h with ⟨_, rfl⟩ | ⟨_, _, _, rfl⟩ | ⟨_, _, _, rfl⟩ <;> decide
theorem dR_inl {s : ByteArray} {l : List Tok} (h : dL s 0 false [] = .inl l) : dR s = (l, (s.size : Int), 0) := by unfold dR; rw [h]
theorem dR_inr {s : ByteArray} {P E : Int} (h : dL s 0 false [] = .inr (P, E)) : dR s = ([], P, E) := by unfold dR; rw [h]
theorem Reach.whole {s : ByteArray} {b : Nat} {rem : Bool} {out : List Tok} (h : Reach s 0 false [] b rem out) (hb : b ≤ s.size) : dR (s.extract 0 b) = (out, (b : Int), 0) := by
  have hz := size_ext (a := 0) hb
  have e := (h.pre hb).dL
  rw [dL_end (s := s.extract 0 b) (p := b) (rem := rem) (out := out) (by omega)] at e
  rw [dR_inl e, hz, Nat.sub_zero]
theorem stops_law (s : ByteArray) : ((dR s).2.2 = 0 ∧ (dR s).2.1 = s.size) ∨ ∃ (b : Nat) (E : Int), dR s = ([], (b : Int), E) ∧ E ≠ 0 ∧ b < s.size ∧ (dR (s.extract 0 b)).2.2 = 0 ∧ dR (s.extract b s.size) = ([], 0, E) := by
  cases h : dL s 0 false [] with
  | inl l => left; rw [dR_inl h]; exact ⟨rfl, rfl⟩
  | inr x =>
    obtain ⟨P, E⟩ := x
    obtain ⟨b, rem, out, rfl, hb, hr, he⟩ := err_at h (Nat.zero_le _)
    right
    exact ⟨b, E, dR_inr h, err_ne he, hb, by rw [hr.whole (Nat.le_of_lt hb)], dR_inr (err_suf hb he)⟩
theorem reach_tok {s : ByteArray} {p : Nat} {rem : Bool} {out l : List Tok} (h : dL s p rem out = .inl l) (hp : p ≤ s.size) : (∃ l', l = out ++ l') ∧ ∀ i, out.length ≤ i → (hi : i < l.length) → ∃ b : Nat, b ≤ s.size ∧ l[i].at_ + (l[i].text.size : Int) = b ∧ Reach s p rem out b false (l.take (i + 1)) := by
  induction hk : s.size - p using Nat.strongRecOn generalizing p rem out with
  | _ n ih =>
    by_cases hps : p < s.size
    · cases hb : bad s p with
      | true => rw [dL_bad hps hb] at h; cases h
      | false =>
        have hw := width_pos s p
        have hwl := width_le hps
        by_cases hn : rem = true ∨ cls (Utf8.decode s p).1 ≠ 1
        · rw [dL_char hps hb hn] at h
          cases hs : stepC s p (Utf8.decode s p).2 (Utf8.decode s p).1 rem out with
          | none => rw [hs] at h; cases h
          | some x =>
            obtain ⟨rem', out'⟩ := x
            rw [hs] at h
            obtain ⟨⟨l', hl'⟩, hi'⟩ := ih _ (by omega) h hwl rfl
            have hs0 := hs
            unfold stepC at hs
            split at hs
            · cases hs
              exact ⟨⟨l', hl'⟩, fun i h1 h2 => by
                obtain ⟨b, k1, k2, k3⟩ := hi' i h1 h2
                exact ⟨b, k1, k2, .char hps hb hn hs0 k3⟩⟩
            · split at hs
              · cases hs
                refine ⟨⟨_ :: l', by rw [hl', List.append_assoc]; rfl⟩, fun i h1 h2 => ?_⟩
                by_cases he : i = out.length
                · have hx : l[i] = ⟨2, s.extract p (p + (Utf8.decode s p).2), p⟩ := by
                    simp only [hl', he, List.append_assoc]
                    simp
                  have ht : l.take (i + 1) = out ++ [⟨2, s.extract p (p + (Utf8.decode s p).2), p⟩] := by
                    rw [hl', he]
                    exact List.take_left' (by simp)
                  have hr : rem = false := by
                    rename_i hc _
                    cases rem with
                    | false => rfl
                    | true => exact absurd rfl hc
                  refine ⟨p + (Utf8.decode s p).2, hwl, ?_, ?_⟩
                  · rw [hx]
                    show (p : Int) + ((s.extract p (p + (Utf8.decode s p).2)).size : Int) = _
                    rw [size_ext hwl]
                    omega
                  · rw [ht]
                    have hr' := hr
                    subst hr'
                    exact .char hps hb hn hs0 (.refl _ _ _)
                · obtain ⟨b, k1, k2, k3⟩ := hi' i (by simp; omega) h2
                  exact ⟨b, k1, k2, .char hps hb hn hs0 k3⟩
              · split at hs
                · cases hs
                  exact ⟨⟨l', hl'⟩, fun i h1 h2 => by
                    obtain ⟨b, k1, k2, k3⟩ := hi' i h1 h2
                    exact ⟨b, k1, k2, .char hps hb hn hs0 k3⟩⟩
                · cases hs
        · have hr : rem = false := by
            cases rem with
            | false => rfl
            | true => exact absurd (.inl rfl) hn
          have hc : cls (Utf8.decode s p).1 = 1 := by
            refine Decidable.by_contra (fun hc => hn (.inr hc))
          subst hr
          have hgt := runE_gt hps hb hc
          have hle := runE_le (s := s) hp
          rw [dL_name hps hb hc] at h
          by_cases hl : (runE s p : Int) - p > 24
          · rw [if_pos hl] at h; cases h
          · rw [if_neg hl] at h
            obtain ⟨⟨l', hl'⟩, hi'⟩ := ih _ (by omega) h hle rfl
            refine ⟨⟨_ :: l', by rw [hl', List.append_assoc]; rfl⟩, fun i h1 h2 => ?_⟩
            by_cases he : i = out.length
            · have hx : l[i] = ⟨1, s.extract p (runE s p), p⟩ := by
                simp only [hl', he, List.append_assoc]
                simp
              have ht : l.take (i + 1) = out ++ [⟨1, s.extract p (runE s p), p⟩] := by
                rw [hl', he]
                exact List.take_left' (by simp)
              refine ⟨runE s p, hle, ?_, ?_⟩
              · rw [hx]
                show (p : Int) + ((s.extract p (runE s p)).size : Int) = _
                rw [size_ext hle]
                omega
              · rw [ht]
                exact .name hps hb hc hl (.refl _ _ _)
            · obtain ⟨b, k1, k2, k3⟩ := hi' i (by simp; omega) h2
              exact ⟨b, k1, k2, .name hps hb hc hl k3⟩
    · rw [dL_end hps] at h
      cases h
      exact ⟨⟨[], by simp⟩, fun i h1 h2 => absurd h2 (by omega)⟩
theorem cuts_law {s : ByteArray} (h : (dR s).2.2 = 0) (i : Nat) (hi : i < (dR s).1.length) : ∃ b : Nat, b ≤ s.size ∧ ((dR s).1[i]'hi).at_ + (((dR s).1[i]'hi).text.size : Int) = b ∧ dR (s.extract 0 b) = ((dR s).1.take (i + 1), (b : Int), 0) := by
  cases hd : dL s 0 false [] with
  | inr x =>
    obtain ⟨P, E⟩ := x
    obtain ⟨b, rem, out, rfl, hb, hr, he⟩ := err_at hd (Nat.zero_le _)
    rw [dR_inr hd] at h
    exact absurd h (err_ne he)
  | inl l =>
    have e := dR_inl hd
    have hl : (dR s).1 = l := by rw [e]
    obtain ⟨_, h2⟩ := reach_tok hd (Nat.zero_le _)
    subst hl
    obtain ⟨b, k1, k2, k3⟩ := h2 i (Nat.zero_le _) hi
    exact ⟨b, k1, k2, k3.whole k1⟩
end Go.Proofs.Ytidilpciolladaa

/- A text of names, marks and blanks. -/
namespace Go.Proofs.Ytidilpciolladaa
open Go.RowKit

def marks6 : List ByteArray := [⟨#[123]⟩, ⟨#[125]⟩, ⟨#[40]⟩, ⟨#[41]⟩, ⟨#[59]⟩, ⟨#[44]⟩]
def isMk (x : ByteArray) : Bool := marks6.any (fun m => decide (x = m))
/-- A name or a mark. -/
def okT (x : ByteArray) : Bool := nameB x || isMk x
def kindT (x : ByteArray) : Int := if nameB x = true then 1 else 2
def StopAt (s : ByteArray) (q : Nat) : Prop := q < s.size → by_ s q < 128 ∧ namC (by_ s q) = false
theorem dec_small {s : ByteArray} {p : Nat} (h : by_ s p < 128) : Utf8.decode s p = (by_ s p, 1) := by
  rw [dec_decB]
  unfold decB
  rw [if_pos h]
theorem bad_small {s : ByteArray} {p : Nat} (h : by_ s p < 128) : bad s p = false := by
  unfold bad
  rw [dec_small h]
  exact decide_eq_false (fun e => by have := congrArg Prod.fst e; simp at this; omega)
theorem run_up {s : ByteArray} {a b i : Nat} (hb : b ≤ s.size) (hab : a ≤ b) (hi : a + i ≤ b) (hr : runE (s.extract a b) i = (s.extract a b).size) (hst : StopAt s b) : runE s (a + i) = b := by
  have hz := size_ext (a := a) hb
  induction hk : b - (a + i) using Nat.strongRecOn generalizing i with
  | _ n ih =>
    by_cases hib : a + i < b
    · have hit : i < (s.extract a b).size := by omega
      cases hbd : bad (s.extract a b) i with
      | true => rw [runE_bad hbd] at hr; omega
      | false =>
        cases hn : namC (Utf8.decode (s.extract a b) i).1 with
        | false => rw [runE_no hn] at hr; omega
        | true =>
          have hd := dec_up hb hit hbd
          have hw := width_pos (s.extract a b) i
          have hwl := width_le hit
          rw [runE_next hit hbd hn] at hr
          rw [runE_next (by omega) (bad_up hb hit hbd) (by rw [hd]; exact hn), hd, Nat.add_assoc]
          exact ih _ (by omega) (by omega) hr rfl
    · have hie : a + i = b := by omega
      rw [hie]
      by_cases hbs : b < s.size
      · obtain ⟨h1, h2⟩ := hst hbs
        exact runE_no (by rw [dec_small h1]; exact h2)
      · exact runE_end hbs
theorem nameB_parts {x : ByteArray} (h : nameB x = true) : x.size ≠ 0 ∧ x.size ≤ 24 ∧ runE x 0 = x.size ∧ cls (ptR x 0) = 1 := by
  rw [name_eq] at h
  unfold nameD at h
  simp only [Bool.and_eq_true, decide_eq_true_eq] at h
  exact ⟨h.1.1.1, h.1.1.2, h.1.2, h.2⟩
theorem mk_byte {x : ByteArray} (h : isMk x = true) : x.size = 1 ∧ by_ x 0 < 128 ∧ markD (by_ x 0) = true := by
  unfold isMk marks6 at h
  simp only [List.any_cons, List.any_nil, Bool.or_eq_true, decide_eq_true_eq, Bool.or_false] at h
  rcases h with h | h | h | h | h | h <;> subst h <;> exact ⟨rfl, by decide, by decide⟩
theorem okT_size {x : ByteArray} (h : okT x = true) : 1 ≤ x.size ∧ x.size ≤ 24 := by
  unfold okT at h
  rw [Bool.or_eq_true] at h
  rcases h with h | h
  · have := nameB_parts h; omega
  · have := mk_byte h; omega
/-- A name or a mark is read as what it is. -/
theorem step_text {s x : ByteArray} {p : Nat} {out : List Tok} (hx : okT x = true) (hp : p + x.size ≤ s.size) (he : s.extract p (p + x.size) = x) (hst : StopAt s (p + x.size)) :
    dL s p false out = dL s (p + x.size) false (out ++ [⟨kindT x, x, p⟩]) := by
  have hz := okT_size hx
  cases hnb : nameB x with
  | true =>
    obtain ⟨h1, h2, h3, h4⟩ := nameB_parts hnb
    have h0 : 0 < (s.extract p (p + x.size)).size := by rw [he]; omega
    have hb0 : bad x 0 = false := by
      cases hb : bad x 0 with
      | false => rfl
      | true => rw [runE_bad hb] at h3; omega
    have hd := dec_up hp h0 (by rw [he]; exact hb0)
    have hb := bad_up hp h0 (by rw [he]; exact hb0)
    rw [he, Nat.add_zero] at hd
    rw [Nat.add_zero] at hb
    have hpt : ptR x 0 = ((Utf8.decode x 0).1 : Int) := by unfold ptR; rw [if_neg (by rw [hb0]; decide)]
    rw [hpt] at h4
    have hr := run_up (a := p) (b := p + x.size) (i := 0) hp (by omega) (by omega) (by rw [he]; exact h3) hst
    rw [Nat.add_zero] at hr
    have hlen : ¬ ((runE s p : Int) - p > 24) := by rw [hr]; omega
    have hc1 : cls (Utf8.decode s p).1 = 1 := by rw [hd]; exact h4
    rw [dL_name (by omega) hb hc1, if_neg hlen, hr, he]
    unfold kindT
    rw [if_pos hnb]
  | false =>
    have hmk : isMk x = true := by unfold okT at hx; rw [hnb] at hx; exact hx
    obtain ⟨h1, h2, h3⟩ := mk_byte hmk
    have hby : by_ s p = by_ x 0 := by
      have := by_ext (s := s) (a := p) (b := p + x.size) (j := 0) hp (.inl (by omega))
      rw [he] at this
      exact this.symm
    have hd : Utf8.decode s p = (by_ x 0, 1) := by rw [dec_small (by omega), hby]
    have hc : cls ((by_ x 0 : Nat) : Int) ≠ 1 := by rw [markD_cls h3]; decide
    rw [dL_char (by omega) (bad_small (by omega)) (by rw [hd]; exact .inr hc), hd]
    have h35 : (((by_ x 0 : Nat) : Int) == 35) = false := by
      rw [beq_eq_false_iff_ne]
      intro e
      have : ((by_ x 0 : Nat) : Int) = 35 := e
      rw [this] at h3
      exact absurd h3 (by decide)
    have hk : kindT x = 2 := by unfold kindT; rw [hnb]; rfl
    have hx1 : s.extract p (p + 1) = x := by rw [← h1]; exact he
    unfold stepC
    rw [h35, Bool.or_false, if_neg Bool.false_ne_true, if_pos h3, h1, hk]
    show dL s (p + 1) false (out ++ [⟨2, s.extract p (p + 1), p⟩]) = _
    rw [hx1]
/-- What holds no token: how it ends. -/
def skipF (t : ByteArray) : Nat → Nat → Bool → Option Bool
  | 0, _, _ => none
  | n + 1, i, rem => if i < t.size then (if bad t i = true then none else if (rem || ((Utf8.decode t i).1 : Int) == 35) = true then skipF t n (i + (Utf8.decode t i).2) (((Utf8.decode t i).1 : Int) != 10) else if cls (Utf8.decode t i).1 = 3 then skipF t n (i + (Utf8.decode t i).2) rem else none) else some rem
theorem skip_up {s t : ByteArray} {a b : Nat} (hb : b ≤ s.size) (hab : a ≤ b) (ht : s.extract a b = t) (out : List Tok) : ∀ n i rem rem', skipF t n i rem = some rem' → a + i ≤ b → dL s (a + i) rem out = dL s b rem' out := by
  have hz := size_ext (a := a) hb
  rw [ht] at hz
  intro n
  induction n with
  | zero => intro i rem rem' h; cases h
  | succ n ih =>
    intro i rem rem' h hi
    unfold skipF at h
    by_cases hit : i < t.size
    · rw [if_pos hit] at h
      split at h
      · cases h
      · rename_i hbd
        have hbd : bad t i = false := by simpa using hbd
        have hd := dec_up hb (by rw [ht]; exact hit) (by rw [ht]; exact hbd)
        have hbs := bad_up hb (by rw [ht]; exact hit) (by rw [ht]; exact hbd)
        rw [ht] at hd
        have hwl := width_le hit
        split at h
        · rename_i h35
          have := ih _ _ _ h (by omega)
          rw [dL_step (by omega) hbs, hd, if_pos h35, Nat.add_assoc]
          exact this
        · rename_i h35
          split at h
          · rename_i hc3
            have := ih _ _ _ h (by omega)
            have hnm : ¬ markD (Utf8.decode t i).1 = true := fun e => by rw [markD_cls e] at hc3; exact absurd hc3 (by decide)
            rw [dL_step (by omega) hbs, hd, if_neg h35, if_neg (by rw [hc3]; decide), if_neg hnm, if_pos hc3, Nat.add_assoc]
            exact this
          · cases h
    · rw [if_neg hit] at h
      cases h
      have hie : a + i = b := by omega
      rw [hie]
/-- Blanks and texts, one behind the other. -/
def flat : List (ByteArray × ByteArray) → List UInt8
  | [] => []
  | (b, x) :: r => b.data.toList ++ (x.data.toList ++ flat r)
def toksP (p : Nat) : List (ByteArray × ByteArray) → List Tok
  | [] => []
  | (b, x) :: r => ⟨kindT x, x, ((p + b.size : Nat) : Int)⟩ :: toksP (p + b.size + x.size) r
def StopL (l : List UInt8) : Prop := ∀ c, l.head? = some c → c.toNat < 128 ∧ namC c.toNat = false
def skips (b : ByteArray) : Prop := skipF b (b.size + 1) 0 false = some false
theorem drop_ext {s : ByteArray} {p : Nat} {a rest : List UInt8} (h : s.data.toList.drop p = a ++ rest) (hp : p ≤ s.size) : p + a.length ≤ s.size ∧ (s.extract p (p + a.length)).data.toList = a ∧ s.data.toList.drop (p + a.length) = rest := by
  have hl := congrArg List.length h
  rw [List.length_drop, List.length_append] at hl
  have hs : s.data.toList.length = s.size := rfl
  refine ⟨by omega, ?_, ?_⟩
  · rw [ByteArray.data_extract, Array.toList_extract, List.extract_eq_take_drop, show p + a.length - p = a.length by omega, h]
    simp
  · rw [← List.drop_drop, h]
    simp
theorem stop_of {s : ByteArray} {q : Nat} (h : StopL (s.data.toList.drop q)) : StopAt s q := by
  intro hq
  have hg := get_all (t := s) (i := q) hq
  have : (s.data.toList.drop q).head? = some (s.get! q) := by rw [List.head?_drop]; exact hg
  exact h _ this
theorem lay {s : ByteArray} {tail : List UInt8} (htl : StopL tail) : ∀ (items : List (ByteArray × ByteArray)) (p : Nat) (out : List Tok), p ≤ s.size → s.data.toList.drop p = flat items ++ tail →
    (∀ y ∈ items, okT y.2 = true ∧ skips y.1) → (∀ y ∈ items.tail, y.1.size ≠ 0 ∧ StopL y.1.data.toList) →
    dL s p false out = dL s (s.size - tail.length) false (out ++ toksP p items) ∧ (∀ x ∈ toksP p items, ∃ a : Nat, x.at_ = a ∧ a + x.text.size ≤ s.size ∧ s.extract a (a + x.text.size) = x.text) := by
  intro items
  induction items with
  | nil =>
    intro p out hp hd _ _
    have hl := congrArg List.length hd
    rw [List.length_drop] at hl
    have hs : s.data.toList.length = s.size := rfl
    have : s.size - tail.length = p := by simp [flat] at hl; omega
    rw [this]
    simp [toksP]
  | cons y r ih =>
    intro p out hp hd hok hst
    obtain ⟨b, x⟩ := y
    obtain ⟨hx, hb⟩ := hok _ (List.mem_cons_self ..)
    have hd : s.data.toList.drop p = b.data.toList ++ (x.data.toList ++ (flat r ++ tail)) := by rw [hd, flat]; simp
    obtain ⟨h1, h2, h3⟩ := drop_ext hd hp
    obtain ⟨k1, k2, k3⟩ := drop_ext h3 h1
    have hbs : b.data.toList.length = b.size := rfl
    have hxs : x.data.toList.length = x.size := rfl
    rw [hbs] at h1 h2 h3 k1 k2 k3
    rw [hxs] at k1 k2 k3
    have e1 : s.extract p (p + b.size) = b := bytes_eq h2
    have e2 : s.extract (p + b.size) (p + b.size + x.size) = x := bytes_eq k2
    have hs1 := skip_up h1 (by omega) e1 out _ _ _ _ hb (by omega)
    rw [Nat.add_zero] at hs1
    have hstop : StopL (flat r ++ tail) := by
      cases r with
      | nil => exact htl
      | cons z r' =>
        obtain ⟨b', x'⟩ := z
        obtain ⟨n1, n2⟩ := hst (b', x') (List.mem_cons_self ..)
        intro c hc
        refine n2 c ?_
        rw [flat, List.append_assoc] at hc
        cases hb' : b'.data.toList with
        | nil => exact absurd (by show b'.data.toList.length = 0; rw [hb']; rfl) n1
        | cons u us => rw [hb'] at hc; exact hc
    have hs2 := step_text (out := out) hx k1 e2 (stop_of (by rw [k3]; exact hstop))
    obtain ⟨i1, i2⟩ := ih (p + b.size + x.size) (out ++ [⟨kindT x, x, ((p + b.size : Nat) : Int)⟩]) k1 k3 (fun y hy => hok y (List.mem_cons_of_mem _ hy)) (fun y hy => hst y (List.mem_of_mem_tail hy))
    refine ⟨?_, ?_⟩
    · rw [hs1, hs2, i1, toksP, List.append_assoc]
      rfl
    · intro z hz
      rw [toksP] at hz
      rcases List.mem_cons.1 hz with rfl | hz
      · exact ⟨p + b.size, rfl, k1, e2⟩
      · exact i2 z hz
theorem toksP_txt (p : Nat) (items : List (ByteArray × ByteArray)) : (toksP p items).map txt = items.map (fun y => (kindT y.2, y.2)) := by
  induction items generalizing p with
  | nil => rfl
  | cons y r ih =>
    obtain ⟨b, x⟩ := y
    rw [toksP, List.map_cons, ih]
    rfl
end Go.Proofs.Ytidilpciolladaa

/- Nodes: trees of texts; how they lie. -/
namespace Go.Proofs.Ytidilpciolladaa
open Go.RowKit

/-- A node: name, what undoes it, on what it leans, is it a saga, vital; its bodies. -/
inductive Nd where
  | mk (name undo : ByteArray) (after : List ByteArray) (sub vital : Bool) (alts : List (List Nd))
namespace Nd
def name : Nd → ByteArray | mk a _ _ _ _ _ => a
def undo : Nd → ByteArray | mk _ a _ _ _ _ => a
def after : Nd → List ByteArray | mk _ _ a _ _ _ => a
def sub : Nd → Bool | mk _ _ _ a _ _ => a
def vital : Nd → Bool | mk _ _ _ _ a _ => a
def alts : Nd → List (List Nd) | mk _ _ _ _ _ a => a
def parts (n : Nd) : ByteArray × ByteArray × List ByteArray × Bool × Bool × List (List Nd) := (n.name, n.undo, n.after, n.sub, n.vital, n.alts)
end Nd
theorem nd_eta (n : Nd) : n = .mk n.name n.undo n.after n.sub n.vital n.alts := by cases n; rfl
/-- Nothing lies so. -/
def noE (α : Type) (k : Nat) : Enc α where
  sz := k
  rd _ _ _ _ := False
  len h := h.elim
  one h := h.elim
  step _ h := h.elim
  mono _ h := h.elim
  stepC _ _ h := h.elim
/-- Nodes within one another at most n deep. -/
def nodeE : Nat → Enc Nd
  | 0 => noE Nd 6
  | n + 1 => Enc.iso (Enc.pair Enc.str (Enc.pair Enc.str (Enc.pair (Enc.slice Enc.str) (Enc.pair Enc.bool (Enc.pair Enc.bool (Enc.slice (Enc.slice (nodeE n)))))))) Nd.parts
abbrev bodyE (n : Nat) : Enc (List Nd) := Enc.slice (nodeE n)
theorem nodeE_sz : ∀ n, (nodeE n).sz = 6
  | 0 => rfl
  | _ + 1 => rfl
theorem bodyE_sz (n : Nat) : (bodyE n).sz = 1 := rfl
def ndCells (nd : Nd) (va vl : Value) : List Value := [.string nd.name, .string nd.undo, va, .bool nd.sub, .bool nd.vital, vl]
theorem nodeE_mk {n : Nat} {K : Nat → Prop} {w : World} {nd : Nd} {va vl : Value} (h1 : Enc.str.Row K w va nd.after) (h2 : (bodyE n).Row K w vl nd.alts) : (nodeE (n + 1)).rd K w nd (ndCells nd va vl) :=
  ⟨[_], _, rfl, rfl, [_], _, rfl, rfl, [_], _, rfl, ⟨_, rfl, h1⟩, [_], _, rfl, rfl, [_], _, rfl, rfl, _, rfl, h2⟩
theorem nodeE_open {n : Nat} {K : Nat → Prop} {w : World} {nd : Nd} {cs : List Value} (h : (nodeE n).rd K w nd cs) : ∃ m va vl, n = m + 1 ∧ cs = ndCells nd va vl ∧ Enc.str.Row K w va nd.after ∧ (bodyE m).Row K w vl nd.alts := by
  cases n with
  | zero => exact h.elim
  | succ m =>
    obtain ⟨_, _, rfl, rfl, _, _, rfl, rfl, _, _, rfl, ⟨va, rfl, h1⟩, _, _, rfl, rfl, _, _, rfl, rfl, vl, rfl, h2⟩ := h
    exact ⟨m, va, vl, rfl, rfl, h1, h2⟩
/-- Cells read otherwise. -/
theorem Enc.At.imp {α : Type} {d d' : Enc α} {K : Nat → Prop} {w : World} {b off : Nat} {xs : List α} (h : d.At K w b off xs) (hs : d'.sz = d.sz) (hi : ∀ x ∈ xs, ∀ cs, d.rd K w x cs → d'.rd K w x cs) : d'.At K w b off xs := by
  intro i hl
  obtain ⟨cs, h1, h2⟩ := h i hl
  exact ⟨cs, hi _ (List.getElem_mem hl) cs h1, by rw [hs]; exact h2⟩
theorem Enc.Row.imp {α : Type} {d d' : Enc α} {K : Nat → Prop} {w : World} {v : Value} {xs : List α} (h : d.Row K w v xs) (hs : d'.sz = d.sz) (hi : ∀ x ∈ xs, ∀ cs, d.rd K w x cs → d'.rd K w x cs) : d'.Row K w v xs := by
  obtain ⟨A, c, e, h1, h2, h3⟩ := h
  refine ⟨A, c, e, h1, h2, fun hx => ?_⟩
  obtain ⟨b, off, e', hk, hl, ha⟩ := h3 hx
  exact ⟨b, off, e', hk, hl, ha.imp hs hi⟩
theorem nodeE_up : ∀ (n : Nat) {m : Nat}, n ≤ m → ∀ {K : Nat → Prop} {w : World} {nd : Nd} {cs : List Value}, (nodeE n).rd K w nd cs → (nodeE m).rd K w nd cs := by
  intro n
  induction n with
  | zero => intro m _ K w nd cs h; exact h.elim
  | succ n ih =>
    intro m hm K w nd cs h
    obtain ⟨m, rfl⟩ : ∃ k, m = k + 1 := ⟨m - 1, by omega⟩
    obtain ⟨n', va, vl, e, rfl, h1, h2⟩ := nodeE_open h
    obtain rfl : n = n' := by omega
    refine nodeE_mk h1 (h2.imp rfl (fun b _ cs hb => ?_))
    obtain ⟨v, rfl, hr⟩ := hb
    exact ⟨v, rfl, hr.imp (by rw [nodeE_sz, nodeE_sz]) (fun x _ cs hx => ih (by omega) hx)⟩
theorem body_up {n m : Nat} (h : n ≤ m) {K : Nat → Prop} {w : World} {v : Value} {xs : List Nd} (hr : (nodeE n).Row K w v xs) : (nodeE m).Row K w v xs := hr.imp (by rw [nodeE_sz, nodeE_sz]) (fun _ _ _ hx => nodeE_up n h hx)
theorem alts_up {n m : Nat} (h : n ≤ m) {K : Nat → Prop} {w : World} {v : Value} {xs : List (List Nd)} (hr : (bodyE n).Row K w v xs) : (bodyE m).Row K w v xs :=
  hr.imp rfl (fun _ _ _ ⟨v, e, hx⟩ => ⟨v, e, body_up h hx⟩)
/-- A body in a row. -/
theorem row_body {n : Nat} {K : Nat → Prop} {w : World} {A : Option Addr} {k c : Nat} {xs : List (List Nd)} (h : (bodyE n).Row K w (.slice A k c) xs) {i : Nat} {x : List Nd} (hi : xs[i]? = some x) :
    ∃ b off A1 c1, A = some ⟨b, off, none⟩ ∧ K b ∧ b < w.heap.size ∧ w.cell? ⟨b, off + i, none⟩ = some (.slice A1 x.length c1) ∧ (nodeE n).Row K w (.slice A1 x.length c1) x := by
  obtain ⟨hl, rfl⟩ := List.getElem?_eq_some_iff.1 hi
  obtain ⟨b, off, cs, e, hk, hb, ⟨v, rfl, hr⟩, h2⟩ := h.get i hl
  obtain ⟨A1, c1, rfl, _, _⟩ := hr.form
  refine ⟨b, off, A1, c1, e, hk, hb, ?_, hr⟩
  have := h2 0 _ rfl
  rwa [bodyE_sz, Nat.mul_one, Nat.add_zero] at this
/-- A node in a row. -/
theorem row_node {n : Nat} {K : Nat → Prop} {w : World} {A : Option Addr} {k c : Nat} {xs : List Nd} (h : (nodeE n).Row K w (.slice A k c) xs) {i : Nat} {x : Nd} (hi : xs[i]? = some x) :
    ∃ b off m A1 c1 A2 c2, A = some ⟨b, off, none⟩ ∧ K b ∧ b < w.heap.size ∧ n = m + 1 ∧ w.cell? ⟨b, off + i * 6, none⟩ = some (.string x.name) ∧ w.cell? ⟨b, off + i * 6 + 1, none⟩ = some (.string x.undo) ∧ w.cell? ⟨b, off + i * 6 + 2, none⟩ = some (.slice A1 x.after.length c1) ∧
      w.cell? ⟨b, off + i * 6 + 3, none⟩ = some (.bool x.sub) ∧ w.cell? ⟨b, off + i * 6 + 4, none⟩ = some (.bool x.vital) ∧ w.cell? ⟨b, off + i * 6 + 5, none⟩ = some (.slice A2 x.alts.length c2) ∧
      Enc.str.Row K w (.slice A1 x.after.length c1) x.after ∧ (bodyE m).Row K w (.slice A2 x.alts.length c2) x.alts := by
  obtain ⟨hl, rfl⟩ := List.getElem?_eq_some_iff.1 hi
  obtain ⟨b, off, cs, e, hk, hb, hr, h2⟩ := h.get i hl
  obtain ⟨m, va, vl, rfl, rfl, h3, h4⟩ := nodeE_open hr
  obtain ⟨A1, c1, rfl, _, _⟩ := h3.form
  obtain ⟨A2, c2, rfl, _, _⟩ := h4.form
  rw [nodeE_sz] at h2
  exact ⟨b, off, m, A1, c1, A2, c2, e, hk, hb, rfl, h2 0 _ rfl, h2 1 _ rfl, h2 2 _ rfl, h2 3 _ rfl, h2 4 _ rfl, h2 5 _ rfl, h3, h4⟩
theorem row_str {K : Nat → Prop} {w : World} {A : Option Addr} {k c : Nat} {xs : List ByteArray} (h : Enc.str.Row K w (.slice A k c) xs) {i : Nat} {x : ByteArray} (hi : xs[i]? = some x) :
    ∃ b off, A = some ⟨b, off, none⟩ ∧ K b ∧ b < w.heap.size ∧ w.cell? ⟨b, off + i, none⟩ = some (.string x) := by
  obtain ⟨hl, rfl⟩ := List.getElem?_eq_some_iff.1 hi
  obtain ⟨b, off, cs, e, hk, hb, hr, h2⟩ := h.get i hl
  have hr : cs = [.string xs[i]] := hr
  subst hr
  refine ⟨b, off, e, hk, hb, ?_⟩
  have := h2 0 _ rfl
  rwa [show Enc.str.sz = 1 from rfl, Nat.mul_one, Nat.add_zero] at this
/-- A node as a value. -/
structure NdV (n : Nat) (K : Nat → Prop) (w : World) (v : Value) (nd : Nd) : Prop where
  ex : ∃ A1 c1 A2 c2, v = .agg #[.string nd.name, .string nd.undo, .slice A1 nd.after.length c1, .bool nd.sub, .bool nd.vital, .slice A2 nd.alts.length c2] ∧ Enc.str.Row K w (.slice A1 nd.after.length c1) nd.after ∧ (bodyE n).Row K w (.slice A2 nd.alts.length c2) nd.alts
theorem get_lt {α : Type} {l : List α} {i : Nat} (h : i < l.length) : ∃ x, l[i]? = some x := ⟨_, List.getElem?_eq_getElem h⟩
theorem get_len {α : Type} {l : List α} {i : Nat} {x : α} (h : l[i]? = some x) : i < l.length := (List.getElem?_eq_some_iff.1 h).1
end Go.Proofs.Ytidilpciolladaa

/- Names; how many nodes there are, how deep. -/
namespace Go.Proofs.Ytidilpciolladaa
open Go.RowKit

/-- A name here. -/
def nmR (s : ByteArray) : Bool := nameB s && !wordB s
theorem names_any {w : World} {s : ByteArray} : Calls Try.prog 34 #[.string s] w fun e w' => e = .returned (.bool (nmR s)) ∧ Below w.heap.size w w' := by
  unfold nmR
  cases ha : nameB s with
  | false =>
    have HNA := hid ha
    clear ha
    go_enter Try.func34, Try.ntmps34
    go_wp2_with (first | (go_at_call 56; refine name_any.mono ?_; rw [HNA.out]; rintro e w1 ⟨rfl, hb1⟩; obtain ⟨ex1, dx1, rfl⟩ := more_of hb1; clear hb1))
    go_ret
    exact ⟨rfl, (by repeat (first | (with_reducible exact Below.refl _ _) | (with_reducible exact bl_mm) | (with_reducible refine bl_dr ?_) | (with_reducible refine bl_drN ?_ _) | (with_reducible refine bl_al ?_ _) | (with_reducible refine bl_more ?_ _ _)))⟩
  | true =>
    cases hw : wordB s with
    | false =>
      have HNA := hid ha
      have HWD := hid hw
      clear ha hw
      go_enter Try.func34, Try.ntmps34
      go_wp2_with (first | (go_at_call 56; refine name_any.mono ?_; rw [HNA.out]; rintro e w1 ⟨rfl, hb1⟩; obtain ⟨ex1, dx1, rfl⟩ := more_of hb1; clear hb1) | (go_at_call 57; refine word_any.mono ?_; rw [HWD.out]; rintro e w2 ⟨rfl, rfl⟩))
      go_ret
      exact ⟨rfl, (by repeat (first | (with_reducible exact Below.refl _ _) | (with_reducible exact bl_mm) | (with_reducible refine bl_dr ?_) | (with_reducible refine bl_drN ?_ _) | (with_reducible refine bl_al ?_ _) | (with_reducible refine bl_more ?_ _ _)))⟩
    | true =>
      have HNA := hid ha
      have HWD := hid hw
      clear ha hw
      go_enter Try.func34, Try.ntmps34
      go_wp2_with (first | (go_at_call 56; refine name_any.mono ?_; rw [HNA.out]; rintro e w1 ⟨rfl, hb1⟩; obtain ⟨ex1, dx1, rfl⟩ := more_of hb1; clear hb1) | (go_at_call 57; refine word_any.mono ?_; rw [HWD.out]; rintro e w2 ⟨rfl, rfl⟩))
      go_ret
      exact ⟨rfl, (by repeat (first | (with_reducible exact Below.refl _ _) | (with_reducible exact bl_mm) | (with_reducible refine bl_dr ?_) | (with_reducible refine bl_drN ?_ _) | (with_reducible refine bl_al ?_ _) | (with_reducible refine bl_more ?_ _ _)))⟩
theorem dnames_any {w : World} {s : ByteArray} : Calls Try.prog 49 #[.string s] w fun e w' => e = .returned (.bool (nmR s)) ∧ Below w.heap.size w w' := by
  unfold nmR
  rw [name_eq]
  cases ha : nameD s with
  | false =>
    have HNA := hid ha
    clear ha
    go_enter Try.func49, Try.ntmps49
    go_wp2_with (first | (go_at_call 75; refine dname_any.mono ?_; rw [HNA.out]; rintro e w1 ⟨rfl, hb1⟩; obtain ⟨ex1, dx1, rfl⟩ := more_of hb1; clear hb1))
    go_ret
    exact ⟨rfl, (by repeat (first | (with_reducible exact Below.refl _ _) | (with_reducible exact bl_mm) | (with_reducible refine bl_dr ?_) | (with_reducible refine bl_drN ?_ _) | (with_reducible refine bl_al ?_ _) | (with_reducible refine bl_more ?_ _ _)))⟩
  | true =>
    cases hw : wordB s with
    | false =>
      have HNA := hid ha
      have HWD := hid hw
      clear ha hw
      go_enter Try.func49, Try.ntmps49
      go_wp2_with (first | (go_at_call 75; refine dname_any.mono ?_; rw [HNA.out]; rintro e w1 ⟨rfl, hb1⟩; obtain ⟨ex1, dx1, rfl⟩ := more_of hb1; clear hb1) | (go_at_call 76; refine dword_any.mono ?_; rw [HWD.out]; rintro e w2 ⟨rfl, hb2⟩; obtain ⟨ex2, dx2, rfl⟩ := more_of hb2; clear hb2))
      go_ret
      exact ⟨rfl, (by repeat (first | (with_reducible exact Below.refl _ _) | (with_reducible exact bl_mm) | (with_reducible refine bl_dr ?_) | (with_reducible refine bl_drN ?_ _) | (with_reducible refine bl_al ?_ _) | (with_reducible refine bl_more ?_ _ _)))⟩
    | true =>
      have HNA := hid ha
      have HWD := hid hw
      clear ha hw
      go_enter Try.func49, Try.ntmps49
      go_wp2_with (first | (go_at_call 75; refine dname_any.mono ?_; rw [HNA.out]; rintro e w1 ⟨rfl, hb1⟩; obtain ⟨ex1, dx1, rfl⟩ := more_of hb1; clear hb1) | (go_at_call 76; refine dword_any.mono ?_; rw [HWD.out]; rintro e w2 ⟨rfl, hb2⟩; obtain ⟨ex2, dx2, rfl⟩ := more_of hb2; clear hb2))
      go_ret
      exact ⟨rfl, (by repeat (first | (with_reducible exact Below.refl _ _) | (with_reducible exact bl_mm) | (with_reducible refine bl_dr ?_) | (with_reducible refine bl_drN ?_ _) | (with_reducible refine bl_al ?_ _) | (with_reducible refine bl_more ?_ _ _)))⟩
mutual
/-- How many nodes. -/
def countN : Nd → Nat
  | .mk _ _ _ _ _ l => countB l + 1
def countB : List (List Nd) → Nat
  | [] => 0
  | b :: l => countL b + countB l
def countL : List Nd → Nat
  | [] => 0
  | n :: l => countN n + countL l
end
theorem countN_eq (n : Nd) : countN n = countB n.alts + 1 := by cases n; rw [countN]; rfl
theorem countB_app (a b : List (List Nd)) : countB (a ++ b) = countB a + countB b := by
  induction a with
  | nil => simp [countB]
  | cons x a ih => rw [List.cons_append, countB, countB, ih]; omega
theorem countL_app (a b : List Nd) : countL (a ++ b) = countL a + countL b := by
  induction a with
  | nil => simp [countL]
  | cons x a ih => rw [List.cons_append, countL, countL, ih]; omega
theorem countB_next {l : List (List Nd)} {i : Nat} {x : List Nd} (h : l[i]? = some x) : countB (l.take (i + 1)) = countB (l.take i) + countL x := by
  rw [List.take_succ_eq_append_getElem (get_len h), countB_app, (List.getElem?_eq_some_iff.1 h).2]
  simp [countB]
theorem countL_next {l : List Nd} {i : Nat} {x : Nd} (h : l[i]? = some x) : countL (l.take (i + 1)) = countL (l.take i) + (countB x.alts + 1) := by
  rw [List.take_succ_eq_append_getElem (get_len h), countL_app, (List.getElem?_eq_some_iff.1 h).2]
  simp [countL, countN_eq]
theorem countB_take (l : List (List Nd)) (i : Nat) : countB (l.take i) ≤ countB l := by
  have := countB_app (l.take i) (l.drop i)
  rw [List.take_append_drop] at this
  omega
theorem countL_take (l : List Nd) (i : Nat) : countL (l.take i) ≤ countL l := by
  have := countL_app (l.take i) (l.drop i)
  rw [List.take_append_drop] at this
  omega
theorem countL_len (l : List Nd) : l.length ≤ countL l := by
  induction l with
  | nil => simp
  | cons x l ih => rw [countL, countN_eq, List.length_cons]; omega
theorem countB_mem {l : List (List Nd)} {i : Nat} {x : List Nd} (h : l[i]? = some x) : countL x ≤ countB l := by
  have h1 := countB_next h
  have h2 := countB_take l (i + 1)
  omega
theorem countL_mem {l : List Nd} {i : Nat} {x : Nd} (h : l[i]? = some x) : countB x.alts + 1 ≤ countL l := by
  have h1 := countL_next h
  have h2 := countL_take l (i + 1)
  omega
set_option maxRecDepth 8000 in
set_option maxHeartbeats 4000000 in
theorem count_any : ∀ (n : Nat) (nm : ByteArray) (w : World) (K : Nat → Prop) (v : Value) (l : List (List Nd)), (bodyE n).Row K w v l → countB l ≤ 4294967296 →
    Calls Try.prog 19 #[.agg #[.string nm, v]] w fun e w' => e = .returned (.int .i64 (countB l)) ∧ Below w.heap.size w w' := by
  intro n
  induction n using Nat.strongRecOn with
  | ind n ih =>
  intro nm w K v l hv hc
  have HIH := hid ih
  obtain ⟨A, cp, rfl, hl1, hl2⟩ := hv.form
  have HV := hid hv
  have HC := hid hc
  have hlx : (l.length : Int) ≤ 9223372036854775807 := by unfold maxLen at hl2; omega
  clear ih hv hc hl1 hl2
  go_enter Try.func19, Try.ntmps19
  go_wp2
  go_loopg [3, 11] l.length (fun k va vi wr => ∃ i : Nat, i + k = l.length ∧ vi = .int .i64 (i : Int) ∧ va = .int .i64 (countB (l.take i)) ∧ ∃ ex dx, wr = more w ex dx)
  case atStart => exact ⟨0, by omega, rfl, rfl, more_of (by repeat (first | (with_reducible exact Below.refl _ _) | (with_reducible exact bl_mm) | (with_reducible refine bl_dr ?_) | (with_reducible refine bl_drN ?_ _) | (with_reducible refine bl_al ?_ _) | (with_reducible refine bl_more ?_ _ _)))⟩
  case round =>
    obtain ⟨i, hk, rfl, rfl, ex, dx, rfl⟩ := hrel
    have HK := hid hk
    by_cases hil : i < l.length
    · obtain ⟨x, hx⟩ := get_lt hil
      have HX := hid hx
      have HI := hid (And.intro hil trivial)
      obtain ⟨b, off, A1, c1, rfl, _, hbl, x1, hr⟩ := row_body HV.out hx
      obtain ⟨_, _, _, hy1, hy2⟩ := hr.form
      have HR := hid hr
      have hyx : (x.length : Int) ≤ 9223372036854775807 := by unfold maxLen at hy2; omega
      have hi0 : (0 : Int) ≤ i := by omega
      have hi1 : (i : Int) < l.length := by omega
      obtain ⟨c0, hc0⟩ : ∃ c0, countB (l.take i) = c0 := ⟨_, rfl⟩
      rw [hc0]
      have hct : c0 + countL x ≤ 4294967296 := by
        have h1 := countB_next hx
        have h2 := countB_take l (i + 1)
        have := HC.out
        omega
      have hxl := countL_len x
      obtain ⟨s0, hs0⟩ : ∃ s0, c0 + x.length = s0 := ⟨_, rfl⟩
      have hw1 : IntKind.i64.wrap ((c0 : Int) + (x.length : Int)) = (s0 : Int) := by rw [← hs0, IntWalk.i64_in _ (by omega)]; omega
      have HC0 := hid hc0
      have HS0 := hid hs0
      have HCT := hid hct
      clear hk hil hx hr hy1 hy2 hc0 hct hxl hs0
      go_wp2
      go_loopg [3, 23] x.length (fun k va vi wr => ∃ j s : Nat, j + k = x.length ∧ vi = .int .i64 (j : Int) ∧ va = .int .i64 (s : Int) ∧ s + j = s0 + countL (x.take j) ∧ ∃ ex dx, wr = more w ex dx)
      case atStart => exact ⟨0, s0, by omega, rfl, rfl, by simp [countL], more_of (by repeat (first | (with_reducible exact Below.refl _ _) | (with_reducible exact bl_mm) | (with_reducible refine bl_dr ?_) | (with_reducible refine bl_drN ?_ _) | (with_reducible refine bl_al ?_ _) | (with_reducible refine bl_more ?_ _ _)))⟩
      case round =>
        obtain ⟨j, s, hk, rfl, rfl, hsj, ex, dx, rfl⟩ := hrel
        have HK2 := hid hk
        by_cases hjl : j < x.length
        · obtain ⟨nd, hn⟩ := get_lt hjl
          have HN := hid hn
          have HJ := hid (And.intro hjl trivial)
          obtain ⟨b2, off2, m, A3, c3, A4, c4, rfl, _, hbl2, hnm, y1, y2, y3, y4, y5, y6, _, hr2⟩ := row_node HR.out hn
          have HMN : Hid (m < n) := hid (by omega)
          have HVL := hid hr2
          have hle : countB nd.alts + 1 ≤ countL x := countL_mem hn
          have HLE : Hid (countB nd.alts ≤ 4294967296) := hid (by have := HCT.out; omega)
          have hj0 : (0 : Int) ≤ j := by omega
          have hj1 : (j : Int) < x.length := by omega
          obtain ⟨s2, hs2⟩ : ∃ s2, s + countB nd.alts = s2 := ⟨_, rfl⟩
          have hnx := countL_next hn
          have htk := countL_take x (j + 1)
          have hxl := countL_len (x.take j)
          rw [List.length_take] at hxl
          have hw2 : IntKind.i64.wrap ((s : Int) + (countB nd.alts : Int)) = (s2 : Int) := by
            have := HCT.out; have := HS0.out; have := countL_len x
            rw [← hs2, IntWalk.i64_in _ (by omega)]; omega
          have HS2 : Hid (s2 + (j + 1) = s0 + countL (x.take (j + 1))) := hid (by rw [hnx]; omega)
          clear hk hsj hjl hn hr2 hle hs2 hnx htk hxl hnm
          go_wp2_with (first | (go_at_call 19; refine (HIH.out m HMN.out _ _ _ _ _ (HVL.out.below (by repeat (first | (with_reducible exact Below.refl _ _) | (with_reducible exact bl_mm) | (with_reducible refine bl_dr ?_) | (with_reducible refine bl_drN ?_ _) | (with_reducible refine bl_al ?_ _) | (with_reducible refine bl_more ?_ _ _)))) HLE.out).mono ?_; rintro e w2 ⟨rfl, hb2⟩; obtain ⟨ex2, dx2, rfl⟩ := more_of hb2; clear hb2))
          go_roundg (x.length - (j + 1))
          case measure => have := HK2.out; have := HJ.out.1; omega
          case rel => exact ⟨j + 1, s2, by have := HJ.out.1; omega, rfl, rfl, HS2.out, more_of (by repeat (first | (with_reducible exact Below.refl _ _) | (with_reducible exact bl_mm) | (with_reducible refine bl_dr ?_) | (with_reducible refine bl_drN ?_ _) | (with_reducible refine bl_al ?_ _) | (with_reducible refine bl_more ?_ _ _)))⟩
        · have hje : j = x.length := by omega
          subst hje
          rw [List.take_length] at hsj
          have hnl : ¬ (x.length : Int) < x.length := by omega
          have HS2 : Hid (s = countB (l.take (i + 1))) := hid (by rw [countB_next HX.out, HC0.out]; have := HS0.out; omega)
          clear hk hjl hsj
          go_wp2
          go_roundg (l.length - (i + 1))
          case measure => have := HK.out; have := HI.out.1; omega
          case rel => exact ⟨i + 1, by have := HI.out.1; omega, rfl, by rw [HS2.out], more_of (by repeat (first | (with_reducible exact Below.refl _ _) | (with_reducible exact bl_mm) | (with_reducible refine bl_dr ?_) | (with_reducible refine bl_drN ?_ _) | (with_reducible refine bl_al ?_ _) | (with_reducible refine bl_more ?_ _ _)))⟩
    · have hje : i = l.length := by omega
      subst hje
      have hnl : ¬ (l.length : Int) < l.length := by omega
      rw [List.take_length]
      clear hk hil
      go_wp2
      go_ret
      exact ⟨rfl, (by repeat (first | (with_reducible exact Below.refl _ _) | (with_reducible exact bl_mm) | (with_reducible refine bl_dr ?_) | (with_reducible refine bl_drN ?_ _) | (with_reducible refine bl_al ?_ _) | (with_reducible refine bl_more ?_ _ _)))⟩
end Go.Proofs.Ytidilpciolladaa

/- How deep. -/
namespace Go.Proofs.Ytidilpciolladaa
open Go.RowKit

mutual
/-- How many sagas are within one another. -/
def inN : Nd → Nat
  | .mk _ _ _ sb _ l => if sb then inB l + 1 else 0
def inB : List (List Nd) → Nat
  | [] => 0
  | b :: l => max (inL b) (inB l)
def inL : List Nd → Nat
  | [] => 0
  | n :: l => max (inN n) (inL l)
end
def depthB (l : List (List Nd)) : Nat := inB l + 1
theorem inN_eq (n : Nd) : inN n = if n.sub then inB n.alts + 1 else 0 := by cases n; rw [inN]; rfl
theorem inB_app (a b : List (List Nd)) : inB (a ++ b) = max (inB a) (inB b) := by
  induction a with
  | nil => simp [inB]
  | cons x a ih => rw [List.cons_append, inB, inB, ih]; omega
theorem inL_app (a b : List Nd) : inL (a ++ b) = max (inL a) (inL b) := by
  induction a with
  | nil => simp [inL]
  | cons x a ih => rw [List.cons_append, inL, inL, ih]; omega
theorem inB_next {l : List (List Nd)} {i : Nat} {x : List Nd} (h : l[i]? = some x) : inB (l.take (i + 1)) = max (inB (l.take i)) (inL x) := by
  rw [List.take_succ_eq_append_getElem (get_len h), inB_app, (List.getElem?_eq_some_iff.1 h).2]
  simp [inB]
theorem inL_next {l : List Nd} {i : Nat} {x : Nd} (h : l[i]? = some x) : inL (l.take (i + 1)) = max (inL (l.take i)) (inN x) := by
  rw [List.take_succ_eq_append_getElem (get_len h), inL_app, (List.getElem?_eq_some_iff.1 h).2]
  simp [inL]
theorem inB_count : ∀ l, inB l ≤ countB l := by
  suffices h : ∀ n, inN n ≤ countN n by
    have hL : ∀ l, inL l ≤ countL l := by
      intro l
      induction l with
      | nil => simp [inL]
      | cons x l ih => rw [inL, countL]; have := h x; omega
    intro l
    induction l with
    | nil => simp [inB]
    | cons x l ih => rw [inB, countB]; have := hL x; omega
  intro n
  induction n using Nd.rec (motive_2 := fun l => inB l ≤ countB l) (motive_3 := fun l => inL l ≤ countL l) with
  | mk a b c d e f ih => rw [inN, countN]; split <;> omega
  | nil => exact Nat.le_refl _
  | cons a l h1 h2 => first | (rw [inB, countB]; omega) | (rw [inL, countL]; omega)
  | _ => first | exact Nat.le_refl _ | (rename_i h1 h2; first | (rw [inB, countB]; omega) | (rw [inL, countL]; omega))
theorem cast_max (a b : Nat) : ((max a b : Nat) : Int) = max (a : Int) (b : Int) := by omega
theorem inB_take (l : List (List Nd)) (i : Nat) : inB (l.take i) ≤ inB l := by
  have := inB_app (l.take i) (l.drop i)
  rw [List.take_append_drop] at this
  omega
set_option maxRecDepth 8000 in
set_option maxHeartbeats 4000000 in
theorem depth_any : ∀ (n : Nat) (nm : ByteArray) (w : World) (K : Nat → Prop) (v : Value) (l : List (List Nd)), (bodyE n).Row K w v l → countB l ≤ 4294967296 →
    Calls Try.prog 17 #[.agg #[.string nm, v]] w fun e w' => e = .returned (.int .i64 (depthB l)) ∧ Below w.heap.size w w' := by
  intro n
  induction n using Nat.strongRecOn with
  | ind n ih =>
  intro nm w K v l hv hc
  have HIH := hid ih
  obtain ⟨A, cp, rfl, hl1, hl2⟩ := hv.form
  have HV := hid hv
  have HC := hid hc
  have hlx : (l.length : Int) ≤ 9223372036854775807 := by unfold maxLen at hl2; omega
  clear ih hv hc hl1 hl2
  go_enter Try.func17, Try.ntmps17
  go_wp2
  go_loopg [3, 11] l.length (fun k va vi wr => ∃ i : Nat, i + k = l.length ∧ vi = .int .i64 (i : Int) ∧ va = .int .i64 (inB (l.take i)) ∧ ∃ ex dx, wr = more w ex dx)
  case atStart => exact ⟨0, by omega, rfl, rfl, more_of (by repeat (first | (with_reducible exact Below.refl _ _) | (with_reducible exact bl_mm) | (with_reducible refine bl_dr ?_) | (with_reducible refine bl_drN ?_ _) | (with_reducible refine bl_al ?_ _) | (with_reducible refine bl_more ?_ _ _)))⟩
  case round =>
    obtain ⟨i, hk, rfl, rfl, ex, dx, rfl⟩ := hrel
    have HK := hid hk
    by_cases hil : i < l.length
    · obtain ⟨x, hx⟩ := get_lt hil
      have HX := hid hx
      have HI := hid (And.intro hil trivial)
      obtain ⟨b, off, A1, c1, rfl, _, hbl, x1, hr⟩ := row_body HV.out hx
      obtain ⟨_, _, _, hy1, hy2⟩ := hr.form
      have HR := hid hr
      have hyx : (x.length : Int) ≤ 9223372036854775807 := by unfold maxLen at hy2; omega
      have hi0 : (0 : Int) ≤ i := by omega
      have hi1 : (i : Int) < l.length := by omega
      obtain ⟨c0, hc0⟩ : ∃ c0, inB (l.take i) = c0 := ⟨_, rfl⟩
      rw [hc0]
      have HC0 := hid hc0
      clear hk hil hx hr hy1 hy2 hc0
      go_wp2
      go_loopg [3, 18] x.length (fun k va vi wr => ∃ j : Nat, j + k = x.length ∧ vi = .int .i64 (j : Int) ∧ va = .int .i64 ((max c0 (inL (x.take j)) : Nat) : Int) ∧ ∃ ex dx, wr = more w ex dx)
      case atStart => exact ⟨0, by omega, rfl, by simp [inL], more_of (by repeat (first | (with_reducible exact Below.refl _ _) | (with_reducible exact bl_mm) | (with_reducible refine bl_dr ?_) | (with_reducible refine bl_drN ?_ _) | (with_reducible refine bl_al ?_ _) | (with_reducible refine bl_more ?_ _ _)))⟩
      case round =>
        obtain ⟨j, hk, rfl, rfl, ex, dx, rfl⟩ := hrel
        have HK2 := hid hk
        obtain ⟨s, hs⟩ : ∃ s, max c0 (inL (x.take j)) = s := ⟨_, rfl⟩
        rw [hs]
        by_cases hjl : j < x.length
        · obtain ⟨nd, hn⟩ := get_lt hjl
          have HN := hid hn
          have HJ := hid (And.intro hjl trivial)
          obtain ⟨b2, off2, m, A3, c3, A4, c4, rfl, _, hbl2, hnm, y1, y2, y3, y4, y5, y6, _, hr2⟩ := row_node HR.out hn
          have HMN : Hid (m < n) := hid (by omega)
          have HVL := hid hr2
          have HLE : Hid (countB nd.alts ≤ 4294967296) := hid (by have h1 := countL_mem hn; have h2 := countB_mem HX.out; have := HC.out; omega)
          have hj0 : (0 : Int) ≤ j := by omega
          have hj1 : (j : Int) < x.length := by omega
          cases hsub : nd.sub with
          | false =>
            rw [hsub] at y4
            have HS2 : Hid (s = max c0 (inL (x.take (j + 1)))) := hid (by rw [inL_next hn, inN_eq, hsub, if_neg (by decide)]; omega)
            clear hk hjl hn hr2 hs hnm hsub
            go_wp2_with (first | (go_at_call 17; refine (HIH.out m HMN.out _ _ _ _ _ (HVL.out.below (by repeat (first | (with_reducible exact Below.refl _ _) | (with_reducible exact bl_mm) | (with_reducible refine bl_dr ?_) | (with_reducible refine bl_drN ?_ _) | (with_reducible refine bl_al ?_ _) | (with_reducible refine bl_more ?_ _ _)))) HLE.out).mono ?_; rintro e w2 ⟨rfl, hb2⟩; obtain ⟨ex2, dx2, rfl⟩ := more_of hb2; clear hb2))
            go_roundg (x.length - (j + 1))
            case measure => have := HK2.out; have := HJ.out.1; omega
            case rel => exact ⟨j + 1, by have := HJ.out.1; omega, rfl, by rw [HS2.out], more_of (by repeat (first | (with_reducible exact Below.refl _ _) | (with_reducible exact bl_mm) | (with_reducible refine bl_dr ?_) | (with_reducible refine bl_drN ?_ _) | (with_reducible refine bl_al ?_ _) | (with_reducible refine bl_more ?_ _ _)))⟩
          | true =>
            rw [hsub] at y4
            have HS2 : Hid (max s (depthB nd.alts) = max c0 (inL (x.take (j + 1)))) := hid (by rw [inL_next hn, inN_eq, hsub, if_pos rfl]; unfold depthB; omega)
            clear hk hjl hn hr2 hs hnm hsub
            go_wp2_with (first | (go_at_call 17; refine (HIH.out m HMN.out _ _ _ _ _ (HVL.out.below (by repeat (first | (with_reducible exact Below.refl _ _) | (with_reducible exact bl_mm) | (with_reducible refine bl_dr ?_) | (with_reducible refine bl_drN ?_ _) | (with_reducible refine bl_al ?_ _) | (with_reducible refine bl_more ?_ _ _)))) HLE.out).mono ?_; rintro e w2 ⟨rfl, hb2⟩; obtain ⟨ex2, dx2, rfl⟩ := more_of hb2; clear hb2))
            go_roundg (x.length - (j + 1))
            case measure => have := HK2.out; have := HJ.out.1; omega
            case rel => exact ⟨j + 1, by have := HJ.out.1; omega, rfl, by rw [← HS2.out, cast_max], more_of (by repeat (first | (with_reducible exact Below.refl _ _) | (with_reducible exact bl_mm) | (with_reducible refine bl_dr ?_) | (with_reducible refine bl_drN ?_ _) | (with_reducible refine bl_al ?_ _) | (with_reducible refine bl_more ?_ _ _)))⟩
        · have hje : j = x.length := by omega
          subst hje
          rw [List.take_length] at hs
          have hnl : ¬ (x.length : Int) < x.length := by omega
          have HS2 : Hid (s = inB (l.take (i + 1))) := hid (by rw [inB_next HX.out, HC0.out]; omega)
          clear hk hjl hs
          go_wp2
          go_roundg (l.length - (i + 1))
          case measure => have := HK.out; have := HI.out.1; omega
          case rel => exact ⟨i + 1, by have := HI.out.1; omega, rfl, by rw [HS2.out], more_of (by repeat (first | (with_reducible exact Below.refl _ _) | (with_reducible exact bl_mm) | (with_reducible refine bl_dr ?_) | (with_reducible refine bl_drN ?_ _) | (with_reducible refine bl_al ?_ _) | (with_reducible refine bl_more ?_ _ _)))⟩
    · have hje : i = l.length := by omega
      subst hje
      have hnl : ¬ (l.length : Int) < l.length := by omega
      rw [List.take_length]
      obtain ⟨q, hq⟩ : ∃ q, inB l + 1 = q := ⟨_, rfl⟩
      have hw : IntKind.i64.wrap ((inB l : Int) + 1) = (q : Int) := by
        have h1 := inB_count l
        have := HC.out
        rw [← hq, IntWalk.i64_in _ (by omega)]; omega
      have HQ := hid hq
      clear hk hil hq
      go_wp2
      go_ret
      exact ⟨by rw [show depthB l = q from HQ.out]; rfl, (by repeat (first | (with_reducible exact Below.refl _ _) | (with_reducible exact bl_mm) | (with_reducible refine bl_dr ?_) | (with_reducible refine bl_drN ?_ _) | (with_reducible refine bl_al ?_ _) | (with_reducible refine bl_more ?_ _ _)))⟩
end Go.Proofs.Ytidilpciolladaa

/- The document's Depth and Count. -/
namespace Go.Proofs.Ytidilpciolladaa
open Go.RowKit

set_option maxRecDepth 8000 in
set_option maxHeartbeats 4000000 in
theorem ddepthB_any : ∀ (n : Nat) (w : World) (K : Nat → Prop) (v : Value) (l : List (List Nd)), (bodyE n).Row K w v l → countB l ≤ 4294967296 →
    Calls Try.prog 36 #[v] w fun e w' => e = .returned (.int .i64 (depthB l)) ∧ Below w.heap.size w w' := by
  intro n
  induction n using Nat.strongRecOn with
  | ind n ih =>
  intro w K v l hv hc
  have HIH := hid ih
  obtain ⟨A, cp, rfl, hl1, hl2⟩ := hv.form
  have HV := hid hv
  have HC := hid hc
  have hlx : (l.length : Int) ≤ 9223372036854775807 := by unfold maxLen at hl2; omega
  clear ih hv hc hl1 hl2
  go_enter Try.func36, Try.ntmps36
  go_wp2
  go_loopg [3, 4] l.length (fun k va vi wr => ∃ i : Nat, i + k = l.length ∧ vi = .int .i64 (i : Int) ∧ va = .int .i64 (inB (l.take i)) ∧ ∃ ex dx, wr = more w ex dx)
  case atStart => exact ⟨0, by omega, rfl, rfl, more_of (by repeat (first | (with_reducible exact Below.refl _ _) | (with_reducible exact bl_mm) | (with_reducible refine bl_dr ?_) | (with_reducible refine bl_drN ?_ _) | (with_reducible refine bl_al ?_ _) | (with_reducible refine bl_more ?_ _ _)))⟩
  case round =>
    obtain ⟨i, hk, rfl, rfl, ex, dx, rfl⟩ := hrel
    have HK := hid hk
    by_cases hil : i < l.length
    · obtain ⟨x, hx⟩ := get_lt hil
      have HX := hid hx
      have HI := hid (And.intro hil trivial)
      obtain ⟨b, off, A1, c1, rfl, _, hbl, x1, hr⟩ := row_body HV.out hx
      obtain ⟨_, _, _, hy1, hy2⟩ := hr.form
      have HR := hid hr
      have hyx : (x.length : Int) ≤ 9223372036854775807 := by unfold maxLen at hy2; omega
      have hi0 : (0 : Int) ≤ i := by omega
      have hi1 : (i : Int) < l.length := by omega
      obtain ⟨c0, hc0⟩ : ∃ c0, inB (l.take i) = c0 := ⟨_, rfl⟩
      rw [hc0]
      have HC0 := hid hc0
      clear hk hil hx hr hy1 hy2 hc0
      go_wp2
      go_loopg [3, 5] x.length (fun k va vi wr => ∃ j : Nat, j + k = x.length ∧ vi = .int .i64 (j : Int) ∧ va = .int .i64 ((max c0 (inL (x.take j)) : Nat) : Int) ∧ ∃ ex dx, wr = more w ex dx)
      case atStart => exact ⟨0, by omega, rfl, by simp [inL], more_of (by repeat (first | (with_reducible exact Below.refl _ _) | (with_reducible exact bl_mm) | (with_reducible refine bl_dr ?_) | (with_reducible refine bl_drN ?_ _) | (with_reducible refine bl_al ?_ _) | (with_reducible refine bl_more ?_ _ _)))⟩
      case round =>
        obtain ⟨j, hk, rfl, rfl, ex, dx, rfl⟩ := hrel
        have HK2 := hid hk
        obtain ⟨s, hs⟩ : ∃ s, max c0 (inL (x.take j)) = s := ⟨_, rfl⟩
        rw [hs]
        by_cases hjl : j < x.length
        · obtain ⟨nd, hn⟩ := get_lt hjl
          have HN := hid hn
          have HJ := hid (And.intro hjl trivial)
          obtain ⟨b2, off2, m, A3, c3, A4, c4, rfl, _, hbl2, hnm, y1, y2, y3, y4, y5, y6, _, hr2⟩ := row_node HR.out hn
          have HMN : Hid (m < n) := hid (by omega)
          have HVL := hid hr2
          have HLE : Hid (countB nd.alts ≤ 4294967296) := hid (by have h1 := countL_mem hn; have h2 := countB_mem HX.out; have := HC.out; omega)
          have hj0 : (0 : Int) ≤ j := by omega
          have hj1 : (j : Int) < x.length := by omega
          cases hsub : nd.sub with
          | false =>
            rw [hsub] at y4
            have HS2 : Hid (s = max c0 (inL (x.take (j + 1)))) := hid (by rw [inL_next hn, inN_eq, hsub, if_neg (by decide)]; omega)
            clear hk hjl hn hr2 hs hnm hsub
            go_wp2_with (first | (go_at_call 36; refine (HIH.out m HMN.out _ _ _ _ (HVL.out.below (by repeat (first | (with_reducible exact Below.refl _ _) | (with_reducible exact bl_mm) | (with_reducible refine bl_dr ?_) | (with_reducible refine bl_drN ?_ _) | (with_reducible refine bl_al ?_ _) | (with_reducible refine bl_more ?_ _ _)))) HLE.out).mono ?_; rintro e w2 ⟨rfl, hb2⟩; obtain ⟨ex2, dx2, rfl⟩ := more_of hb2; clear hb2))
            go_roundg (x.length - (j + 1))
            case measure => have := HK2.out; have := HJ.out.1; omega
            case rel => exact ⟨j + 1, by have := HJ.out.1; omega, rfl, by rw [HS2.out], more_of (by repeat (first | (with_reducible exact Below.refl _ _) | (with_reducible exact bl_mm) | (with_reducible refine bl_dr ?_) | (with_reducible refine bl_drN ?_ _) | (with_reducible refine bl_al ?_ _) | (with_reducible refine bl_more ?_ _ _)))⟩
          | true =>
            rw [hsub] at y4
            have HS2 : Hid (max s (depthB nd.alts) = max c0 (inL (x.take (j + 1)))) := hid (by rw [inL_next hn, inN_eq, hsub, if_pos rfl]; unfold depthB; omega)
            clear hk hjl hn hr2 hs hnm hsub
            go_wp2_with (first | (go_at_call 36; refine (HIH.out m HMN.out _ _ _ _ (HVL.out.below (by repeat (first | (with_reducible exact Below.refl _ _) | (with_reducible exact bl_mm) | (with_reducible refine bl_dr ?_) | (with_reducible refine bl_drN ?_ _) | (with_reducible refine bl_al ?_ _) | (with_reducible refine bl_more ?_ _ _)))) HLE.out).mono ?_; rintro e w2 ⟨rfl, hb2⟩; obtain ⟨ex2, dx2, rfl⟩ := more_of hb2; clear hb2))
            go_roundg (x.length - (j + 1))
            case measure => have := HK2.out; have := HJ.out.1; omega
            case rel => exact ⟨j + 1, by have := HJ.out.1; omega, rfl, by rw [← HS2.out, cast_max], more_of (by repeat (first | (with_reducible exact Below.refl _ _) | (with_reducible exact bl_mm) | (with_reducible refine bl_dr ?_) | (with_reducible refine bl_drN ?_ _) | (with_reducible refine bl_al ?_ _) | (with_reducible refine bl_more ?_ _ _)))⟩
        · have hje : j = x.length := by omega
          subst hje
          rw [List.take_length] at hs
          have hnl : ¬ (x.length : Int) < x.length := by omega
          have HS2 : Hid (s = inB (l.take (i + 1))) := hid (by rw [inB_next HX.out, HC0.out]; omega)
          clear hk hjl hs
          go_wp2
          go_roundg (l.length - (i + 1))
          case measure => have := HK.out; have := HI.out.1; omega
          case rel => exact ⟨i + 1, by have := HI.out.1; omega, rfl, by rw [HS2.out], more_of (by repeat (first | (with_reducible exact Below.refl _ _) | (with_reducible exact bl_mm) | (with_reducible refine bl_dr ?_) | (with_reducible refine bl_drN ?_ _) | (with_reducible refine bl_al ?_ _) | (with_reducible refine bl_more ?_ _ _)))⟩
    · have hje : i = l.length := by omega
      subst hje
      have hnl : ¬ (l.length : Int) < l.length := by omega
      rw [List.take_length]
      obtain ⟨q, hq⟩ : ∃ q, inB l + 1 = q := ⟨_, rfl⟩
      have hw : IntKind.i64.wrap ((inB l : Int) + 1) = (q : Int) := by
        have h1 := inB_count l
        have := HC.out
        rw [← hq, IntWalk.i64_in _ (by omega)]; omega
      have HQ := hid hq
      clear hk hil hq
      go_wp2
      go_ret
      exact ⟨by rw [show depthB l = q from HQ.out]; rfl, (by repeat (first | (with_reducible exact Below.refl _ _) | (with_reducible exact bl_mm) | (with_reducible refine bl_dr ?_) | (with_reducible refine bl_drN ?_ _) | (with_reducible refine bl_al ?_ _) | (with_reducible refine bl_more ?_ _ _)))⟩
set_option maxRecDepth 8000 in
set_option maxHeartbeats 4000000 in
theorem dcountB_any : ∀ (n : Nat) (w : World) (K : Nat → Prop) (v : Value) (l : List (List Nd)), (bodyE n).Row K w v l → countB l ≤ 4294967296 →
    Calls Try.prog 37 #[v] w fun e w' => e = .returned (.int .i64 (countB l)) ∧ Below w.heap.size w w' := by
  intro n
  induction n using Nat.strongRecOn with
  | ind n ih =>
  intro w K v l hv hc
  have HIH := hid ih
  obtain ⟨A, cp, rfl, hl1, hl2⟩ := hv.form
  have HV := hid hv
  have HC := hid hc
  have hlx : (l.length : Int) ≤ 9223372036854775807 := by unfold maxLen at hl2; omega
  clear ih hv hc hl1 hl2
  go_enter Try.func37, Try.ntmps37
  go_wp2
  go_loopg [3, 4] l.length (fun k va vi wr => ∃ i : Nat, i + k = l.length ∧ vi = .int .i64 (i : Int) ∧ va = .int .i64 (countB (l.take i)) ∧ ∃ ex dx, wr = more w ex dx)
  case atStart => exact ⟨0, by omega, rfl, rfl, more_of (by repeat (first | (with_reducible exact Below.refl _ _) | (with_reducible exact bl_mm) | (with_reducible refine bl_dr ?_) | (with_reducible refine bl_drN ?_ _) | (with_reducible refine bl_al ?_ _) | (with_reducible refine bl_more ?_ _ _)))⟩
  case round =>
    obtain ⟨i, hk, rfl, rfl, ex, dx, rfl⟩ := hrel
    have HK := hid hk
    by_cases hil : i < l.length
    · obtain ⟨x, hx⟩ := get_lt hil
      have HX := hid hx
      have HI := hid (And.intro hil trivial)
      obtain ⟨b, off, A1, c1, rfl, _, hbl, x1, hr⟩ := row_body HV.out hx
      obtain ⟨_, _, _, hy1, hy2⟩ := hr.form
      have HR := hid hr
      have hyx : (x.length : Int) ≤ 9223372036854775807 := by unfold maxLen at hy2; omega
      have hi0 : (0 : Int) ≤ i := by omega
      have hi1 : (i : Int) < l.length := by omega
      obtain ⟨c0, hc0⟩ : ∃ c0, countB (l.take i) = c0 := ⟨_, rfl⟩
      rw [hc0]
      have hct : c0 + countL x ≤ 4294967296 := by
        have h1 := countB_next hx
        have h2 := countB_take l (i + 1)
        have := HC.out
        omega
      have HC0 := hid hc0
      have HCT := hid hct
      clear hk hil hx hr hy1 hy2 hc0 hct
      go_wp2
      go_loopg [3, 5] x.length (fun k va vi wr => ∃ j s : Nat, j + k = x.length ∧ vi = .int .i64 (j : Int) ∧ va = .int .i64 (s : Int) ∧ s = c0 + countL (x.take j) ∧ ∃ ex dx, wr = more w ex dx)
      case atStart => exact ⟨0, c0, by omega, rfl, rfl, by simp [countL], more_of (by repeat (first | (with_reducible exact Below.refl _ _) | (with_reducible exact bl_mm) | (with_reducible refine bl_dr ?_) | (with_reducible refine bl_drN ?_ _) | (with_reducible refine bl_al ?_ _) | (with_reducible refine bl_more ?_ _ _)))⟩
      case round =>
        obtain ⟨j, s, hk, rfl, rfl, hsj, ex, dx, rfl⟩ := hrel
        have HK2 := hid hk
        by_cases hjl : j < x.length
        · obtain ⟨nd, hn⟩ := get_lt hjl
          have HN := hid hn
          have HJ := hid (And.intro hjl trivial)
          obtain ⟨b2, off2, m, A3, c3, A4, c4, rfl, _, hbl2, hnm, y1, y2, y3, y4, y5, y6, _, hr2⟩ := row_node HR.out hn
          have HMN : Hid (m < n) := hid (by omega)
          have HVL := hid hr2
          have hle : countB nd.alts + 1 ≤ countL x := countL_mem hn
          have HLE : Hid (countB nd.alts ≤ 4294967296) := hid (by have := HCT.out; omega)
          have hj0 : (0 : Int) ≤ j := by omega
          have hj1 : (j : Int) < x.length := by omega
          obtain ⟨s1, hs1⟩ : ∃ s1, s + 1 = s1 := ⟨_, rfl⟩
          obtain ⟨s2, hs2⟩ : ∃ s2, s1 + countB nd.alts = s2 := ⟨_, rfl⟩
          have hnx := countL_next hn
          have htk := countL_take x (j + 1)
          have hw1 : IntKind.i64.wrap ((s : Int) + 1) = (s1 : Int) := by
            have := HCT.out
            rw [← hs1, IntWalk.i64_in _ (by omega)]; omega
          have hw2 : IntKind.i64.wrap ((s1 : Int) + (countB nd.alts : Int)) = (s2 : Int) := by
            have := HCT.out
            rw [← hs2, IntWalk.i64_in _ (by omega)]; omega
          have HS2 : Hid (s2 = c0 + countL (x.take (j + 1))) := hid (by rw [hnx]; omega)
          clear hk hsj hjl hn hr2 hle hs1 hs2 hnx htk hnm
          go_wp2_with (first | (go_at_call 37; refine (HIH.out m HMN.out _ _ _ _ (HVL.out.below (by repeat (first | (with_reducible exact Below.refl _ _) | (with_reducible exact bl_mm) | (with_reducible refine bl_dr ?_) | (with_reducible refine bl_drN ?_ _) | (with_reducible refine bl_al ?_ _) | (with_reducible refine bl_more ?_ _ _)))) HLE.out).mono ?_; rintro e w2 ⟨rfl, hb2⟩; obtain ⟨ex2, dx2, rfl⟩ := more_of hb2; clear hb2))
          go_roundg (x.length - (j + 1))
          case measure => have := HK2.out; have := HJ.out.1; omega
          case rel => exact ⟨j + 1, s2, by have := HJ.out.1; omega, rfl, rfl, HS2.out, more_of (by repeat (first | (with_reducible exact Below.refl _ _) | (with_reducible exact bl_mm) | (with_reducible refine bl_dr ?_) | (with_reducible refine bl_drN ?_ _) | (with_reducible refine bl_al ?_ _) | (with_reducible refine bl_more ?_ _ _)))⟩
        · have hje : j = x.length := by omega
          subst hje
          rw [List.take_length] at hsj
          have hnl : ¬ (x.length : Int) < x.length := by omega
          have HS2 : Hid (s = countB (l.take (i + 1))) := hid (by rw [countB_next HX.out, HC0.out]; omega)
          clear hk hjl hsj
          go_wp2
          go_roundg (l.length - (i + 1))
          case measure => have := HK.out; have := HI.out.1; omega
          case rel => exact ⟨i + 1, by have := HI.out.1; omega, rfl, by rw [HS2.out], more_of (by repeat (first | (with_reducible exact Below.refl _ _) | (with_reducible exact bl_mm) | (with_reducible refine bl_dr ?_) | (with_reducible refine bl_drN ?_ _) | (with_reducible refine bl_al ?_ _) | (with_reducible refine bl_more ?_ _ _)))⟩
    · have hje : i = l.length := by omega
      subst hje
      have hnl : ¬ (l.length : Int) < l.length := by omega
      rw [List.take_length]
      clear hk hil
      go_wp2
      go_ret
      exact ⟨rfl, (by repeat (first | (with_reducible exact Below.refl _ _) | (with_reducible exact bl_mm) | (with_reducible refine bl_dr ?_) | (with_reducible refine bl_drN ?_ _) | (with_reducible refine bl_al ?_ _) | (with_reducible refine bl_more ?_ _ _)))⟩
theorem ddepth_any {n : Nat} {nm : ByteArray} {w : World} {K : Nat → Prop} {v : Value} {l : List (List Nd)} (hv : (bodyE n).Row K w v l) (hc : countB l ≤ 4294967296) :
    Calls Try.prog 18 #[.agg #[.string nm, v]] w fun e w' => e = .returned (.int .i64 (depthB l)) ∧ Below w.heap.size w w' := by
  obtain ⟨A, cp, rfl, _, _⟩ := hv.form
  have HV := hid hv
  have HC := hid hc
  clear hv hc
  go_enter Try.func18, Try.ntmps18
  go_wp2_with (first | (go_at_call 36; refine (ddepthB_any _ _ _ _ _ (HV.out.below (by repeat (first | (with_reducible exact Below.refl _ _) | (with_reducible exact bl_mm) | (with_reducible refine bl_dr ?_) | (with_reducible refine bl_drN ?_ _) | (with_reducible refine bl_al ?_ _) | (with_reducible refine bl_more ?_ _ _)))) HC.out).mono ?_; rintro e w2 ⟨rfl, hb2⟩; obtain ⟨ex2, dx2, rfl⟩ := more_of hb2; clear hb2))
  go_ret
  exact ⟨rfl, (by repeat (first | (with_reducible exact Below.refl _ _) | (with_reducible exact bl_mm) | (with_reducible refine bl_dr ?_) | (with_reducible refine bl_drN ?_ _) | (with_reducible refine bl_al ?_ _) | (with_reducible refine bl_more ?_ _ _)))⟩
theorem dcount_any {n : Nat} {nm : ByteArray} {w : World} {K : Nat → Prop} {v : Value} {l : List (List Nd)} (hv : (bodyE n).Row K w v l) (hc : countB l ≤ 4294967296) :
    Calls Try.prog 20 #[.agg #[.string nm, v]] w fun e w' => e = .returned (.int .i64 (countB l)) ∧ Below w.heap.size w w' := by
  obtain ⟨A, cp, rfl, _, _⟩ := hv.form
  have HV := hid hv
  have HC := hid hc
  clear hv hc
  go_enter Try.func20, Try.ntmps20
  go_wp2_with (first | (go_at_call 37; refine (dcountB_any _ _ _ _ _ (HV.out.below (by repeat (first | (with_reducible exact Below.refl _ _) | (with_reducible exact bl_mm) | (with_reducible refine bl_dr ?_) | (with_reducible refine bl_drN ?_ _) | (with_reducible refine bl_al ?_ _) | (with_reducible refine bl_more ?_ _ _)))) HC.out).mono ?_; rintro e w2 ⟨rfl, hb2⟩; obtain ⟨ex2, dx2, rfl⟩ := more_of hb2; clear hb2))
  go_ret
  exact ⟨rfl, (by repeat (first | (with_reducible exact Below.refl _ _) | (with_reducible exact bl_mm) | (with_reducible refine bl_dr ?_) | (with_reducible refine bl_drN ?_ _) | (with_reducible refine bl_al ?_ _) | (with_reducible refine bl_more ?_ _ _)))⟩
end Go.Proofs.Ytidilpciolladaa
