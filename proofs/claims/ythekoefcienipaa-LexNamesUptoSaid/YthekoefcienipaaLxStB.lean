/- Where a text is cut, and where it stops. -/
import Derived.Test.YthekoefcienipaaLxStA
namespace Go.Proofs.Ythekoefcienipaa
open Go.RowKit

theorem run_suf {s : ByteArray} {a i : Nat} (ha : a ≤ s.size) : a + runE (s.extract a s.size) i = runE s (a + i) := by
  have hz := size_ext (a := a) (Nat.le_refl s.size)
  have hd : ∀ i, Utf8.decode (s.extract a s.size) i = Utf8.decode s (a + i) := fun i => dec_ext (Nat.le_refl _) (.inr rfl)
  have hbd : ∀ i, bad (s.extract a s.size) i = bad s (a + i) := fun i => bad_ext (Nat.le_refl _) (.inr rfl)
  induction hk : s.size - (a + i) using Nat.strongRecOn generalizing i with
  | _ n ih =>
    by_cases hps : a + i < s.size
    · cases hb : bad s (a + i) with
      | true => rw [runE_bad hb, runE_bad (by rw [hbd]; exact hb)]
      | false =>
        cases hn : namC (Utf8.decode s (a + i)).1 with
        | false => rw [runE_no hn, runE_no (by rw [hd]; exact hn)]
        | true =>
          have hw := width_pos s (a + i)
          rw [runE_next hps hb hn, runE_next (by omega) (by rw [hbd]; exact hb) (by rw [hd]; exact hn), hd, Nat.add_assoc]
          exact ih _ (by omega) rfl
    · rw [runE_end hps, runE_end (by omega)]
def Err (s : ByteArray) (b : Nat) (E : Int) : Prop :=
  (bad s b = true ∧ E = 4) ∨ (bad s b = false ∧ cls (Utf8.decode s b).1 = 1 ∧ (runE s b : Int) - b > 24 ∧ E = 5) ∨ (bad s b = false ∧ cls (Utf8.decode s b).1 ≠ 1 ∧ stepC s b (Utf8.decode s b).2 (Utf8.decode s b).1 false [] = none ∧ E = 10)
theorem stepC_none {s : ByteArray} {p n : Nat} {r : Int} {rem : Bool} {out : List Tok} (h : stepC s p n r rem out = none) (t : ByteArray) (q m : Nat) : rem = false ∧ stepC t q m r false [] = none := by
  unfold stepC at h ⊢
  split at h
  · cases h
  · rename_i h1
    split at h
    · cases h
    · rename_i h2
      split at h
      · cases h
      · rename_i h3
        have hr : rem = false := by
          cases rem with
          | false => rfl
          | true => exact absurd rfl h1
        rw [hr] at h1
        rw [if_neg h1, if_neg h2, if_neg h3]
        exact ⟨hr, rfl⟩
theorem err_at {s : ByteArray} {p : Nat} {rem : Bool} {out : List Tok} {P E : Int} (h : dL s p rem out = .inr (P, E)) (hp : p ≤ s.size) : ∃ (b : Nat) (rem' : Bool) (out' : List Tok), P = (b : Int) ∧ b < s.size ∧ Reach s p rem out b rem' out' ∧ Err s b E := by
  induction hk : s.size - p using Nat.strongRecOn generalizing p rem out with
  | _ n ih =>
    by_cases hps : p < s.size
    · cases hb : bad s p with
      | true =>
        rw [dL_bad hps hb] at h
        cases h
        exact ⟨p, rem, out, rfl, hps, .refl _ _ _, .inl ⟨hb, rfl⟩⟩
      | false =>
        have hw := width_pos s p
        have hwl := width_le hps
        by_cases hn : rem = true ∨ cls (Utf8.decode s p).1 ≠ 1
        · rw [dL_char hps hb hn] at h
          cases hs : stepC s p (Utf8.decode s p).2 (Utf8.decode s p).1 rem out with
          | some x =>
            obtain ⟨rem', out'⟩ := x
            rw [hs] at h
            obtain ⟨b, r2, o2, h1, h2, h3, h4⟩ := ih _ (by omega) h hwl rfl
            exact ⟨b, r2, o2, h1, h2, .char hps hb hn hs h3, h4⟩
          | none =>
            rw [hs] at h
            cases h
            obtain ⟨hr, hs'⟩ := stepC_none hs s p (Utf8.decode s p).2
            have hc : cls (Utf8.decode s p).1 ≠ 1 := hn.resolve_left (by rw [hr]; decide)
            exact ⟨p, rem, out, rfl, hps, .refl _ _ _, .inr (.inr ⟨hb, hc, hs', rfl⟩)⟩
        · have hr : rem = false := by
            cases rem with
            | false => rfl
            | true => exact absurd (.inl rfl) hn
          have hc : cls (Utf8.decode s p).1 = 1 := by
            refine Decidable.by_contra (fun hc => hn (.inr hc))
          subst hr
          have hgt := runE_gt hps hb hc
          rw [dL_name hps hb hc] at h
          by_cases hl : (runE s p : Int) - p > 24
          · rw [if_pos hl] at h
            cases h
            exact ⟨p, false, out, rfl, hps, .refl _ _ _, .inr (.inl ⟨hb, hc, hl, rfl⟩)⟩
          · rw [if_neg hl] at h
            obtain ⟨b, r2, o2, h1, h2, h3, h4⟩ := ih _ (by omega) h (runE_le hp) rfl
            exact ⟨b, r2, o2, h1, h2, .name hps hb hc hl h3, h4⟩
    · rw [dL_end hps] at h; cases h
theorem err_suf {s : ByteArray} {b : Nat} {E : Int} (hb : b < s.size) (h : Err s b E) : dL (s.extract b s.size) 0 false [] = .inr (0, E) := by
  have hz := size_ext (a := b) (Nat.le_refl s.size)
  have hd : Utf8.decode (s.extract b s.size) 0 = Utf8.decode s b := dec_ext (Nat.le_refl _) (.inr rfl)
  have hbd : bad (s.extract b s.size) 0 = bad s b := bad_ext (Nat.le_refl _) (.inr rfl)
  have h0 : 0 < (s.extract b s.size).size := by omega
  have hr := run_suf (i := 0) (Nat.le_of_lt hb)
  rw [Nat.add_zero] at hr
  rcases h with ⟨h1, rfl⟩ | ⟨h1, h2, h3, rfl⟩ | ⟨h1, h2, h3, rfl⟩
  · rw [dL_bad h0 (by rw [hbd]; exact h1)]; rfl
  · rw [dL_name h0 (by rw [hbd]; exact h1) (by rw [hd]; exact h2), if_pos (by omega)]; rfl
  · rw [dL_char h0 (by rw [hbd]; exact h1) (by rw [hd]; exact .inr h2), hd, (stepC_none h3 _ 0 _).2]; rfl
theorem err_ne {s : ByteArray} {b : Nat} {E : Int} (h : Err s b E) : E ≠ 0 := by
  rcases h with ⟨_, rfl⟩ | ⟨_, _, _, rfl⟩ | ⟨_, _, _, rfl⟩ <;> decide
theorem dR_inl {s : ByteArray} {l : List Tok} (h : dL s 0 false [] = .inl l) : dR s = (l, (s.size : Int), 0) := by unfold dR; rw [h]
theorem dR_inr {s : ByteArray} {P E : Int} (h : dL s 0 false [] = .inr (P, E)) : dR s = ([], P, E) := by unfold dR; rw [h]
theorem Reach.whole {s : ByteArray} {b : Nat} {rem : Bool} {out : List Tok} (h : Reach s 0 false [] b rem out) (hb : b ≤ s.size) : dR (s.extract 0 b) = (out, (b : Int), 0) := by
  have hz := size_ext (a := 0) hb
  have e := (h.pre hb).dL
  rw [dL_end (s := s.extract 0 b) (p := b) (rem := rem) (out := out) (by omega)] at e
  rw [dR_inl e, hz, Nat.sub_zero]
theorem stops_law (s : ByteArray) : ((dR s).2.2 = 0 ∧ (dR s).2.1 = s.size) ∨ ∃ (b : Nat) (E : Int), dR s = ([], (b : Int), E) ∧ E ≠ 0 ∧ b < s.size ∧ (dR (s.extract 0 b)).2.2 = 0 ∧ dR (s.extract b s.size) = ([], 0, E) := by
  cases h : dL s 0 false [] with
  | inl l => left; rw [dR_inl h]; exact ⟨rfl, rfl⟩
  | inr x =>
    obtain ⟨P, E⟩ := x
    obtain ⟨b, rem, out, rfl, hb, hr, he⟩ := err_at h (Nat.zero_le _)
    right
    exact ⟨b, E, dR_inr h, err_ne he, hb, by rw [hr.whole (Nat.le_of_lt hb)], dR_inr (err_suf hb he)⟩
theorem reach_tok {s : ByteArray} {p : Nat} {rem : Bool} {out l : List Tok} (h : dL s p rem out = .inl l) (hp : p ≤ s.size) : (∃ l', l = out ++ l') ∧ ∀ i, out.length ≤ i → (hi : i < l.length) → ∃ b : Nat, b ≤ s.size ∧ l[i].at_ + (l[i].text.size : Int) = b ∧ Reach s p rem out b false (l.take (i + 1)) := by
  induction hk : s.size - p using Nat.strongRecOn generalizing p rem out with
  | _ n ih =>
    by_cases hps : p < s.size
    · cases hb : bad s p with
      | true => rw [dL_bad hps hb] at h; cases h
      | false =>
        have hw := width_pos s p
        have hwl := width_le hps
        by_cases hn : rem = true ∨ cls (Utf8.decode s p).1 ≠ 1
        · rw [dL_char hps hb hn] at h
          cases hs : stepC s p (Utf8.decode s p).2 (Utf8.decode s p).1 rem out with
          | none => rw [hs] at h; cases h
          | some x =>
            obtain ⟨rem', out'⟩ := x
            rw [hs] at h
            obtain ⟨⟨l', hl'⟩, hi'⟩ := ih _ (by omega) h hwl rfl
            have hs0 := hs
            unfold stepC at hs
            split at hs
            · cases hs
              exact ⟨⟨l', hl'⟩, fun i h1 h2 => by
                obtain ⟨b, k1, k2, k3⟩ := hi' i h1 h2
                exact ⟨b, k1, k2, .char hps hb hn hs0 k3⟩⟩
            · split at hs
              · cases hs
                refine ⟨⟨_ :: l', by rw [hl', List.append_assoc]; rfl⟩, fun i h1 h2 => ?_⟩
                by_cases he : i = out.length
                · have hx : l[i] = ⟨2, s.extract p (p + (Utf8.decode s p).2), p⟩ := by
                    simp only [hl', he, List.append_assoc]
                    simp
                  have ht : l.take (i + 1) = out ++ [⟨2, s.extract p (p + (Utf8.decode s p).2), p⟩] := by
                    rw [hl', he]
                    exact List.take_left' (by simp)
                  have hr : rem = false := by
                    rename_i hc _
                    cases rem with
                    | false => rfl
                    | true => exact absurd rfl hc
                  refine ⟨p + (Utf8.decode s p).2, hwl, ?_, ?_⟩
                  · rw [hx]
                    show (p : Int) + ((s.extract p (p + (Utf8.decode s p).2)).size : Int) = _
                    rw [size_ext hwl]
                    omega
                  · rw [ht]
                    have hr' := hr
                    subst hr'
                    exact .char hps hb hn hs0 (.refl _ _ _)
                · obtain ⟨b, k1, k2, k3⟩ := hi' i (by simp; omega) h2
                  exact ⟨b, k1, k2, .char hps hb hn hs0 k3⟩
              · split at hs
                · cases hs
                  exact ⟨⟨l', hl'⟩, fun i h1 h2 => by
                    obtain ⟨b, k1, k2, k3⟩ := hi' i h1 h2
                    exact ⟨b, k1, k2, .char hps hb hn hs0 k3⟩⟩
                · cases hs
        · have hr : rem = false := by
            cases rem with
            | false => rfl
            | true => exact absurd (.inl rfl) hn
          have hc : cls (Utf8.decode s p).1 = 1 := by
            refine Decidable.by_contra (fun hc => hn (.inr hc))
          subst hr
          have hgt := runE_gt hps hb hc
          have hle := runE_le (s := s) hp
          rw [dL_name hps hb hc] at h
          by_cases hl : (runE s p : Int) - p > 24
          · rw [if_pos hl] at h; cases h
          · rw [if_neg hl] at h
            obtain ⟨⟨l', hl'⟩, hi'⟩ := ih _ (by omega) h hle rfl
            refine ⟨⟨_ :: l', by rw [hl', List.append_assoc]; rfl⟩, fun i h1 h2 => ?_⟩
            by_cases he : i = out.length
            · have hx : l[i] = ⟨1, s.extract p (runE s p), p⟩ := by
                simp only [hl', he, List.append_assoc]
                simp
              have ht : l.take (i + 1) = out ++ [⟨1, s.extract p (runE s p), p⟩] := by
                rw [hl', he]
                exact List.take_left' (by simp)
              refine ⟨runE s p, hle, ?_, ?_⟩
              · rw [hx]
                show (p : Int) + ((s.extract p (runE s p)).size : Int) = _
                rw [size_ext hle]
                omega
              · rw [ht]
                exact .name hps hb hc hl (.refl _ _ _)
            · obtain ⟨b, k1, k2, k3⟩ := hi' i (by simp; omega) h2
              exact ⟨b, k1, k2, .name hps hb hc hl k3⟩
    · rw [dL_end hps] at h
      cases h
      exact ⟨⟨[], by simp⟩, fun i h1 h2 => absurd h2 (by omega)⟩
theorem cuts_law {s : ByteArray} (h : (dR s).2.2 = 0) (i : Nat) (hi : i < (dR s).1.length) : ∃ b : Nat, b ≤ s.size ∧ ((dR s).1[i]'hi).at_ + (((dR s).1[i]'hi).text.size : Int) = b ∧ dR (s.extract 0 b) = ((dR s).1.take (i + 1), (b : Int), 0) := by
  cases hd : dL s 0 false [] with
  | inr x =>
    obtain ⟨P, E⟩ := x
    obtain ⟨b, rem, out, rfl, hb, hr, he⟩ := err_at hd (Nat.zero_le _)
    rw [dR_inr hd] at h
    exact absurd h (err_ne he)
  | inl l =>
    have e := dR_inl hd
    have hl : (dR s).1 = l := by rw [e]
    obtain ⟨_, h2⟩ := reach_tok hd (Nat.zero_le _)
    subst hl
    obtain ⟨b, k1, k2, k3⟩ := h2 i (Nat.zero_le _) hi
    exact ⟨b, k1, k2, k3.whole k1⟩
end Go.Proofs.Ythekoefcienipaa
