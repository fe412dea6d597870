/- What Take does to a pool, in plain words. -/
import Derived.Test.YtlfdnjomjheioaaPLh
namespace Go.Proofs.Ytlfdnjomjheioaa
open Go.RowKit

theorem cnt_cons (k : Wk) (s : List Wk) : cnt (k :: s) = k.n + cnt s := by simp [cnt]
theorem cnt_set : ∀ {s : List Wk} {v : Nat} (hv : v < s.length) (k : Wk), cnt (s.set v k) + s[v].n = cnt s + k.n
  | a :: s, 0, _, k => by simp [cnt_cons]; omega
  | a :: s, v + 1, hv, k => by
    have := cnt_set (s := s) (v := v) (by simpa using hv) k
    simp only [List.set_cons_succ, cnt_cons, List.getElem_cons_succ]
    omega
theorem get_some {s : List Wk} {v : Nat} {k : Wk} (h : s[v]? = some k) : ∃ hv : v < s.length, s[v] = k := List.getElem?_eq_some_iff.1 h
theorem circ_all {s : List Wk} {pick : Int} {v : Nat} (hv : v < s.length) : v ∈ circ s pick := by
  have h0 : firstOf s.length pick < s.length := (first_eq (by omega) pick).2.2.2
  refine List.mem_map.2 ⟨(v + s.length - firstOf s.length pick) % s.length, List.mem_range.2 (Nat.mod_lt _ (by omega)), ?_⟩
  rw [Nat.add_mod, Nat.mod_mod, ← Nat.add_mod, show firstOf s.length pick + (v + s.length - firstOf s.length pick) = v + s.length by omega, Nat.add_mod_right, Nat.mod_eq_of_lt hv]
theorem found_none {s : List Wk} {i : Nat} {pick : Int} (h : found s i pick = none) : cnt s = 0 := by
  unfold found at h
  rw [Option.or_eq_none_iff, Option.or_eq_none_iff] at h
  obtain ⟨_, h2, h3⟩ := h
  rw [List.findSome?_eq_none_iff] at h2 h3
  have key : ∀ k ∈ s, k.n = 0 := by
    intro k hk
    obtain ⟨v, hv, rfl⟩ := List.getElem_of_mem hk
    have a1 := h2 v (circ_all hv)
    have a2 := h3 v (circ_all hv)
    unfold stolen at a1
    unfold heldOf at a2
    rw [List.getElem?_eq_getElem hv] at a1 a2
    cases hs : s[v] with
    | mk l h =>
      rw [hs] at a1 a2
      cases l with
      | cons x l => cases a1
      | nil =>
        cases h with
        | some j => cases a2
        | none => rfl
  unfold cnt
  have : ∀ t : List Wk, (∀ k ∈ t, k.n = 0) → (t.map Wk.n).sum = 0 := by
    intro t
    induction t with
    | nil => intro _; rfl
    | cons a t ih => intro h; rw [List.map_cons, List.sum_cons, h a (List.mem_cons_self ..), ih (fun k hk => h k (List.mem_cons_of_mem _ hk))]
  exact this s key
theorem found_some {s s1 : List Wk} {i v : Nat} {pick : Int} {j : Job} (hi : i < s.length) (hh : s[i].h = none) (h : found s i pick = some (s1, j, v)) : cnt s1 + 1 = cnt s ∧ (s1[i]?).bind Wk.h = none := by
  have hh' : (s[i]?).bind Wk.h = none := by rw [List.getElem?_eq_getElem hi]; exact hh
  have hset : ∀ (y : Nat) (k : Wk) (hy : y < s.length), (k.h = s[y].h ∨ k.h = none) → ((s.set y k)[i]?).bind Wk.h = none := by
    intro y k hy hk
    by_cases e : y = i
    · subst e
      rw [List.getElem?_set_self hy]
      rcases hk with hk | hk
      · show k.h = none; rw [hk, hh]
      · exact hk
    · rw [List.getElem?_set_ne e]; exact hh'
  have hst : ∀ {y : Nat}, stolen s y = some (s1, j, v) → cnt s1 + 1 = cnt s ∧ (s1[i]?).bind Wk.h = none := by
    intro y hr
    unfold stolen at hr
    split at hr
    · rename_i x l h0 hk
      cases hr
      obtain ⟨hy, e⟩ := get_some hk
      have := cnt_set hy ⟨l, h0⟩
      rw [e] at this
      refine ⟨?_, hset _ _ hy (.inl (by rw [e]))⟩
      simp only [Wk.n, List.length_cons] at this
      omega
    · cases hr
  have hhe : ∀ {y : Nat}, heldOf s y = some (s1, j, v) → cnt s1 + 1 = cnt s ∧ (s1[i]?).bind Wk.h = none := by
    intro y hr
    unfold heldOf at hr
    split at hr
    · rename_i l j0 hk
      cases hr
      obtain ⟨hy, e⟩ := get_some hk
      have := cnt_set hy ⟨l, none⟩
      rw [e] at this
      refine ⟨?_, hset _ _ hy (.inr rfl)⟩
      simp only [Wk.n, Option.isSome_some, if_true, Option.isSome_none, Bool.false_eq_true, if_false] at this
      omega
    · cases hr
  unfold found at h
  cases hp : popped s i with
  | some r =>
    rw [hp] at h
    simp at h
    subst h
    unfold popped at hp
    rw [List.getElem?_eq_getElem hi] at hp
    obtain ⟨x, hx, hxx⟩ := Option.map_eq_some_iff.1 hp
    cases hxx
    have := cnt_set hi ⟨s[i].l.dropLast, s[i].h⟩
    refine ⟨?_, hset _ _ hi (.inl rfl)⟩
    have hne : s[i].l ≠ [] := fun e => by rw [e] at hx; cases hx
    have hlen : 0 < s[i].l.length := List.length_pos_iff.2 hne
    simp only [Wk.n, List.length_dropLast] at this
    omega
  | none =>
    rw [hp] at h
    simp only [Option.none_or] at h
    cases hq : (circ s pick).findSome? (stolen s) with
    | some r =>
      rw [hq] at h
      simp at h
      subst h
      obtain ⟨y, _, hy⟩ := List.exists_of_findSome?_eq_some hq
      exact hst hy
    | none =>
      rw [hq] at h
      simp only [Option.none_or] at h
      obtain ⟨y, _, hy⟩ := List.exists_of_findSome?_eq_some h
      exact hhe hy
def Holds (s : List Wk) (i : Nat) (j : Job) : Prop := (s[i]?).bind Wk.h = some j
theorem takeM_spec (s : List Wk) (i : Nat) (hi : i < s.length) (pick : Int) : (∃ s' j v, takeM s i pick = (s', j, v, 0) ∧ Holds s' i j ∧ cnt s' = cnt s ∧ s'.length = s.length) ∨ (takeM s i pick = (s, job0, 0, 6) ∧ cnt s = 0) := by
  unfold takeM
  rw [if_pos (by omega), Int.toNat_natCast, List.getElem?_eq_getElem hi]
  simp only [Option.bind_some]
  cases hh : s[i].h with
  | some j => exact .inl ⟨s, j, i, rfl, by unfold Holds; rw [List.getElem?_eq_getElem hi]; exact hh, rfl, rfl⟩
  | none =>
    cases hf : found s i pick with
    | none => exact .inr ⟨rfl, found_none hf⟩
    | some r =>
      obtain ⟨s1, j, v⟩ := r
      have hl := found_len hf
      obtain ⟨c1, c2⟩ := found_some hi hh hf
      have hi1 : i < s1.length := by omega
      refine .inl ⟨_, j, v, rfl, ?_, ?_, ?_⟩
      · rw [hold1_eq hi1]
        unfold Holds
        rw [List.getElem?_set_self hi1]; rfl
      · rw [hold1_eq hi1]
        have := cnt_set hi1 ⟨s1[i].l, some j⟩
        rw [List.getElem?_eq_getElem hi1] at c2
        have c2 : s1[i].h = none := c2
        simp only [Wk.n, c2, Option.isSome_some, if_true, Option.isSome_none, Bool.false_eq_true, if_false] at this
        omega
      · rw [hold1_eq hi1, List.length_set]; exact hl
theorem takeM_again {s : List Wk} {i : Nat} {j : Job} (hi : i < s.length) (h : Holds s i j) (pick : Int) : takeM s i pick = (s, j, (i : Int), 0) := by
  unfold takeM
  rw [if_pos (by omega), Int.toNat_natCast]
  unfold Holds at h
  rw [h]
theorem doneM_held {s : List Wk} {i : Nat} {j : Job} (hi : i < s.length) (h : Holds s i j) : ∃ s', doneM s i = (s', 0) ∧ cnt s' + 1 = cnt s ∧ s'.length = s.length := by
  unfold Holds at h
  rw [List.getElem?_eq_getElem hi] at h
  have h : s[i].h = some j := h
  unfold doneM
  rw [onM_in hi, h]
  refine ⟨_, rfl, ?_, by simp⟩
  have := cnt_set hi ⟨s[i].l, none⟩
  simp only [Wk.n, h, Option.isSome_some, if_true, Option.isSome_none, Bool.false_eq_true, if_false] at this ⊢
  omega
theorem Ps.low {w W w' : World} {p : Nat} {s : List Wk} {F : Nat → Prop} {ad : Nat → Ad} (hW : Below w.heap.size w W) (h : Ps W w' p s F ad) : Ps w w' p s F ad := ⟨h.pl.low hW.size, hW.trans (h.bw.mono hW.size)⟩
end Go.Proofs.Ytlfdnjomjheioaa
