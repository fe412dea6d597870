/- Plain: orders, chains, levels. -/
import Derived.Test.YtomhpbhkckjmdaaDoorRRDgO
namespace Go.Proofs.YtomhpbhkckjmdaaDoorRR
open Go.RowKit

/-- Pigeons. -/
theorem nodup_sub : ∀ (l m : List Nat), l.Nodup → (∀ x ∈ l, x ∈ m) → l.length ≤ m.length
  | [], _, _, _ => by simp
  | a :: l, m, hn, h => by
    have ha := h a (List.mem_cons_self ..)
    have hn := List.nodup_cons.1 hn
    have := nodup_sub l (m.erase a) hn.2 (fun x hx => by
      have hne : x ≠ a := fun e => hn.1 (e ▸ hx)
      exact (List.mem_erase_of_ne hne).2 (h x (List.mem_cons_of_mem _ hx)))
    rw [List.length_erase_of_mem ha] at this
    have := List.length_pos_of_mem ha
    rw [List.length_cons]
    omega
theorem nodup_le (n : Nat) (l : List Nat) (hn : l.Nodup) (h : ∀ x ∈ l, x < n) : l.length ≤ n := by
  have := nodup_sub l (List.range n) hn (fun x hx => List.mem_range.2 (h x hx))
  simpa using this
theorem nodup_all {n : Nat} {l : List Nat} (hn : l.Nodup) (h : ∀ x ∈ l, x < n) (hl : l.length = n) {i : Nat} (hi : i < n) : i ∈ l := by
  apply Classical.byContradiction
  intro hm
  have := nodup_le n (i :: l) (List.nodup_cons.2 ⟨hm, hn⟩) (fun x hx => by
    rcases List.mem_cons.1 hx with rfl | hx
    · exact hi
    · exact h x hx)
  simp at this
  omega
theorem countP_lt {α : Type} {P Q : α → Bool} : ∀ (l : List α), (∀ x ∈ l, P x = true → Q x = true) → (∃ x ∈ l, Q x = true ∧ P x = false) → l.countP P < l.countP Q
  | [], _, h => by obtain ⟨x, hx, _⟩ := h; cases hx
  | a :: l, h1, h2 => by
    have hle : l.countP P ≤ l.countP Q := List.countP_mono_left (fun x hx => h1 x (List.mem_cons_of_mem _ hx))
    by_cases ha : Q a = true ∧ P a = false
    · rw [List.countP_cons_of_pos ha.1, List.countP_cons_of_neg (by rw [ha.2]; decide)]
      omega
    · have h3 : ∃ x ∈ l, Q x = true ∧ P x = false := by
        obtain ⟨x, hx, hq⟩ := h2
        rcases List.mem_cons.1 hx with rfl | hx
        · exact absurd hq ha
        · exact ⟨x, hx, hq⟩
      have ih := countP_lt l (fun x hx => h1 x (List.mem_cons_of_mem _ hx)) h3
      cases hp : P a with
      | true =>
        rw [List.countP_cons_of_pos hp, List.countP_cons_of_pos (h1 a (List.mem_cons_self ..) hp)]
        omega
      | false =>
        cases hq : Q a with
        | true => exact absurd ⟨hq, hp⟩ ha
        | false =>
          rw [List.countP_cons_of_neg (by rw [hp]; decide), List.countP_cons_of_neg (by rw [hq]; decide)]
          exact ih
abbrev Lean_ (on : Nat → Nat) (k i : Nat) : Prop := (on i).testBit k = true
/-- A chain. -/
inductive Chain (E : Nat → Nat → Prop) : Nat → Nat → Prop
  | one {a b : Nat} (h : E a b) : Chain E a b
  | more {a b c : Nat} (h : Chain E a b) (k : E b c) : Chain E a c
theorem Chain.trans {E : Nat → Nat → Prop} {a b c : Nat} (h : Chain E a b) (k : Chain E b c) : Chain E a c := by
  induction k with
  | one k => exact .more h k
  | more _ k ih => exact .more ih k
theorem Chain.flip {E F : Nat → Nat → Prop} (hf : ∀ a b, E a b → F b a) {a b : Nat} (h : Chain E a b) : Chain F b a := by
  induction h with
  | one h => exact .one (hf _ _ h)
  | more _ k ih => exact Chain.trans (.one (hf _ _ k)) ih
theorem Chain.map {E F : Nat → Nat → Prop} (hf : ∀ a b, E a b → F a b) {a b : Nat} (h : Chain E a b) : Chain F a b := by
  induction h with
  | one h => exact .one (hf _ _ h)
  | more _ k ih => exact .more ih (hf _ _ k)
/-- Without a circle something may come next. -/
theorem no_stuck {n : Nat} {E : Nat → Nat → Prop} (hac : ∀ i, ¬ Chain E i i) {D : Nat → Prop} (h : ∀ i, i < n → ¬ D i → ∃ k, k < n ∧ E k i ∧ ¬ D k) : ∀ i, i < n → D i := by
  classical
  have key : ∀ (m i : Nat), i < n → ¬ D i → (List.range n).countP (fun k => decide (Chain E k i)) = m → False := by
    intro m
    induction m using Nat.strongRecOn with
    | ind m ih =>
      intro i hi hd hm
      obtain ⟨k, hk, he, hkd⟩ := h i hi hd
      refine ih _ ?_ k hk hkd rfl
      rw [← hm]
      refine countP_lt _ (fun x _ hx => ?_) ⟨k, List.mem_range.2 hk, ?_, ?_⟩
      · exact decide_eq_true (.more (of_decide_eq_true hx) he)
      · exact decide_eq_true (.one he)
      · exact decide_eq_false (hac k)
  intro i hi
  apply Classical.byContradiction
  intro hd
  exact key _ i hi hd rfl
/-- Each node stands once, behind those on which it leans. -/
structure Topo (on : Nat → Nat) (row : List Nat) : Prop where
  nd : row.Nodup
  lean : ∀ (p i : Nat), row[p]? = some i → ∀ k, (on i).testBit k = true → k ∈ row.take p
theorem readyB_true {on : Nat → Nat} {done i : Nat} (hon : on i < M64) (h : readyB on done i = true) : done.testBit i = false ∧ ∀ k, (on i).testBit k = true → done.testBit k = true := by
  unfold readyB at h
  simp only [Bool.and_eq_true, Bool.not_eq_true', decide_eq_true_eq] at h
  exact ⟨h.1, (dif_zero hon).1 h.2⟩
theorem readyB_false {on : Nat → Nat} {done i : Nat} (hon : on i < M64) (h : readyB on done i = false) (hd : done.testBit i = false) : ∃ k, (on i).testBit k = true ∧ done.testBit k = false := by
  apply Classical.byContradiction
  intro hn
  have hz : dif (on i) done = 0 := (dif_zero hon).2 (fun k hk => by
    cases hb : done.testBit k with
    | true => rfl
    | false => exact absurd ⟨k, hk, hb⟩ hn)
  unfold readyB at h
  rw [hd, decide_eq_true hz] at h
  cases h
theorem topo_snoc {on : Nat → Nat} {out : List Nat} {done q : Nat} (ht : Topo on out) (hd : ∀ k, done.testBit k = true ↔ k ∈ out) (hon : on q < M64) (h : readyB on done q = true) : Topo on (out ++ [q]) ∧ ∀ k, (done ||| bitN q).testBit k = true ↔ k ∈ out ++ [q] := by
  obtain ⟨h1, h2⟩ := readyB_true hon h
  refine ⟨⟨?_, fun p i hi k hk => ?_⟩, fun k => ?_⟩
  · rw [List.nodup_append]
    refine ⟨ht.nd, by simp, fun a ha b hb => ?_⟩
    obtain rfl : b = q := by simpa using hb
    rintro rfl
    rw [(hd a).2 ha] at h1
    cases h1
  · rcases Nat.lt_or_ge p out.length with hp | hp
    · rw [List.getElem?_append_left hp] at hi
      rw [List.take_append_of_le_length (by omega)]
      exact ht.lean p i hi k hk
    · have hl := get_len hi
      simp at hl
      obtain rfl : p = out.length := by omega
      simp at hi
      subst hi
      rw [List.take_left']
      · exact (hd k).1 (h2 k hk)
      · rfl
  · rw [Nat.testBit_or, bitN_bit, Bool.or_eq_true, hd k, decide_eq_true_eq, List.mem_append, List.mem_singleton]
    constructor
    · rintro (h | h)
      · exact .inl h
      · exact .inr h.symm
    · rintro (h | h)
      · exact .inl h
      · exact .inr h.symm
theorem ordR_topo {n : Nat} {on : Nat → Nat} (hon : ∀ i, on i < M64) : ∀ (f done : Nat) (out row : List Nat), ordR n on f done out = some row → Topo on out → (∀ k, done.testBit k = true ↔ k ∈ out) → Topo on row
  | 0, _, out, row, h, ht, _ => by cases h; exact ht
  | f + 1, done, out, row, h, ht, hd => by
    rw [ordR] at h
    cases hx : nextR n on done with
    | none => rw [hx] at h; cases h
    | some q =>
      rw [hx] at h
      obtain ⟨h1, h2⟩ := topo_snoc ht hd (hon q) (nextR_lt hx).2
      exact ordR_topo hon f _ _ row h h1 h2
theorem bit_lt {S k : Nat} (hS : S < M64) (h : S.testBit k = true) : k < 64 := by
  apply Classical.byContradiction
  intro hk
  have := Nat.testBit_lt_two_pow (Nat.lt_of_lt_of_le hS (Nat.pow_le_pow_right (by decide) (Nat.le_of_not_lt hk) : 2 ^ 64 ≤ 2 ^ k))
  rw [this] at h
  cases h
theorem topo_nil (on : Nat → Nat) : Topo on [] := ⟨List.nodup_nil, fun p i h => by simp at h⟩
theorem order_topo {n : Nat} {on : Nat → Nat} {row : List Nat} (hon : ∀ i, on i < M64) (h : orderR n on = some row) : Topo on row :=
  ordR_topo hon n 0 [] row h (topo_nil on) (fun k => by simp)
theorem ordR_some {n : Nat} {on : Nat → Nat} (hF : Fit n on) (hac : ∀ i, ¬ Chain (Lean_ on) i i) : ∀ (f done : Nat) (out : List Nat), out.length + f = n → Topo on out → (∀ i ∈ out, i < n) → (∀ k, done.testBit k = true ↔ k ∈ out) → ∃ row, ordR n on f done out = some row
  | 0, _, out, _, _, _, _ => ⟨out, rfl⟩
  | f + 1, done, out, hl, ht, hn, hd => by
    rw [ordR]
    cases hx : nextR n on done with
    | none =>
      exfalso
      have hall : ∀ i, i < n → done.testBit i = true := by
        refine no_stuck hac (D := fun i => done.testBit i = true) (fun i hi hdi => ?_)
        have hr : readyB on done i = false := by
          have := List.find?_eq_none.1 hx i (List.mem_range.2 hi)
          exact eq_false_of_ne_true this
        obtain ⟨k, h1, h2⟩ := readyB_false (hF.lt i) hr (eq_false_of_ne_true hdi)
        exact ⟨k, hF.in_ i k (mem_nodes.2 ⟨bit_lt (hF.lt i) h1, h1⟩), h1, by rw [h2]; decide⟩
      have := nodup_sub (List.range n) out List.nodup_range (fun x hx => (hd x).1 (hall x (List.mem_range.1 hx)))
      simp at this
      omega
    | some q =>
      obtain ⟨h1, h2⟩ := topo_snoc ht hd (hF.lt q) (nextR_lt hx).2
      exact ordR_some hF hac f _ _ (by rw [List.length_append, List.length_singleton]; omega) h1 (fun i hi => by
        rcases List.mem_append.1 hi with hi | hi
        · exact hn i hi
        · obtain rfl : i = q := by simpa using hi
          exact (nextR_lt hx).1) h2
theorem order_iff {n : Nat} {on : Nat → Nat} (hF : Fit n on) (hac : ∀ i, ¬ Chain (Lean_ on) i i) : ∃ row, orderR n on = some row :=
  ordR_some hF hac n 0 [] (by simp) (topo_nil on) (fun i h => by cases h) (fun k => by simp)
section
variable {n : Nat} {on : Nat → Nat} {row : List Nat}
/-- Where a node stands. -/
theorem row_at {i : Nat} (hn : ∀ i ∈ row, i < n) (hnd : row.Nodup) (hl : row.length = n) (hi : i < n) : ∃ p : Nat, row[p]? = some i := by
  obtain ⟨p, hp⟩ := List.mem_iff_getElem?.1 (nodup_all hnd hn hl hi)
  exact ⟨p, hp⟩
theorem chain_pos (ht : Topo on row) {a b : Nat} (h : Chain (Lean_ on) a b) : ∀ p : Nat, row[p]? = some b → ∃ q : Nat, q < p ∧ row[q]? = some a := by
  induction h with
  | one h =>
    intro p hp
    have := ht.lean p _ hp _ h
    obtain ⟨q, hq⟩ := List.mem_iff_getElem?.1 this
    rw [List.getElem?_take] at hq
    split at hq
    · exact ⟨q, by assumption, hq⟩
    · cases hq
  | more _ k ih =>
    intro p hp
    have := ht.lean p _ hp _ k
    obtain ⟨q, hq⟩ := List.mem_iff_getElem?.1 this
    rw [List.getElem?_take] at hq
    split at hq
    · obtain ⟨r, h1, h2⟩ := ih q hq
      exact ⟨r, by omega, h2⟩
    · cases hq
theorem nd_pos (hnd : row.Nodup) {p q i : Nat} (hp : row[p]? = some i) (hq : row[q]? = some i) : p = q := by
  obtain ⟨h1, h2⟩ := List.getElem?_eq_some_iff.1 hp
  obtain ⟨h3, h4⟩ := List.getElem?_eq_some_iff.1 hq
  have hp := List.pairwise_iff_getElem.1 hnd
  rcases Nat.lt_trichotomy p q with h | h | h
  · exact absurd (h2.trans h4.symm) (hp p q h1 h3 h)
  · exact h
  · exact absurd (h4.trans h2.symm) (hp q p h3 h1 h)
end
end Go.Proofs.YtomhpbhkckjmdaaDoorRR
