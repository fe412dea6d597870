/- Plain: what leads to a node; how high it stands. -/
import Derived.Test.YtomhpbhkckjmdaaDoorRRDgP
namespace Go.Proofs.YtomhpbhkckjmdaaDoorRR
open Go.RowKit

section
variable {step : (Nat → Nat) → Nat → Nat → Nat} (hs : ∀ f i j, j ≠ i → step f i j = f j)
include hs
theorem fold_keep : ∀ (l : List Nat) (f : Nat → Nat) (k : Nat), k ∉ l → l.foldl step f k = f k
  | [], _, _, _ => rfl
  | a :: l, f, k, h => by
    rw [List.foldl_cons, fold_keep l _ k (fun hk => h (List.mem_cons_of_mem _ hk)), hs f a k (fun e => h (e ▸ List.mem_cons_self ..))]
theorem fold_at {row : List Nat} {p i : Nat} (hnd : row.Nodup) (h : row[p]? = some i) (f0 : Nat → Nat) : row.foldl step f0 i = step ((row.take p).foldl step f0) i i ∧ ∀ k ∈ row.take p, row.foldl step f0 k = (row.take p).foldl step f0 k := by
  have he : row = row.take p ++ i :: row.drop (p + 1) := by
    have h1 := List.take_append_drop p row
    rw [List.drop_eq_getElem_cons (get_len h)] at h1
    have h2 : row[p]'(get_len h) = i := by rw [List.getElem?_eq_getElem (get_len h)] at h; exact Option.some.inj h
    rw [h2] at h1
    exact h1.symm
  have hnd' := hnd
  rw [he, List.nodup_append, List.nodup_cons] at hnd'
  obtain ⟨_, ⟨h2, _⟩, h3⟩ := hnd'
  constructor
  · conv => lhs; rw [he]
    rw [List.foldl_append, List.foldl_cons, fold_keep hs _ _ _ h2]
  · intro k hk
    conv => lhs; rw [he]
    rw [List.foldl_append]
    refine fold_keep hs _ _ _ (fun hm => ?_)
    exact h3 k hk k hm rfl
end
theorem stepRe_keep (on : Nat → Nat) (f : Nat → Nat) (i j : Nat) (h : j ≠ i) : stepRe on f i j = f j := by
  unfold stepRe
  have key : ∀ (l : List Nat) (g : Nat → Nat), l.foldl (orIn i) g j = g j := by
    intro l
    induction l with
    | nil => intro g; rfl
    | cons a l ih => intro g; rw [List.foldl_cons, ih]; unfold orIn upd; rw [if_neg h]
  rw [key]
  unfold upd
  rw [if_neg h]
theorem stepLv_keep (on : Nat → Nat) (f : Nat → Nat) (i j : Nat) (h : j ≠ i) : stepLv on f i j = f j := by
  unfold stepLv
  have key : ∀ (l : List Nat) (g : Nat → Nat), l.foldl (maxIn i) g j = g j := by
    intro l
    induction l with
    | nil => intro g; rfl
    | cons a l ih => intro g; rw [List.foldl_cons, ih]; unfold maxIn upd; rw [if_neg h]
  exact key _ _
theorem orIn_fold (i b : Nat) : ∀ (l : List Nat) (g : Nat → Nat), i ∉ l → ((l.foldl (orIn i) g i).testBit b = true ↔ (g i).testBit b = true ∨ ∃ k ∈ l, (g k).testBit b = true)
  | [], g, _ => by simp
  | a :: l, g, h => by
    have hai : a ≠ i := fun e => h (e ▸ List.mem_cons_self ..)
    have hil : i ∉ l := fun hk => h (List.mem_cons_of_mem _ hk)
    have e1 : orIn i g a i = g i ||| g a := by unfold orIn upd; rw [if_pos rfl]
    have e2 : ∀ k, k ∈ l → orIn i g a k = g k := fun k hk => by unfold orIn upd; rw [if_neg (fun e : k = i => hil (e ▸ hk))]
    rw [List.foldl_cons, orIn_fold i b l _ hil, e1, Nat.testBit_or, Bool.or_eq_true]
    constructor
    · rintro ((h1 | h1) | ⟨k, hk, h1⟩)
      · exact .inl h1
      · exact .inr ⟨a, List.mem_cons_self .., h1⟩
      · exact .inr ⟨k, List.mem_cons_of_mem _ hk, by rwa [e2 k hk] at h1⟩
    · rintro (h1 | ⟨k, hk, h1⟩)
      · exact .inl (.inl h1)
      · rcases List.mem_cons.1 hk with rfl | hk
        · exact .inl (.inr h1)
        · exact .inr ⟨k, hk, by rwa [e2 k hk]⟩
theorem maxIn_fold (i : Nat) : ∀ (l : List Nat) (g : Nat → Nat), i ∉ l → g i ≤ l.foldl (maxIn i) g i ∧ (∀ k ∈ l, g k + 1 ≤ l.foldl (maxIn i) g i) ∧ (l.foldl (maxIn i) g i = g i ∨ ∃ k ∈ l, l.foldl (maxIn i) g i = g k + 1)
  | [], g, _ => ⟨Nat.le_refl _, fun k hk => (by cases hk), .inl rfl⟩
  | a :: l, g, h => by
    have hai : a ≠ i := fun e => h (e ▸ List.mem_cons_self ..)
    have hil : i ∉ l := fun hk => h (List.mem_cons_of_mem _ hk)
    have e1 : maxIn i g a i = max (g i) (g a + 1) := by unfold maxIn upd; rw [if_pos rfl]
    have e2 : ∀ k, k ∈ l → maxIn i g a k = g k := fun k hk => by unfold maxIn upd; rw [if_neg (fun e : k = i => hil (e ▸ hk))]
    rw [List.foldl_cons]
    obtain ⟨h1, h2, h3⟩ := maxIn_fold i l (maxIn i g a) hil
    rw [e1] at h1 h3
    refine ⟨by omega, fun k hk => ?_, ?_⟩
    · rcases List.mem_cons.1 hk with rfl | hk
      · omega
      · have := h2 k hk
        rw [e2 k hk] at this
        exact this
    · rcases h3 with h3 | ⟨k, hk, h3⟩
      · rcases Nat.lt_or_ge (g i) (g a + 1) with hlt | hge
        · exact .inr ⟨a, List.mem_cons_self .., by omega⟩
        · exact .inl (by omega)
      · exact .inr ⟨k, List.mem_cons_of_mem _ hk, by rw [h3, e2 k hk]⟩
section
variable {n : Nat} {on : Nat → Nat} {row : List Nat}
theorem self_no (ht : Topo on row) {p i : Nat} (hp : row[p]? = some i) : (on i).testBit i ≠ true := by
  intro h
  obtain ⟨q, h1, h2⟩ := chain_pos ht (.one h) p hp
  have := nd_pos ht.nd hp h2
  omega
theorem self_nodes (ht : Topo on row) {p i : Nat} (hp : row[p]? = some i) : i ∉ nodes (on i) := fun h => self_no ht hp (mem_nodes.1 h).2
theorem reach_spec (hF : Fit n on) (ht : Topo on row) {p i : Nat} (hp : row[p]? = some i) (b : Nat) : (reachF on row i).testBit b = true ↔ (on i).testBit b = true ∨ ∃ k, (on i).testBit k = true ∧ (reachF on row k).testBit b = true := by
  obtain ⟨h1, h2⟩ := fold_at (stepRe_keep on) ht.nd hp (fun _ => 0)
  have h1' : reachF on row i = (nodes (on i)).foldl (orIn i) (upd (reachF on (row.take p)) i (on i)) i := h1
  rw [h1', orIn_fold i b _ _ (self_nodes ht hp)]
  have e1 : upd (reachF on (row.take p)) i (on i) i = on i := by unfold upd; rw [if_pos rfl]
  rw [e1]
  constructor
  · rintro (h | ⟨k, hk, h⟩)
    · exact .inl h
    · have hki : k ≠ i := fun e => self_nodes ht hp (e ▸ hk)
      have hb := (mem_nodes.1 hk).2
      refine .inr ⟨k, hb, ?_⟩
      have e2 : upd (reachF on (row.take p)) i (on i) k = reachF on (row.take p) k := by unfold upd; rw [if_neg hki]
      rw [e2] at h
      have e3 : reachF on row k = reachF on (row.take p) k := h2 k (ht.lean p i hp k hb)
      rwa [e3]
  · rintro (h | ⟨k, hb, h⟩)
    · exact .inl h
    · have hk : k ∈ nodes (on i) := mem_nodes.2 ⟨bit_lt (hF.lt i) hb, hb⟩
      have hki : k ≠ i := fun e => self_nodes ht hp (e ▸ hk)
      refine .inr ⟨k, hk, ?_⟩
      have e2 : upd (reachF on (row.take p)) i (on i) k = reachF on (row.take p) k := by unfold upd; rw [if_neg hki]
      have e3 : reachF on row k = reachF on (row.take p) k := h2 k (ht.lean p i hp k hb)
      rwa [e2, ← e3]
theorem reach_chain (hF : Fit n on) (ht : Topo on row) : ∀ (p i : Nat), row[p]? = some i → ∀ b, (reachF on row i).testBit b = true ↔ Chain (Lean_ on) b i := by
  intro p
  induction p using Nat.strongRecOn with
  | ind p ih =>
    intro i hp b
    rw [reach_spec hF ht hp b]
    have hpos : ∀ k, (on i).testBit k = true → ∃ q : Nat, q < p ∧ row[q]? = some k := fun k hk => chain_pos ht (.one hk) p hp
    constructor
    · rintro (h | ⟨k, hk, h⟩)
      · exact .one h
      · obtain ⟨q, h1, h2⟩ := hpos k hk
        exact .more ((ih q h1 k h2 b).1 h) hk
    · intro h
      cases h with
      | one h => exact .inl h
      | more h hk =>
        obtain ⟨q, h1, h2⟩ := hpos _ hk
        exact .inr ⟨_, hk, (ih q h1 _ h2 b).2 h⟩
theorem lev_spec (hF : Fit n on) (ht : Topo on row) {p i : Nat} (hp : row[p]? = some i) : (∀ k, (on i).testBit k = true → levF on row k + 1 ≤ levF on row i) ∧ (levF on row i = 0 ∨ ∃ k, (on i).testBit k = true ∧ levF on row i = levF on row k + 1) := by
  obtain ⟨h1, h2⟩ := fold_at (stepLv_keep on) ht.nd hp (fun _ => 0)
  have h1' : levF on row i = (nodes (on i)).foldl (maxIn i) (levF on (row.take p)) i := h1
  obtain ⟨m1, m2, m3⟩ := maxIn_fold i (nodes (on i)) (levF on (row.take p)) (self_nodes ht hp)
  rw [← h1'] at m1 m2 m3
  have e3 : ∀ k, (on i).testBit k = true → levF on row k = levF on (row.take p) k := fun k hb => h2 k (ht.lean p i hp k hb)
  have e0 : levF on (row.take p) i = 0 := by
    have := fold_keep (stepLv_keep on) (row.take p) (fun _ => 0) i (fun hm => by
      obtain ⟨q, hq⟩ := List.mem_iff_getElem?.1 hm
      rw [List.getElem?_take] at hq
      split at hq
      · have := nd_pos ht.nd hp hq
        omega
      · cases hq)
    exact this
  refine ⟨fun k hb => ?_, ?_⟩
  · rw [e3 k hb]
    exact m2 k (mem_nodes.2 ⟨bit_lt (hF.lt i) hb, hb⟩)
  · rcases m3 with h | ⟨k, hk, h⟩
    · exact .inl (h.trans e0)
    · have hb := (mem_nodes.1 hk).2
      exact .inr ⟨k, hb, by rw [e3 k hb]; exact h⟩
theorem lev_reach (hF : Fit n on) (ht : Topo on row) : ∀ (p i : Nat), row[p]? = some i → levF on row i ≤ (nodes (reachF on row i)).length ∧ ∀ b, (reachF on row i).testBit b = true → levF on row b < levF on row i := by
  intro p
  induction p using Nat.strongRecOn with
  | ind p ih =>
    intro i hp
    obtain ⟨l1, l2⟩ := lev_spec hF ht hp
    have hpos : ∀ k, (on i).testBit k = true → ∃ q : Nat, q < p ∧ row[q]? = some k := fun k hk => chain_pos ht (.one hk) p hp
    constructor
    · rcases l2 with h | ⟨k, hk, h⟩
      · rw [h]; exact Nat.zero_le _
      · obtain ⟨q, h1, h2⟩ := hpos k hk
        have hle := (ih q h1 k h2).1
        have hlt : (nodes (reachF on row k)).length < (nodes (reachF on row i)).length := by
          unfold nodes
          rw [← List.countP_eq_length_filter, ← List.countP_eq_length_filter]
          refine countP_lt _ (fun x _ hx => (reach_spec hF ht hp x).2 (.inr ⟨k, hk, hx⟩)) ⟨k, List.mem_range.2 (bit_lt (hF.lt i) hk), (reach_spec hF ht hp k).2 (.inl hk), ?_⟩
          apply eq_false_of_ne_true
          intro hkk
          obtain ⟨r, h3, h4⟩ := chain_pos ht ((reach_chain hF ht q k h2 k).1 hkk) q h2
          have := nd_pos ht.nd h2 h4
          omega
        omega
    · intro b hb
      rcases (reach_spec hF ht hp b).1 hb with h | ⟨k, hk, h⟩
      · have := l1 b h
        omega
      · obtain ⟨q, h1, h2⟩ := hpos k hk
        have := (ih q h1 k h2).2 b h
        have := l1 k hk
        omega
end
end Go.Proofs.YtomhpbhkckjmdaaDoorRR
