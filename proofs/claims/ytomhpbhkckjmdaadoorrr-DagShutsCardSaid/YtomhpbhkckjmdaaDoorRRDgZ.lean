/- Plain: what must be. -/
import Derived.Test.YtomhpbhkckjmdaaDoorRRDgX
namespace Go.Proofs.YtomhpbhkckjmdaaDoorRR
open Go.RowKit

theorem long_bit (F : Nat → Nat) (L : List Nat) (b : Nat) : (longR F L).testBit b = true ↔ ∃ k ∈ L, (F k).testBit b = true := by
  unfold longR
  have key : ∀ (l : List Nat) (s : Nat), (l.foldl (fun s k => s ||| F k) s).testBit b = true ↔ s.testBit b = true ∨ ∃ k ∈ l, (F k).testBit b = true := by
    intro l
    induction l with
    | nil => intro s; simp
    | cons a l ih =>
      intro s
      rw [List.foldl_cons, ih, Nat.testBit_or, Bool.or_eq_true]
      simp only [List.mem_cons, exists_eq_or_imp]
      constructor
      · rintro ((h | h) | h)
        · exact .inl h
        · exact .inr (.inl h)
        · exact .inr (.inr h)
      · rintro (h | h | h)
        · exact .inl (.inl h)
        · exact .inl (.inr h)
        · exact .inr h
  simpa using key L 0
theorem mem_redP {F on : Nat → Nat} {n : Nat} {a : Int × Int} : a ∈ redP F on n ↔ ∃ i, i < n ∧ ∃ k ∈ nodes (dif (on i) (longR F (nodes (on i)))), a = ((k : Int), (i : Int)) := by
  unfold redP redI
  rw [List.mem_flatMap]
  constructor
  · rintro ⟨i, hi, ha⟩
    obtain ⟨k, hk, rfl⟩ := List.mem_map.1 ha
    exact ⟨i, List.mem_range.1 hi, k, hk, rfl⟩
  · rintro ⟨i, hi, k, hk, rfl⟩
    exact ⟨i, List.mem_range.2 hi, List.mem_map.2 ⟨k, hk, rfl⟩⟩
theorem sort_mem {xs : Arcs} {a : Int × Int} : a ∈ sortA xs ↔ a ∈ xs := List.mem_mergeSort
theorem sort_len (xs : Arcs) : (sortA xs).length = xs.length := List.length_mergeSort xs
theorem redP_nodup (F on : Nat → Nat) : ∀ n, (redP F on n).Nodup
  | 0 => by simp [redP]
  | n + 1 => by
    rw [redP_succ, List.nodup_append]
    refine ⟨redP_nodup F on n, ?_, fun a ha b hb => ?_⟩
    · unfold redI
      refine List.pairwise_map.2 ((nodes_nodup _).imp (fun {x y} hne h => hne ?_))
      have h1 : (x : Int) = y := congrArg Prod.fst h
      omega
    · obtain ⟨i, hi, k, hk, rfl⟩ := mem_redP.1 ha
      unfold redI at hb
      obtain ⟨k', hk', rfl⟩ := List.mem_map.1 hb
      intro h
      have h1 : (i : Int) = n := congrArg Prod.snd h
      omega
theorem nodup_idx {α : Type} {xs : List α} (h : xs.Nodup) {i : Nat} {a : α} (hi : xs[i]? = some a) : a ∉ xs.take i ++ xs.drop (i + 1) := by
  intro hm
  have hp := List.pairwise_iff_getElem.1 h
  obtain ⟨hil, hia⟩ := List.getElem?_eq_some_iff.1 hi
  rcases List.mem_append.1 hm with hm | hm
  · obtain ⟨q, hq⟩ := List.mem_iff_getElem?.1 hm
    rw [List.getElem?_take] at hq
    split at hq
    · obtain ⟨hql, hqa⟩ := List.getElem?_eq_some_iff.1 hq
      exact hp q i hql hil (by assumption) (hqa.trans hia.symm)
    · cases hq
  · obtain ⟨q, hq⟩ := List.mem_iff_getElem?.1 hm
    rw [List.getElem?_drop] at hq
    obtain ⟨hql, hqa⟩ := List.getElem?_eq_some_iff.1 hq
    exact hp i (i + 1 + q) hil hql (by omega) (hia.trans hqa.symm)
theorem nodes_congr {S T : Nat} (h : ∀ b, b < 64 → (S.testBit b = true ↔ T.testBit b = true)) : nodes S = nodes T := by
  unfold nodes
  refine List.filter_congr (fun b hb => ?_)
  rw [Bool.eq_iff_iff]
  exact h b (List.mem_range.1 hb)
section
variable {n : Int} {l : Arcs} {row : List Nat}
/-- The arcs that must be. -/
abbrev fewA (n : Int) (l : Arcs) (row : List Nat) : Arcs := sortA (redP (reachF (onAt l) row) (onAt l) n.toNat)
theorem few_bit (h : okB n l = true) (i k : Nat) : Lean_ (onAt (fewA n l row)) k i ↔ Lean_ (onAt l) k i ∧ ∀ j, Lean_ (onAt l) j i → (reachF (onAt l) row j).testBit k ≠ true := by
  have hF := fit_of h
  unfold Lean_
  rw [on_bit]
  constructor
  · rintro ⟨a, ha, h1, h2⟩
    obtain ⟨i', hi', k', hk', rfl⟩ := mem_redP.1 (sort_mem.1 ha)
    have e1 : i' = i := by have : (i' : Int) = i := h1; omega
    have e2 : k' = k := by have : (k' : Int).toNat = k := h2; omega
    subst e1; subst e2
    have hb := (mem_nodes.1 hk').2
    rw [dif_bit _ _ (hF.lt i'), Bool.and_eq_true, Bool.not_eq_true'] at hb
    refine ⟨hb.1, fun j hj hr => ?_⟩
    have := (long_bit (reachF (onAt l) row) (nodes (onAt l i')) k').2 ⟨j, mem_nodes.2 ⟨bit_lt (hF.lt i') hj, hj⟩, hr⟩
    rw [hb.2] at this
    cases this
  · rintro ⟨h1, h2⟩
    refine ⟨((k : Int), (i : Int)), sort_mem.2 (mem_redP.2 ⟨i, lean_lt h h1, k, mem_nodes.2 ⟨bit_lt (hF.lt i) h1, ?_⟩, rfl⟩), rfl, by simp⟩
    rw [dif_bit _ _ (hF.lt i), Bool.and_eq_true, Bool.not_eq_true']
    refine ⟨h1, eq_false_of_ne_true (fun hb => ?_)⟩
    obtain ⟨j, hj, hr⟩ := (long_bit _ _ _).1 hb
    exact h2 j (mem_nodes.1 hj).2 hr
theorem sub_ok (h : okB n l = true) {xs : Arcs} (hs : ∀ a ∈ xs, a ∈ fewA n l row) (hl : xs.length ≤ (fewA n l row).length) : okB n xs = true := by
  have hF := fit_of h
  have hk := of_decide_eq_true h
  have hn := okB_n h
  refine decide_eq_true ⟨hk.1, hk.2.1, ?_, fun a ha => ?_⟩
  · have h1 := redP_len (reachF (onAt l) row) (onAt l) n.toNat
    rw [sort_len] at hl
    omega
  · obtain ⟨i, hi, k, hkk, rfl⟩ := mem_redP.1 (sort_mem.1 (hs a ha))
    have hb := (mem_nodes.1 hkk).2
    rw [dif_bit _ _ (hF.lt i), Bool.and_eq_true] at hb
    have hkn := hF.in_ i k (mem_nodes.2 ⟨bit_lt (hF.lt i) hb.1, hb.1⟩)
    exact ⟨by show (0 : Int) ≤ k; omega, by show (k : Int) < n; omega, by show (0 : Int) ≤ i; omega, by show (i : Int) < n; omega⟩
theorem few_ok (h : okB n l = true) : okB n (fewA n l row) = true := sub_ok h (fun _ h => h) (Nat.le_refl _)
theorem few_chain (h : okB n l = true) (ho : orderR n.toNat (onAt l) = some row) : ∀ (d p q k i : Nat), row[p]? = some k → row[q]? = some i → q - p = d → Chain (Lean_ (onAt l)) k i → Chain (Lean_ (onAt (fewA n l row))) k i := by
  have hF := fit_of h
  have ht := order_topo hF.lt ho
  intro d
  induction d using Nat.strongRecOn with
  | ind d ih =>
    intro p q k i hp hq hd hc
    have two : ∀ j, Chain (Lean_ (onAt l)) k j → Chain (Lean_ (onAt l)) j i → Chain (Lean_ (onAt (fewA n l row))) k i := by
      intro j h1 h2
      obtain ⟨r, hr1, hr2⟩ := chain_pos ht h2 q hq
      obtain ⟨s, hs1, hs2⟩ := chain_pos ht h1 r hr2
      have := nd_pos ht.nd hp hs2
      subst this
      exact (ih (r - p) (by omega) p r k j hp hr2 rfl h1).trans (ih (q - r) (by omega) r q j i hr2 hq rfl h2)
    cases hc with
    | more h1 h2 => exact two _ h1 (.one h2)
    | one h1 =>
      by_cases hx : ∃ j, Lean_ (onAt l) j i ∧ (reachF (onAt l) row j).testBit k = true
      · obtain ⟨j, hj, hr⟩ := hx
        obtain ⟨r, hr1, hr2⟩ := chain_pos ht (.one hj) q hq
        exact two j ((reach_chain hF ht r j hr2 k).1 hr) (.one hj)
      · exact .one ((few_bit h i k).2 ⟨h1, fun j hj hr => hx ⟨j, hj, hr⟩⟩)
theorem few_chain_iff (h : okB n l = true) (ho : orderR n.toNat (onAt l) = some row) {k i : Nat} : Chain (Lean_ (onAt (fewA n l row))) k i ↔ Chain (Lean_ (onAt l)) k i := by
  have ht := order_topo (fit_of h).lt ho
  constructor
  · exact fun hc => hc.map (fun a b hab => ((few_bit h b a).1 hab).1)
  · intro hc
    obtain ⟨q, hq⟩ := row_at (row_lt ho) ht.nd (row_len ho) (chain_lt h hc)
    obtain ⟨p, _, hp⟩ := chain_pos ht hc q hq
    exact few_chain h ho _ p q k i hp hq rfl hc
theorem sub_order (h : okB n l = true) (ho : orderR n.toNat (onAt l) = some row) {xs : Arcs} (hs : ∀ a ∈ xs, a ∈ fewA n l row) (hl : xs.length ≤ (fewA n l row).length) : ∃ row', orderR n.toNat (onAt xs) = some row' := by
  refine order_iff (fit_of (sub_ok h hs hl)) (fun i hc => acyclic_of h ho i ?_)
  refine (few_chain_iff h ho).1 (hc.map (fun a b hab => ?_))
  obtain ⟨x, hx, h1, h2⟩ := (on_bit xs b a).1 hab
  exact (on_bit (fewA n l row) b a).2 ⟨x, hs x hx, h1, h2⟩
theorem few_rows {row' : List Nat} (h : okB n l = true) (ho : orderR n.toNat (onAt l) = some row) (ho' : orderR n.toNat (onAt (fewA n l row)) = some row') {i : Nat} (hi : i < n.toNat) (b : Nat) :
    (reachF (onAt (fewA n l row)) row' i).testBit b = true ↔ (reachF (onAt l) row i).testBit b = true := by
  have hF := fit_of h
  have hF' := fit_of (few_ok (row := row) h)
  have ht := order_topo hF.lt ho
  have ht' := order_topo hF'.lt ho'
  obtain ⟨p, hp⟩ := row_at (row_lt ho) ht.nd (row_len ho) hi
  obtain ⟨q, hq⟩ := row_at (row_lt ho') ht'.nd (row_len ho') hi
  rw [reach_chain hF ht p i hp, reach_chain hF' ht' q i hq, few_chain_iff h ho]
theorem few_again {row' : List Nat} (h : okB n l = true) (ho : orderR n.toNat (onAt l) = some row) (ho' : orderR n.toNat (onAt (fewA n l row)) = some row') :
    redP (reachF (onAt (fewA n l row)) row') (onAt (fewA n l row)) n.toNat = redP (reachF (onAt l) row) (onAt l) n.toNat := by
  have hF := fit_of h
  have hF' := fit_of (few_ok (row := row) h)
  unfold redP
  have : ∀ i ∈ List.range n.toNat, redI (reachF (onAt (fewA n l row)) row') (onAt (fewA n l row)) i = redI (reachF (onAt l) row) (onAt l) i := by
    intro i hi
    have hi := List.mem_range.1 hi
    unfold redI
    congr 1
    refine nodes_congr (fun b _ => ?_)
    rw [dif_bit _ _ (hF'.lt i), dif_bit _ _ (hF.lt i), Bool.and_eq_true, Bool.and_eq_true, Bool.not_eq_true', Bool.not_eq_true']
    constructor
    · rintro ⟨h1, _⟩
      have h3 := (few_bit h i b).1 h1
      refine ⟨h3.1, eq_false_of_ne_true (fun hb => ?_)⟩
      obtain ⟨j, hj, hr⟩ := (long_bit _ _ _).1 hb
      exact h3.2 j (mem_nodes.1 hj).2 hr
    · rintro ⟨h1, h2⟩
      have h3 : ∀ j, Lean_ (onAt l) j i → (reachF (onAt l) row j).testBit b ≠ true := fun j hj hr => by
        have := (long_bit (reachF (onAt l) row) (nodes (onAt l i)) b).2 ⟨j, mem_nodes.2 ⟨bit_lt (hF.lt i) hj, hj⟩, hr⟩
        rw [h2] at this
        cases this
      refine ⟨(few_bit h i b).2 ⟨h1, h3⟩, eq_false_of_ne_true (fun hb => ?_)⟩
      obtain ⟨j, hj, hr⟩ := (long_bit _ _ _).1 hb
      have hj1 := (mem_nodes.1 hj).2
      have hj2 := ((few_bit h i j).1 hj1).1
      exact h3 j hj2 ((few_rows h ho ho' (hF.in_ i j (mem_nodes.2 ⟨bit_lt (hF.lt i) hj2, hj2⟩)) b).1 hr)
  rw [List.flatMap_def, List.flatMap_def, List.map_congr_left this]
/-- Without one of them. -/
theorem less_rows {row' : List Nat} (h : okB n l = true) (ho : orderR n.toNat (onAt l) = some row) {x : Nat} (hx : x < (fewA n l row).length) (ho' : orderR n.toNat (onAt ((fewA n l row).take x ++ (fewA n l row).drop (x + 1))) = some row') :
    (List.range n.toNat).map (fun i => nodes (reachF (onAt l) row i)) ≠ (List.range n.toNat).map (fun i => nodes (reachF (onAt ((fewA n l row).take x ++ (fewA n l row).drop (x + 1))) row' i)) := by
  intro he
  have hF := fit_of h
  have ht := order_topo hF.lt ho
  have hsub : ∀ a ∈ (fewA n l row).take x ++ (fewA n l row).drop (x + 1), a ∈ fewA n l row := fun a ha => (List.mem_append.1 ha).elim List.mem_of_mem_take List.mem_of_mem_drop
  have hok' : okB n ((fewA n l row).take x ++ (fewA n l row).drop (x + 1)) = true := sub_ok h hsub (by rw [List.length_append, List.length_take, List.length_drop]; omega)
  have hF' := fit_of hok'
  have ht' := order_topo hF'.lt ho'
  obtain ⟨a, ha⟩ := get_lt hx
  have hnd : (fewA n l row).Nodup := (List.mergeSort_perm _ _).nodup_iff.2 (redP_nodup _ _ _)
  have hout := nodup_idx hnd ha
  obtain ⟨i, hi, k, hk, rfl⟩ := mem_redP.1 (sort_mem.1 (List.mem_of_getElem? ha))
  have hki : Lean_ (onAt (fewA n l row)) k i := (on_bit _ i k).2 ⟨_, List.mem_of_getElem? ha, rfl, by simp⟩
  have h2 := (few_bit h i k).1 hki
  have e1 := congrArg (fun z => z[i]?) he
  simp only [List.getElem?_map, List.getElem?_range hi, Option.map_some, Option.some.injEq] at e1
  obtain ⟨p, hp⟩ := row_at (row_lt ho) ht.nd (row_len ho) hi
  obtain ⟨q, hq⟩ := row_at (row_lt ho') ht'.nd (row_len ho') hi
  have hkn : k ∈ nodes (reachF (onAt l) row i) := mem_nodes.2 ⟨bit_lt (hF.lt i) h2.1, (reach_chain hF ht p i hp k).2 (.one h2.1)⟩
  rw [e1] at hkn
  have hc := (reach_chain hF' ht' q i hq k).1 (mem_nodes.1 hkn).2
  have up : ∀ a b, Lean_ (onAt ((fewA n l row).take x ++ (fewA n l row).drop (x + 1))) a b → Lean_ (onAt (fewA n l row)) a b := fun a b hab => by
    obtain ⟨y, hy, h3, h4⟩ := (on_bit _ b a).1 hab
    exact (on_bit _ b a).2 ⟨y, hsub y hy, h3, h4⟩
  cases hc with
  | one h1 =>
    obtain ⟨y, hy, h3, h4⟩ := (on_bit _ i k).1 h1
    obtain ⟨i', hi', k', hk', rfl⟩ := mem_redP.1 (sort_mem.1 (hsub y hy))
    have e2 : i' = i := by have : (i' : Int) = i := h3; omega
    have e3 : k' = k := by have : (k' : Int).toNat = k := h4; omega
    subst e2; subst e3
    exact hout hy
  | more h1 h3 =>
    rename_i j
    have hj := ((few_bit h i j).1 (up _ _ h3)).1
    have hc' : Chain (Lean_ (onAt l)) k j := (few_chain_iff h ho).1 (h1.map up)
    obtain ⟨r, _, hr2⟩ := chain_pos ht (.one hj) p hp
    exact h2.2 j hj ((reach_chain hF ht r j hr2 k).2 hc')
end
end Go.Proofs.YtomhpbhkckjmdaaDoorRR
