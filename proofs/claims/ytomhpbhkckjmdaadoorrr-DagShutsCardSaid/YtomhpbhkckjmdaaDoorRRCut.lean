/- Parts of rows; clearing. -/
import Derived.Test.YtomhpbhkckjmdaaDoorRROut
namespace Go.Proofs.YtomhpbhkckjmdaaDoorRR
open Go.RowKit
theorem Grew.le {g : Nat} {w w' : World} {v v' : Value} {g' : Nat} (h : Grew g w w' v v' g') : g ≤ g' ∨ w.heap.size ≤ g' := by
  rcases h with ⟨h, _⟩ | ⟨h, _⟩ <;> omega
namespace Enc
theorem Spine.below {α : Type} {d : Enc α} {E : TypeId} {K : Nat → Prop} {g : Nat} {w w' : World} {v : Value} {xs : List α} (h : d.Spine E K g w v xs) (hb : Below w.heap.size w w') : d.Spine E K g w' v xs :=
  h.step (fun cur hc => (hb.block g (Array.getElem?_eq_some_iff.1 hc).1).trans hc) (fun b hk hl => ⟨hk, hb.block b hl⟩)
theorem Row.take {α : Type} {d : Enc α} {K : Nat → Prop} {w : World} {A : Option Addr} {n c : Nat} {xs : List α} (h : d.Row K w (.slice A n c) xs) (i c' : Nat) (hi : i ≤ xs.length) (hic : i ≤ c') (hc : c' ≤ maxLen) : d.Row K w (.slice A i c') (xs.take i) := by
  obtain ⟨A', c1, he, h2, h3, h4⟩ := h
  obtain ⟨rfl, rfl, rfl⟩ := Value.slice.inj he
  refine ⟨A, c', by rw [List.length_take, Nat.min_eq_left hi], by rw [List.length_take]; omega, hc, fun hx => ?_⟩
  obtain ⟨b, off, rfl, hb, hl, ha⟩ := h4 (fun e => hx (by rw [e]; simp))
  refine ⟨b, off, rfl, hb, hl, fun k hk => ?_⟩
  rw [List.length_take] at hk
  obtain ⟨cs, h5, h6⟩ := ha k (by omega)
  exact ⟨cs, by rw [List.getElem_take]; exact h5, h6⟩
theorem Row.drop {α : Type} {d : Enc α} {K : Nat → Prop} {w : World} {A A' : Option Addr} {n c : Nat} {xs : List α} (h : d.Row K w (.slice A n c) xs) (i : Nat) (hi : i ≤ xs.length) (hA : c ≠ i → A' = A.map (·.add (i * d.sz))) : d.Row K w (.slice A' (n - i) (c - i)) (xs.drop i) := by
  obtain ⟨A1, c1, he, h2, h3, h4⟩ := h
  obtain ⟨rfl, rfl, rfl⟩ := Value.slice.inj he
  refine ⟨A', c - i, by rw [List.length_drop], by rw [List.length_drop]; omega, by omega, fun hx => ?_⟩
  have hlt : i < xs.length := by
    apply Classical.byContradiction
    intro hn
    exact hx (List.drop_of_length_le (by omega))
  obtain ⟨b, off, rfl, hb, hl, ha⟩ := h4 (fun e => hx (by rw [e]; simp))
  refine ⟨b, off + i * d.sz, by rw [hA (by omega), Option.map_some, Addr.add_lit], hb, hl, ha.drop i⟩
theorem Src.one_blk {α : Type} {d : Enc α} {K : Nat → Prop} {w : World} {b : Nat} {cs : List Value} {t : TypeId} {fr : Nat × Nat} {x : α} (hb : w.heap[b]? = some (.cells cs.toArray t fr)) (hx : d.rd K w x cs) : d.Src K w (.slice (some ⟨b, 0, none⟩) 1 1) [x] := by
  refine ⟨_, 1, rfl, Nat.le_refl _, by unfold maxLen; omega, fun _ => ⟨b, 0, rfl, fun i hi => ?_⟩⟩
  obtain rfl : i = 0 := by simpa using hi
  refine ⟨cs, hx, fun j u hj => ?_⟩
  simp only [World.cell?, hb]
  simpa using hj

/-- A row that a function builds; what its elements lead to lies in P. -/
structure OutP {α : Type} (d : Enc α) (E : TypeId) (P : Nat → Prop) (lo hi g : Nat) (w : World) (v : Value) (xs : List α) : Prop where
  sp : d.Spine E (fun b => P b ∧ b ≠ g) g w v xs
  lt : g < w.heap.size
  off : g = lo ∨ hi ≤ g
  cap : capOf v ≠ 0 → hi ≤ g
theorem OutP.start {α : Type} (d : Enc α) (E : TypeId) {P : Nat → Prop} {lo hi : Nat} {w : World} (hl : lo < w.heap.size) : d.OutP E P lo hi lo w (.slice none 0 0) [] :=
  ⟨Spine.nil _ _ _ _ _, hl, .inl rfl, fun h => absurd rfl h⟩
theorem OutP.below {α : Type} {d : Enc α} {E : TypeId} {P : Nat → Prop} {lo hi g : Nat} {w w' : World} {v : Value} {xs : List α} (h : d.OutP E P lo hi g w v xs) (hb : Below w.heap.size w w') : d.OutP E P lo hi g w' v xs :=
  ⟨h.sp.below hb, Nat.lt_of_lt_of_le h.lt hb.size, h.off, h.cap⟩
theorem OutP.plain {α : Type} {d : Enc α} {E : TypeId} {P : Nat → Prop} {lo hi g g3 : Nat} {w wr X W2 : World} {v v2 : Value} {xs zs : List α} (h : d.OutP E P lo hi g wr v xs) (hb : Below w.heap.size w wr) (hX : Below wr.heap.size wr X)
    (hs : d.Spine E (fun b => (P b ∧ b ≠ g) ∧ b < X.heap.size) g3 W2 v2 zs) (he : Ext (fun b => b = g ∧ capOf v ≠ 0) X W2) (hg : Grew g X W2 v v2 g3) (hhi : hi ≤ wr.heap.size) (hlo : w.heap.size ≤ hi) :
    d.OutP E P lo hi g3 W2 v2 zs ∧ Below w.heap.size w W2 ∧ hi ≤ W2.heap.size := by
  have h1 := hX.size
  have h2 := hb.size
  have h3 := he.size
  have hl := h.lt
  refine ⟨?_, (hb.trans (hX.mono hb.size)).trans (he.toBelow (by omega) (fun x hx hxs => by have := h.cap hxs.2; omega)), by omega⟩
  rcases hg with ⟨rfl, h4, h5⟩ | ⟨rfl, h4⟩
  · exact ⟨hs.mono (fun b hb _ => hb.1), by omega, h.off, fun hc => h.cap (by rwa [h5] at hc)⟩
  · exact ⟨hs.mono (fun b hb _ => ⟨hb.1.1, by omega⟩), by omega, .inr (by omega), fun _ => by omega⟩
theorem OutP.row {α : Type} {d : Enc α} {E : TypeId} {P : Nat → Prop} {lo hi g : Nat} {w : World} {v : Value} {xs : List α} (h : d.OutP E P lo hi g w v xs) (hP : ∀ b, hi ≤ b → P b) : d.Row P w v xs := by
  by_cases hc : capOf v = 0
  · obtain ⟨A, c, rfl, h1, h2, _⟩ := h.sp
    have hc' : c = 0 := hc
    exact ⟨A, c, rfl, h1, h2, fun hx => absurd (List.eq_nil_of_length_eq_zero (by omega)) hx⟩
  · exact h.sp.row (fun b hb _ => hb.1) (hP g (h.cap hc))
end Enc
theorem run_slice_low {P : Program} (t e : TypeId) (size : Nat) {i : TypeInfo} (ht : P.underlying t = some (.slice e)) (hi : P.info? e = some i) (hs : i.size = size) (A : Option Addr) (n c k : Nat) (hk : k ≤ n) :
    ∃ A', (c ≠ k → A' = A.map (·.add (k * size))) ∧ ∀ W, (Instr.slice t (.slice A n c) (some (.int .i64 k)) none none).run P W = .ok (.slice A' (n - k) (c - k)) W := by
  refine ⟨if c = k then A else A.map (·.add (k * size)), fun h => by rw [if_neg h], fun W => ?_⟩
  subst hs
  simp [Instr.slice, run_underlying ht, Instr.sliceBounds, Instr.sliceBound, asIntOf, sizeOf, typeInfo, hi]
  intro; omega
end Go.Proofs.YtomhpbhkckjmdaaDoorRR
