/- Rows written in place. -/
import Derived.Test.YtomhpbhkckjmdaaDoorRRCut
import Derived.Laws.IdiomCopy
namespace Go.Proofs.YtomhpbhkckjmdaaDoorRR
open Go.RowKit
theorem heap_setCells (b : Nat) : ∀ (vs : List Value) (o : Nat) (w : World) (k : Nat), k ≠ b → (w.setCells b o vs).heap[k]? = w.heap[k]?
  | [], _, _, _, _ => rfl
  | v :: r, o, w, k, h => by rw [World.setCells, heap_setCells b r _ _ k h, Below.heap_setCell _ _ _ _ (by exact h)]
theorem setCells_size (b : Nat) : ∀ (vs : List Value) (o : Nat) (w : World), (w.setCells b o vs).heap.size = w.heap.size
  | [], _, _ => rfl
  | v :: r, o, w => by rw [World.setCells, setCells_size b r]; simp
theorem ext_setCells (b : Nat) : ∀ (vs : List Value) (o : Nat) (w : World), Ext (fun k => k = b) w (w.setCells b o vs)
  | [], _, w => Ext.refl _ w
  | v :: r, o, w => by
    rw [World.setCells]
    exact (Ext.setCell (S := fun k => k = b) w ⟨b, o, none⟩ v rfl).trans (ext_setCells b r (o + 1) _) (fun _ _ h => h)
theorem blk_setCells {t : TypeId} {fr : Nat × Nat} (b : Nat) : ∀ (vs : List Value) (o : Nat) (w : World) (cur : Array Value), w.heap[b]? = some (.cells cur t fr) → ∃ cur', (w.setCells b o vs).heap[b]? = some (.cells cur' t fr) ∧ cur'.size = cur.size
  | [], _, _, cur, h => ⟨cur, h, rfl⟩
  | v :: r, o, w, cur, h => by
    obtain ⟨cur', h1, h2⟩ := blk_setCells (t := t) (fr := fr) b r (o + 1) (w.setCell ⟨b, o, none⟩ v) (cur.setIfInBounds o v) (by simp [World.setCell, Array.getElem?_modify, h])
    exact ⟨cur', h1, by rw [h2]; simp⟩
namespace Enc
theorem At.setCells_out {α : Type} {d : Enc α} {K : Nat → Prop} {w : World} {b off : Nat} {xs : List α} (h : d.At K w b off xs) (hK : ∀ x, K x → x ≠ b) (vs : List Value) (o : Nat) (hout : off + xs.length * d.sz ≤ o ∨ o + vs.length ≤ off) : d.At K (w.setCells b o vs) b off xs := by
  intro i hi
  obtain ⟨cs, h1, h2⟩ := h i hi
  have hl := d.len h1
  refine ⟨cs, d.step (fun k hk _ => heap_setCells b vs o w k (hK k hk)) h1, fun j u hj => ?_⟩
  have hjl := (List.getElem?_eq_some_iff.1 hj).1
  rw [World.cell?_setCells_out b vs o w _ (fun _ _ => ?_)]
  · exact h2 j u hj
  · have h3 : i * d.sz + d.sz ≤ xs.length * d.sz := by rw [← Nat.succ_mul]; exact Nat.mul_le_mul_right _ hi
    show off + i * d.sz + j < o ∨ o + vs.length ≤ off + i * d.sz + j
    omega
theorem At.snoc {α : Type} {d : Enc α} {K : Nat → Prop} {w : World} {b off : Nat} {xs : List α} (h : d.At K w b off xs) {x : α} {cs : List Value} (hrd : d.rd K w x cs) (hcs : ∀ j u, cs[j]? = some u → w.cell? ⟨b, off + xs.length * d.sz + j, none⟩ = some u) : d.At K w b off (xs ++ [x]) := by
  intro i hi
  by_cases hlt : i < xs.length
  · rw [List.getElem_append_left hlt]; exact h i hlt
  · have : i = xs.length := by rw [List.length_append, List.length_singleton] at hi; omega
    subst this
    refine ⟨cs, ?_, hcs⟩
    rw [List.getElem_append_right (Nat.le_refl _)]
    simpa using hrd
/-- A row written in place, as one that may be appended to. -/
theorem Spine.of_at {α : Type} {d : Enc α} {E : TypeId} {K : Nat → Prop} {g off c : Nat} {w : World} {cur : Array Value} {xs : List α} (hb : w.heap[g]? = some (.cells cur E (0, 0))) (hfit : off + c * d.sz ≤ cur.size) (hle : xs.length ≤ c) (hc : c ≤ maxLen) (h : d.At K w g off xs) :
    d.Spine E K g w (.slice (some ⟨g, off, none⟩) xs.length c) xs := by
  obtain ⟨cs, hf, hcs⟩ := h.flat
  refine ⟨_, c, rfl, hle, hc, fun _ => ⟨off, cur, cs, rfl, hb, hfit, hf, fun j u hj => ?_⟩⟩
  have := hcs j u hj
  simpa [World.cell?, hb] using this
end Enc
/-- 'clear' of a row's end. -/
theorem run_clear_any {P : Program} {w : World} {g off n c : Nat} {cur : Array Value} {E t ty : TypeId} {z : Value} (ht : P.underlying t = some (.slice E)) (hz : ∀ w, (zeroValue E).run P w = .ok z w) (h1 : ∀ u ∈ z.cells.toList, u.oneCell' = true)
    (hb : w.heap[g]? = some (.cells cur E (0, 0))) (hfit : off + n * z.cells.size ≤ cur.size) :
    ∃ vs : List Value, vs.length = n * z.cells.size ∧ (Builtin.clear_ #[t] ty #[.slice (some ⟨g, off, none⟩) n c]).run P w = .ok (.tuple #[]) (w.setCells g off vs) := by
  cases n with
  | zero => exact ⟨[], by simp, by simp [Builtin.clear_, run_underlying ht]; rfl⟩
  | succ m =>
    refine ⟨(Builtin.zeroCells z.cells (m + 1)).toList, by simp [size_zeroCells], ?_⟩
    have hl : (Builtin.zeroCells z.cells (m + 1)).toList.length = (m + 1) * z.cells.size := by simp [size_zeroCells]
    have hst := run_storeCells_cells (P := P) g off (Builtin.zeroCells z.cells (m + 1)).toList 0 w (fun j hj => by
        rw [hl] at hj
        simp only [World.cell?, hb, Nat.add_zero]
        rw [Array.getElem?_eq_getElem (by omega)]; rfl) (fun j hj => by simp [World.frozen?, hb]) (fun u hu => ?_)
    · simp only [Nat.add_zero] at hst
      simp [Builtin.clear_, run_underlying ht, hz, hst]
    · simp only [Builtin.zeroCells, Array.toList_map, List.mem_map] at hu
      obtain ⟨i, hi, rfl⟩ := hu
      have hi' : i < (m + 1) * z.cells.size := by simpa using hi
      have hs : 0 < z.cells.size := by
        rcases Nat.eq_zero_or_pos z.cells.size with h | h
        · rw [h] at hi'; simp at hi'
        · exact h
      have hm : i % z.cells.size < z.cells.size := Nat.mod_lt _ hs
      rw [getElem!_pos z.cells _ hm]
      exact h1 _ (by simp)
end Go.Proofs.YtomhpbhkckjmdaaDoorRR
