/- Arrays of one owner, written in place. -/
import Derived.Test.YtomhpbhkckjmdaaDoorRRPut
namespace Go.Proofs.YtomhpbhkckjmdaaDoorRR
open Go.RowKit

/-- Block b holds xs, from its first cell on, and nothing else. -/
structure Arr {α : Type} (d : Enc α) (t : TypeId) (K : Nat → Prop) (w : World) (b : Nat) (xs : List α) : Prop where
  blk : ∃ cur, w.heap[b]? = some (.cells cur t (0, 0)) ∧ cur.size = xs.length * d.sz
  at_ : d.At K w b 0 xs
namespace Arr
variable {α : Type} {d : Enc α} {t : TypeId} {K K' : Nat → Prop} {w w' : World} {b : Nat} {xs : List α}
theorem lt (h : Arr d t K w b xs) : b < w.heap.size := by
  obtain ⟨cur, h1, _⟩ := h.blk
  exact (Array.getElem?_eq_some_iff.1 h1).1
theorem step (h : Arr d t K w b xs) (hb : w'.heap[b]? = w.heap[b]?) (hk : ∀ b, K b → b < w.heap.size → w'.heap[b]? = w.heap[b]?) : Arr d t K w' b xs := by
  obtain ⟨cur, h1, h2⟩ := h.blk
  exact ⟨⟨cur, hb.trans h1, h2⟩, h.at_.step hb hk⟩
theorem below (h : Arr d t K w b xs) (hb : Below w.heap.size w w') : Arr d t K w' b xs := h.step (hb.block b h.lt) (fun b _ hl => hb.block b hl)
theorem ext {S : Nat → Prop} (h : Arr d t K w b xs) (he : Ext S w w') (hb : ¬ S b) (hk : ∀ b, K b → b < w.heap.size → ¬ S b) : Arr d t K w' b xs := h.step (he.block b h.lt hb) (fun b hb hl => he.block b hl (hk b hb hl))
theorem mono (h : Arr d t K w b xs) (hk : ∀ b, K b → b < w.heap.size → K' b) : Arr d t K' w b xs := ⟨h.blk, h.at_.mono hk⟩
/-- The element i: its reading, and where its cells lie. -/
theorem get (h : Arr d t K w b xs) (i : Nat) (hi : i < xs.length) : ∃ cs, d.rd K w xs[i] cs ∧ (∀ j u, cs[j]? = some u → w.cell? ⟨b, i * d.sz + j, none⟩ = some u) := by
  obtain ⟨cs, h1, h2⟩ := h.at_ i hi
  exact ⟨cs, h1, fun j u hj => by have := h2 j u hj; rwa [Nat.zero_add] at this⟩
theorem frz (h : Arr d t K w b xs) (o : Nat) : w.frozen? ⟨b, o, none⟩ = false := by
  obtain ⟨cur, h1, _⟩ := h.blk
  simp [World.frozen?, h1]
/-- An element written. -/
theorem set (h : Arr d t K w b xs) (hKb : ¬ K b) (i : Nat) (hi : i < xs.length) {x : α} {cs : List Value} (hx : d.rd K w x cs) : Arr d t K (w.setCells b (i * d.sz) cs) b (xs.set i x) := by
  obtain ⟨cur, h1, h2⟩ := h.blk
  have hl := d.len hx
  have hK : ∀ k, K k → k ≠ b := fun k hk e => hKb (e ▸ hk)
  have hle : i * d.sz + d.sz ≤ xs.length * d.sz := by rw [← Nat.succ_mul]; exact Nat.mul_le_mul_right _ hi
  obtain ⟨cur', h3, h4⟩ := blk_setCells b cs (i * d.sz) w cur h1
  refine ⟨⟨cur', h3, by rw [h4, h2, List.length_set]⟩, fun j hj => ?_⟩
  rw [List.length_set] at hj
  by_cases hji : j = i
  · subst hji
    refine ⟨cs, ?_, fun k u hk => ?_⟩
    · rw [List.getElem_set_self]
      exact d.step (fun k hk _ => heap_setCells b cs _ w k (hK k hk)) hx
    · rw [Nat.zero_add]
      have hkl := (List.getElem?_eq_some_iff.1 hk).1
      have := World.cell?_setCells_in b cs (j * d.sz) w (fun m hm => by
        simp only [World.cell?, h1]
        rw [Array.getElem?_eq_getElem (by rw [h2]; omega)]; rfl) k hkl
      rw [this, ← hk]
      exact (List.getElem?_eq_getElem hkl).symm
  · obtain ⟨cs', h5, h6⟩ := h.at_ j hj
    refine ⟨cs', ?_, fun k u hk => ?_⟩
    · rw [List.getElem_set_ne (fun e => hji e.symm)]
      exact d.step (fun k hk _ => heap_setCells b cs _ w k (hK k hk)) h5
    · have hkl := (List.getElem?_eq_some_iff.1 hk).1
      rw [d.len h5] at hkl
      rw [World.cell?_setCells_out b cs _ w _ (fun _ _ => ?_)]
      · exact h6 k u hk
      · show 0 + j * d.sz + k < i * d.sz ∨ i * d.sz + cs.length ≤ 0 + j * d.sz + k
        rw [hl]
        rcases Nat.lt_or_ge j i with h7 | h7
        · left
          have : j * d.sz + d.sz ≤ i * d.sz := by rw [← Nat.succ_mul]; exact Nat.mul_le_mul_right _ h7
          omega
        · right
          have : i * d.sz + d.sz ≤ j * d.sz := by rw [← Nat.succ_mul]; exact Nat.mul_le_mul_right _ (by omega)
          omega
theorem made_get (cs : Array Value) (n i j : Nat) (hi : i < n) (hj : j < cs.size) : (madeCells cs (n * cs.size))[i * cs.size + j]? = some cs[j] := by
  have hle : i * cs.size + cs.size ≤ n * cs.size := by rw [← Nat.succ_mul]; exact Nat.mul_le_mul_right _ hi
  have hm : (i * cs.size + j) % cs.size = j := by rw [Nat.mul_comm, Nat.mul_add_mod, Nat.mod_eq_of_lt hj]
  unfold madeCells
  rw [Array.getElem?_map, Array.getElem?_range, if_pos (by omega)]
  simp only [Option.map_some, hm]
  rw [getElem!_pos cs j hj]
theorem made_size (cs : Array Value) (m : Nat) : (madeCells cs m).size = m := by simp [madeCells]
/-- What 'make' lays. -/
theorem made {X : World} {n b : Nat} {x0 : α} {cs : Array Value} {m : Nat} (hx : ∀ w, d.rd K w x0 cs.toList) (hb : X.heap[b]? = some (.cells (madeCells cs m) t (0, 0))) (hm : m = n * d.sz) : Arr d t K X b (List.replicate n x0) := by
  subst hm
  have hl : cs.size = d.sz := by have := d.len (hx X); simpa using this
  rw [← hl] at hb
  refine ⟨⟨_, hb, by rw [made_size, List.length_replicate, hl]⟩, fun i hi => ⟨cs.toList, by rw [List.getElem_replicate]; exact hx _, fun j u hj => ?_⟩⟩
  rw [List.length_replicate] at hi
  have hj' : j < cs.size := by have := (List.getElem?_eq_some_iff.1 hj).1; simpa using this
  have := made_get cs n i j hi hj'
  rw [Nat.zero_add, ← hl]
  simp only [World.cell?, hb]
  rw [this, ← hj]
  simp [hj']
end Arr
end Go.Proofs.YtomhpbhkckjmdaaDoorRR
