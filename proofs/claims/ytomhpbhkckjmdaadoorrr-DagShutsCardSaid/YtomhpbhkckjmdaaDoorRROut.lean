/- Rounds that append to a row. -/
import Derived.Test.YtomhpbhkckjmdaaDoorRRMore
namespace Go.Proofs.YtomhpbhkckjmdaaDoorRR
open Go.RowKit
namespace Enc
theorem Out.plain {α : Type} {d : Enc α} {E : TypeId} {lo hi g g3 : Nat} {w wr X W2 : World} {v v2 : Value} {xs zs : List α} (h : d.Out E lo hi g wr v xs) (hb : Below w.heap.size w wr) (hX : Below wr.heap.size wr X)
    (hs : d.Spine E (fun b => (hi ≤ b ∧ b ≠ g) ∧ b < X.heap.size) g3 W2 v2 zs) (he : Ext (fun b => b = g ∧ capOf v ≠ 0) X W2) (hg : Grew g X W2 v v2 g3) (hhi : hi ≤ wr.heap.size) (hlo : w.heap.size ≤ hi) :
    d.Out E lo hi g3 W2 v2 zs ∧ Below w.heap.size w W2 ∧ hi ≤ W2.heap.size := by
  have h1 := hX.size
  refine ⟨(h.below hX).next hs hg (by omega), ?_, by have := he.size; omega⟩
  exact (hb.trans (hX.mono hb.size)).trans (he.toBelow (by have := hb.size; omega) (fun x hx hxs => by have := h.cap hxs.2; omega))
theorem Out.round {α : Type} {d : Enc α} {E : TypeId} {lo hi g g3 M : Nat} {w wr X W2 : World} {v v2 : Value} {xs zs : List α} (h : d.Out E lo hi g wr v xs) (hb : Below w.heap.size w wr) (hX : Below wr.heap.size wr X)
    (hs : d.Spine E (fun b => (hi ≤ b ∧ b ≠ g) ∧ b < X.heap.size) g3 W2 v2 zs) (he : Ext (fun b => b = g ∧ capOf v ≠ 0) X W2) (hg : Grew g X W2 v v2 g3) (hhi : hi ≤ wr.heap.size) (hM : w.heap.size ≤ M) (hM' : M < hi) :
    d.Out E lo hi g3 (W2.setCell ⟨M, 0, none⟩ v2) v2 zs ∧ Below w.heap.size w (W2.setCell ⟨M, 0, none⟩ v2) ∧ hi ≤ (W2.setCell ⟨M, 0, none⟩ v2).heap.size := by
  obtain ⟨h1, h2, h3⟩ := h.plain hb hX hs he hg hhi (by omega)
  refine ⟨h1.step (fun b hb _ => Below.heap_setCell _ _ _ _ (fun e => by have : b = M := e; omega)) (by simp), ?_, by simpa using h3⟩
  exact h2.trans (Ext.toBelow (Ext.setCell (S := fun b => b = M) W2 ⟨M, 0, none⟩ v2 rfl) (by have := h2.size; omega) (fun x hx e => by omega))
end Enc
end Go.Proofs.YtomhpbhkckjmdaaDoorRR
