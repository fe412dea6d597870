/- The document's pool. -/
import Derived.Test.YtlfdnjomjheioaaPaP
import Derived.Test.YtlfdnjomjheioaaArr
import Derived.Test.YtlfdnjomjheioaaDqM
import Derived.Test.YtlfdnjomjheioaaDqP
namespace Go.Proofs.Ytlfdnjomjheioaa
open Go.RowKit

def hOf (k : Wk) : Job := k.h.getD job0
structure Rp (N : Nat) (w : World) (K : Nat → Prop) (r : Nat) (s : List Wk) (b1 b2 b3 : Nat) : Prop where
  blk : w.heap[r]? = some (.cells #[.slice (some ⟨b1, 0, none⟩) s.length s.length, .slice (some ⟨b2, 0, none⟩) s.length s.length, .slice (some ⟨b3, 0, none⟩) s.length s.length] 75 (0, 0))
  rows : Arr (Enc.slice jobE) 83 K w b1 (s.map Wk.l)
  hold : Arr jobE 33 K w b2 (s.map hOf)
  has : Arr Enc.bool 4 K w b3 (s.map (fun k => k.h.isSome))
  n1 : 1 ≤ s.length
  n2 : s.length ≤ 64
  ne : b1 ≠ b2 ∧ b1 ≠ b3 ∧ b2 ≠ b3 ∧ r ≠ b1 ∧ r ≠ b2 ∧ r ≠ b3
  nK : ¬ K r ∧ ¬ K b1 ∧ ¬ K b2 ∧ ¬ K b3
  ge : N ≤ r ∧ N ≤ b1 ∧ N ≤ b2 ∧ N ≤ b3
/-- Its blocks. -/
def Rb (r b1 b2 b3 : Nat) (b : Nat) : Prop := b = r ∨ b = b1 ∨ b = b2 ∨ b = b3
theorem set_self_map {α β : Type} (s : List α) (i : Nat) (hi : i < s.length) (f : α → β) {y : β} (hy : y = f s[i]) : (s.map f).set i y = s.map f := by
  subst hy
  apply List.ext_getElem?
  intro k
  by_cases hk : i = k
  · subst hk
    rw [List.getElem?_set_self (by simpa using hi), List.getElem?_map, List.getElem?_eq_getElem hi]; rfl
  · rw [List.getElem?_set_ne hk]
namespace Rp
variable {N : Nat} {w w' : World} {K K' : Nat → Prop} {r : Nat} {s s' : List Wk} {b1 b2 b3 : Nat}
theorem lt (h : Rp N w K r s b1 b2 b3) : r < w.heap.size ∧ b1 < w.heap.size ∧ b2 < w.heap.size ∧ b3 < w.heap.size := ⟨(Array.getElem?_eq_some_iff.1 h.blk).1, h.rows.lt, h.hold.lt, h.has.lt⟩
theorem ext {S : Nat → Prop} (h : Rp N w K r s b1 b2 b3) (he : Ext S w w') (hS : ∀ b, Rb r b1 b2 b3 b → ¬ S b) (hk : ∀ b, K b → b < w.heap.size → ¬ S b) : Rp N w' K r s b1 b2 b3 :=
  ⟨(he.block r h.lt.1 (hS r (.inl rfl))).trans h.blk, h.rows.ext he (hS _ (.inr (.inl rfl))) hk, h.hold.ext he (hS _ (.inr (.inr (.inl rfl)))) hk, h.has.ext he (hS _ (.inr (.inr (.inr rfl)))) hk, h.n1, h.n2, h.ne, h.nK, h.ge⟩
theorem below (h : Rp N w K r s b1 b2 b3) (hb : Below w.heap.size w w') : Rp N w' K r s b1 b2 b3 := h.ext (Ext.of_below (S := fun _ => False) hb) (fun _ _ h => h) (fun _ _ _ h => h)
theorem mono (h : Rp N w K r s b1 b2 b3) (hk : ∀ b, K b → b < w.heap.size → K' b) (hn : ∀ b, Rb r b1 b2 b3 b → ¬ K' b) : Rp N w K' r s b1 b2 b3 :=
  ⟨h.blk, h.rows.mono hk, h.hold.mono hk, h.has.mono hk, h.n1, h.n2, h.ne, ⟨hn _ (.inl rfl), hn _ (.inr (.inl rfl)), hn _ (.inr (.inr (.inl rfl))), hn _ (.inr (.inr (.inr rfl)))⟩, h.ge⟩
theorem setRow (h : Rp N w K r s b1 b2 b3) (i : Nat) (hi : i < s.length) {v : Value} {l' : List Job} (hv : jobE.Row K w v l') : Rp N (w.setCell ⟨b1, i, none⟩ v) K r (s.set i ⟨l', s[i].h⟩) b1 b2 b3 := by
  have hs := h.rows.set h.nK.2.1 i (by simpa using hi) (x := l') (cs := [v]) ⟨v, rfl, hv⟩
  have e : w.setCells b1 (i * (Enc.slice jobE).sz) [v] = w.setCell ⟨b1, i, none⟩ v := by show w.setCell ⟨b1, i * 1, none⟩ v = _; rw [Nat.mul_one]
  rw [e] at hs
  have he : Ext (fun b => b = b1) w (w.setCell ⟨b1, i, none⟩ v) := Ext.setCell w _ _ rfl
  obtain ⟨n1, n2, n3, n4, n5, n6⟩ := h.ne
  have hk : ∀ b, K b → b < w.heap.size → ¬ b = b1 := fun b hb _ e => h.nK.2.1 (e ▸ hb)
  refine ⟨by rw [List.length_set]; exact (he.block r h.lt.1 n4).trans h.blk, by rw [List.map_set]; exact hs, ?_, ?_, by rw [List.length_set]; exact h.n1, by rw [List.length_set]; exact h.n2, h.ne, h.nK, h.ge⟩
  · have e2 : (s.set i ⟨l', s[i].h⟩).map hOf = s.map hOf := by
      rw [List.map_set]; exact set_self_map s i hi hOf rfl
    rw [e2]; exact h.hold.ext he (fun e => n1 e.symm) hk
  · have e2 : (s.set i ⟨l', s[i].h⟩).map (fun k => k.h.isSome) = s.map (fun k => k.h.isSome) := by
      rw [List.map_set]; exact set_self_map s i hi (fun k : Wk => k.h.isSome) rfl
    rw [e2]; exact h.has.ext he (fun e => n2 e.symm) hk
theorem setHas (h : Rp N w K r s b1 b2 b3) (i : Nat) (hi : i < s.length) (o : Option Job) {v : Value} (hv : intE.Row K w v (o.getD job0).stamp) : Rp N ((w.setCells b2 (i * 6) (jobCells (o.getD job0) v)).setCell ⟨b3, i, none⟩ (.bool o.isSome)) K r (s.set i ⟨s[i].l, o⟩) b1 b2 b3 := by
  obtain ⟨n1, n2, n3, n4, n5, n6⟩ := h.ne
  have hs := h.hold.set h.nK.2.2.1 i (by simpa using hi) (x := o.getD job0) (cs := jobCells (o.getD job0) v) (jobE_mk hv)
  have e : i * jobE.sz = i * 6 := rfl
  rw [e] at hs
  have he : Ext (fun b => b = b2) w (w.setCells b2 (i * 6) (jobCells (o.getD job0) v)) := ext_setCells b2 _ _ w
  obtain ⟨W, hW⟩ : ∃ W, w.setCells b2 (i * 6) (jobCells (o.getD job0) v) = W := ⟨_, rfl⟩
  rw [hW] at hs he ⊢
  have hk : ∀ b, K b → b < w.heap.size → ¬ b = b2 := fun b hb _ e => h.nK.2.2.1 (e ▸ hb)
  have hr := h.rows.ext he n1 hk
  have ha := h.has.ext he (fun e => n3 e.symm) hk
  have hb := (he.block r h.lt.1 n5).trans h.blk
  have ht := ha.set h.nK.2.2.2 i (by simpa using hi) (x := o.isSome) (cs := [.bool o.isSome]) rfl
  have e2 : W.setCells b3 (i * Enc.bool.sz) [.bool o.isSome] = W.setCell ⟨b3, i, none⟩ (.bool o.isSome) := by show W.setCell ⟨b3, i * 1, none⟩ _ = _; rw [Nat.mul_one]
  rw [e2] at ht
  have he2 : Ext (fun b => b = b3) W (W.setCell ⟨b3, i, none⟩ (.bool o.isSome)) := Ext.setCell W _ _ rfl
  have hk2 : ∀ b, K b → b < W.heap.size → ¬ b = b3 := fun b hb _ e => h.nK.2.2.2 (e ▸ hb)
  refine ⟨by rw [List.length_set]; exact (he2.block r (Array.getElem?_eq_some_iff.1 hb).1 n6).trans hb, ?_, by rw [List.map_set]; exact hs.ext he2 n3 hk2, by rw [List.map_set]; exact ht, by rw [List.length_set]; exact h.n1, by rw [List.length_set]; exact h.n2, h.ne, h.nK, h.ge⟩
  have e3 : (s.set i ⟨s[i].l, o⟩).map Wk.l = s.map Wk.l := by
    rw [List.map_set]; exact set_self_map s i hi Wk.l rfl
  rw [e3]; exact hr.ext he2 n2 hk2
end Rp
end Go.Proofs.Ytlfdnjomjheioaa
