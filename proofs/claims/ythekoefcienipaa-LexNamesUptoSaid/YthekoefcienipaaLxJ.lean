/- Lex: the loop's parts. -/
import Derived.Test.YthekoefcienipaaLxI
namespace Go.Proofs.Ythekoefcienipaa
open Go.RowKit

theorem LxS.iter {w : World} {x g : Nat} {s : ByteArray} {m : LS} {k p q : Nat} {t : ByteArray} (h : LxS w x g s m) (hk : w.heap[k]? = some (.stringIter t p)) : LxS (w.iterAt k t q) x g s m := by
  obtain ⟨v, h1, h2⟩ := h.at_
  have hx : x ≠ k := by rintro rfl; rw [h1] at hk; cases hk
  refine ⟨h.few, h.own.imp id (fun h => by rw [Lib.iterAt_size]; exact h), v, (Lib.iterAt_other w k x t q hx).trans h1, h2.step (fun cur hc => ?_) (fun b hb _ => hb.elim)⟩
  have hg : g ≠ k := by rintro rfl; rw [hc] at hk; cases hk
  exact (Lib.iterAt_other w k g t q hg).trans hc
theorem Up.keeps {d g g' k : Nat} {w w' : World} (h : Up d g w g' w') (hk : k < w.heap.size) (hd : k ≠ d) (hg : k ≠ g) : w'.heap[k]? = w.heap[k]? ∧ k ≠ g' := by
  refine ⟨h.ext.block k hk (fun e => e.elim hd hg), ?_⟩
  rcases h.new with e | e
  · rw [e]; exact hg
  · omega
/-- What the loop keeps: the state, the iterator, what lay before. -/
structure Lp (B : Nat) (w0 w : World) (x k g p : Nat) (s : ByteArray) (m : LS) : Prop where
  st : LxS w x g s m
  it : w.heap[k]? = some (.stringIter s p)
  xk : x ≠ k
  kg : k ≠ g
  xB : B ≤ x
  kB : B ≤ k
  gB : B ≤ g
  low : Below B w0 w
theorem Lp.next {B : Nat} {w0 w : World} {x k g p q : Nat} {s : ByteArray} {m : LS} (h : Lp B w0 w x k g p s m) : Lp B w0 (w.iterAt k s q) x k g q s m :=
  ⟨h.st.iter h.it, Lib.iterAt_heap w k s p q h.it, h.xk, h.kg, h.xB, h.kB, h.gB, Lib.below_iterAt h.low h.kB s q⟩
theorem Lp.up {B : Nat} {w0 w w' : World} {x k g g' p : Nat} {s : ByteArray} {m m' : LS} (h : Lp B w0 w x k g p s m) (hB : B ≤ w.heap.size) (hs : LxS w' x g' s m') (hu : Up x g w g' w') : Lp B w0 w' x k g' p s m' := by
  have hk : k < w.heap.size := (Array.getElem?_eq_some_iff.1 h.it).1
  obtain ⟨h1, h2⟩ := hu.keeps hk (Ne.symm h.xk) h.kg
  have hb : Below B w w' := by
    have h3 := h.xB
    have h4 := h.gB
    exact ⟨hu.ext.os, hu.ext.tape, hu.ext.output, hu.ext.size, fun i hi => hu.ext.block i (by omega) (by rintro (e | e) <;> omega)⟩
  exact ⟨hs, h1.trans h.it, h.xk, h2, h.xB, h.kB, by rcases hu.new with e | e; rw [e]; exact h.gB; omega, h.low.trans hb⟩
end Go.Proofs.Ythekoefcienipaa
