/- Readings of data in memory, for whatever set of blocks; what a call keeps. -/
import Derived.Test.YtomhpbhkckjmdaaDoorRRProg
import Derived.WalkKit
import Derived.WalkLawsBesides
import Derived.WalkSpells
import Derived.Outline
import Derived.ArgAppend
import Derived.Deep.RegionHeld3
import Derived.Deep.LoopGhost
import Derived.BigQuiet
import Derived.Deep.QuietTactic
import Derived.Handy
namespace Go.Proofs.YtomhpbhkckjmdaaDoorRR
open Go.RowKit

theorem hid {p : Prop} (h : p) : Hid p := h
/-- A block that holds cells. -/
def isC (w : World) (b : Nat) : Prop := ∃ cs t fr, w.heap[b]? = some (.cells cs t fr)
theorem isC_cell {w : World} {b o : Nat} {v : Value} (h : w.cell? ⟨b, o, none⟩ = some v) : isC w b := by
  unfold World.cell? at h
  cases ho : w.heap[b]? with
  | none => simp [ho] at h
  | some x => cases x <;> first | exact ⟨_, _, _, ho⟩ | (simp [ho] at h)
/-- How data lie in cells: 'rd K w x cs': the cells cs tell x in w, what they lead to lies in blocks of K. -/
structure Enc (α : Type) where
  sz : Nat
  rd : (Nat → Prop) → World → α → List Value → Prop
  len : ∀ {K w x cs}, rd K w x cs → cs.length = sz
  one : ∀ {K w x cs}, rd K w x cs → ∀ u ∈ cs, u.oneCell' = true
  step : ∀ {K : Nat → Prop} {w w1 : World} {x cs}, (∀ b, K b → b < w.heap.size → w1.heap[b]? = w.heap[b]?) → rd K w x cs → rd K w1 x cs
  mono : ∀ {K K' : Nat → Prop} {w : World} {x cs}, (∀ b, K b → b < w.heap.size → K' b) → rd K w x cs → rd K' w x cs
  /-- Where memory only grows, and blocks of cells lie as they lay. -/
  stepC : ∀ {K : Nat → Prop} {w w1 : World} {x cs}, w.heap.size ≤ w1.heap.size → (∀ b, K b → isC w b → w1.heap[b]? = w.heap[b]?) → rd K w x cs → rd K w1 x cs

namespace Enc
def scalar {α : Type} (enc : α → Value) (h1 : ∀ x, (enc x).oneCell' = true) : Enc α where
  sz := 1
  rd _ _ x cs := cs = [enc x]
  len h := by subst h; rfl
  one h := by subst h; intro u hu; simp at hu; subst hu; exact h1 _
  step _ h := h
  mono _ h := h
  stepC _ _ h := h
def int (k : IntKind) : Enc Int := scalar (Value.int k) (fun _ => rfl)
def bool : Enc Bool := scalar Value.bool (fun _ => rfl)
def str : Enc ByteArray := scalar Value.string (fun _ => rfl)

def pair {α β : Type} (a : Enc α) (b : Enc β) : Enc (α × β) where
  sz := a.sz + b.sz
  rd K w x cs := ∃ c1 c2, cs = c1 ++ c2 ∧ a.rd K w x.1 c1 ∧ b.rd K w x.2 c2
  len := by rintro K w x cs ⟨c1, c2, rfl, h1, h2⟩; rw [List.length_append, a.len h1, b.len h2]
  one := by
    rintro K w x cs ⟨c1, c2, rfl, h1, h2⟩ u hu
    rcases List.mem_append.1 hu with h | h
    · exact a.one h1 u h
    · exact b.one h2 u h
  step := by rintro K w w1 x cs hk ⟨c1, c2, rfl, h1, h2⟩; exact ⟨c1, c2, rfl, a.step hk h1, b.step hk h2⟩
  mono := by rintro K K' w x cs hk ⟨c1, c2, rfl, h1, h2⟩; exact ⟨c1, c2, rfl, a.mono hk h1, b.mono hk h2⟩
  stepC := by rintro K w w1 x cs hs hk ⟨c1, c2, rfl, h1, h2⟩; exact ⟨c1, c2, rfl, a.stepC hs hk h1, b.stepC hs hk h2⟩

def iso {α β : Type} (d : Enc α) (f : β → α) : Enc β where
  sz := d.sz
  rd K w x cs := d.rd K w (f x) cs
  len h := d.len h
  one h := d.one h
  step hk h := d.step hk h
  mono hk h := d.mono hk h
  stepC hs hk h := d.stepC hs hk h

/-- The elements xs lie from the cell ⟨b, off⟩ on, one behind the other. -/
def At {α : Type} (d : Enc α) (K : Nat → Prop) (w : World) (b off : Nat) (xs : List α) : Prop :=
  ∀ i (h : i < xs.length), ∃ cs, d.rd K w xs[i] cs ∧ ∀ j u, cs[j]? = some u → w.cell? ⟨b, off + i * d.sz + j, none⟩ = some u

/-- A slice's value tells xs. -/
def Row {α : Type} (d : Enc α) (K : Nat → Prop) (w : World) (v : Value) (xs : List α) : Prop :=
  ∃ A c, v = .slice A xs.length c ∧ xs.length ≤ c ∧ c ≤ maxLen ∧
    (xs ≠ [] → ∃ b off, A = some ⟨b, off, none⟩ ∧ K b ∧ b < w.heap.size ∧ d.At K w b off xs)

theorem At.step {α : Type} {d : Enc α} {K : Nat → Prop} {w w1 : World} {b off : Nat} {xs : List α} (h : d.At K w b off xs) (hb : w1.heap[b]? = w.heap[b]?)
    (hk : ∀ b, K b → b < w.heap.size → w1.heap[b]? = w.heap[b]?) : d.At K w1 b off xs := by
  intro i hi
  obtain ⟨cs, h1, h2⟩ := h i hi
  exact ⟨cs, d.step hk h1, fun j u hj => (World.cell?_of_block (w := w) hb).trans (h2 j u hj)⟩
theorem At.mono {α : Type} {d : Enc α} {K K' : Nat → Prop} {w : World} {b off : Nat} {xs : List α} (h : d.At K w b off xs)
    (hk : ∀ b, K b → b < w.heap.size → K' b) : d.At K' w b off xs := by
  intro i hi
  obtain ⟨cs, h1, h2⟩ := h i hi
  exact ⟨cs, d.mono hk h1, h2⟩
theorem Row.step {α : Type} {d : Enc α} {K : Nat → Prop} {w w1 : World} {v : Value} {xs : List α} (h : d.Row K w v xs)
    (hk : ∀ b, K b → b < w.heap.size → w1.heap[b]? = w.heap[b]?) : d.Row K w1 v xs := by
  obtain ⟨A, c, rfl, h1, h2, h3⟩ := h
  refine ⟨A, c, rfl, h1, h2, fun hx => ?_⟩
  obtain ⟨b, off, rfl, hb, hl, ha⟩ := h3 hx
  refine ⟨b, off, rfl, hb, ?_, ha.step (hk b hb hl) hk⟩
  have h5 := hk b hb hl
  rw [Array.getElem?_eq_getElem hl] at h5
  exact (Array.getElem?_eq_some_iff.1 h5).1
theorem Row.mono {α : Type} {d : Enc α} {K K' : Nat → Prop} {w : World} {v : Value} {xs : List α} (h : d.Row K w v xs)
    (hk : ∀ b, K b → b < w.heap.size → K' b) : d.Row K' w v xs := by
  obtain ⟨A, c, rfl, h1, h2, h3⟩ := h
  refine ⟨A, c, rfl, h1, h2, fun hx => ?_⟩
  obtain ⟨b, off, rfl, hb, hl, ha⟩ := h3 hx
  exact ⟨b, off, rfl, hk b hb hl, hl, ha.mono hk⟩
theorem At.stepC {α : Type} {d : Enc α} {K : Nat → Prop} {w w1 : World} {b off : Nat} {xs : List α} (h : d.At K w b off xs) (hs : w.heap.size ≤ w1.heap.size) (hb : K b)
    (hk : ∀ b, K b → isC w b → w1.heap[b]? = w.heap[b]?) : d.At K w1 b off xs := by
  intro i hi
  obtain ⟨cs, h1, h2⟩ := h i hi
  exact ⟨cs, d.stepC hs hk h1, fun j u hj => (World.cell?_of_block (w := w) (hk b hb (isC_cell (h2 j u hj)))).trans (h2 j u hj)⟩
theorem Row.stepC {α : Type} {d : Enc α} {K : Nat → Prop} {w w1 : World} {v : Value} {xs : List α} (h : d.Row K w v xs) (hs : w.heap.size ≤ w1.heap.size)
    (hk : ∀ b, K b → isC w b → w1.heap[b]? = w.heap[b]?) : d.Row K w1 v xs := by
  obtain ⟨A, c, rfl, h1, h2, h3⟩ := h
  refine ⟨A, c, rfl, h1, h2, fun hx => ?_⟩
  obtain ⟨b, off, rfl, hb, hl, ha⟩ := h3 hx
  exact ⟨b, off, rfl, hb, Nat.lt_of_lt_of_le hl hs, ha.stepC hs hb hk⟩

def slice {α : Type} (d : Enc α) : Enc (List α) where
  sz := 1
  rd K w xs cs := ∃ v, cs = [v] ∧ d.Row K w v xs
  len := by rintro K w x cs ⟨v, rfl, h⟩; rfl
  one := by
    rintro K w x cs ⟨v, rfl, A, c, rfl, h⟩ u hu
    simp at hu; subst hu; rfl
  step := by rintro K w w1 x cs hk ⟨v, rfl, h⟩; exact ⟨v, rfl, h.step hk⟩
  mono := by rintro K K' w x cs hk ⟨v, rfl, h⟩; exact ⟨v, rfl, h.mono hk⟩
  stepC := by rintro K w w1 x cs hs hk ⟨v, rfl, h⟩; exact ⟨v, rfl, h.stepC hs hk⟩

theorem Row.nil {α : Type} (d : Enc α) (K : Nat → Prop) (w : World) : d.Row K w (.slice none 0 0) [] := ⟨none, 0, rfl, Nat.le_refl _, Nat.zero_le _, fun h => absurd rfl h⟩

theorem Row.form {α : Type} {d : Enc α} {K : Nat → Prop} {w : World} {v : Value} {xs : List α} (h : d.Row K w v xs) :
    ∃ A c, v = .slice A xs.length c ∧ xs.length ≤ c ∧ c ≤ maxLen := by
  obtain ⟨A, c, h1, h2, h3, _⟩ := h
  exact ⟨A, c, h1, h2, h3⟩

/-- The flat cells of a row. -/
def Flat {α : Type} (d : Enc α) (K : Nat → Prop) (w : World) (xs : List α) (cs : List Value) : Prop :=
  cs.length = xs.length * d.sz ∧ (∀ u ∈ cs, u.oneCell' = true) ∧ ∀ i (h : i < xs.length), d.rd K w xs[i] ((cs.drop (i * d.sz)).take d.sz)

theorem Flat.nil {α : Type} (d : Enc α) (K : Nat → Prop) (w : World) : d.Flat K w [] [] := ⟨by simp, by simp, fun i h => by simp at h⟩
theorem Flat.one_ {α : Type} {d : Enc α} {K : Nat → Prop} {w : World} {x : α} {cs : List Value} (h : d.rd K w x cs) : d.Flat K w [x] cs := by
  refine ⟨by simp [d.len h], d.one h, fun i hi => ?_⟩
  obtain rfl : i = 0 := by simpa using hi
  have := d.len h
  simpa [List.take_of_length_le (Nat.le_of_eq this)] using h
theorem Flat.append {α : Type} {d : Enc α} {K : Nat → Prop} {w : World} {xs ys : List α} {cs es : List Value} (h : d.Flat K w xs cs) (k : d.Flat K w ys es) : d.Flat K w (xs ++ ys) (cs ++ es) := by
  obtain ⟨h1, h2, h3⟩ := h
  obtain ⟨k1, k2, k3⟩ := k
  refine ⟨by rw [List.length_append, List.length_append, h1, k1, Nat.add_mul], fun u hu => ?_, fun i hi => ?_⟩
  · rcases List.mem_append.1 hu with h | h
    · exact h2 u h
    · exact k2 u h
  · by_cases hlt : i < xs.length
    · have h4 := h3 i hlt
      have hle : i * d.sz + d.sz ≤ cs.length := by rw [h1, ← Nat.succ_mul]; exact Nat.mul_le_mul_right _ hlt
      rw [List.getElem_append_left hlt, List.drop_append_of_le_length (by omega), List.take_append_of_le_length (by rw [List.length_drop]; omega)]
      exact h4
    · have hj : i - xs.length < ys.length := by rw [List.length_append] at hi; omega
      have h4 := k3 (i - xs.length) hj
      rw [List.getElem_append_right (by omega)]
      have e : i * d.sz = cs.length + (i - xs.length) * d.sz := by
        rw [h1, ← Nat.add_mul]; congr 1; omega
      rw [e, List.drop_append, List.drop_of_length_le (by omega), List.nil_append, Nat.add_sub_cancel_left]
      exact h4
theorem Flat.step {α : Type} {d : Enc α} {K : Nat → Prop} {w w1 : World} {xs : List α} {cs : List Value} (h : d.Flat K w xs cs)
    (hk : ∀ b, K b → b < w.heap.size → w1.heap[b]? = w.heap[b]?) : d.Flat K w1 xs cs := ⟨h.1, h.2.1, fun i hi => d.step hk (h.2.2 i hi)⟩
theorem Flat.mono {α : Type} {d : Enc α} {K K' : Nat → Prop} {w : World} {xs : List α} {cs : List Value} (h : d.Flat K w xs cs)
    (hk : ∀ b, K b → b < w.heap.size → K' b) : d.Flat K' w xs cs := ⟨h.1, h.2.1, fun i hi => d.mono hk (h.2.2 i hi)⟩
theorem Flat.stepC {α : Type} {d : Enc α} {K : Nat → Prop} {w w1 : World} {xs : List α} {cs : List Value} (h : d.Flat K w xs cs) (hs : w.heap.size ≤ w1.heap.size)
    (hk : ∀ b, K b → isC w b → w1.heap[b]? = w.heap[b]?) : d.Flat K w1 xs cs := ⟨h.1, h.2.1, fun i hi => d.stepC hs hk (h.2.2 i hi)⟩

/-- A row's cells, flat. -/
theorem At.flat {α : Type} {d : Enc α} {K : Nat → Prop} {w : World} {b off : Nat} {xs : List α} (h : d.At K w b off xs) :
    ∃ cs, d.Flat K w xs cs ∧ ∀ j u, cs[j]? = some u → w.cell? ⟨b, off + j, none⟩ = some u := by
  induction xs generalizing off with
  | nil => exact ⟨[], Flat.nil d K w, fun j u hj => by simp at hj⟩
  | cons x xs ih =>
    obtain ⟨c0, r0, h0⟩ := h 0 (by simp)
    obtain ⟨cs, hf, hc⟩ := ih (off := off + d.sz) (fun i hi => by
      obtain ⟨c1, r1, h1⟩ := h (i + 1) (by simpa using hi)
      refine ⟨c1, by simpa using r1, fun j u hj => ?_⟩
      have := h1 j u hj
      rwa [Nat.succ_mul, show off + (i * d.sz + d.sz) + j = off + d.sz + i * d.sz + j from by omega] at this)
    refine ⟨c0 ++ cs, Flat.append (Flat.one_ (by simpa using r0)) hf, fun j u hj => ?_⟩
    by_cases hlt : j < c0.length
    · rw [List.getElem?_append_left hlt] at hj
      have := h0 j u hj
      simpa using this
    · rw [List.getElem?_append_right (by omega), d.len r0] at hj
      have := hc _ u hj
      have h3 := d.len r0
      rwa [show off + d.sz + (j - d.sz) = off + j from by omega] at this

theorem Flat.at_ {α : Type} {d : Enc α} {K : Nat → Prop} {w : World} {b off : Nat} {xs : List α} {cs : List Value} (h : d.Flat K w xs cs)
    (hc : ∀ j u, cs[j]? = some u → w.cell? ⟨b, off + j, none⟩ = some u) : d.At K w b off xs := by
  intro i hi
  refine ⟨_, h.2.2 i hi, fun j u hj => ?_⟩
  rw [List.getElem?_take] at hj
  split at hj
  · rw [List.getElem?_drop] at hj
    have := hc _ u hj
    rwa [← Nat.add_assoc] at this
  · cases hj
end Enc

/-- What a call keeps: all but the blocks of S. -/
structure Ext (S : Nat → Prop) (w w' : World) : Prop where
  os : w'.os = w.os
  tape : w'.tape = w.tape
  output : w'.output = w.output
  size : w.heap.size ≤ w'.heap.size
  block : ∀ k, k < w.heap.size → ¬ S k → w'.heap[k]? = w.heap[k]?

namespace Ext
theorem refl (S : Nat → Prop) (w : World) : Ext S w w := ⟨rfl, rfl, rfl, Nat.le_refl _, fun _ _ _ => rfl⟩
theorem trans {S T : Nat → Prop} {a b c : World} (h : Ext S a b) (k : Ext T b c) (ht : ∀ x, x < a.heap.size → T x → S x) : Ext S a c :=
  ⟨k.os.trans h.os, k.tape.trans h.tape, k.output.trans h.output, Nat.le_trans h.size k.size,
   fun x hx hs => (k.block x (Nat.lt_of_lt_of_le hx h.size) (fun t => hs (ht x hx t))).trans (h.block x hx hs)⟩
theorem mono {S T : Nat → Prop} {a b : World} (h : Ext S a b) (ht : ∀ x, x < a.heap.size → S x → T x) : Ext T a b :=
  ⟨h.os, h.tape, h.output, h.size, fun x hx hs => h.block x hx (fun t => hs (ht x hx t))⟩
theorem of_below {S : Nat → Prop} {a b : World} (h : Below a.heap.size a b) : Ext S a b := ⟨h.os, h.tape, h.output, h.size, fun k hk _ => h.block k hk⟩
theorem below {S : Nat → Prop} {a b : World} (h : Ext S a b) (hs : ∀ x, x < a.heap.size → ¬ S x) : Below a.heap.size a b := ⟨h.os, h.tape, h.output, h.size, fun k hk => h.block k hk (hs k hk)⟩
theorem of_grown {S : Nat → Prop} {a b : World} {row : Option Nat} (h : a.grownBy b row) (hs : ∀ k, row = some k → k < a.heap.size → S k) : Ext S a b :=
  ⟨h.os, h.tape, h.output, h.size, fun k hk hn => h.block k hk (fun e => hn (hs k e.symm hk))⟩
theorem alloc (S : Nat → Prop) (w : World) (o : Obj) : Ext S w (w.alloc o) := of_below ((Below.refl _ _).alloc (Nat.le_refl _) o)
theorem drewN (S : Nat → Prop) (w : World) (n : Nat) : Ext S w (w.drewN n) := ⟨rfl, rfl, rfl, Nat.le_refl _, fun _ _ _ => rfl⟩
theorem setCell {S : Nat → Prop} (w : World) (a : Addr) (u : Value) (h : S a.block) : Ext S w (w.setCell a u) :=
  ⟨rfl, rfl, rfl, by simp [World.setCell], fun k _ hn => Below.heap_setCell _ _ _ _ (fun e => hn (e ▸ h))⟩
end Ext
namespace Enc
variable {α : Type} {d : Enc α} {K : Nat → Prop} {w w' : World} {v : Value} {xs : List α}
theorem Row.below (h : d.Row K w v xs) (hb : Below w.heap.size w w') : d.Row K w' v xs := h.step (fun b _ hl => hb.block b hl)
theorem Row.bound (h : d.Row K w v xs) : d.Row (fun b => K b ∧ b < w.heap.size) w v xs := h.mono (fun _ hb hl => ⟨hb, hl⟩)
theorem Row.ext {S : Nat → Prop} (h : d.Row K w v xs) (he : Ext S w w') (hk : ∀ b, K b → b < w.heap.size → ¬ S b) : d.Row K w' v xs := h.step (fun b hb hl => he.block b hl (hk b hb hl))
theorem Row.alloc (h : d.Row K w v xs) (o : Obj) : d.Row K (w.alloc o) v xs := h.below ((Below.refl _ _).alloc (Nat.le_refl _) o)
theorem Row.drewN (h : d.Row K w v xs) (n : Nat) : d.Row K (w.drewN n) v xs := h.step (fun _ _ _ => rfl)
theorem Row.get {A : Option Addr} {n c : Nat} (h : d.Row K w (.slice A n c) xs) (i : Nat) (hi : i < xs.length) :
    ∃ b off cs, A = some ⟨b, off, none⟩ ∧ K b ∧ b < w.heap.size ∧ d.rd K w xs[i] cs ∧ ∀ j u, cs[j]? = some u → w.cell? ⟨b, off + i * d.sz + j, none⟩ = some u := by
  obtain ⟨A', c', he, _, _, h3⟩ := h
  obtain ⟨rfl, _, _⟩ := Value.slice.inj he
  obtain ⟨b, off, rfl, hb, hl, ha⟩ := h3 (fun h0 => by subst h0; simp at hi)
  obtain ⟨cs, h1, h2⟩ := ha i hi
  exact ⟨b, off, cs, rfl, hb, hl, h1, h2⟩
theorem Row.nil_of_none {n c : Nat} (h : d.Row K w (.slice none n c) xs) : xs = [] := by
  obtain ⟨A, c, he, _, _, h3⟩ := h
  obtain ⟨rfl, _, _⟩ := Value.slice.inj he
  by_cases hx : xs = []
  · exact hx
  · obtain ⟨_, _, h4, _⟩ := h3 hx; cases h4
end Enc
theorem bcell {W w1 : World} (hb : Below W.heap.size W w1) : (∀ b o, b < W.heap.size → w1.cell? ⟨b, o, none⟩ = W.cell? ⟨b, o, none⟩) ∧ (∀ b o, b < W.heap.size → w1.frozen? ⟨b, o, none⟩ = W.frozen? ⟨b, o, none⟩) :=
  ⟨fun b o h => hb.cell (p := ⟨b, o, none⟩) h, fun b o h => hb.frozen (p := ⟨b, o, none⟩) h⟩
theorem Ext.toBelow {a b : World} {S : Nat → Prop} {n : Nat} (h : Ext S a b) (hn : n ≤ a.heap.size) (hs : ∀ x, x < n → ¬ S x) : Below n a b :=
  ⟨h.os, h.tape, h.output, h.size, fun k hk => h.block k (by omega) (hs k hk)⟩
end Go.Proofs.YtomhpbhkckjmdaaDoorRR
