/- Readings of data in memory, for whatever set of blocks; what a call keeps. -/
import Derived.Test.YtidilpciolladaaProg
import Derived.WalkKit
import Derived.WalkLawsBesides
import Derived.WalkSpells
import Derived.Outline
import Derived.ArgAppend
import Derived.Deep.RegionHeld3
import Derived.Deep.LoopGhost
import Derived.BigQuiet
import Derived.Deep.QuietTactic
import Derived.Handy
import Derived.Deep.Slices
import Derived.ChangeArms
import Derived.Laws.IdiomCopy
import Derived.Orders
import Derived.Tactics
/- Readings of data in memory, for whatever set of blocks; what a call keeps. -/
namespace Go.Proofs.Ytidilpciolladaa
open Go.RowKit

theorem hid {p : Prop} (h : p) : Hid p := h
/-- A block that holds cells. -/
def isC (w : World) (b : Nat) : Prop := ∃ cs t fr, w.heap[b]? = some (.cells cs t fr)
theorem isC_cell {w : World} {b o : Nat} {v : Value} (h : w.cell? ⟨b, o, none⟩ = some v) : isC w b := by
  unfold World.cell? at h
  cases ho : w.heap[b]? with
  | none => simp [ho] at h
  | some x => cases x <;> first | exact ⟨_, _, _, ho⟩ | (simp [ho] at h)
/-- How data lie in cells: 'rd K w x cs': the cells cs tell x in w, what they lead to lies in blocks of K. -/
structure Enc (α : Type) where
  sz : Nat
  rd : (Nat → Prop) → World → α → List Value → Prop
  len : ∀ {K w x cs}, rd K w x cs → cs.length = sz
  one : ∀ {K w x cs}, rd K w x cs → ∀ u ∈ cs, u.oneCell' = true
  step : ∀ {K : Nat → Prop} {w w1 : World} {x cs}, (∀ b, K b → b < w.heap.size → w1.heap[b]? = w.heap[b]?) → rd K w x cs → rd K w1 x cs
  mono : ∀ {K K' : Nat → Prop} {w : World} {x cs}, (∀ b, K b → b < w.heap.size → K' b) → rd K w x cs → rd K' w x cs
  /-- Where memory only grows, and blocks of cells lie as they lay. -/
  stepC : ∀ {K : Nat → Prop} {w w1 : World} {x cs}, w.heap.size ≤ w1.heap.size → (∀ b, K b → isC w b → w1.heap[b]? = w.heap[b]?) → rd K w x cs → rd K w1 x cs

namespace Enc
def scalar {α : Type} (enc : α → Value) (h1 : ∀ x, (enc x).oneCell' = true) : Enc α where
  sz := 1
  rd _ _ x cs := cs = [enc x]
  len h := by subst h; rfl
  one h := by subst h; intro u hu; simp at hu; subst hu; exact h1 _
  step _ h := h
  mono _ h := h
  stepC _ _ h := h
def int (k : IntKind) : Enc Int := scalar (Value.int k) (fun _ => rfl)
def bool : Enc Bool := scalar Value.bool (fun _ => rfl)
def str : Enc ByteArray := scalar Value.string (fun _ => rfl)

def pair {α β : Type} (a : Enc α) (b : Enc β) : Enc (α × β) where
  sz := a.sz + b.sz
  rd K w x cs := ∃ c1 c2, cs = c1 ++ c2 ∧ a.rd K w x.1 c1 ∧ b.rd K w x.2 c2
  len := by rintro K w x cs ⟨c1, c2, rfl, h1, h2⟩; rw [List.length_append, a.len h1, b.len h2]
  one := by
    rintro K w x cs ⟨c1, c2, rfl, h1, h2⟩ u hu
    rcases List.mem_append.1 hu with h | h
    · exact a.one h1 u h
    · exact b.one h2 u h
  step := by rintro K w w1 x cs hk ⟨c1, c2, rfl, h1, h2⟩; exact ⟨c1, c2, rfl, a.step hk h1, b.step hk h2⟩
  mono := by rintro K K' w x cs hk ⟨c1, c2, rfl, h1, h2⟩; exact ⟨c1, c2, rfl, a.mono hk h1, b.mono hk h2⟩
  stepC := by rintro K w w1 x cs hs hk ⟨c1, c2, rfl, h1, h2⟩; exact ⟨c1, c2, rfl, a.stepC hs hk h1, b.stepC hs hk h2⟩

def iso {α β : Type} (d : Enc α) (f : β → α) : Enc β where
  sz := d.sz
  rd K w x cs := d.rd K w (f x) cs
  len h := d.len h
  one h := d.one h
  step hk h := d.step hk h
  mono hk h := d.mono hk h
  stepC hs hk h := d.stepC hs hk h

/-- The elements xs lie from the cell ⟨b, off⟩ on, one behind the other. -/
def At {α : Type} (d : Enc α) (K : Nat → Prop) (w : World) (b off : Nat) (xs : List α) : Prop :=
  ∀ i (h : i < xs.length), ∃ cs, d.rd K w xs[i] cs ∧ ∀ j u, cs[j]? = some u → w.cell? ⟨b, off + i * d.sz + j, none⟩ = some u

/-- A slice's value tells xs. -/
def Row {α : Type} (d : Enc α) (K : Nat → Prop) (w : World) (v : Value) (xs : List α) : Prop :=
  ∃ A c, v = .slice A xs.length c ∧ xs.length ≤ c ∧ c ≤ maxLen ∧
    (xs ≠ [] → ∃ b off, A = some ⟨b, off, none⟩ ∧ K b ∧ b < w.heap.size ∧ d.At K w b off xs)

theorem At.step {α : Type} {d : Enc α} {K : Nat → Prop} {w w1 : World} {b off : Nat} {xs : List α} (h : d.At K w b off xs) (hb : w1.heap[b]? = w.heap[b]?)
    (hk : ∀ b, K b → b < w.heap.size → w1.heap[b]? = w.heap[b]?) : d.At K w1 b off xs := by
  intro i hi
  obtain ⟨cs, h1, h2⟩ := h i hi
  exact ⟨cs, d.step hk h1, fun j u hj => (World.cell?_of_block (w := w) hb).trans (h2 j u hj)⟩
theorem At.mono {α : Type} {d : Enc α} {K K' : Nat → Prop} {w : World} {b off : Nat} {xs : List α} (h : d.At K w b off xs)
    (hk : ∀ b, K b → b < w.heap.size → K' b) : d.At K' w b off xs := by
  intro i hi
  obtain ⟨cs, h1, h2⟩ := h i hi
  exact ⟨cs, d.mono hk h1, h2⟩
theorem Row.step {α : Type} {d : Enc α} {K : Nat → Prop} {w w1 : World} {v : Value} {xs : List α} (h : d.Row K w v xs)
    (hk : ∀ b, K b → b < w.heap.size → w1.heap[b]? = w.heap[b]?) : d.Row K w1 v xs := by
  obtain ⟨A, c, rfl, h1, h2, h3⟩ := h
  refine ⟨A, c, rfl, h1, h2, fun hx => ?_⟩
  obtain ⟨b, off, rfl, hb, hl, ha⟩ := h3 hx
  refine ⟨b, off, rfl, hb, ?_, ha.step (hk b hb hl) hk⟩
  have h5 := hk b hb hl
  rw [Array.getElem?_eq_getElem hl] at h5
  exact (Array.getElem?_eq_some_iff.1 h5).1
theorem Row.mono {α : Type} {d : Enc α} {K K' : Nat → Prop} {w : World} {v : Value} {xs : List α} (h : d.Row K w v xs)
    (hk : ∀ b, K b → b < w.heap.size → K' b) : d.Row K' w v xs := by
  obtain ⟨A, c, rfl, h1, h2, h3⟩ := h
  refine ⟨A, c, rfl, h1, h2, fun hx => ?_⟩
  obtain ⟨b, off, rfl, hb, hl, ha⟩ := h3 hx
  exact ⟨b, off, rfl, hk b hb hl, hl, ha.mono hk⟩
theorem At.stepC {α : Type} {d : Enc α} {K : Nat → Prop} {w w1 : World} {b off : Nat} {xs : List α} (h : d.At K w b off xs) (hs : w.heap.size ≤ w1.heap.size) (hb : K b)
    (hk : ∀ b, K b → isC w b → w1.heap[b]? = w.heap[b]?) : d.At K w1 b off xs := by
  intro i hi
  obtain ⟨cs, h1, h2⟩ := h i hi
  exact ⟨cs, d.stepC hs hk h1, fun j u hj => (World.cell?_of_block (w := w) (hk b hb (isC_cell (h2 j u hj)))).trans (h2 j u hj)⟩
theorem Row.stepC {α : Type} {d : Enc α} {K : Nat → Prop} {w w1 : World} {v : Value} {xs : List α} (h : d.Row K w v xs) (hs : w.heap.size ≤ w1.heap.size)
    (hk : ∀ b, K b → isC w b → w1.heap[b]? = w.heap[b]?) : d.Row K w1 v xs := by
  obtain ⟨A, c, rfl, h1, h2, h3⟩ := h
  refine ⟨A, c, rfl, h1, h2, fun hx => ?_⟩
  obtain ⟨b, off, rfl, hb, hl, ha⟩ := h3 hx
  exact ⟨b, off, rfl, hb, Nat.lt_of_lt_of_le hl hs, ha.stepC hs hb hk⟩

def slice {α : Type} (d : Enc α) : Enc (List α) where
  sz := 1
  rd K w xs cs := ∃ v, cs = [v] ∧ d.Row K w v xs
  len := by rintro K w x cs ⟨v, rfl, h⟩; rfl
  one := by
    rintro K w x cs ⟨v, rfl, A, c, rfl, h⟩ u hu
    simp at hu; subst hu; rfl
  step := by rintro K w w1 x cs hk ⟨v, rfl, h⟩; exact ⟨v, rfl, h.step hk⟩
  mono := by rintro K K' w x cs hk ⟨v, rfl, h⟩; exact ⟨v, rfl, h.mono hk⟩
  stepC := by rintro K w w1 x cs hs hk ⟨v, rfl, h⟩; exact ⟨v, rfl, h.stepC hs hk⟩

theorem Row.nil {α : Type} (d : Enc α) (K : Nat → Prop) (w : World) : d.Row K w (.slice none 0 0) [] := ⟨none, 0, rfl, Nat.le_refl _, Nat.zero_le _, fun h => absurd rfl h⟩

theorem Row.form {α : Type} {d : Enc α} {K : Nat → Prop} {w : World} {v : Value} {xs : List α} (h : d.Row K w v xs) :
    ∃ A c, v = .slice A xs.length c ∧ xs.length ≤ c ∧ c ≤ maxLen := by
  obtain ⟨A, c, h1, h2, h3, _⟩ := h
  exact ⟨A, c, h1, h2, h3⟩

/-- The flat cells of a row. -/
def Flat {α : Type} (d : Enc α) (K : Nat → Prop) (w : World) (xs : List α) (cs : List Value) : Prop :=
  cs.length = xs.length * d.sz ∧ (∀ u ∈ cs, u.oneCell' = true) ∧ ∀ i (h : i < xs.length), d.rd K w xs[i] ((cs.drop (i * d.sz)).take d.sz)

theorem Flat.nil {α : Type} (d : Enc α) (K : Nat → Prop) (w : World) : d.Flat K w [] [] := ⟨by simp, by simp, fun i h => by simp at h⟩
theorem Flat.one_ {α : Type} {d : Enc α} {K : Nat → Prop} {w : World} {x : α} {cs : List Value} (h : d.rd K w x cs) : d.Flat K w [x] cs := by
  refine ⟨by simp [d.len h], d.one h, fun i hi => ?_⟩
  obtain rfl : i = 0 := by simpa using hi
  have := d.len h
  simpa [List.take_of_length_le (Nat.le_of_eq this)] using h
theorem Flat.append {α : Type} {d : Enc α} {K : Nat → Prop} {w : World} {xs ys : List α} {cs es : List Value} (h : d.Flat K w xs cs) (k : d.Flat K w ys es) : d.Flat K w (xs ++ ys) (cs ++ es) := by
  obtain ⟨h1, h2, h3⟩ := h
  obtain ⟨k1, k2, k3⟩ := k
  refine ⟨by rw [List.length_append, List.length_append, h1, k1, Nat.add_mul], fun u hu => ?_, fun i hi => ?_⟩
  · rcases List.mem_append.1 hu with h | h
    · exact h2 u h
    · exact k2 u h
  · by_cases hlt : i < xs.length
    · have h4 := h3 i hlt
      have hle : i * d.sz + d.sz ≤ cs.length := by rw [h1, ← Nat.succ_mul]; exact Nat.mul_le_mul_right _ hlt
      rw [List.getElem_append_left hlt, List.drop_append_of_le_length (by omega), List.take_append_of_le_length (by rw [List.length_drop]; omega)]
      exact h4
    · have hj : i - xs.length < ys.length := by rw [List.length_append] at hi; omega
      have h4 := k3 (i - xs.length) hj
      rw [List.getElem_append_right (by omega)]
      have e : i * d.sz = cs.length + (i - xs.length) * d.sz := by
        rw [h1, ← Nat.add_mul]; congr 1; omega
      rw [e, List.drop_append, List.drop_of_length_le (by omega), List.nil_append, Nat.add_sub_cancel_left]
      exact h4
theorem Flat.step {α : Type} {d : Enc α} {K : Nat → Prop} {w w1 : World} {xs : List α} {cs : List Value} (h : d.Flat K w xs cs)
    (hk : ∀ b, K b → b < w.heap.size → w1.heap[b]? = w.heap[b]?) : d.Flat K w1 xs cs := ⟨h.1, h.2.1, fun i hi => d.step hk (h.2.2 i hi)⟩
theorem Flat.mono {α : Type} {d : Enc α} {K K' : Nat → Prop} {w : World} {xs : List α} {cs : List Value} (h : d.Flat K w xs cs)
    (hk : ∀ b, K b → b < w.heap.size → K' b) : d.Flat K' w xs cs := ⟨h.1, h.2.1, fun i hi => d.mono hk (h.2.2 i hi)⟩
theorem Flat.stepC {α : Type} {d : Enc α} {K : Nat → Prop} {w w1 : World} {xs : List α} {cs : List Value} (h : d.Flat K w xs cs) (hs : w.heap.size ≤ w1.heap.size)
    (hk : ∀ b, K b → isC w b → w1.heap[b]? = w.heap[b]?) : d.Flat K w1 xs cs := ⟨h.1, h.2.1, fun i hi => d.stepC hs hk (h.2.2 i hi)⟩

/-- A row's cells, flat. -/
theorem At.flat {α : Type} {d : Enc α} {K : Nat → Prop} {w : World} {b off : Nat} {xs : List α} (h : d.At K w b off xs) :
    ∃ cs, d.Flat K w xs cs ∧ ∀ j u, cs[j]? = some u → w.cell? ⟨b, off + j, none⟩ = some u := by
  induction xs generalizing off with
  | nil => exact ⟨[], Flat.nil d K w, fun j u hj => by simp at hj⟩
  | cons x xs ih =>
    obtain ⟨c0, r0, h0⟩ := h 0 (by simp)
    obtain ⟨cs, hf, hc⟩ := ih (off := off + d.sz) (fun i hi => by
      obtain ⟨c1, r1, h1⟩ := h (i + 1) (by simpa using hi)
      refine ⟨c1, by simpa using r1, fun j u hj => ?_⟩
      have := h1 j u hj
      rwa [Nat.succ_mul, show off + (i * d.sz + d.sz) + j = off + d.sz + i * d.sz + j from by omega] at this)
    refine ⟨c0 ++ cs, Flat.append (Flat.one_ (by simpa using r0)) hf, fun j u hj => ?_⟩
    by_cases hlt : j < c0.length
    · rw [List.getElem?_append_left hlt] at hj
      have := h0 j u hj
      simpa using this
    · rw [List.getElem?_append_right (by omega), d.len r0] at hj
      have := hc _ u hj
      have h3 := d.len r0
      rwa [show off + d.sz + (j - d.sz) = off + j from by omega] at this

theorem Flat.at_ {α : Type} {d : Enc α} {K : Nat → Prop} {w : World} {b off : Nat} {xs : List α} {cs : List Value} (h : d.Flat K w xs cs)
    (hc : ∀ j u, cs[j]? = some u → w.cell? ⟨b, off + j, none⟩ = some u) : d.At K w b off xs := by
  intro i hi
  refine ⟨_, h.2.2 i hi, fun j u hj => ?_⟩
  rw [List.getElem?_take] at hj
  split at hj
  · rw [List.getElem?_drop] at hj
    have := hc _ u hj
    rwa [← Nat.add_assoc] at this
  · cases hj
end Enc

/-- What a call keeps: all but the blocks of S. -/
structure Ext (S : Nat → Prop) (w w' : World) : Prop where
  os : w'.os = w.os
  tape : w'.tape = w.tape
  output : w'.output = w.output
  size : w.heap.size ≤ w'.heap.size
  block : ∀ k, k < w.heap.size → ¬ S k → w'.heap[k]? = w.heap[k]?

namespace Ext
theorem refl (S : Nat → Prop) (w : World) : Ext S w w := ⟨rfl, rfl, rfl, Nat.le_refl _, fun _ _ _ => rfl⟩
theorem trans {S T : Nat → Prop} {a b c : World} (h : Ext S a b) (k : Ext T b c) (ht : ∀ x, x < a.heap.size → T x → S x) : Ext S a c :=
  ⟨k.os.trans h.os, k.tape.trans h.tape, k.output.trans h.output, Nat.le_trans h.size k.size,
   fun x hx hs => (k.block x (Nat.lt_of_lt_of_le hx h.size) (fun t => hs (ht x hx t))).trans (h.block x hx hs)⟩
theorem mono {S T : Nat → Prop} {a b : World} (h : Ext S a b) (ht : ∀ x, x < a.heap.size → S x → T x) : Ext T a b :=
  ⟨h.os, h.tape, h.output, h.size, fun x hx hs => h.block x hx (fun t => hs (ht x hx t))⟩
theorem of_below {S : Nat → Prop} {a b : World} (h : Below a.heap.size a b) : Ext S a b := ⟨h.os, h.tape, h.output, h.size, fun k hk _ => h.block k hk⟩
theorem below {S : Nat → Prop} {a b : World} (h : Ext S a b) (hs : ∀ x, x < a.heap.size → ¬ S x) : Below a.heap.size a b := ⟨h.os, h.tape, h.output, h.size, fun k hk => h.block k hk (hs k hk)⟩
theorem of_grown {S : Nat → Prop} {a b : World} {row : Option Nat} (h : a.grownBy b row) (hs : ∀ k, row = some k → k < a.heap.size → S k) : Ext S a b :=
  ⟨h.os, h.tape, h.output, h.size, fun k hk hn => h.block k hk (fun e => hn (hs k e.symm hk))⟩
theorem alloc (S : Nat → Prop) (w : World) (o : Obj) : Ext S w (w.alloc o) := of_below ((Below.refl _ _).alloc (Nat.le_refl _) o)
theorem drewN (S : Nat → Prop) (w : World) (n : Nat) : Ext S w (w.drewN n) := ⟨rfl, rfl, rfl, Nat.le_refl _, fun _ _ _ => rfl⟩
theorem setCell {S : Nat → Prop} (w : World) (a : Addr) (u : Value) (h : S a.block) : Ext S w (w.setCell a u) :=
  ⟨rfl, rfl, rfl, by simp [World.setCell], fun k _ hn => Below.heap_setCell _ _ _ _ (fun e => hn (e ▸ h))⟩
end Ext
namespace Enc
variable {α : Type} {d : Enc α} {K : Nat → Prop} {w w' : World} {v : Value} {xs : List α}
theorem Row.below (h : d.Row K w v xs) (hb : Below w.heap.size w w') : d.Row K w' v xs := h.step (fun b _ hl => hb.block b hl)
theorem Row.bound (h : d.Row K w v xs) : d.Row (fun b => K b ∧ b < w.heap.size) w v xs := h.mono (fun _ hb hl => ⟨hb, hl⟩)
theorem Row.ext {S : Nat → Prop} (h : d.Row K w v xs) (he : Ext S w w') (hk : ∀ b, K b → b < w.heap.size → ¬ S b) : d.Row K w' v xs := h.step (fun b hb hl => he.block b hl (hk b hb hl))
theorem Row.alloc (h : d.Row K w v xs) (o : Obj) : d.Row K (w.alloc o) v xs := h.below ((Below.refl _ _).alloc (Nat.le_refl _) o)
theorem Row.drewN (h : d.Row K w v xs) (n : Nat) : d.Row K (w.drewN n) v xs := h.step (fun _ _ _ => rfl)
theorem Row.get {A : Option Addr} {n c : Nat} (h : d.Row K w (.slice A n c) xs) (i : Nat) (hi : i < xs.length) :
    ∃ b off cs, A = some ⟨b, off, none⟩ ∧ K b ∧ b < w.heap.size ∧ d.rd K w xs[i] cs ∧ ∀ j u, cs[j]? = some u → w.cell? ⟨b, off + i * d.sz + j, none⟩ = some u := by
  obtain ⟨A', c', he, _, _, h3⟩ := h
  obtain ⟨rfl, _, _⟩ := Value.slice.inj he
  obtain ⟨b, off, rfl, hb, hl, ha⟩ := h3 (fun h0 => by subst h0; simp at hi)
  obtain ⟨cs, h1, h2⟩ := ha i hi
  exact ⟨b, off, cs, rfl, hb, hl, h1, h2⟩
theorem Row.nil_of_none {n c : Nat} (h : d.Row K w (.slice none n c) xs) : xs = [] := by
  obtain ⟨A, c, he, _, _, h3⟩ := h
  obtain ⟨rfl, _, _⟩ := Value.slice.inj he
  by_cases hx : xs = []
  · exact hx
  · obtain ⟨_, _, h4, _⟩ := h3 hx; cases h4
end Enc
theorem bcell {W w1 : World} (hb : Below W.heap.size W w1) : (∀ b o, b < W.heap.size → w1.cell? ⟨b, o, none⟩ = W.cell? ⟨b, o, none⟩) ∧ (∀ b o, b < W.heap.size → w1.frozen? ⟨b, o, none⟩ = W.frozen? ⟨b, o, none⟩) :=
  ⟨fun b o h => hb.cell (p := ⟨b, o, none⟩) h, fun b o h => hb.frozen (p := ⟨b, o, none⟩) h⟩
theorem Ext.toBelow {a b : World} {S : Nat → Prop} {n : Nat} (h : Ext S a b) (hn : n ≤ a.heap.size) (hs : ∀ x, x < n → ¬ S x) : Below n a b :=
  ⟨h.os, h.tape, h.output, h.size, fun k hk => h.block k (by omega) (hs k hk)⟩
end Go.Proofs.Ytidilpciolladaa

/- A row that may be appended to: its block is the owner's. -/
namespace Go.Proofs.Ytidilpciolladaa
open Go.RowKit

theorem wpList_append_run {P : Program} {w w' : World} {ops : Array Oper} {rest : List Oper} {o : Oper} {a : Act} {Q : Exit → Act → World → Prop} {v' : Value}
    (hg : o.guard = none) (s x : Operand) (t t' : TypeId) (hop : o.op = Op.call { callee := Callee.builtin Builtin.append, args := #[s, x], argTypes := #[t, t'] })
    (hrun : (Builtin.append_ #[t, t'] o.type #[a.eval s, a.eval x]).run P w = .ok v' w')
    (h : wpList P ops Q rest (a.put o.dst v') w') : wpList P ops Q (o :: rest) a w := by
  refine wpList_plain hg fun K hK' => ?_
  unfold Oper.wp
  simp [execOp, hop, resolve, invoke, builtin, hrun, Result.andThen]
  exact hK' _ _ h

def capOf : Value → Nat | .slice _ _ c => c | _ => 0
/-- Where a row lies behind an append. -/
def Grew (g : Nat) (w w' : World) (v v' : Value) (g' : Nat) : Prop := (g' = g ∧ w'.heap.size = w.heap.size ∧ capOf v' = capOf v) ∨ (g' = w.heap.size ∧ w'.heap.size = w.heap.size + 1)
theorem Grew.two {g : Nat} {w w' : World} {v v' : Value} {g' : Nat} (h : Grew g w w' v v' g') : (g' = g ∧ w'.heap.size = w.heap.size) ∨ (g' = w.heap.size ∧ w'.heap.size = w.heap.size + 1) := h.imp (fun h => ⟨h.1, h.2.1⟩) id
namespace Enc
def Spine {α : Type} (d : Enc α) (E : TypeId) (K : Nat → Prop) (g : Nat) (w : World) (v : Value) (xs : List α) : Prop :=
  ∃ A c, v = .slice A xs.length c ∧ xs.length ≤ c ∧ c ≤ maxLen ∧
    (c ≠ 0 → ∃ off cur cs, A = some ⟨g, off, none⟩ ∧ w.heap[g]? = some (.cells cur E (0, 0)) ∧ off + c * d.sz ≤ cur.size ∧ d.Flat K w xs cs ∧ ∀ j u, cs[j]? = some u → cur[off + j]? = some u)

theorem Spine.type {α : Type} {d : Enc α} {E : TypeId} {K : Nat → Prop} {g : Nat} {w : World} {v : Value} {xs : List α} (h : d.Spine E K g w v xs) (hc : capOf v ≠ 0) : ∃ cur, w.heap[g]? = some (.cells cur E (0, 0)) := by
  obtain ⟨A, c, rfl, h2, h3, h4⟩ := h
  obtain ⟨off, cur, cs, _, hg, _⟩ := h4 hc
  exact ⟨cur, hg⟩
theorem Spine.nil {α : Type} (d : Enc α) (E : TypeId) (K : Nat → Prop) (g : Nat) (w : World) : d.Spine E K g w (.slice none 0 0) [] :=
  ⟨none, 0, rfl, Nat.le_refl _, Nat.zero_le _, fun h => absurd rfl h⟩
theorem Spine.bare {α : Type} (d : Enc α) (E : TypeId) (K : Nat → Prop) (g : Nat) (w : World) (A : Option Addr) : d.Spine E K g w (.slice A 0 0) [] :=
  ⟨A, 0, rfl, Nat.le_refl _, Nat.zero_le _, fun h => absurd rfl h⟩

theorem Spine.form {α : Type} {d : Enc α} {E : TypeId} {K : Nat → Prop} {g : Nat} {w : World} {v : Value} {xs : List α} (h : d.Spine E K g w v xs) :
    ∃ A c, v = .slice A xs.length c ∧ xs.length ≤ c ∧ c ≤ maxLen := by
  obtain ⟨A, c, h1, h2, h3, _⟩ := h
  exact ⟨A, c, h1, h2, h3⟩
theorem Spine.lt {α : Type} {d : Enc α} {E : TypeId} {K : Nat → Prop} {g : Nat} {w : World} {v : Value} {xs : List α} (h : d.Spine E K g w v xs) (hx : xs ≠ []) : g < w.heap.size := by
  obtain ⟨A, c, _, h2, _, h4⟩ := h
  have : c ≠ 0 := fun h0 => hx (List.eq_nil_of_length_eq_zero (by omega))
  obtain ⟨off, cur, cs, _, hg, _⟩ := h4 this
  exact (Array.getElem?_eq_some_iff.1 hg).1

theorem cell_of_cur {w : World} {g off : Nat} {cur : Array Value} {E : TypeId} (hg : w.heap[g]? = some (.cells cur E (0, 0))) {j : Nat} {u : Value} (hj : cur[off + j]? = some u) :
    w.cell? ⟨g, off + j, none⟩ = some u := by simp [World.cell?, hg, hj]

/-- A spine is read as any row (where its block is let in). -/
theorem Spine.row {α : Type} {d : Enc α} {E : TypeId} {K K' : Nat → Prop} {g : Nat} {w : World} {v : Value} {xs : List α} (h : d.Spine E K g w v xs) (hk : ∀ b, K b → b < w.heap.size → K' b) (hg : K' g) : d.Row K' w v xs := by
  obtain ⟨A, c, rfl, h2, h3, h4⟩ := h
  refine ⟨A, c, rfl, h2, h3, fun hx => ?_⟩
  have : c ≠ 0 := fun h0 => hx (List.eq_nil_of_length_eq_zero (by omega))
  obtain ⟨off, cur, cs, rfl, hb, hle, hf, hc⟩ := h4 this
  exact ⟨g, off, rfl, hg, (Array.getElem?_eq_some_iff.1 hb).1, (hf.mono hk).at_ (fun j u hj => cell_of_cur hb (hc j u hj))⟩

/-- A spine over worlds in which its block and what its elements lead to lie as they lay. -/
theorem Spine.step {α : Type} {d : Enc α} {E : TypeId} {K K' : Nat → Prop} {g : Nat} {w w' : World} {v : Value} {xs : List α} (h : d.Spine E K g w v xs)
    (hg : ∀ cur, w.heap[g]? = some (.cells cur E (0, 0)) → w'.heap[g]? = some (.cells cur E (0, 0))) (hk : ∀ b, K b → b < w.heap.size → K' b ∧ w'.heap[b]? = w.heap[b]?) : d.Spine E K' g w' v xs := by
  obtain ⟨A, c, rfl, h2, h3, h4⟩ := h
  refine ⟨A, c, rfl, h2, h3, fun hc0 => ?_⟩
  obtain ⟨off, cur, cs, rfl, hb, hle, hf, hc⟩ := h4 hc0
  exact ⟨off, cur, cs, rfl, hg cur hb, hle, (hf.mono (fun b hb hl => show K' b ∧ w'.heap[b]? = w.heap[b]? from hk b hb hl)).step (fun b hb _ => hb.2) |>.mono (fun b hb _ => hb.1), hc⟩

theorem Spine.stepC {α : Type} {d : Enc α} {E : TypeId} {K : Nat → Prop} {g : Nat} {w w' : World} {v : Value} {xs : List α} (h : d.Spine E K g w v xs) (hs : w.heap.size ≤ w'.heap.size)
    (hg : isC w g → w'.heap[g]? = w.heap[g]?) (hk : ∀ b, K b → isC w b → w'.heap[b]? = w.heap[b]?) : d.Spine E K g w' v xs := by
  obtain ⟨A, c, rfl, h2, h3, h4⟩ := h
  refine ⟨A, c, rfl, h2, h3, fun hc0 => ?_⟩
  obtain ⟨off, cur, cs, rfl, hb, hle, hf, hc⟩ := h4 hc0
  exact ⟨off, cur, cs, rfl, (hg ⟨_, _, _, hb⟩).trans hb, hle, hf.stepC hs hk, hc⟩
theorem Spine.mono {α : Type} {d : Enc α} {E : TypeId} {K K' : Nat → Prop} {g : Nat} {w : World} {v : Value} {xs : List α} (h : d.Spine E K g w v xs) (hk : ∀ b, K b → b < w.heap.size → K' b) : d.Spine E K' g w v xs :=
  h.step (fun _ hc => hc) (fun b hb hl => ⟨hk b hb hl, rfl⟩)

/-- The first of it. -/
theorem Spine.take {α : Type} {d : Enc α} {E : TypeId} {K : Nat → Prop} {g : Nat} {w : World} {A : Option Addr} {n c : Nat} {xs : List α} (h : d.Spine E K g w (.slice A n c) xs) (i c' : Nat) (hi : i ≤ xs.length) (hic : i ≤ c') (hc' : c' ≤ c) :
    d.Spine E K g w (.slice A i c') (xs.take i) := by
  obtain ⟨A', c1, he, h2, h3, h4⟩ := h
  obtain ⟨rfl, rfl, rfl⟩ := Value.slice.inj he
  refine ⟨A, c', by rw [List.length_take, Nat.min_eq_left hi], by rw [List.length_take]; omega, by omega, fun hc0 => ?_⟩
  obtain ⟨off, cur, cs, rfl, hb, hle, hf, hc⟩ := h4 (by omega)
  refine ⟨off, cur, cs.take (i * d.sz), rfl, hb, by have := Nat.mul_le_mul_right d.sz hc'; omega, ⟨?_, fun u hu => hf.2.1 u (List.mem_of_mem_take hu), fun k hk => ?_⟩, fun j u hj => ?_⟩
  · rw [List.length_take, List.length_take, Nat.min_eq_left hi, hf.1]
    exact Nat.min_eq_left (Nat.mul_le_mul_right _ hi)
  · rw [List.length_take] at hk
    have hk1 : k < i := by omega
    have := hf.2.2 k (by omega)
    rw [List.getElem_take]
    have hle2 : k * d.sz + d.sz ≤ i * d.sz := by rw [← Nat.succ_mul]; exact Nat.mul_le_mul_right _ hk1
    rw [List.drop_take, List.take_take, Nat.min_eq_left (by omega)]
    exact this
  · rw [List.getElem?_take] at hj
    split at hj
    · exact hc j u hj
    · cases hj

/-- Cells to be read: wherever they lie; what they lead to lies in K. -/
def Src {α : Type} (d : Enc α) (K : Nat → Prop) (w : World) (v : Value) (xs : List α) : Prop :=
  ∃ A c, v = .slice A xs.length c ∧ xs.length ≤ c ∧ c ≤ maxLen ∧ (xs ≠ [] → ∃ b off, A = some ⟨b, off, none⟩ ∧ d.At K w b off xs)
theorem Row.src {α : Type} {d : Enc α} {K : Nat → Prop} {w : World} {v : Value} {xs : List α} (h : d.Row K w v xs) : d.Src K w v xs := by
  obtain ⟨A, c, rfl, h1, h2, h3⟩ := h
  exact ⟨A, c, rfl, h1, h2, fun hx => by obtain ⟨b, off, e, _, _, ha⟩ := h3 hx; exact ⟨b, off, e, ha⟩⟩
theorem At.drop {α : Type} {d : Enc α} {K : Nat → Prop} {w : World} {b off : Nat} {xs : List α} (h : d.At K w b off xs) (i : Nat) : d.At K w b (off + i * d.sz) (xs.drop i) := by
  intro j hj
  rw [List.length_drop] at hj
  obtain ⟨cs, h1, h2⟩ := h (i + j) (by omega)
  refine ⟨cs, by rw [List.getElem_drop]; exact h1, fun k u hk => ?_⟩
  have := h2 k u hk
  rwa [Nat.add_mul, ← Nat.add_assoc] at this
theorem Spine.at_ {α : Type} {d : Enc α} {E : TypeId} {K : Nat → Prop} {g : Nat} {w : World} {A : Option Addr} {n c : Nat} {xs : List α} (h : d.Spine E K g w (.slice A n c) xs) (hc : c ≠ 0) : ∃ off, A = some ⟨g, off, none⟩ ∧ d.At K w g off xs := by
  obtain ⟨A', c1, he, h2, h3, h4⟩ := h
  obtain ⟨rfl, rfl, rfl⟩ := Value.slice.inj he
  obtain ⟨off, cur, cs, rfl, hb, hle, hf, hcc⟩ := h4 hc
  exact ⟨off, rfl, hf.at_ (fun j u hj => cell_of_cur hb (hcc j u hj))⟩
theorem Spine.drop_src {α : Type} {d : Enc α} {E : TypeId} {K : Nat → Prop} {g : Nat} {w : World} {A A' : Option Addr} {n c : Nat} {xs : List α} (h : d.Spine E K g w (.slice A n c) xs) (i : Nat) (hi : i ≤ xs.length) (hA : c ≠ i → A' = A.map (·.add (i * d.sz))) :
    d.Src K w (.slice A' (n - i) (c - i)) (xs.drop i) := by
  have hn : n = xs.length ∧ n ≤ c ∧ c ≤ maxLen := by
    obtain ⟨A', c1, he, h2, h3, h4⟩ := h
    obtain ⟨rfl, rfl, rfl⟩ := Value.slice.inj he
    exact ⟨rfl, h2, h3⟩
  obtain ⟨rfl, h2, h3⟩ := hn
  refine ⟨A', c - i, by rw [List.length_drop], by rw [List.length_drop]; omega, by omega, fun hx => ?_⟩
  have hlt : i < xs.length := by
    rcases Nat.lt_or_ge i xs.length with h | h
    · exact h
    · exact absurd (List.drop_eq_nil_of_le h) hx
  obtain ⟨off, rfl, ha⟩ := h.at_ (by omega)
  refine ⟨g, off + i * d.sz, ?_, ha.drop i⟩
  rw [hA (by omega)]
  simp [Addr.add_lit]

theorem getElem?_set_range (cur : Array Value) (k : Nat) (news : List Value) (hfit : k + news.length ≤ cur.size) (j : Nat) :
    (cur.toList.take k ++ news ++ cur.toList.drop (k + news.length)).toArray[j]? = if j < k then cur[j]? else if j < k + news.length then news[j - k]? else cur[j]? := by
  have hl : (cur.toList.take k).length = k := by rw [List.length_take, Array.length_toList]; omega
  rw [List.getElem?_toArray]
  split
  · rename_i h
    rw [List.append_assoc, List.getElem?_append_left (by omega), List.getElem?_take, if_pos h, Array.getElem?_toList]
  · rename_i h
    split
    · rename_i h2
      rw [List.getElem?_append_left (by rw [List.length_append, hl]; exact h2), List.getElem?_append_right (by omega), hl]
    · rename_i h2
      rw [List.getElem?_append_right (by rw [List.length_append, hl]; omega), List.length_append, hl, List.getElem?_drop, Array.getElem?_toList]
      congr 1; omega

theorem run_append_grow_any {P : Program} {w : World} (t t' ty e : TypeId) (i : TypeInfo) (z : Value) (ht : P.underlying t = some (.slice e)) {E' : TypeId} (ht' : P.underlying t' = some (.slice E')) (hi : P.info? e = some i) (hz : i.zero = some z)
    (A : Option Addr) (n c : Nat) (olds : List Value) (B : Option Addr) (m cy : Nat) (news : List Value)
    (ho : (Builtin.firstCells i.size n (.slice A n c)).run P w.drew = .ok olds.toArray w.drew) (hn : (Builtin.firstCells i.size m (.slice B m cy)).run P w.drew = .ok news.toArray w.drew)
    (hg : c < n + m) (h63 : ((n + m : Nat) : Int) ≤ 9223372036854775807) (hfit : Builtin.nextslicecap (n + m) c * i.bytes ≤ 281474976710656) :
    (Builtin.append_ #[t, t'] ty #[.slice A n c, .slice B m cy]).run P w =
      .ok (.slice (some ⟨w.heap.size, 0, none⟩) (n + m) (grownCap w (n + m) c e))
        (w.drew.alloc (.cells (olds.toArray ++ news.toArray ++ Builtin.zeroCells z.cells (grownCap w (n + m) c e - (n + m))) e)) := by
  have hn1 : ¬ (n + m ≤ c) := by omega
  have h63' : ¬ (9223372036854775807 < ((n : Int) + (m : Int))) := by omega
  have h48' : ¬ (281474976710656 < Builtin.nextslicecap (n + m) c * i.bytes) := by omega
  simp [Builtin.append_, run_underlying ht, run_underlying ht', sizeOf, typeInfo, zeroValue, hi, hz, Builtin.lenOf, hn1, h63', h48', Question.forced, ho, hn, newRow, grownCap]
  congr 2
  apply Array.ext'
  simp

/-- append, onto a spine. -/
theorem Spine.append {P : Program} {α : Type} {d : Enc α} {E : TypeId} {K : Nat → Prop} {g : Nat} {w : World} {v : Value} {xs : List α} (h : d.Spine E K g w v xs)
    (t t' ty : TypeId) (i : TypeInfo) (z : Value) (ht : P.underlying t = some (.slice E)) (ht' : ∃ E', P.underlying t' = some (.slice E')) (hi : P.info? E = some i) (hz : i.zero = some z) (hsize : i.size = d.sz) (hzs : z.cells.size = d.sz) (_hpos : 0 < d.sz)
    {x : Value} {ys : List α} (hy : d.Src K w x ys) (hKg : ∀ b, K b → b < w.heap.size → b ≠ g) (hlen : xs.length + ys.length ≤ 4294967296) (hby : i.bytes ≤ 32768) :
    ∃ v' w' g', (Builtin.append_ #[t, t'] ty #[v, x]).run P w = .ok v' w' ∧ d.Spine E (fun b => K b ∧ b < w.heap.size) g' w' v' (xs ++ ys) ∧ Ext (fun b => b = g ∧ capOf v ≠ 0) w w' ∧ Grew g w w' v v' g' := by
  obtain ⟨E', ht'⟩ := ht'
  obtain ⟨A, c, rfl, h2, h3, h4⟩ := h
  obtain ⟨B, cy, rfl, k2, k3, k4⟩ := hy
  have hbytes : (xs.length + ys.length) * i.bytes ≤ 140737488355328 := Nat.le_trans (Nat.mul_le_mul hlen hby) (by decide)
  -- the cells that are read
  obtain ⟨news, hnf, hnr⟩ : ∃ news, d.Flat K w ys news ∧ ∀ m, (Builtin.firstCells d.sz ys.length (.slice B ys.length cy)).run P (w.drewN m) = .ok news.toArray (w.drewN m) := by
    by_cases hys : ys = []
    · subst hys
      refine ⟨[], Flat.nil d K w, fun m => ?_⟩
      cases B <;> simp [Builtin.firstCells, loadCells, loadCellsFrom]
    · obtain ⟨b, off, rfl, ha⟩ := k4 hys
      obtain ⟨cs, hf, hc⟩ := ha.flat
      exact ⟨cs, hf, fun m => run_firstCells_some (w.drewN m) d.sz ys.length ⟨b, off, none⟩ ys.length cy cs hf.1 (fun j u hj => by rw [Addr.add_lit]; exact hc j u hj)⟩
  have hnl := hnf.1
  by_cases hroom : xs.length + ys.length ≤ c
  · -- within the capacity
    by_cases hc0 : c = 0
    · have hx0 : xs = [] := List.eq_nil_of_length_eq_zero (by omega)
      have hy0 : ys = [] := List.eq_nil_of_length_eq_zero (by omega)
      subst hx0; subst hy0; subst hc0
      have : news = [] := List.eq_nil_of_length_eq_zero (by simpa using hnl)
      subst this
      refine ⟨.slice A 0 0, w, g, ?_, Spine.bare d E _ g w A, Ext.refl _ _, .inl ⟨rfl, rfl, rfl⟩⟩
      have hnr' : (Builtin.firstCells i.size 0 (.slice B 0 cy)).run P w = .ok #[] w := by rw [hsize]; exact hnr 0
      cases A <;> simp [Builtin.append_, run_underlying ht, run_underlying ht', sizeOf, typeInfo, hi, Builtin.lenOf, hnr', storeCells]
    · obtain ⟨off, cur, cs, rfl, hb, hle, hf, hc⟩ := h4 hc0
      have hfit : off + xs.length * d.sz + news.length ≤ cur.size := by
        rw [hnl, Nat.add_assoc, ← Nat.add_mul]
        have := Nat.mul_le_mul_right d.sz hroom
        omega
      have hst := run_storeCells_at P g (off + xs.length * d.sz) E news 0 cur w hb (by simpa using hfit) hnf.2.1
      simp only [Nat.add_zero] at hst
      refine ⟨.slice (some ⟨g, off, none⟩) (xs.length + ys.length) c, w.setRow g (cur.toList.take (off + xs.length * d.sz) ++ news ++ cur.toList.drop (off + xs.length * d.sz + news.length)).toArray, g, ?_, ?_, ?_, .inl ⟨rfl, by simp [World.setRow], rfl⟩⟩
      · have hnr0 : (Builtin.firstCells d.sz ys.length (.slice B ys.length cy)).run P w = .ok news.toArray w := hnr 0
        simp [Builtin.append_, run_underlying ht, run_underlying ht', sizeOf, typeInfo, hi, Builtin.lenOf, hroom, hnr0, Addr.add_lit, hst, hsize]
      · have hgl : g < w.heap.size := (Array.getElem?_eq_some_iff.1 hb).1
        have hrow : (w.setRow g (cur.toList.take (off + xs.length * d.sz) ++ news ++ cur.toList.drop (off + xs.length * d.sz + news.length)).toArray).heap[g]? = some (.cells (cur.toList.take (off + xs.length * d.sz) ++ news ++ cur.toList.drop (off + xs.length * d.sz + news.length)).toArray E (0, 0)) := by
          exact setRow_heap w g cur _ E (0, 0) hb
        have hoth : ∀ b, K b → b < w.heap.size → (w.setRow g (cur.toList.take (off + xs.length * d.sz) ++ news ++ cur.toList.drop (off + xs.length * d.sz + news.length)).toArray).heap[b]? = w.heap[b]? := by
          intro b hKb hbl
          have := hKg b hKb hbl
          simp only [World.setRow, Array.getElem?_modify]
          rw [if_neg (by omega)]
        refine ⟨_, c, by rw [List.length_append], by rw [List.length_append]; exact hroom, h3, fun _ => ⟨off, _, cs ++ news, rfl, hrow, ?_, ?_, ?_⟩⟩
        · simp only [List.size_toArray, List.length_append, List.length_take, List.length_drop, Array.length_toList]; omega
        · exact ((hf.append hnf).mono (fun b hb hl => ⟨hb, hl⟩)).step (fun b hb _ => hoth b hb.1 hb.2)
        · intro j u hj
          rw [getElem?_set_range _ _ _ hfit]
          by_cases hj1 : j < cs.length
          · rw [List.getElem?_append_left hj1] at hj
            rw [if_pos (by rw [← hf.1]; omega)]
            exact hc j u hj
          · rw [List.getElem?_append_right (by omega)] at hj
            have hj2 : j - cs.length < news.length := (List.getElem?_eq_some_iff.1 hj).1
            rw [if_neg (by rw [← hf.1]; omega), if_pos (by rw [← hf.1]; omega), ← hj, ← hf.1]
            congr 1; omega
      · refine ⟨rfl, rfl, rfl, by simp [World.setRow], fun k hk hn => ?_⟩
        simp only [World.setRow, Array.getElem?_modify]
        rw [if_neg (fun e => hn ⟨e.symm, hc0⟩)]
  · -- a new block
    obtain ⟨olds, hof, hor⟩ : ∃ olds, d.Flat K w xs olds ∧ (Builtin.firstCells d.sz xs.length (.slice A xs.length c)).run P w.drew = .ok olds.toArray w.drew := by
      by_cases hc0 : c = 0
      · have hx0 : xs = [] := List.eq_nil_of_length_eq_zero (by omega)
        subst hx0
        refine ⟨[], Flat.nil d K w, ?_⟩
        cases A <;> simp [Builtin.firstCells, loadCells, loadCellsFrom]
      · obtain ⟨off, cur, cs, rfl, hb, hle, hf, hc⟩ := h4 hc0
        exact ⟨cs, hf, run_firstCells_some w.drew d.sz xs.length ⟨g, off, none⟩ xs.length c cs hf.1 (fun j u hj => by rw [Addr.add_lit]; exact cell_of_cur hb (hc j u hj))⟩
    have hol := hof.1
    let cap := grownCap w (xs.length + ys.length) c E
    have hge : xs.length + ys.length ≤ cap := grownCap_ge w (xs.length + ys.length) c E
    have hcm : cap ≤ maxLen := grownCap_le_maxLen w (xs.length + ys.length) c E (by simp only [maxLen]; omega)
    have hfits := growslice_fits (Nat.lt_of_not_le hroom) hbytes
    refine ⟨.slice (some ⟨w.heap.size, 0, none⟩) (xs.length + ys.length) cap, w.drew.alloc (.cells (olds.toArray ++ news.toArray ++ Builtin.zeroCells z.cells (cap - (xs.length + ys.length))) E), w.heap.size, ?_, ?_, ?_, .inr ⟨rfl, by simp⟩⟩
    · exact run_append_grow_any (P := P) (w := w) t t' ty E i z ht ht' hi hz A xs.length c olds B ys.length cy news (by rw [hsize]; exact hor) (by rw [hsize]; exact hnr 1) (Nat.lt_of_not_le hroom) (by omega) hfits
    · have hnew : (w.drew.alloc (.cells (olds.toArray ++ news.toArray ++ Builtin.zeroCells z.cells (cap - (xs.length + ys.length))) E)).heap[w.heap.size]? = some (.cells (olds.toArray ++ news.toArray ++ Builtin.zeroCells z.cells (cap - (xs.length + ys.length))) E (0, 0)) := heap_alloc_new w.drew _
      refine ⟨_, cap, by rw [List.length_append], by rw [List.length_append]; exact hge, hcm, fun _ => ⟨0, _, olds ++ news, rfl, hnew, ?_, ?_, ?_⟩⟩
      · simp only [Array.size_append, List.size_toArray, size_zeroCells, hzs, hol, hnl, Nat.zero_add, ← Nat.add_mul]
        exact Nat.le_of_eq (by congr 1; omega)
      · exact ((hof.append hnf).mono (fun b hb hl => ⟨hb, hl⟩)).step (fun b hb _ => Below.heap_alloc w.drew _ b hb.2)
      · intro j u hj
        have hjl := (List.getElem?_eq_some_iff.1 hj).1
        rw [Nat.zero_add, Array.getElem?_append_left (by simpa using hjl)]
        simpa using hj
    · exact ⟨rfl, rfl, rfl, by simp, fun k hk _ => Below.heap_alloc w.drew _ k hk⟩
theorem run_append_none {P : Program} {w : World} (t t' ty e : TypeId) (i : TypeInfo) (ht : P.underlying t = some (.slice e)) {E' : TypeId} (ht' : P.underlying t' = some (.slice E')) (hi : P.info? e = some i) (A : Option Addr) (n c : Nat) (hle : n ≤ c) (B : Option Addr) (cy : Nat) :
    (Builtin.append_ #[t, t'] ty #[.slice A n c, .slice B 0 cy]).run P w = .ok (.slice A n c) w := by
  have hf : (Builtin.firstCells i.size 0 (.slice B 0 cy)).run P w = .ok #[] w := by cases B <;> simp [Builtin.firstCells, loadCells, loadCellsFrom]
  cases A <;> simp [Builtin.append_, run_underlying ht, run_underlying ht', sizeOf, typeInfo, hi, Builtin.lenOf, hle, hf, storeCells]

theorem Src.mono {α : Type} {e : Enc α} {K K' : Nat → Prop} {w : World} {v : Value} {xs : List α} (h : e.Src K w v xs) (hk : ∀ b, K b → b < w.heap.size → K' b) : e.Src K' w v xs := by
  obtain ⟨A, c, rfl, h1, h2, h3⟩ := h
  exact ⟨A, c, rfl, h1, h2, fun hx => by obtain ⟨b, off, e, ha⟩ := h3 hx; exact ⟨b, off, e, ha.mono hk⟩⟩
theorem Spine.empty {α : Type} {e : Enc α} {E : TypeId} {K K' : Nat → Prop} {g g' : Nat} {w w' : World} {v : Value} {xs : List α} (h : e.Spine E K g w v xs) (hc : capOf v = 0) : e.Spine E K' g' w' v xs := by
  obtain ⟨A, c, rfl, h1, h2, _⟩ := h
  exact ⟨A, c, rfl, h1, h2, fun h => absurd hc h⟩

/-- A row that a function builds: its blocks lie from hi on; its own block may lie below lo while nothing was appended. -/
structure Out {α : Type} (d : Enc α) (E : TypeId) (lo hi g : Nat) (w : World) (v : Value) (xs : List α) : Prop where
  sp : d.Spine E (fun b => hi ≤ b ∧ b ≠ g) g w v xs
  lt : g < w.heap.size
  off : g < lo ∨ hi ≤ g
  cap : capOf v ≠ 0 → hi ≤ g
theorem Out.start {α : Type} (d : Enc α) (E : TypeId) {lo hi g : Nat} {w : World} (hl : lo ≤ w.heap.size) (hg : g < lo) : d.Out E lo hi g w (.slice none 0 0) [] :=
  ⟨Spine.nil _ _ _ _ _, by omega, .inl hg, fun h => absurd rfl h⟩
theorem Out.step {α : Type} {d : Enc α} {E : TypeId} {lo hi g : Nat} {w w' : World} {v : Value} {xs : List α} (h : d.Out E lo hi g w v xs) (hb : ∀ b, hi ≤ b → b < w.heap.size → w'.heap[b]? = w.heap[b]?) (hs : w.heap.size ≤ w'.heap.size) : d.Out E lo hi g w' v xs := by
  refine ⟨?_, by have := h.lt; omega, h.off, h.cap⟩
  by_cases hc : capOf v = 0
  · exact h.sp.empty hc
  · exact h.sp.step (fun cur hcur => (hb g (h.cap hc) h.lt).trans hcur) (fun b hk hl => ⟨hk, hb b hk.1 hl⟩)
theorem Out.below {α : Type} {d : Enc α} {E : TypeId} {lo hi g : Nat} {w w' : World} {v : Value} {xs : List α} (h : d.Out E lo hi g w v xs) (hb : Below w.heap.size w w') : d.Out E lo hi g w' v xs :=
  h.step (fun b _ hl => hb.block b hl) hb.size
theorem Out.next {α : Type} {d : Enc α} {E : TypeId} {lo hi g g2 : Nat} {w w2 : World} {v v2 : Value} {xs zs : List α} (h : d.Out E lo hi g w v xs) (hs : d.Spine E (fun b => (hi ≤ b ∧ b ≠ g) ∧ b < w.heap.size) g2 w2 v2 zs)
    (hg : Grew g w w2 v v2 g2) (hi' : hi ≤ w.heap.size) : d.Out E lo hi g2 w2 v2 zs := by
  have hl := h.lt
  rcases hg with ⟨rfl, h2, h3⟩ | ⟨rfl, h2⟩
  · exact ⟨hs.mono (fun b hb _ => hb.1), by omega, h.off, fun hc => h.cap (by rwa [h3] at hc)⟩
  · exact ⟨hs.mono (fun b hb _ => ⟨hb.1.1, by omega⟩), by omega, .inr hi', fun _ => hi'⟩
theorem Out.row {α : Type} {d : Enc α} {E : TypeId} {lo hi g : Nat} {w : World} {v : Value} {xs : List α} (h : d.Out E lo hi g w v xs) : d.Row (fun b => hi ≤ b) w v xs := by
  by_cases hc : capOf v = 0
  · obtain ⟨A, c, rfl, h1, h2, _⟩ := h.sp
    have hc' : c = 0 := hc
    exact ⟨A, c, rfl, h1, h2, fun hx => absurd (List.eq_nil_of_length_eq_zero (by omega)) hx⟩
  · exact h.sp.row (fun b hb _ => hb.1) (h.cap hc)
end Enc
end Go.Proofs.Ytidilpciolladaa

/- A world that has more blocks, told so that the walk sees the elder ones. -/
namespace Go.Proofs.Ytidilpciolladaa
open Go.RowKit

/-- W, with more blocks behind its own, and another count of draws. -/
def more (W : World) (e : Array Obj) (d : Nat) : World := { W with heap := W.heap ++ e, drawn := d }

theorem more_of {W w : World} (h : Below W.heap.size W w) : ∃ e d, w = more W e d := by
  refine ⟨w.heap.extract W.heap.size w.heap.size, w.drawn, ?_⟩
  have hh : w.heap = W.heap ++ w.heap.extract W.heap.size w.heap.size := by
    apply Array.ext_getElem?
    intro i
    by_cases hi : i < W.heap.size
    · rw [Array.getElem?_append_left hi]; exact h.block i hi
    · rw [Array.getElem?_append_right (by omega), Array.getElem?_extract]
      have := h.size
      split
      · congr 1; omega
      · rw [Array.getElem?_eq_none (by omega)]
  have h1 := h.os
  have h2 := h.tape
  have h3 := h.output
  cases w
  simp only [more] at *
  subst h1; subst h2; subst h3
  rw [← hh]

@[go_sem] theorem more_size (W : World) (e : Array Obj) (d : Nat) : (more W e d).heap.size = W.heap.size + e.size := by simp [more]
theorem more_heap {W : World} {e : Array Obj} {d : Nat} {b : Nat} (h : b < W.heap.size) : (more W e d).heap[b]? = W.heap[b]? := by
  simp only [more]; rw [Array.getElem?_append_left h]
@[go_sem] theorem more_cell {W : World} {e : Array Obj} {d : Nat} {b o : Nat} {s : Option Nat} (h : b < W.heap.size) : (more W e d).cell? ⟨b, o, s⟩ = W.cell? ⟨b, o, s⟩ := World.cell?_of_block (w := W) (more_heap h)
@[go_sem] theorem more_frozen {W : World} {e : Array Obj} {d : Nat} {b o : Nat} {s : Option Nat} (h : b < W.heap.size) : (more W e d).frozen? ⟨b, o, s⟩ = W.frozen? ⟨b, o, s⟩ := World.frozen?_of_block (w := W) (more_heap h)
@[go_sem] theorem more_setCell {W : World} {e : Array Obj} {d : Nat} {b o : Nat} {s : Option Nat} {v : Value} (h : b < W.heap.size) : (more W e d).setCell ⟨b, o, s⟩ v = more (W.setCell ⟨b, o, s⟩ v) e d := by
  simp only [more, World.setCell]
  congr 1
  apply Array.ext_getElem?
  intro i
  by_cases hi : i < W.heap.size
  · rw [Array.getElem?_append_left (by simpa using hi), Array.getElem?_modify, Array.getElem?_modify, Array.getElem?_append_left hi]
  · rw [Array.getElem?_append_right (by simpa using hi), Array.getElem?_modify, if_neg (by omega), Array.getElem?_append_right (by omega), Array.size_modify]
@[go_sem] theorem lt_ks1 {d n k0 : Nat} (h : d < n) : (d < n + k0) = True := by simp only [eq_iff_iff, iff_true]; omega
@[go_sem] theorem ne_ks1 {d n k0 : Nat} (h : d < n) : (n + k0 = d) = False := by simp only [eq_iff_iff, iff_false]; omega
@[go_sem] theorem ne_kr1 {d n k0 : Nat} (h : d < n) : (d = n + k0) = False := by simp only [eq_iff_iff, iff_false]; omega
@[go_sem] theorem lt_ks2 {d n k0 k1 : Nat} (h : d < n) : (d < n + k0 + k1) = True := by simp only [eq_iff_iff, iff_true]; omega
@[go_sem] theorem ne_ks2 {d n k0 k1 : Nat} (h : d < n) : (n + k0 + k1 = d) = False := by simp only [eq_iff_iff, iff_false]; omega
@[go_sem] theorem ne_kr2 {d n k0 k1 : Nat} (h : d < n) : (d = n + k0 + k1) = False := by simp only [eq_iff_iff, iff_false]; omega
@[go_sem] theorem lt_ks3 {d n k0 k1 k2 : Nat} (h : d < n) : (d < n + k0 + k1 + k2) = True := by simp only [eq_iff_iff, iff_true]; omega
@[go_sem] theorem ne_ks3 {d n k0 k1 k2 : Nat} (h : d < n) : (n + k0 + k1 + k2 = d) = False := by simp only [eq_iff_iff, iff_false]; omega
@[go_sem] theorem ne_kr3 {d n k0 k1 k2 : Nat} (h : d < n) : (d = n + k0 + k1 + k2) = False := by simp only [eq_iff_iff, iff_false]; omega
@[go_sem] theorem lt_ks4 {d n k0 k1 k2 k3 : Nat} (h : d < n) : (d < n + k0 + k1 + k2 + k3) = True := by simp only [eq_iff_iff, iff_true]; omega
@[go_sem] theorem ne_ks4 {d n k0 k1 k2 k3 : Nat} (h : d < n) : (n + k0 + k1 + k2 + k3 = d) = False := by simp only [eq_iff_iff, iff_false]; omega
@[go_sem] theorem ne_kr4 {d n k0 k1 k2 k3 : Nat} (h : d < n) : (d = n + k0 + k1 + k2 + k3) = False := by simp only [eq_iff_iff, iff_false]; omega
@[go_sem] theorem lt_ks5 {d n k0 k1 k2 k3 k4 : Nat} (h : d < n) : (d < n + k0 + k1 + k2 + k3 + k4) = True := by simp only [eq_iff_iff, iff_true]; omega
@[go_sem] theorem ne_ks5 {d n k0 k1 k2 k3 k4 : Nat} (h : d < n) : (n + k0 + k1 + k2 + k3 + k4 = d) = False := by simp only [eq_iff_iff, iff_false]; omega
@[go_sem] theorem ne_kr5 {d n k0 k1 k2 k3 k4 : Nat} (h : d < n) : (d = n + k0 + k1 + k2 + k3 + k4) = False := by simp only [eq_iff_iff, iff_false]; omega
@[go_sem] theorem lt_ks6 {d n k0 k1 k2 k3 k4 k5 : Nat} (h : d < n) : (d < n + k0 + k1 + k2 + k3 + k4 + k5) = True := by simp only [eq_iff_iff, iff_true]; omega
@[go_sem] theorem ne_ks6 {d n k0 k1 k2 k3 k4 k5 : Nat} (h : d < n) : (n + k0 + k1 + k2 + k3 + k4 + k5 = d) = False := by simp only [eq_iff_iff, iff_false]; omega
@[go_sem] theorem ne_kr6 {d n k0 k1 k2 k3 k4 k5 : Nat} (h : d < n) : (d = n + k0 + k1 + k2 + k3 + k4 + k5) = False := by simp only [eq_iff_iff, iff_false]; omega
@[go_sem] theorem lt_ks7 {d n k0 k1 k2 k3 k4 k5 k6 : Nat} (h : d < n) : (d < n + k0 + k1 + k2 + k3 + k4 + k5 + k6) = True := by simp only [eq_iff_iff, iff_true]; omega
@[go_sem] theorem ne_ks7 {d n k0 k1 k2 k3 k4 k5 k6 : Nat} (h : d < n) : (n + k0 + k1 + k2 + k3 + k4 + k5 + k6 = d) = False := by simp only [eq_iff_iff, iff_false]; omega
@[go_sem] theorem ne_kr7 {d n k0 k1 k2 k3 k4 k5 k6 : Nat} (h : d < n) : (d = n + k0 + k1 + k2 + k3 + k4 + k5 + k6) = False := by simp only [eq_iff_iff, iff_false]; omega
@[go_sem] theorem lt_ks8 {d n k0 k1 k2 k3 k4 k5 k6 k7 : Nat} (h : d < n) : (d < n + k0 + k1 + k2 + k3 + k4 + k5 + k6 + k7) = True := by simp only [eq_iff_iff, iff_true]; omega
@[go_sem] theorem ne_ks8 {d n k0 k1 k2 k3 k4 k5 k6 k7 : Nat} (h : d < n) : (n + k0 + k1 + k2 + k3 + k4 + k5 + k6 + k7 = d) = False := by simp only [eq_iff_iff, iff_false]; omega
@[go_sem] theorem ne_kr8 {d n k0 k1 k2 k3 k4 k5 k6 k7 : Nat} (h : d < n) : (d = n + k0 + k1 + k2 + k3 + k4 + k5 + k6 + k7) = False := by simp only [eq_iff_iff, iff_false]; omega
@[go_sem] theorem lt_ks9 {d n k0 k1 k2 k3 k4 k5 k6 k7 k8 : Nat} (h : d < n) : (d < n + k0 + k1 + k2 + k3 + k4 + k5 + k6 + k7 + k8) = True := by simp only [eq_iff_iff, iff_true]; omega
@[go_sem] theorem ne_ks9 {d n k0 k1 k2 k3 k4 k5 k6 k7 k8 : Nat} (h : d < n) : (n + k0 + k1 + k2 + k3 + k4 + k5 + k6 + k7 + k8 = d) = False := by simp only [eq_iff_iff, iff_false]; omega
@[go_sem] theorem ne_kr9 {d n k0 k1 k2 k3 k4 k5 k6 k7 k8 : Nat} (h : d < n) : (d = n + k0 + k1 + k2 + k3 + k4 + k5 + k6 + k7 + k8) = False := by simp only [eq_iff_iff, iff_false]; omega
@[go_sem] theorem lt_ks10 {d n k0 k1 k2 k3 k4 k5 k6 k7 k8 k9 : Nat} (h : d < n) : (d < n + k0 + k1 + k2 + k3 + k4 + k5 + k6 + k7 + k8 + k9) = True := by simp only [eq_iff_iff, iff_true]; omega
@[go_sem] theorem ne_ks10 {d n k0 k1 k2 k3 k4 k5 k6 k7 k8 k9 : Nat} (h : d < n) : (n + k0 + k1 + k2 + k3 + k4 + k5 + k6 + k7 + k8 + k9 = d) = False := by simp only [eq_iff_iff, iff_false]; omega
@[go_sem] theorem ne_kr10 {d n k0 k1 k2 k3 k4 k5 k6 k7 k8 k9 : Nat} (h : d < n) : (d = n + k0 + k1 + k2 + k3 + k4 + k5 + k6 + k7 + k8 + k9) = False := by simp only [eq_iff_iff, iff_false]; omega
@[go_sem] theorem lt_ks11 {d n k0 k1 k2 k3 k4 k5 k6 k7 k8 k9 k10 : Nat} (h : d < n) : (d < n + k0 + k1 + k2 + k3 + k4 + k5 + k6 + k7 + k8 + k9 + k10) = True := by simp only [eq_iff_iff, iff_true]; omega
@[go_sem] theorem ne_ks11 {d n k0 k1 k2 k3 k4 k5 k6 k7 k8 k9 k10 : Nat} (h : d < n) : (n + k0 + k1 + k2 + k3 + k4 + k5 + k6 + k7 + k8 + k9 + k10 = d) = False := by simp only [eq_iff_iff, iff_false]; omega
@[go_sem] theorem ne_kr11 {d n k0 k1 k2 k3 k4 k5 k6 k7 k8 k9 k10 : Nat} (h : d < n) : (d = n + k0 + k1 + k2 + k3 + k4 + k5 + k6 + k7 + k8 + k9 + k10) = False := by simp only [eq_iff_iff, iff_false]; omega
@[go_sem] theorem lt_ks12 {d n k0 k1 k2 k3 k4 k5 k6 k7 k8 k9 k10 k11 : Nat} (h : d < n) : (d < n + k0 + k1 + k2 + k3 + k4 + k5 + k6 + k7 + k8 + k9 + k10 + k11) = True := by simp only [eq_iff_iff, iff_true]; omega
@[go_sem] theorem ne_ks12 {d n k0 k1 k2 k3 k4 k5 k6 k7 k8 k9 k10 k11 : Nat} (h : d < n) : (n + k0 + k1 + k2 + k3 + k4 + k5 + k6 + k7 + k8 + k9 + k10 + k11 = d) = False := by simp only [eq_iff_iff, iff_false]; omega
@[go_sem] theorem ne_kr12 {d n k0 k1 k2 k3 k4 k5 k6 k7 k8 k9 k10 k11 : Nat} (h : d < n) : (d = n + k0 + k1 + k2 + k3 + k4 + k5 + k6 + k7 + k8 + k9 + k10 + k11) = False := by simp only [eq_iff_iff, iff_false]; omega
@[go_sem] theorem lt_ks13 {d n k0 k1 k2 k3 k4 k5 k6 k7 k8 k9 k10 k11 k12 : Nat} (h : d < n) : (d < n + k0 + k1 + k2 + k3 + k4 + k5 + k6 + k7 + k8 + k9 + k10 + k11 + k12) = True := by simp only [eq_iff_iff, iff_true]; omega
@[go_sem] theorem ne_ks13 {d n k0 k1 k2 k3 k4 k5 k6 k7 k8 k9 k10 k11 k12 : Nat} (h : d < n) : (n + k0 + k1 + k2 + k3 + k4 + k5 + k6 + k7 + k8 + k9 + k10 + k11 + k12 = d) = False := by simp only [eq_iff_iff, iff_false]; omega
@[go_sem] theorem ne_kr13 {d n k0 k1 k2 k3 k4 k5 k6 k7 k8 k9 k10 k11 k12 : Nat} (h : d < n) : (d = n + k0 + k1 + k2 + k3 + k4 + k5 + k6 + k7 + k8 + k9 + k10 + k11 + k12) = False := by simp only [eq_iff_iff, iff_false]; omega
@[go_sem] theorem lt_ks14 {d n k0 k1 k2 k3 k4 k5 k6 k7 k8 k9 k10 k11 k12 k13 : Nat} (h : d < n) : (d < n + k0 + k1 + k2 + k3 + k4 + k5 + k6 + k7 + k8 + k9 + k10 + k11 + k12 + k13) = True := by simp only [eq_iff_iff, iff_true]; omega
@[go_sem] theorem ne_ks14 {d n k0 k1 k2 k3 k4 k5 k6 k7 k8 k9 k10 k11 k12 k13 : Nat} (h : d < n) : (n + k0 + k1 + k2 + k3 + k4 + k5 + k6 + k7 + k8 + k9 + k10 + k11 + k12 + k13 = d) = False := by simp only [eq_iff_iff, iff_false]; omega
@[go_sem] theorem ne_kr14 {d n k0 k1 k2 k3 k4 k5 k6 k7 k8 k9 k10 k11 k12 k13 : Nat} (h : d < n) : (d = n + k0 + k1 + k2 + k3 + k4 + k5 + k6 + k7 + k8 + k9 + k10 + k11 + k12 + k13) = False := by simp only [eq_iff_iff, iff_false]; omega
@[go_sem] theorem lt_ks15 {d n k0 k1 k2 k3 k4 k5 k6 k7 k8 k9 k10 k11 k12 k13 k14 : Nat} (h : d < n) : (d < n + k0 + k1 + k2 + k3 + k4 + k5 + k6 + k7 + k8 + k9 + k10 + k11 + k12 + k13 + k14) = True := by simp only [eq_iff_iff, iff_true]; omega
@[go_sem] theorem ne_ks15 {d n k0 k1 k2 k3 k4 k5 k6 k7 k8 k9 k10 k11 k12 k13 k14 : Nat} (h : d < n) : (n + k0 + k1 + k2 + k3 + k4 + k5 + k6 + k7 + k8 + k9 + k10 + k11 + k12 + k13 + k14 = d) = False := by simp only [eq_iff_iff, iff_false]; omega
@[go_sem] theorem ne_kr15 {d n k0 k1 k2 k3 k4 k5 k6 k7 k8 k9 k10 k11 k12 k13 k14 : Nat} (h : d < n) : (d = n + k0 + k1 + k2 + k3 + k4 + k5 + k6 + k7 + k8 + k9 + k10 + k11 + k12 + k13 + k14) = False := by simp only [eq_iff_iff, iff_false]; omega
@[go_sem] theorem n_lt0 {n : Nat} : (n < n + 1) = True := by simp only [eq_iff_iff, iff_true]; omega
@[go_sem] theorem n_ne0 {n : Nat} : (n = n + 1) = False := by simp only [eq_iff_iff, iff_false]; omega
@[go_sem] theorem n_nf0 {n : Nat} : (n + 1 = n) = False := by simp only [eq_iff_iff, iff_false]; omega
@[go_sem] theorem n_lt1 {n k0 : Nat} : (n < n + 1 + k0) = True := by simp only [eq_iff_iff, iff_true]; omega
@[go_sem] theorem n_ne1 {n k0 : Nat} : (n = n + 1 + k0) = False := by simp only [eq_iff_iff, iff_false]; omega
@[go_sem] theorem n_nf1 {n k0 : Nat} : (n + 1 + k0 = n) = False := by simp only [eq_iff_iff, iff_false]; omega
@[go_sem] theorem n_lt2 {n k0 k1 : Nat} : (n < n + 1 + k0 + k1) = True := by simp only [eq_iff_iff, iff_true]; omega
@[go_sem] theorem n_ne2 {n k0 k1 : Nat} : (n = n + 1 + k0 + k1) = False := by simp only [eq_iff_iff, iff_false]; omega
@[go_sem] theorem n_nf2 {n k0 k1 : Nat} : (n + 1 + k0 + k1 = n) = False := by simp only [eq_iff_iff, iff_false]; omega
@[go_sem] theorem n_lt3 {n k0 k1 k2 : Nat} : (n < n + 1 + k0 + k1 + k2) = True := by simp only [eq_iff_iff, iff_true]; omega
@[go_sem] theorem n_ne3 {n k0 k1 k2 : Nat} : (n = n + 1 + k0 + k1 + k2) = False := by simp only [eq_iff_iff, iff_false]; omega
@[go_sem] theorem n_nf3 {n k0 k1 k2 : Nat} : (n + 1 + k0 + k1 + k2 = n) = False := by simp only [eq_iff_iff, iff_false]; omega
@[go_sem] theorem n_lt4 {n k0 k1 k2 k3 : Nat} : (n < n + 1 + k0 + k1 + k2 + k3) = True := by simp only [eq_iff_iff, iff_true]; omega
@[go_sem] theorem n_ne4 {n k0 k1 k2 k3 : Nat} : (n = n + 1 + k0 + k1 + k2 + k3) = False := by simp only [eq_iff_iff, iff_false]; omega
@[go_sem] theorem n_nf4 {n k0 k1 k2 k3 : Nat} : (n + 1 + k0 + k1 + k2 + k3 = n) = False := by simp only [eq_iff_iff, iff_false]; omega
@[go_sem] theorem n_lt5 {n k0 k1 k2 k3 k4 : Nat} : (n < n + 1 + k0 + k1 + k2 + k3 + k4) = True := by simp only [eq_iff_iff, iff_true]; omega
@[go_sem] theorem n_ne5 {n k0 k1 k2 k3 k4 : Nat} : (n = n + 1 + k0 + k1 + k2 + k3 + k4) = False := by simp only [eq_iff_iff, iff_false]; omega
@[go_sem] theorem n_nf5 {n k0 k1 k2 k3 k4 : Nat} : (n + 1 + k0 + k1 + k2 + k3 + k4 = n) = False := by simp only [eq_iff_iff, iff_false]; omega
@[go_sem] theorem n_lt6 {n k0 k1 k2 k3 k4 k5 : Nat} : (n < n + 1 + k0 + k1 + k2 + k3 + k4 + k5) = True := by simp only [eq_iff_iff, iff_true]; omega
@[go_sem] theorem n_ne6 {n k0 k1 k2 k3 k4 k5 : Nat} : (n = n + 1 + k0 + k1 + k2 + k3 + k4 + k5) = False := by simp only [eq_iff_iff, iff_false]; omega
@[go_sem] theorem n_nf6 {n k0 k1 k2 k3 k4 k5 : Nat} : (n + 1 + k0 + k1 + k2 + k3 + k4 + k5 = n) = False := by simp only [eq_iff_iff, iff_false]; omega
@[go_sem] theorem n_lt7 {n k0 k1 k2 k3 k4 k5 k6 : Nat} : (n < n + 1 + k0 + k1 + k2 + k3 + k4 + k5 + k6) = True := by simp only [eq_iff_iff, iff_true]; omega
@[go_sem] theorem n_ne7 {n k0 k1 k2 k3 k4 k5 k6 : Nat} : (n = n + 1 + k0 + k1 + k2 + k3 + k4 + k5 + k6) = False := by simp only [eq_iff_iff, iff_false]; omega
@[go_sem] theorem n_nf7 {n k0 k1 k2 k3 k4 k5 k6 : Nat} : (n + 1 + k0 + k1 + k2 + k3 + k4 + k5 + k6 = n) = False := by simp only [eq_iff_iff, iff_false]; omega
@[go_sem] theorem n_lt8 {n k0 k1 k2 k3 k4 k5 k6 k7 : Nat} : (n < n + 1 + k0 + k1 + k2 + k3 + k4 + k5 + k6 + k7) = True := by simp only [eq_iff_iff, iff_true]; omega
@[go_sem] theorem n_ne8 {n k0 k1 k2 k3 k4 k5 k6 k7 : Nat} : (n = n + 1 + k0 + k1 + k2 + k3 + k4 + k5 + k6 + k7) = False := by simp only [eq_iff_iff, iff_false]; omega
@[go_sem] theorem n_nf8 {n k0 k1 k2 k3 k4 k5 k6 k7 : Nat} : (n + 1 + k0 + k1 + k2 + k3 + k4 + k5 + k6 + k7 = n) = False := by simp only [eq_iff_iff, iff_false]; omega
@[go_sem] theorem n_lt9 {n k0 k1 k2 k3 k4 k5 k6 k7 k8 : Nat} : (n < n + 1 + k0 + k1 + k2 + k3 + k4 + k5 + k6 + k7 + k8) = True := by simp only [eq_iff_iff, iff_true]; omega
@[go_sem] theorem n_ne9 {n k0 k1 k2 k3 k4 k5 k6 k7 k8 : Nat} : (n = n + 1 + k0 + k1 + k2 + k3 + k4 + k5 + k6 + k7 + k8) = False := by simp only [eq_iff_iff, iff_false]; omega
@[go_sem] theorem n_nf9 {n k0 k1 k2 k3 k4 k5 k6 k7 k8 : Nat} : (n + 1 + k0 + k1 + k2 + k3 + k4 + k5 + k6 + k7 + k8 = n) = False := by simp only [eq_iff_iff, iff_false]; omega
@[go_sem] theorem n_lt10 {n k0 k1 k2 k3 k4 k5 k6 k7 k8 k9 : Nat} : (n < n + 1 + k0 + k1 + k2 + k3 + k4 + k5 + k6 + k7 + k8 + k9) = True := by simp only [eq_iff_iff, iff_true]; omega
@[go_sem] theorem n_ne10 {n k0 k1 k2 k3 k4 k5 k6 k7 k8 k9 : Nat} : (n = n + 1 + k0 + k1 + k2 + k3 + k4 + k5 + k6 + k7 + k8 + k9) = False := by simp only [eq_iff_iff, iff_false]; omega
@[go_sem] theorem n_nf10 {n k0 k1 k2 k3 k4 k5 k6 k7 k8 k9 : Nat} : (n + 1 + k0 + k1 + k2 + k3 + k4 + k5 + k6 + k7 + k8 + k9 = n) = False := by simp only [eq_iff_iff, iff_false]; omega
@[go_sem] theorem n_lt11 {n k0 k1 k2 k3 k4 k5 k6 k7 k8 k9 k10 : Nat} : (n < n + 1 + k0 + k1 + k2 + k3 + k4 + k5 + k6 + k7 + k8 + k9 + k10) = True := by simp only [eq_iff_iff, iff_true]; omega
@[go_sem] theorem n_ne11 {n k0 k1 k2 k3 k4 k5 k6 k7 k8 k9 k10 : Nat} : (n = n + 1 + k0 + k1 + k2 + k3 + k4 + k5 + k6 + k7 + k8 + k9 + k10) = False := by simp only [eq_iff_iff, iff_false]; omega
@[go_sem] theorem n_nf11 {n k0 k1 k2 k3 k4 k5 k6 k7 k8 k9 k10 : Nat} : (n + 1 + k0 + k1 + k2 + k3 + k4 + k5 + k6 + k7 + k8 + k9 + k10 = n) = False := by simp only [eq_iff_iff, iff_false]; omega
@[go_sem] theorem n_lt12 {n k0 k1 k2 k3 k4 k5 k6 k7 k8 k9 k10 k11 : Nat} : (n < n + 1 + k0 + k1 + k2 + k3 + k4 + k5 + k6 + k7 + k8 + k9 + k10 + k11) = True := by simp only [eq_iff_iff, iff_true]; omega
@[go_sem] theorem n_ne12 {n k0 k1 k2 k3 k4 k5 k6 k7 k8 k9 k10 k11 : Nat} : (n = n + 1 + k0 + k1 + k2 + k3 + k4 + k5 + k6 + k7 + k8 + k9 + k10 + k11) = False := by simp only [eq_iff_iff, iff_false]; omega
@[go_sem] theorem n_nf12 {n k0 k1 k2 k3 k4 k5 k6 k7 k8 k9 k10 k11 : Nat} : (n + 1 + k0 + k1 + k2 + k3 + k4 + k5 + k6 + k7 + k8 + k9 + k10 + k11 = n) = False := by simp only [eq_iff_iff, iff_false]; omega
@[go_sem] theorem n_lt13 {n k0 k1 k2 k3 k4 k5 k6 k7 k8 k9 k10 k11 k12 : Nat} : (n < n + 1 + k0 + k1 + k2 + k3 + k4 + k5 + k6 + k7 + k8 + k9 + k10 + k11 + k12) = True := by simp only [eq_iff_iff, iff_true]; omega
@[go_sem] theorem n_ne13 {n k0 k1 k2 k3 k4 k5 k6 k7 k8 k9 k10 k11 k12 : Nat} : (n = n + 1 + k0 + k1 + k2 + k3 + k4 + k5 + k6 + k7 + k8 + k9 + k10 + k11 + k12) = False := by simp only [eq_iff_iff, iff_false]; omega
@[go_sem] theorem n_nf13 {n k0 k1 k2 k3 k4 k5 k6 k7 k8 k9 k10 k11 k12 : Nat} : (n + 1 + k0 + k1 + k2 + k3 + k4 + k5 + k6 + k7 + k8 + k9 + k10 + k11 + k12 = n) = False := by simp only [eq_iff_iff, iff_false]; omega
@[go_sem] theorem n_lt14 {n k0 k1 k2 k3 k4 k5 k6 k7 k8 k9 k10 k11 k12 k13 : Nat} : (n < n + 1 + k0 + k1 + k2 + k3 + k4 + k5 + k6 + k7 + k8 + k9 + k10 + k11 + k12 + k13) = True := by simp only [eq_iff_iff, iff_true]; omega
@[go_sem] theorem n_ne14 {n k0 k1 k2 k3 k4 k5 k6 k7 k8 k9 k10 k11 k12 k13 : Nat} : (n = n + 1 + k0 + k1 + k2 + k3 + k4 + k5 + k6 + k7 + k8 + k9 + k10 + k11 + k12 + k13) = False := by simp only [eq_iff_iff, iff_false]; omega
@[go_sem] theorem n_nf14 {n k0 k1 k2 k3 k4 k5 k6 k7 k8 k9 k10 k11 k12 k13 : Nat} : (n + 1 + k0 + k1 + k2 + k3 + k4 + k5 + k6 + k7 + k8 + k9 + k10 + k11 + k12 + k13 = n) = False := by simp only [eq_iff_iff, iff_false]; omega
@[go_sem] theorem ne_lt {d n : Nat} (h : d < n) : (n = d) = False := by simp only [eq_iff_iff, iff_false]; omega
@[go_sem] theorem ne_gt {d n : Nat} (h : d < n) : (d = n) = False := by simp only [eq_iff_iff, iff_false]; omega

/-- W, one block of which is another one. -/
def putB (W : World) (g : Nat) (o : Obj) : World := { W with heap := W.heap.setIfInBounds g o }
@[go_sem] theorem putB_size (W : World) (g : Nat) (o : Obj) : (putB W g o).heap.size = W.heap.size := by simp [putB]
theorem putB_heap {W : World} {g : Nat} {o : Obj} {b : Nat} (h : b ≠ g) : (putB W g o).heap[b]? = W.heap[b]? := by
  simp only [putB, Array.getElem?_setIfInBounds]; rw [if_neg (fun e => h e.symm)]
@[go_sem] theorem putB_cell {W : World} {g : Nat} {o : Obj} {b i : Nat} {s : Option Nat} (h : b ≠ g) : (putB W g o).cell? ⟨b, i, s⟩ = W.cell? ⟨b, i, s⟩ := World.cell?_of_block (w := W) (putB_heap h)
@[go_sem] theorem putB_frozen {W : World} {g : Nat} {o : Obj} {b i : Nat} {s : Option Nat} (h : b ≠ g) : (putB W g o).frozen? ⟨b, i, s⟩ = W.frozen? ⟨b, i, s⟩ := World.frozen?_of_block (w := W) (putB_heap h)
@[go_sem] theorem putB_setCell {W : World} {g : Nat} {o : Obj} {b i : Nat} {s : Option Nat} {v : Value} (h : b ≠ g) : (putB W g o).setCell ⟨b, i, s⟩ v = putB (W.setCell ⟨b, i, s⟩ v) g o := by
  simp only [putB, World.setCell]
  congr 1
  apply Array.ext_getElem?
  intro k
  simp only [Array.getElem?_modify, Array.getElem?_setIfInBounds, Array.size_modify]
  by_cases h1 : b = k
  · subst h1; rw [if_pos rfl, if_neg (fun e => h e.symm), if_pos rfl, if_neg (fun e => h e.symm)]
  · rw [if_neg h1]; by_cases h2 : g = k
    · simp [h2]
    · rw [if_neg h2, if_neg h2, if_neg h1]
@[go_sem] theorem putB_drew (W : World) (g : Nat) (o : Obj) : (putB W g o).drew = putB W.drew g o := rfl

theorem form_of {P : Prop} {g : Nat} {W w : World} (h : Ext (fun b => b = g ∧ P) W w) (hg : g < W.heap.size) : ∃ o e d, w = more (putB W g o) e d := by
  have hw : g < w.heap.size := Nat.lt_of_lt_of_le hg h.size
  obtain ⟨o, ho⟩ : ∃ o, w.heap[g]? = some o := ⟨_, Array.getElem?_eq_getElem hw⟩
  have hb : Below (putB W g o).heap.size (putB W g o) w := by
    refine ⟨h.os, h.tape, h.output, by rw [putB_size]; exact h.size, fun k hk => ?_⟩
    rw [putB_size] at hk
    by_cases hkg : k = g
    · subst hkg; rw [ho]; simp [putB, hg]
    · rw [h.block k hk (fun hs => hkg hs.1), putB_heap hkg]
  obtain ⟨e, d, hw⟩ := more_of hb
  exact ⟨o, e, d, hw⟩
theorem below_of_ext {P : Prop} {g : Nat} {W w : World} (h : Ext (fun b => b = g ∧ P) W w) (hn : ¬ P) : Below W.heap.size W w := h.below (fun _ _ hs => hn hs.2)
@[go_sem] theorem more_drew (W : World) (e : Array Obj) (d : Nat) : (more W e d).drew = more W e (d + 1) := rfl
@[go_sem] theorem more_drew_in (W : World) (e : Array Obj) (d : Nat) : more W.drew e d = more W e d := rfl
@[go_sem] theorem more_drewN_in (W : World) (n : Nat) (e : Array Obj) (d : Nat) : more (W.drewN n) e d = more W e d := rfl
theorem more_below (W : World) (e : Array Obj) (d : Nat) : Below W.heap.size W (more W e d) := ⟨rfl, rfl, rfl, by simp [more], fun _ h => more_heap h⟩
theorem below_more {B : Nat} {a W : World} (h : Below B a W) (hB : B ≤ W.heap.size) (e : Array Obj) (d : Nat) : Below B a (more W e d) := h.trans ((more_below W e d).mono hB)
theorem bl_mm {W : World} {e : Array Obj} {n m : Nat} : Below (more W e n).heap.size (more W e n) (more W e m) := ⟨rfl, rfl, rfl, Nat.le_refl _, fun _ _ => rfl⟩
theorem bl_al {a W : World} (h : Below a.heap.size a W) (o : Obj) : Below a.heap.size a (W.alloc o) := h.alloc h.size o
theorem bl_more {a W : World} (h : Below a.heap.size a W) (e : Array Obj) (d : Nat) : Below a.heap.size a (more W e d) := h.trans ((more_below W e d).mono h.size)
theorem bl_dr {a W : World} (h : Below a.heap.size a W) : Below a.heap.size a W.drew := h.drew
theorem bl_drN {a W : World} (h : Below a.heap.size a W) (n : Nat) : Below a.heap.size a (W.drewN n) := h.trans ⟨rfl, rfl, rfl, Nat.le_refl _, fun _ _ => rfl⟩
theorem below_dr {B : Nat} {a W : World} (h : Below B a W) : Below B a W.drew := h.drew
theorem below_al {B : Nat} {a W : World} (h : Below B a W) (o : Obj) (hB : B ≤ W.heap.size) : Below B a (W.alloc o) := h.alloc hB o
theorem more_swap {W W' : World} {e : Array Obj} {d d' b : Nat} (hs : W'.heap.size = W.heap.size) (hb : W.heap.size ≤ b) : (more W' e d').heap[b]? = (more W e d).heap[b]? := by
  simp only [more]; rw [Array.getElem?_append_right (by omega), Array.getElem?_append_right hb, hs]
theorem bl_then {a W w1 : World} (h : Below a.heap.size a W) (k : Below W.heap.size W w1) : Below a.heap.size a w1 := h.trans (k.mono h.size)
theorem cell_kept {w W : World} (h : Below w.heap.size w W) {a : Addr} {v : Value} (hc : w.cell? a = some v) : W.cell? a = some v := (h.cell (World.block_lt_of_cell? w a hc)).trans hc
theorem frz_kept {w W : World} (h : Below w.heap.size w W) {a : Addr} (hl : a.block < w.heap.size) (hc : w.frozen? a = false) : W.frozen? a = false := (h.frozen hl).trans hc
theorem ext_cell {S : Nat → Prop} {w W : World} (h : Ext S w W) {a : Addr} {v : Value} (hc : w.cell? a = some v) (hs : ¬ S a.block) : W.cell? a = some v := (World.cell?_of_block (w := w) (h.block _ (World.block_lt_of_cell? w a hc) hs)).trans hc
theorem ext_frz {S : Nat → Prop} {w W : World} (h : Ext S w W) {a : Addr} (hl : a.block < w.heap.size) (hc : w.frozen? a = false) (hs : ¬ S a.block) : W.frozen? a = false := (World.frozen?_of_block (w := w) (h.block _ hl hs)).trans hc
namespace Enc
theorem Row.one_blk {α : Type} {d : Enc α} {K : Nat → Prop} {w : World} {b : Nat} {cs : List Value} {t : TypeId} {fr : Nat × Nat} {x : α} (hb : w.heap[b]? = some (.cells cs.toArray t fr)) (hx : d.rd K w x cs) (hk : K b) : d.Row K w (.slice (some ⟨b, 0, none⟩) 1 1) [x] := by
  refine ⟨_, 1, rfl, Nat.le_refl _, by unfold maxLen; omega, fun _ => ⟨b, 0, rfl, hk, (Array.getElem?_eq_some_iff.1 hb).1, fun i hi => ?_⟩⟩
  obtain rfl : i = 0 := by simpa using hi
  refine ⟨cs, hx, fun j u hj => ?_⟩
  simp only [World.cell?, hb]
  simpa using hj
theorem At.below {α : Type} {d : Enc α} {K : Nat → Prop} {w W : World} {b off : Nat} {xs : List α} (h : d.At K w b off xs) (hb : Below w.heap.size w W) : d.At K W b off xs := by
  intro i hi
  obtain ⟨cs, h1, h2⟩ := h i hi
  exact ⟨cs, d.step (fun b _ hl => hb.block b hl) h1, fun j u hj => cell_kept hb (h2 j u hj)⟩
theorem Src.below {α : Type} {d : Enc α} {K : Nat → Prop} {w W : World} {v : Value} {xs : List α} (h : d.Src K w v xs) (hb : Below w.heap.size w W) : d.Src K W v xs := by
  obtain ⟨A, c, rfl, h1, h2, h3⟩ := h
  exact ⟨A, c, rfl, h1, h2, fun hx => by obtain ⟨b, off, e, ha⟩ := h3 hx; exact ⟨b, off, e, ha.below hb⟩⟩
theorem Row.swap {α : Type} {d : Enc α} {K : Nat → Prop} {W W' : World} {e : Array Obj} {n n' : Nat} {v : Value} {xs : List α} (h : d.Row K (more W e n) v xs) (hs : W'.heap.size = W.heap.size) (hk : ∀ b, K b → W.heap.size ≤ b) : d.Row K (more W' e n') v xs :=
  h.step (fun b hb _ => more_swap hs (hk b hb))
theorem Row.le {α : Type} {d : Enc α} {n m : Nat} {w : World} {v : Value} {xs : List α} (h : d.Row (fun b => n ≤ b) w v xs) (hm : m ≤ n) : d.Row (fun b => m ≤ b) w v xs := h.mono (fun _ hb _ => Nat.le_trans hm hb)
end Enc
end Go.Proofs.Ytidilpciolladaa

/- Rounds that append to a row. -/
namespace Go.Proofs.Ytidilpciolladaa
open Go.RowKit
namespace Enc
theorem Out.plain {α : Type} {d : Enc α} {E : TypeId} {lo hi g g3 : Nat} {w wr X W2 : World} {v v2 : Value} {xs zs : List α} (h : d.Out E lo hi g wr v xs) (hb : Below w.heap.size w wr) (hX : Below wr.heap.size wr X)
    (hs : d.Spine E (fun b => (hi ≤ b ∧ b ≠ g) ∧ b < X.heap.size) g3 W2 v2 zs) (he : Ext (fun b => b = g ∧ capOf v ≠ 0) X W2) (hg : Grew g X W2 v v2 g3) (hhi : hi ≤ wr.heap.size) (hlo : w.heap.size ≤ hi) :
    d.Out E lo hi g3 W2 v2 zs ∧ Below w.heap.size w W2 ∧ hi ≤ W2.heap.size := by
  have h1 := hX.size
  refine ⟨(h.below hX).next hs hg (by omega), ?_, by have := he.size; omega⟩
  exact (hb.trans (hX.mono hb.size)).trans (he.toBelow (by have := hb.size; omega) (fun x hx hxs => by have := h.cap hxs.2; omega))
theorem Out.round {α : Type} {d : Enc α} {E : TypeId} {lo hi g g3 M : Nat} {w wr X W2 : World} {v v2 : Value} {xs zs : List α} (h : d.Out E lo hi g wr v xs) (hb : Below w.heap.size w wr) (hX : Below wr.heap.size wr X)
    (hs : d.Spine E (fun b => (hi ≤ b ∧ b ≠ g) ∧ b < X.heap.size) g3 W2 v2 zs) (he : Ext (fun b => b = g ∧ capOf v ≠ 0) X W2) (hg : Grew g X W2 v v2 g3) (hhi : hi ≤ wr.heap.size) (hM : w.heap.size ≤ M) (hM' : M < hi) :
    d.Out E lo hi g3 (W2.setCell ⟨M, 0, none⟩ v2) v2 zs ∧ Below w.heap.size w (W2.setCell ⟨M, 0, none⟩ v2) ∧ hi ≤ (W2.setCell ⟨M, 0, none⟩ v2).heap.size := by
  obtain ⟨h1, h2, h3⟩ := h.plain hb hX hs he hg hhi (by omega)
  refine ⟨h1.step (fun b hb _ => Below.heap_setCell _ _ _ _ (fun e => by have : b = M := e; omega)) (by simp), ?_, by simpa using h3⟩
  exact h2.trans (Ext.toBelow (Ext.setCell (S := fun b => b = M) W2 ⟨M, 0, none⟩ v2 rfl) (by have := h2.size; omega) (fun x hx e => by omega))
end Enc
end Go.Proofs.Ytidilpciolladaa

/- Arguments of whatever type, opened into readings. -/
namespace Go.Proofs.Ytidilpciolladaa
open Go.RowKit

/-- What reads as a datum of the type t is told by d, and meets G. -/
def Opens {α : Type} (d : Enc α) (t : TypeId) (G : α → Prop) : Prop :=
  ∀ (H : Type) (enc : TypeId × Value → H) (w : World) (base : Nat) (spare : Nat → Bool) (held : Bool) (fuel : Nat) (cs : List Value) (x : DataW H × List MemPlace),
    DataW.trod enc Try.prog w base spare held fuel t cs = some x → ∃ a, G a ∧ d.rd (fun _ => True) w a cs
theorem Opens.int {k : IntKind} {t : TypeId} (ht : Try.prog.underlying t = some (.int k)) : Opens (Enc.int k) t (fun n => (Lit.int k n).wf = true) := by
  intro H enc w base spare held fuel cs x h
  obtain ⟨n, rfl, _, hw⟩ := DataW.trod_int ht h
  exact ⟨n, hw, rfl⟩
theorem Opens.bool {t : TypeId} (ht : Try.prog.underlying t = some .bool) : Opens Enc.bool t (fun _ => True) := by
  intro H enc w base spare held fuel cs x h
  obtain ⟨n, rfl, _⟩ := DataW.trod_bool ht h
  exact ⟨n, trivial, rfl⟩
theorem Opens.str {t : TypeId} (ht : Try.prog.underlying t = some .string) : Opens Enc.str t (fun s => s.size ≤ maxLen) := by
  intro H enc w base spare held fuel cs x h
  obtain ⟨n, rfl, _, hs⟩ := DataW.trod_string ht h
  exact ⟨n, hs, rfl⟩
theorem Opens.iso {α β : Type} {d : Enc α} {t : TypeId} {G : α → Prop} (h : Opens d t G) (f : β → α) (g : α → β) (hfg : ∀ a, f (g a) = a) : Opens (Enc.iso d f) t (fun b => G (f b)) := by
  intro H enc w base spare held fuel cs x hx
  obtain ⟨a, h1, h2⟩ := h H enc w base spare held fuel cs x hx
  exact ⟨g a, by show G (f (g a)); rw [hfg]; exact h1, by show d.rd _ w (f (g a)) cs; rw [hfg]; exact h2⟩
theorem list_of {α : Type} {p : Nat → α → Prop} : ∀ (n : Nat), (∀ i, i < n → ∃ a, p i a) → ∃ xs : List α, xs.length = n ∧ ∀ i (h : i < xs.length), p i xs[i]
  | 0, _ => ⟨[], rfl, fun i h => by simp at h⟩
  | n + 1, h => by
    obtain ⟨xs, h1, h2⟩ := list_of n (fun i hi => h i (by omega))
    obtain ⟨a, ha⟩ := h n (by omega)
    refine ⟨xs ++ [a], by simp [h1], fun i hi => ?_⟩
    by_cases hlt : i < xs.length
    · rw [List.getElem_append_left hlt]; exact h2 i hlt
    · have : i = n := by rw [List.length_append, List.length_singleton] at hi; omega
      subst this
      rw [List.getElem_append_right (by omega)]
      simpa using ha
theorem Opens.slice {α : Type} {d : Enc α} {t e : TypeId} {G : α → Prop} (ht : Try.prog.underlying t = some (.slice e)) (h : Opens d e G) (hsz : Try.prog.cellsOf e = d.sz) (hpos : 0 < d.sz) : Opens (Enc.slice d) t (fun xs => ∀ x ∈ xs, G x) := by
  intro H enc w base spare held fuel cs x hx
  rcases Go.Deep.open_slice ht hx with ⟨rfl, _⟩ | ⟨a, len, cap, m, n, D, Pl, rfl, _, hl, hm, hmm, _, hi⟩
  · exact ⟨[], by simp, _, rfl, Enc.Row.nil _ _ _⟩
  · rw [hsz] at hi
    have hlm : len ≤ m := by rw [hmm]; split <;> omega
    obtain ⟨xs, hlen, hxs⟩ := list_of (p := fun i y => G y ∧ ∃ cs', d.rd (fun _ => True) w y cs' ∧ ∀ j u, cs'[j]? = some u → w.cell? ((a.add (i * d.sz)).add j) = some u) len (fun i hlt => by
      obtain ⟨cs', hc, htr⟩ := hi i (by omega)
      obtain ⟨y, hg, hy⟩ := h H enc w base spare held n cs' _ htr
      obtain ⟨_, hcl, hat⟩ := World.cells?_some hc
      refine ⟨y, hg, cs', hy, fun j u hj => ?_⟩
      rw [hat j (by have := (List.getElem?_eq_some_iff.1 hj).1; omega), hj])
    refine ⟨xs, fun y hy => ?_, _, rfl, some a, cap, by rw [hlen], by omega, hm, fun hne => ?_⟩
    · obtain ⟨i, hi, rfl⟩ := List.getElem_of_mem hy
      exact (hxs i hi).1
    · have h0 : 0 < xs.length := List.length_pos_iff.2 hne
      obtain ⟨_, cs', hrd, hat⟩ := hxs 0 h0
      have hl0 := d.len hrd
      have hc0 := hat 0 (cs'[0]'(by omega)) (List.getElem?_eq_getElem (by omega))
      obtain ⟨b, off, spot⟩ := a
      have hspot : spot = none := by simpa [Addr.add] using World.cell?_spot hc0
      subst hspot
      refine ⟨b, off, rfl, trivial, ?_, fun i hi => ?_⟩
      · have := World.block_lt_of_cell? w _ hc0
        simpa [Addr.add] using this
      · obtain ⟨_, cs', hrd, hat⟩ := hxs i hi
        refine ⟨cs', hrd, fun j u hj => ?_⟩
        have := hat j u hj
        rwa [Addr.add_lit, Addr.add_lit] at this
/-- .. of fields one behind the other, from the cell off on. -/
def OpensF {α : Type} (fs : List Field) (off : Nat) (d : Enc α) (G : α → Prop) : Prop :=
  ∀ (H : Type) (enc : TypeId × Value → H) (w : World) (base : Nat) (spare : Nat → Bool) (held : Bool) (fuel : Nat) (cs : List Value),
    (∀ (i : Nat) (f : Field), fs[i]? = some f → ∃ y, DataW.trod enc Try.prog w base spare held fuel f.type ((cs.drop f.offset).take (Try.prog.cellsOf f.type)) = some y) → cs.length = off + d.sz → ∃ a, G a ∧ d.rd (fun _ => True) w a (cs.drop off)
theorem OpensF.last {α : Type} {f : Field} {off : Nat} {d : Enc α} {G : α → Prop} (h : Opens d f.type G) (ho : f.offset = off) (hs : Try.prog.cellsOf f.type = d.sz) : OpensF [f] off d G := by
  intro H enc w base spare held fuel cs hf hl
  obtain ⟨y, hy⟩ := hf 0 f rfl
  rw [ho, hs, List.take_of_length_le (by rw [List.length_drop]; omega)] at hy
  exact h H enc w base spare held fuel _ y hy
theorem OpensF.more {α β : Type} {f : Field} {fs : List Field} {off : Nat} {d : Enc α} {d' : Enc β} {G : α → Prop} {G' : β → Prop} (h : Opens d f.type G) (ho : f.offset = off) (hs : Try.prog.cellsOf f.type = d.sz)
    (hF : OpensF fs (off + d.sz) d' G') : OpensF (f :: fs) off (Enc.pair d d') (fun p => G p.1 ∧ G' p.2) := by
  intro H enc w base spare held fuel cs hf hl
  have hl' : cs.length = off + (d.sz + d'.sz) := hl
  obtain ⟨y, hy⟩ := hf 0 f rfl
  rw [ho, hs] at hy
  obtain ⟨a, ga, ra⟩ := h H enc w base spare held fuel _ y hy
  obtain ⟨b, gb, rb⟩ := hF H enc w base spare held fuel cs (fun i f' hi => hf (i + 1) f' (by simpa using hi)) (by omega)
  refine ⟨(a, b), ⟨ga, gb⟩, _, _, ?_, ra, rb⟩
  rw [← List.drop_drop]
  exact (List.take_append_drop _ _).symm
theorem Opens.struct {α : Type} {t : TypeId} {fs : Array Field} {d : Enc α} {G : α → Prop} (ht : Try.prog.underlying t = some (.struct fs)) (hc : Try.prog.cellsOf t = d.sz) (h : OpensF fs.toList 0 d G) : Opens d t G := by
  intro H enc w base spare held fuel cs x hx
  obtain ⟨ys, n, _, _, hl, hyl, hf⟩ := DataW.trod_struct ht hx
  obtain ⟨a, ga, ra⟩ := h H enc w base spare held n cs (fun i f hi => by
    have hi' : fs[i]? = some f := by simpa using hi
    have := hf i f hi'
    have hlt : i < ys.length := by rw [hyl]; exact (Array.getElem?_eq_some_iff.1 hi').1
    exact ⟨_, this.trans (List.getElem?_eq_getElem hlt)⟩) (by omega)
  exact ⟨a, ga, by simpa using ra⟩
theorem Opens.to {α β : Type} {d : Enc α} {d' : Enc β} {t : TypeId} {G : α → Prop} {G' : β → Prop} (h : Opens d t G) (conv : ∀ (w : World) (a : α) (cs : List Value), G a → d.rd (fun _ => True) w a cs → ∃ b, G' b ∧ d'.rd (fun _ => True) w b cs) : Opens d' t G' := by
  intro H enc w base spare held fuel cs x hx
  obtain ⟨a, ga, ra⟩ := h H enc w base spare held fuel cs x hx
  exact conv w a cs ga ra
/-- .. an argument that is a slice. -/
theorem Opens.arg {α : Type} {d : Enc α} {t : TypeId} {G : List α → Prop} (h : Opens (Enc.slice d) t G) {H : Type} {enc : TypeId × Value → H} {w : World} {base : Nat} {spare : Nat → Bool} {held : Bool} {a : Option Addr} {n c : Nat} {x : DataW H} {p : List MemPlace}
    (hx : DataW.Trod enc Try.prog w base spare held t (.slice a n c) x p) : ∃ xs, G xs ∧ d.Row (fun _ => True) w (.slice a n c) xs := by
  obtain ⟨fuel, hf⟩ := hx
  obtain ⟨xs, hg, v, hv, hr⟩ := h H enc w base spare held fuel _ _ hf
  have : v = .slice a n c := by simpa [Value.cells] using hv.symm
  subst this
  exact ⟨xs, hg, hr⟩
/-- .. one that is a struct. -/
theorem Opens.agg {α : Type} {d : Enc α} {t : TypeId} {G : α → Prop} (h : Opens d t G) {H : Type} {enc : TypeId × Value → H} {w : World} {base : Nat} {spare : Nat → Bool} {held : Bool} {cs : Array Value} {x : DataW H} {p : List MemPlace}
    (hx : DataW.Trod enc Try.prog w base spare held t (.agg cs) x p) : ∃ a, G a ∧ d.rd (fun _ => True) w a cs.toList := by
  obtain ⟨fuel, hf⟩ := hx
  obtain ⟨a, hg, hr⟩ := h H enc w base spare held fuel _ _ hf
  exact ⟨a, hg, by simpa [Value.cells] using hr⟩
end Go.Proofs.Ytidilpciolladaa

/- Parts of rows; clearing. -/
namespace Go.Proofs.Ytidilpciolladaa
open Go.RowKit
theorem Grew.le {g : Nat} {w w' : World} {v v' : Value} {g' : Nat} (h : Grew g w w' v v' g') : g ≤ g' ∨ w.heap.size ≤ g' := by
  rcases h with ⟨h, _⟩ | ⟨h, _⟩ <;> omega
namespace Enc
theorem Spine.below {α : Type} {d : Enc α} {E : TypeId} {K : Nat → Prop} {g : Nat} {w w' : World} {v : Value} {xs : List α} (h : d.Spine E K g w v xs) (hb : Below w.heap.size w w') : d.Spine E K g w' v xs :=
  h.step (fun cur hc => (hb.block g (Array.getElem?_eq_some_iff.1 hc).1).trans hc) (fun b hk hl => ⟨hk, hb.block b hl⟩)
theorem Row.take {α : Type} {d : Enc α} {K : Nat → Prop} {w : World} {A : Option Addr} {n c : Nat} {xs : List α} (h : d.Row K w (.slice A n c) xs) (i c' : Nat) (hi : i ≤ xs.length) (hic : i ≤ c') (hc : c' ≤ maxLen) : d.Row K w (.slice A i c') (xs.take i) := by
  obtain ⟨A', c1, he, h2, h3, h4⟩ := h
  obtain ⟨rfl, rfl, rfl⟩ := Value.slice.inj he
  refine ⟨A, c', by rw [List.length_take, Nat.min_eq_left hi], by rw [List.length_take]; omega, hc, fun hx => ?_⟩
  obtain ⟨b, off, rfl, hb, hl, ha⟩ := h4 (fun e => hx (by rw [e]; simp))
  refine ⟨b, off, rfl, hb, hl, fun k hk => ?_⟩
  rw [List.length_take] at hk
  obtain ⟨cs, h5, h6⟩ := ha k (by omega)
  exact ⟨cs, by rw [List.getElem_take]; exact h5, h6⟩
theorem Row.drop {α : Type} {d : Enc α} {K : Nat → Prop} {w : World} {A A' : Option Addr} {n c : Nat} {xs : List α} (h : d.Row K w (.slice A n c) xs) (i : Nat) (hi : i ≤ xs.length) (hA : c ≠ i → A' = A.map (·.add (i * d.sz))) : d.Row K w (.slice A' (n - i) (c - i)) (xs.drop i) := by
  obtain ⟨A1, c1, he, h2, h3, h4⟩ := h
  obtain ⟨rfl, rfl, rfl⟩ := Value.slice.inj he
  refine ⟨A', c - i, by rw [List.length_drop], by rw [List.length_drop]; omega, by omega, fun hx => ?_⟩
  have hlt : i < xs.length := by
    apply Classical.byContradiction
    intro hn
    exact hx (List.drop_of_length_le (by omega))
  obtain ⟨b, off, rfl, hb, hl, ha⟩ := h4 (fun e => hx (by rw [e]; simp))
  refine ⟨b, off + i * d.sz, by rw [hA (by omega), Option.map_some, Addr.add_lit], hb, hl, ha.drop i⟩
theorem Src.one_blk {α : Type} {d : Enc α} {K : Nat → Prop} {w : World} {b : Nat} {cs : List Value} {t : TypeId} {fr : Nat × Nat} {x : α} (hb : w.heap[b]? = some (.cells cs.toArray t fr)) (hx : d.rd K w x cs) : d.Src K w (.slice (some ⟨b, 0, none⟩) 1 1) [x] := by
  refine ⟨_, 1, rfl, Nat.le_refl _, by unfold maxLen; omega, fun _ => ⟨b, 0, rfl, fun i hi => ?_⟩⟩
  obtain rfl : i = 0 := by simpa using hi
  refine ⟨cs, hx, fun j u hj => ?_⟩
  simp only [World.cell?, hb]
  simpa using hj

/-- A row that a function builds; what its elements lead to lies in P. -/
structure OutP {α : Type} (d : Enc α) (E : TypeId) (P : Nat → Prop) (lo hi g : Nat) (w : World) (v : Value) (xs : List α) : Prop where
  sp : d.Spine E (fun b => P b ∧ b ≠ g) g w v xs
  lt : g < w.heap.size
  off : g = lo ∨ hi ≤ g
  cap : capOf v ≠ 0 → hi ≤ g
theorem OutP.start {α : Type} (d : Enc α) (E : TypeId) {P : Nat → Prop} {lo hi : Nat} {w : World} (hl : lo < w.heap.size) : d.OutP E P lo hi lo w (.slice none 0 0) [] :=
  ⟨Spine.nil _ _ _ _ _, hl, .inl rfl, fun h => absurd rfl h⟩
theorem OutP.below {α : Type} {d : Enc α} {E : TypeId} {P : Nat → Prop} {lo hi g : Nat} {w w' : World} {v : Value} {xs : List α} (h : d.OutP E P lo hi g w v xs) (hb : Below w.heap.size w w') : d.OutP E P lo hi g w' v xs :=
  ⟨h.sp.below hb, Nat.lt_of_lt_of_le h.lt hb.size, h.off, h.cap⟩
theorem OutP.plain {α : Type} {d : Enc α} {E : TypeId} {P : Nat → Prop} {lo hi g g3 : Nat} {w wr X W2 : World} {v v2 : Value} {xs zs : List α} (h : d.OutP E P lo hi g wr v xs) (hb : Below w.heap.size w wr) (hX : Below wr.heap.size wr X)
    (hs : d.Spine E (fun b => (P b ∧ b ≠ g) ∧ b < X.heap.size) g3 W2 v2 zs) (he : Ext (fun b => b = g ∧ capOf v ≠ 0) X W2) (hg : Grew g X W2 v v2 g3) (hhi : hi ≤ wr.heap.size) (hlo : w.heap.size ≤ hi) :
    d.OutP E P lo hi g3 W2 v2 zs ∧ Below w.heap.size w W2 ∧ hi ≤ W2.heap.size := by
  have h1 := hX.size
  have h2 := hb.size
  have h3 := he.size
  have hl := h.lt
  refine ⟨?_, (hb.trans (hX.mono hb.size)).trans (he.toBelow (by omega) (fun x hx hxs => by have := h.cap hxs.2; omega)), by omega⟩
  rcases hg with ⟨rfl, h4, h5⟩ | ⟨rfl, h4⟩
  · exact ⟨hs.mono (fun b hb _ => hb.1), by omega, h.off, fun hc => h.cap (by rwa [h5] at hc)⟩
  · exact ⟨hs.mono (fun b hb _ => ⟨hb.1.1, by omega⟩), by omega, .inr (by omega), fun _ => by omega⟩
theorem OutP.row {α : Type} {d : Enc α} {E : TypeId} {P : Nat → Prop} {lo hi g : Nat} {w : World} {v : Value} {xs : List α} (h : d.OutP E P lo hi g w v xs) (hP : ∀ b, hi ≤ b → P b) : d.Row P w v xs := by
  by_cases hc : capOf v = 0
  · obtain ⟨A, c, rfl, h1, h2, _⟩ := h.sp
    have hc' : c = 0 := hc
    exact ⟨A, c, rfl, h1, h2, fun hx => absurd (List.eq_nil_of_length_eq_zero (by omega)) hx⟩
  · exact h.sp.row (fun b hb _ => hb.1) (hP g (h.cap hc))
end Enc
theorem run_slice_low {P : Program} (t e : TypeId) (size : Nat) {i : TypeInfo} (ht : P.underlying t = some (.slice e)) (hi : P.info? e = some i) (hs : i.size = size) (A : Option Addr) (n c k : Nat) (hk : k ≤ n) :
    ∃ A', (c ≠ k → A' = A.map (·.add (k * size))) ∧ ∀ W, (Instr.slice t (.slice A n c) (some (.int .i64 k)) none none).run P W = .ok (.slice A' (n - k) (c - k)) W := by
  refine ⟨if c = k then A else A.map (·.add (k * size)), fun h => by rw [if_neg h], fun W => ?_⟩
  subst hs
  simp [Instr.slice, run_underlying ht, Instr.sliceBounds, Instr.sliceBound, asIntOf, sizeOf, typeInfo, hi]
  intro; omega
end Go.Proofs.Ytidilpciolladaa

/- Rows written in place. -/
namespace Go.Proofs.Ytidilpciolladaa
open Go.RowKit
theorem heap_setCells (b : Nat) : ∀ (vs : List Value) (o : Nat) (w : World) (k : Nat), k ≠ b → (w.setCells b o vs).heap[k]? = w.heap[k]?
  | [], _, _, _, _ => rfl
  | v :: r, o, w, k, h => by rw [World.setCells, heap_setCells b r _ _ k h, Below.heap_setCell _ _ _ _ (by exact h)]
theorem setCells_size (b : Nat) : ∀ (vs : List Value) (o : Nat) (w : World), (w.setCells b o vs).heap.size = w.heap.size
  | [], _, _ => rfl
  | v :: r, o, w => by rw [World.setCells, setCells_size b r]; simp
theorem ext_setCells (b : Nat) : ∀ (vs : List Value) (o : Nat) (w : World), Ext (fun k => k = b) w (w.setCells b o vs)
  | [], _, w => Ext.refl _ w
  | v :: r, o, w => by
    rw [World.setCells]
    exact (Ext.setCell (S := fun k => k = b) w ⟨b, o, none⟩ v rfl).trans (ext_setCells b r (o + 1) _) (fun _ _ h => h)
theorem blk_setCells {t : TypeId} {fr : Nat × Nat} (b : Nat) : ∀ (vs : List Value) (o : Nat) (w : World) (cur : Array Value), w.heap[b]? = some (.cells cur t fr) → ∃ cur', (w.setCells b o vs).heap[b]? = some (.cells cur' t fr) ∧ cur'.size = cur.size
  | [], _, _, cur, h => ⟨cur, h, rfl⟩
  | v :: r, o, w, cur, h => by
    obtain ⟨cur', h1, h2⟩ := blk_setCells (t := t) (fr := fr) b r (o + 1) (w.setCell ⟨b, o, none⟩ v) (cur.setIfInBounds o v) (by simp [World.setCell, Array.getElem?_modify, h])
    exact ⟨cur', h1, by rw [h2]; simp⟩
namespace Enc
theorem At.setCells_out {α : Type} {d : Enc α} {K : Nat → Prop} {w : World} {b off : Nat} {xs : List α} (h : d.At K w b off xs) (hK : ∀ x, K x → x ≠ b) (vs : List Value) (o : Nat) (hout : off + xs.length * d.sz ≤ o ∨ o + vs.length ≤ off) : d.At K (w.setCells b o vs) b off xs := by
  intro i hi
  obtain ⟨cs, h1, h2⟩ := h i hi
  have hl := d.len h1
  refine ⟨cs, d.step (fun k hk _ => heap_setCells b vs o w k (hK k hk)) h1, fun j u hj => ?_⟩
  have hjl := (List.getElem?_eq_some_iff.1 hj).1
  rw [World.cell?_setCells_out b vs o w _ (fun _ _ => ?_)]
  · exact h2 j u hj
  · have h3 : i * d.sz + d.sz ≤ xs.length * d.sz := by rw [← Nat.succ_mul]; exact Nat.mul_le_mul_right _ hi
    show off + i * d.sz + j < o ∨ o + vs.length ≤ off + i * d.sz + j
    omega
theorem At.snoc {α : Type} {d : Enc α} {K : Nat → Prop} {w : World} {b off : Nat} {xs : List α} (h : d.At K w b off xs) {x : α} {cs : List Value} (hrd : d.rd K w x cs) (hcs : ∀ j u, cs[j]? = some u → w.cell? ⟨b, off + xs.length * d.sz + j, none⟩ = some u) : d.At K w b off (xs ++ [x]) := by
  intro i hi
  by_cases hlt : i < xs.length
  · rw [List.getElem_append_left hlt]; exact h i hlt
  · have : i = xs.length := by rw [List.length_append, List.length_singleton] at hi; omega
    subst this
    refine ⟨cs, ?_, hcs⟩
    rw [List.getElem_append_right (Nat.le_refl _)]
    simpa using hrd
/-- A row written in place, as one that may be appended to. -/
theorem Spine.of_at {α : Type} {d : Enc α} {E : TypeId} {K : Nat → Prop} {g off c : Nat} {w : World} {cur : Array Value} {xs : List α} (hb : w.heap[g]? = some (.cells cur E (0, 0))) (hfit : off + c * d.sz ≤ cur.size) (hle : xs.length ≤ c) (hc : c ≤ maxLen) (h : d.At K w g off xs) :
    d.Spine E K g w (.slice (some ⟨g, off, none⟩) xs.length c) xs := by
  obtain ⟨cs, hf, hcs⟩ := h.flat
  refine ⟨_, c, rfl, hle, hc, fun _ => ⟨off, cur, cs, rfl, hb, hfit, hf, fun j u hj => ?_⟩⟩
  have := hcs j u hj
  simpa [World.cell?, hb] using this
end Enc
/-- 'clear' of a row's end. -/
theorem run_clear_any {P : Program} {w : World} {g off n c : Nat} {cur : Array Value} {E t ty : TypeId} {z : Value} (ht : P.underlying t = some (.slice E)) (hz : ∀ w, (zeroValue E).run P w = .ok z w) (h1 : ∀ u ∈ z.cells.toList, u.oneCell' = true)
    (hb : w.heap[g]? = some (.cells cur E (0, 0))) (hfit : off + n * z.cells.size ≤ cur.size) :
    ∃ vs : List Value, vs.length = n * z.cells.size ∧ (Builtin.clear_ #[t] ty #[.slice (some ⟨g, off, none⟩) n c]).run P w = .ok (.tuple #[]) (w.setCells g off vs) := by
  cases n with
  | zero => exact ⟨[], by simp, by simp [Builtin.clear_, run_underlying ht]; rfl⟩
  | succ m =>
    refine ⟨(Builtin.zeroCells z.cells (m + 1)).toList, by simp [size_zeroCells], ?_⟩
    have hl : (Builtin.zeroCells z.cells (m + 1)).toList.length = (m + 1) * z.cells.size := by simp [size_zeroCells]
    have hst := run_storeCells_cells (P := P) g off (Builtin.zeroCells z.cells (m + 1)).toList 0 w (fun j hj => by
        rw [hl] at hj
        simp only [World.cell?, hb, Nat.add_zero]
        rw [Array.getElem?_eq_getElem (by omega)]; rfl) (fun j hj => by simp [World.frozen?, hb]) (fun u hu => ?_)
    · simp only [Nat.add_zero] at hst
      simp [Builtin.clear_, run_underlying ht, hz, hst]
    · simp only [Builtin.zeroCells, Array.toList_map, List.mem_map] at hu
      obtain ⟨i, hi, rfl⟩ := hu
      have hi' : i < (m + 1) * z.cells.size := by simpa using hi
      have hs : 0 < z.cells.size := by
        rcases Nat.eq_zero_or_pos z.cells.size with h | h
        · rw [h] at hi'; simp at hi'
        · exact h
      have hm : i % z.cells.size < z.cells.size := Nat.mod_lt _ hs
      rw [getElem!_pos z.cells _ hm]
      exact h1 _ (by simp)
end Go.Proofs.Ytidilpciolladaa

/- Arrays of one owner, written in place. -/
namespace Go.Proofs.Ytidilpciolladaa
open Go.RowKit

/-- Block b holds xs, from its first cell on, and nothing else. -/
structure Arr {α : Type} (d : Enc α) (t : TypeId) (K : Nat → Prop) (w : World) (b : Nat) (xs : List α) : Prop where
  blk : ∃ cur, w.heap[b]? = some (.cells cur t (0, 0)) ∧ cur.size = xs.length * d.sz
  at_ : d.At K w b 0 xs
namespace Arr
variable {α : Type} {d : Enc α} {t : TypeId} {K K' : Nat → Prop} {w w' : World} {b : Nat} {xs : List α}
theorem lt (h : Arr d t K w b xs) : b < w.heap.size := by
  obtain ⟨cur, h1, _⟩ := h.blk
  exact (Array.getElem?_eq_some_iff.1 h1).1
theorem step (h : Arr d t K w b xs) (hb : w'.heap[b]? = w.heap[b]?) (hk : ∀ b, K b → b < w.heap.size → w'.heap[b]? = w.heap[b]?) : Arr d t K w' b xs := by
  obtain ⟨cur, h1, h2⟩ := h.blk
  exact ⟨⟨cur, hb.trans h1, h2⟩, h.at_.step hb hk⟩
theorem below (h : Arr d t K w b xs) (hb : Below w.heap.size w w') : Arr d t K w' b xs := h.step (hb.block b h.lt) (fun b _ hl => hb.block b hl)
theorem ext {S : Nat → Prop} (h : Arr d t K w b xs) (he : Ext S w w') (hb : ¬ S b) (hk : ∀ b, K b → b < w.heap.size → ¬ S b) : Arr d t K w' b xs := h.step (he.block b h.lt hb) (fun b hb hl => he.block b hl (hk b hb hl))
theorem mono (h : Arr d t K w b xs) (hk : ∀ b, K b → b < w.heap.size → K' b) : Arr d t K' w b xs := ⟨h.blk, h.at_.mono hk⟩
/-- The element i: its reading, and where its cells lie. -/
theorem get (h : Arr d t K w b xs) (i : Nat) (hi : i < xs.length) : ∃ cs, d.rd K w xs[i] cs ∧ (∀ j u, cs[j]? = some u → w.cell? ⟨b, i * d.sz + j, none⟩ = some u) := by
  obtain ⟨cs, h1, h2⟩ := h.at_ i hi
  exact ⟨cs, h1, fun j u hj => by have := h2 j u hj; rwa [Nat.zero_add] at this⟩
theorem frz (h : Arr d t K w b xs) (o : Nat) : w.frozen? ⟨b, o, none⟩ = false := by
  obtain ⟨cur, h1, _⟩ := h.blk
  simp [World.frozen?, h1]
/-- An element written. -/
theorem set (h : Arr d t K w b xs) (hKb : ¬ K b) (i : Nat) (hi : i < xs.length) {x : α} {cs : List Value} (hx : d.rd K w x cs) : Arr d t K (w.setCells b (i * d.sz) cs) b (xs.set i x) := by
  obtain ⟨cur, h1, h2⟩ := h.blk
  have hl := d.len hx
  have hK : ∀ k, K k → k ≠ b := fun k hk e => hKb (e ▸ hk)
  have hle : i * d.sz + d.sz ≤ xs.length * d.sz := by rw [← Nat.succ_mul]; exact Nat.mul_le_mul_right _ hi
  obtain ⟨cur', h3, h4⟩ := blk_setCells b cs (i * d.sz) w cur h1
  refine ⟨⟨cur', h3, by rw [h4, h2, List.length_set]⟩, fun j hj => ?_⟩
  rw [List.length_set] at hj
  by_cases hji : j = i
  · subst hji
    refine ⟨cs, ?_, fun k u hk => ?_⟩
    · rw [List.getElem_set_self]
      exact d.step (fun k hk _ => heap_setCells b cs _ w k (hK k hk)) hx
    · rw [Nat.zero_add]
      have hkl := (List.getElem?_eq_some_iff.1 hk).1
      have := World.cell?_setCells_in b cs (j * d.sz) w (fun m hm => by
        simp only [World.cell?, h1]
        rw [Array.getElem?_eq_getElem (by rw [h2]; omega)]; rfl) k hkl
      rw [this, ← hk]
      exact (List.getElem?_eq_getElem hkl).symm
  · obtain ⟨cs', h5, h6⟩ := h.at_ j hj
    refine ⟨cs', ?_, fun k u hk => ?_⟩
    · rw [List.getElem_set_ne (fun e => hji e.symm)]
      exact d.step (fun k hk _ => heap_setCells b cs _ w k (hK k hk)) h5
    · have hkl := (List.getElem?_eq_some_iff.1 hk).1
      rw [d.len h5] at hkl
      rw [World.cell?_setCells_out b cs _ w _ (fun _ _ => ?_)]
      · exact h6 k u hk
      · show 0 + j * d.sz + k < i * d.sz ∨ i * d.sz + cs.length ≤ 0 + j * d.sz + k
        rw [hl]
        rcases Nat.lt_or_ge j i with h7 | h7
        · left
          have : j * d.sz + d.sz ≤ i * d.sz := by rw [← Nat.succ_mul]; exact Nat.mul_le_mul_right _ h7
          omega
        · right
          have : i * d.sz + d.sz ≤ j * d.sz := by rw [← Nat.succ_mul]; exact Nat.mul_le_mul_right _ (by omega)
          omega
theorem made_get (cs : Array Value) (n i j : Nat) (hi : i < n) (hj : j < cs.size) : (madeCells cs (n * cs.size))[i * cs.size + j]? = some cs[j] := by
  have hle : i * cs.size + cs.size ≤ n * cs.size := by rw [← Nat.succ_mul]; exact Nat.mul_le_mul_right _ hi
  have hm : (i * cs.size + j) % cs.size = j := by rw [Nat.mul_comm, Nat.mul_add_mod, Nat.mod_eq_of_lt hj]
  unfold madeCells
  rw [Array.getElem?_map, Array.getElem?_range, if_pos (by omega)]
  simp only [Option.map_some, hm]
  rw [getElem!_pos cs j hj]
theorem made_size (cs : Array Value) (m : Nat) : (madeCells cs m).size = m := by simp [madeCells]
/-- What 'make' lays. -/
theorem made {X : World} {n b : Nat} {x0 : α} {cs : Array Value} {m : Nat} (hx : ∀ w, d.rd K w x0 cs.toList) (hb : X.heap[b]? = some (.cells (madeCells cs m) t (0, 0))) (hm : m = n * d.sz) : Arr d t K X b (List.replicate n x0) := by
  subst hm
  have hl : cs.size = d.sz := by have := d.len (hx X); simpa using this
  rw [← hl] at hb
  refine ⟨⟨_, hb, by rw [made_size, List.length_replicate, hl]⟩, fun i hi => ⟨cs.toList, by rw [List.getElem_replicate]; exact hx _, fun j u hj => ?_⟩⟩
  rw [List.length_replicate] at hi
  have hj' : j < cs.size := by have := (List.getElem?_eq_some_iff.1 hj).1; simpa using this
  have := made_get cs n i j hi hj'
  rw [Nat.zero_add, ← hl]
  simp only [World.cell?, hb]
  rw [this, ← hj]
  simp [hj']
end Arr
end Go.Proofs.Ytidilpciolladaa

/- A region that draws its order, walked in one order that is planned: what yields now is taken now, and held till nobody can come ahead of it. -/
namespace Go.Proofs.Ytidilpciolladaa
open Go

section
variable {P : Program} {ops : Array Oper} {Q : Exit → Act → World → Prop}

/-- What stands ahead of an operation, as bits. -/
def anc (ops : Array Oper) (j : Nat) : Nat := (Region.before ops).getD j 0
def Closed (ops : Array Oper) (l : Array Bool) : Prop := ∀ j o, ops[j]? = some o → l.getD j false = true → ∀ e ∈ o.after, Region.binds .any e = true → l.getD e.on false = true

def beforeStep (acc : Array Nat) (o : Oper) : Nat := o.after.foldl (fun s e => if Region.binds .any e then s ||| 2 ^ e.on ||| acc.getD e.on 0 else s) 0

theorem beforeStep_spec (acc : Array Nat) (o : Oper) (i : Nat) (h : (beforeStep acc o).testBit i = true) :
    ∃ e ∈ o.after, Region.binds .any e = true ∧ (i = e.on ∨ (acc.getD e.on 0).testBit i = true) := by
  unfold beforeStep at h
  have key : ∀ (l : List Edge) (s : Nat), (l.foldl (fun s e => if Region.binds .any e then s ||| 2 ^ e.on ||| acc.getD e.on 0 else s) s).testBit i = true →
      s.testBit i = true ∨ ∃ e ∈ l, Region.binds .any e = true ∧ (i = e.on ∨ (acc.getD e.on 0).testBit i = true) := by
    intro l
    induction l with
    | nil => intro s hs; exact .inl hs
    | cons e l ih =>
      intro s hs
      rw [List.foldl_cons] at hs
      rcases ih _ hs with h1 | ⟨e', he', h2⟩
      · by_cases hb : Region.binds .any e = true
        · rw [if_pos hb] at h1
          simp only [Nat.testBit_or, Bool.or_eq_true] at h1
          rcases h1 with (h1 | h1) | h1
          · exact .inl h1
          · rw [Nat.testBit_two_pow] at h1
            exact .inr ⟨e, List.mem_cons_self .., hb, .inl (by simpa using h1 : e.on = i).symm⟩
          · exact .inr ⟨e, List.mem_cons_self .., hb, .inr h1⟩
        · rw [if_neg hb] at h1; exact .inl h1
      · exact .inr ⟨e', List.mem_cons_of_mem _ he', h2⟩
  rw [← Array.foldl_toList] at h
  rcases key _ _ h with h1 | ⟨e, he, h2⟩
  · simp at h1
  · exact ⟨e, Array.mem_toList_iff.1 he, h2⟩

theorem before_spec (ops : Array Oper) : (Region.before ops).size = ops.size ∧ ∀ j (hj : j < ops.size), ∃ acc : Array Nat, acc.size = j ∧ (∀ k, k < j → acc.getD k 0 = (Region.before ops).getD k 0) ∧ (Region.before ops).getD j 0 = beforeStep acc ops[j] := by
  have key : ∀ (l : List Oper) (acc : Array Nat), (l.foldl (fun acc o => acc.push (beforeStep acc o)) acc).size = acc.size + l.length ∧
      (∀ k, k < acc.size → (l.foldl (fun acc o => acc.push (beforeStep acc o)) acc).getD k 0 = acc.getD k 0) ∧
      ∀ j (hj : j < l.length), ∃ b : Array Nat, b.size = acc.size + j ∧ (∀ k, k < acc.size + j → b.getD k 0 = (l.foldl (fun acc o => acc.push (beforeStep acc o)) acc).getD k 0) ∧
        (l.foldl (fun acc o => acc.push (beforeStep acc o)) acc).getD (acc.size + j) 0 = beforeStep b l[j] := by
    intro l
    induction l with
    | nil => intro acc; exact ⟨by simp, fun k hk => rfl, fun j hj => by simp at hj⟩
    | cons o l ih =>
      intro acc
      obtain ⟨h1, h2, h3⟩ := ih (acc.push (beforeStep acc o))
      simp only [List.foldl_cons]
      refine ⟨by rw [h1]; simp; omega, fun k hk => ?_, fun j hj => ?_⟩
      · rw [h2 k (by simp; omega)]
        simp [Array.getElem?_push, Nat.ne_of_lt hk]
      · cases j with
        | zero =>
          refine ⟨acc, by simp, fun k hk => ?_, ?_⟩
          · rw [h2 k (by simp; omega)]; simp [Array.getElem?_push, show k ≠ acc.size by omega]
          · rw [h2 _ (by simp)]; simp
        | succ j =>
          obtain ⟨b, hb1, hb2, hb3⟩ := h3 j (by simpa using hj)
          refine ⟨b, by rw [hb1]; simp; omega, fun k hk => hb2 k (by simp; omega), ?_⟩
          rw [Array.size_push, show acc.size + 1 + j = acc.size + (j + 1) from by omega] at hb3
          simpa using hb3
  have hb : Region.before ops = ops.toList.foldl (fun acc o => acc.push (beforeStep acc o)) #[] := by
    rw [Array.foldl_toList]; rfl
  obtain ⟨h1, _, h3⟩ := key ops.toList #[]
  rw [hb]
  refine ⟨by simpa using h1, fun j hj => ?_⟩
  obtain ⟨b, hb1, hb2, hb3⟩ := h3 j (by simpa using hj)
  exact ⟨b, by simpa using hb1, fun k hk => hb2 k (by simpa using hk), by simpa using hb3⟩

theorem anc_listed {l : Array Bool} (hc : Closed ops l) : ∀ (n j : Nat), j ≤ n → ∀ o, ops[j]? = some o → (∀ e ∈ o.after, Region.binds .any e = true → l.getD e.on false = true) → ∀ i, (anc ops j).testBit i = true → l.getD i false = true := by
  intro n
  induction n with
  | zero =>
    intro j hj o ho ha i hi
    have hlt := (Array.getElem?_eq_some_iff.1 ho).1
    obtain ⟨acc, h1, h2, h3⟩ := (before_spec ops).2 j hlt
    unfold anc at hi
    rw [h3] at hi
    obtain ⟨e, he, hb, h4⟩ := beforeStep_spec _ _ _ hi
    have hoj : ops[j] = o := (Array.getElem?_eq_some_iff.1 ho).2
    rw [hoj] at he
    rcases h4 with rfl | h4
    · exact ha e he hb
    · have : acc.getD e.on 0 = 0 := by simp [Array.getElem?_eq_none (show acc.size ≤ e.on by omega)]
      rw [this] at h4; simp at h4
  | succ n ih =>
    intro j hj o ho ha i hi
    have hlt := (Array.getElem?_eq_some_iff.1 ho).1
    obtain ⟨acc, h1, h2, h3⟩ := (before_spec ops).2 j hlt
    unfold anc at hi
    rw [h3] at hi
    obtain ⟨e, he, hb, h4⟩ := beforeStep_spec _ _ _ hi
    have hoj : ops[j] = o := (Array.getElem?_eq_some_iff.1 ho).2
    rw [hoj] at he
    rcases h4 with rfl | h4
    · exact ha e he hb
    · by_cases hlt2 : e.on < j
      · rw [h2 _ hlt2] at h4
        have hle := ha e he hb
        have hon : e.on < ops.size := by omega
        exact ih e.on (by omega) ops[e.on] (Array.getElem?_eq_getElem hon) (fun e' he' hb' => hc e.on _ (Array.getElem?_eq_getElem hon) hle e' he' hb') i h4
      · have : acc.getD e.on 0 = 0 := by simp [Array.getElem?_eq_none (show acc.size ≤ e.on by omega)]
        rw [this] at h4; simp at h4

theorem anc_ready {l : Array Bool} (hc : Closed ops l) {i j : Nat} (hj : j ∈ Region.ready .any ops l) (hi : l.getD i true = false) : (anc ops j).testBit i = false := by
  obtain ⟨_, o, ho, hall⟩ := mem_ready.1 hj
  cases h : (anc ops j).testBit i with
  | false => rfl
  | true =>
    have := anc_listed hc j j (Nat.le_refl _) o ho hall i h
    rcases Nat.lt_or_ge i l.size with h' | h'
    · simp [h'] at hi this; rw [hi] at this; cases this
    · simp [Array.getElem?_eq_none h'] at this

theorem closed_set {l : Array Bool} (hc : Closed ops l) {j : Nat} (hj : j ∈ Region.ready .any ops l) : Closed ops (l.setIfInBounds j true) := by
  obtain ⟨_, oj, hoj, hall⟩ := mem_ready.1 hj
  intro k o ho hl e he hb
  by_cases hjk : j = k
  · subst hjk
    have : o = oj := Option.some.inj (ho.symm.trans hoj)
    subst this
    exact getD_set_true (hall e he hb)
  · rw [getD_set_ne false hjk] at hl
    exact getD_set_true (hc k o ho hl e he hb)
theorem closed_none (ops : Array Oper) (n : Nat) : Closed ops (Array.replicate n false) := by
  intro j o _ hl
  rcases Nat.lt_or_ge j n with h | h <;> simp [h] at hl

/-- In this state, in this world, the operation yields v. -/
def YAt (P : Program) (ops : Array Oper) (o : Oper) (v : Value) (a : Act) (w : World) : Prop :=
  if Region.wanted o (yielded ops a.tmps) = true then (execOp a.eval o).run P w = .ok (.value v) w else v = undef

abbrev Held := List (Nat × (World → Prop))
def HeldOk (ops : Array Oper) (hl : Held) (j : Nat) (w w' : World) : Prop := ∀ p ∈ hl, (anc ops j).testBit p.1 = false → p.2 w → p.2 w'

def wpAnyE (P : Program) (ops : Array Oper) (Q : Exit → Act → World → Prop) : Nat → Held → Array Bool → Act → World → Prop
  | 0, _, l, a, w => Region.ready .any ops l = [] ∧ Q .normal a w
  | f + 1, hl, l, a, w =>
    (Region.ready .any ops l = [] → Q .normal a w) ∧
    ∀ j ∈ Region.ready .any ops l, wpOp P ops Q j (fun a' w' => HeldOk ops hl j w w' ∧ wpAnyE P ops Q f hl (l.setIfInBounds j true) a' w') a w

theorem wpAny_of_E : ∀ (f : Nat) (hl : Held) (l : Array Bool) (a : Act) (w : World), wpAnyE P ops Q f hl l a w → wpAny P .any ops Q f l a w
  | 0, _, _, _, _, h => h
  | f + 1, hl, _, _, _, h => ⟨h.1, fun i hi => wpOp_mono (fun a' w' h' => wpAny_of_E f hl _ a' w' h'.2) (h.2 i hi)⟩

theorem YAt.wpOp {i : Nat} {o : Oper} {v : Value} {a : Act} {w : World} (hi : ops[i]? = some o) (hy : YAt P ops o v a w) {K : Act → World → Prop} (h : K (a.put o.dst v) w) : wpOp P ops Q i K a w := by
  unfold Go.wpOp
  simp only [hi]
  unfold YAt at hy
  split
  · rename_i hw
    rw [if_pos hw] at hy
    simp only [Oper.wp, hy, Oper.upon]; exact .inl h
  · rename_i hw
    rw [if_neg hw] at hy
    subst hy; exact h

def SameFor (ops : Array Oper) (o : Oper) (a a' : Act) : Prop := execOp a'.eval o = execOp a.eval o ∧ Region.wanted o (yielded ops a'.tmps) = Region.wanted o (yielded ops a.tmps)
theorem YAt.same {o : Oper} {v : Value} {a a' : Act} {w : World} (h : YAt P ops o v a w) (hs : SameFor ops o a a') : YAt P ops o v a' w := by
  unfold YAt at *
  rw [hs.1, hs.2]; exact h

theorem wpOp_putE {j : Nat} {oi oj : Oper} {v : Value} (hj : ops[j]? = some oj) (hap : oi.apart ops oj = true)
    (hsi : ∀ cs b, oi.op ≠ .select cs b) (hsj : ∀ cs b, oj.op ≠ .select cs b)
    (hQ : ∀ c a w, Q (.panic c) (a.put oi.dst v) w → Q (.panic c) a w) {K : Act → World → Prop} {a : Act} {w : World}
    (h : wpOp P ops Q j K (a.put oi.dst v) w) :
    wpOp P ops Q j (fun a' w' => SameFor ops oi a a' ∧ K (a'.put oi.dst v) w') a w := by
  obtain ⟨h1, h2, h3⟩ := Oper.apart_spec hap
  have keep : ∀ u, SameFor ops oi a (a.put oj.dst u) := fun u => ⟨execOp_put oi hsi a oj.dst u h3, wanted_put oi a oj.dst u h3⟩
  have keepD : ∀ d u, SameFor ops oi a (({ a with defers := d :: a.defers } : Act).put oj.dst u) := fun d u => ⟨(execOp_put oi hsi _ oj.dst u h3).trans rfl, (wanted_put oi _ oj.dst u h3).trans rfl⟩
  unfold wpOp at *
  simp only [hj] at *
  rw [wanted_put oj a oi.dst v h1] at h
  split
  · rename_i hw
    simp only [hw, if_true] at h
    rcases h with h | ⟨hasks, hlets⟩
    case inr => exact .inr ⟨by unfold Oper.asks at *; rw [execOp_put oj hsj a oi.dst v h1] at hasks; exact hasks, hlets⟩
    refine .inl ?_
    unfold Oper.wp at *
    rw [execOp_put oj hsj a oi.dst v h1] at h
    generalize (execOp a.eval oj).run P w = r at *
    cases r with
    | ok n w' =>
      cases n <;> simp only [Oper.upon] at h ⊢
      case value u => exact ⟨keep u, by rw [← Act.put_comm a v u h2]; exact h⟩
      case skip => exact ⟨keep _, by rw [← Act.put_comm a v undef h2]; exact h⟩
      case defer d =>
        refine ⟨keepD d _, ?_⟩
        rw [← Act.put_comm _ v undef h2, ← Act.put_defers]
        exact h
      case enter f args =>
        refine Calls.mono h fun e w'' he => ?_
        cases e with
        | returned u => exact ⟨keep u, by rw [← Act.put_comm a v u h2]; exact he⟩
        | panicked c => exact hQ _ _ _ he
        | outgrown => exact he
      case row row args => exact Rows.mono h fun u w'' he => ⟨keep u, by rw [← Act.put_comm a v u h2]; exact he⟩
    | halt x w' =>
      cases x <;> simp only [Oper.upon] at h ⊢
      case panic u => exact hQ _ _ _ h
  · rename_i hw
    simp only [hw] at h
    exact ⟨keep _, by rw [← Act.put_comm a v undef h2]; exact h⟩

theorem wpAnyE_first {i : Nat} {oi : Oper} {v : Value} {a0 : Act} (hi : ops[i]? = some oi) (hsel : ∀ (j : Nat) (o : Oper) cs b, ops[j]? = some o → o.op ≠ .select cs b)
    (hQ : ∀ c a w, Q (.panic c) (a.put oi.dst v) w → Q (.panic c) a w) :
    ∀ (f : Nat) (hl : Held) (l : Array Bool) (a : Act) (w : World), Closed ops l →
      (∀ j oj, ops[j]? = some oj → j ≠ i → l.getD j true = false → (∀ e ∈ oj.after, Region.binds .any e = true → e.on ≠ i) → oi.apart ops oj = true) →
      i ∈ Region.ready .any ops l → SameFor ops oi a0 a → YAt P ops oi v a0 w →
      wpAnyE P ops Q f ((i, fun w' => YAt P ops oi v a0 w') :: hl) (l.setIfInBounds i true) (a.put oi.dst v) w → wpAnyE P ops Q (f + 1) hl l a w := by
  intro f
  induction f with
  | zero =>
    intro hl l a w _ _ hr hs hy H
    refine ⟨fun h => (by rw [h] at hr; cases hr), fun j hj => ?_⟩
    by_cases hji : j = i
    · subst hji; exact (hy.same hs).wpOp hi ⟨fun _ _ _ h => h, H⟩
    · have := ready_mono hj hji
      rw [H.1] at this
      cases this
  | succ f ih =>
    intro hl l a w hc hfree hr hs hy H
    refine ⟨fun h => (by rw [h] at hr; cases hr), fun j hj => ?_⟩
    by_cases hji : j = i
    · subst hji
      refine (hy.same hs).wpOp hi ⟨fun _ _ _ h => h, ?_⟩
      -- the held list is shorter
      have drop : ∀ (f : Nat) (l : Array Bool) (a : Act) (w : World), wpAnyE P ops Q f ((j, fun w' => YAt P ops oi v a0 w') :: hl) l a w → wpAnyE P ops Q f hl l a w := by
        intro f
        induction f with
        | zero => exact fun l a w h => h
        | succ f ihf => exact fun l a w h => ⟨h.1, fun k hk => wpOp_mono (fun a' w' h' => ⟨fun p hp => h'.1 p (List.mem_cons_of_mem _ hp), ihf _ _ _ h'.2⟩) (h.2 k hk)⟩
      exact drop _ _ _ _ H
    · have h1 := H.2 j (ready_mono hj hji)
      obtain ⟨hjun, oj, hoj, hall⟩ := mem_ready.1 hj
      have hiun := (mem_ready.1 hr).1
      have hnot : ∀ e ∈ oj.after, Region.binds .any e = true → e.on ≠ i := fun e he hb heq => by
        have h1 := hall e he hb
        rw [heq] at h1
        rcases Nat.lt_or_ge i l.size with h' | h'
        · simp [h'] at hiun h1; rw [hiun] at h1; cases h1
        · simp [Array.getElem?_eq_none h'] at h1
      have h2 := wpOp_putE hoj (hfree j oj hoj hji hjun hnot) (fun cs b => hsel i oi cs b hi) (fun cs b => hsel j oj cs b hoj) hQ h1
      have hfree' : ∀ k ok, ops[k]? = some ok → k ≠ i → (l.setIfInBounds j true).getD k true = false →
          (∀ e ∈ ok.after, Region.binds .any e = true → e.on ≠ i) → oi.apart ops ok = true := fun k ok hk hki hun hno => by
        refine hfree k ok hk hki ?_ hno
        by_cases hjk : j = k
        · subst hjk; exact hjun
        · rw [getD_set_ne true hjk] at hun; exact hun
      refine wpOp_mono (fun a' w' h3 => ?_) h2
      obtain ⟨h4, h5, h6⟩ := h3
      have hyi : YAt P ops oi v a0 w' := h5 (i, fun w' => YAt P ops oi v a0 w') (List.mem_cons_self ..) (anc_ready hc hj hiun) hy
      refine ⟨fun p hp => h5 p (List.mem_cons_of_mem _ hp), ih hl (l.setIfInBounds j true) a' w' (closed_set hc hj) hfree' (ready_mono hr (Ne.symm hji)) ⟨h4.1.trans hs.1, h4.2.trans hs.2⟩ hyi ?_⟩
      rw [Array.setIfInBounds_comm _ _ hji]
      exact h6

theorem wpAnyE_take {i : Nat} {oi : Oper} {v : Value} {f : Nat} {hl : Held} {l : Array Bool} {a : Act} {w : World} (hi : ops[i]? = some oi)
    (hs : Region.noSelect ops = true) (hf : Region.free .any ops l i = true) (hr : (Region.ready .any ops l).contains i = true) (hc : Closed ops l)
    (hQ : ∀ c a w, Q (.panic c) (a.put oi.dst v) w → Q (.panic c) a w) (hy : YAt P ops oi v a w)
    (h : wpAnyE P ops Q f ((i, fun w' => YAt P ops oi v a w') :: hl) (l.setIfInBounds i true) (a.put oi.dst v) w) : wpAnyE P ops Q (f + 1) hl l a w :=
  wpAnyE_first hi (Region.noSelect_spec hs) hQ f hl l a w hc (Region.free_spec hi hf) (by simpa using hr) ⟨rfl, rfl⟩ hy h

/-- A plan: what is taken first; then an operation that acts, what is held over it, and so on. -/
inductive Plan where
  | fin (pre : List (Bool × Nat))
  | eff (pre : List (Bool × Nat)) (e : Nat) (H : List Nat) (p : Plan)
  | two (pre : List (Bool × Nat)) (e1 : Nat) (H1 : List Nat) (p1 : Plan) (e2 : Nat) (H2 : List Nat) (p2 : Plan)

def wpPre (P : Program) (ops : Array Oper) (w : World) (K : Held → Act → Prop) : List (Bool × Nat) → Held → Act → Prop
  | [], hl, a => K hl a
  | (_, i) :: r, hl, a => match ops[i]? with
    | none => False
    | some o => ∃ v, YAt P ops o v a w ∧ wpPre P ops w K r ((i, fun w' => YAt P ops o v a w') :: hl) (a.put o.dst v)

def heldH (H : List Nat) : Held → World → Prop
  | [], _ => True
  | p :: r, w => (if H.contains p.1 then p.2 w else True) ∧ heldH H r w
theorem heldH_mem {H : List Nat} {hl : Held} {w : World} (h : heldH H hl w) : ∀ p ∈ hl, H.contains p.1 = true → p.2 w := by
  induction hl with
  | nil => intro p hp; cases hp
  | cons q r ih =>
    intro p hp hc
    rcases List.mem_cons.1 hp with rfl | hp
    · have := h.1; rwa [if_pos hc] at this
    · exact ih h.2 p hp hc

def wpPlan (P : Program) (ops : Array Oper) (Q : Exit → Act → World → Prop) : Plan → Held → Act → World → Prop
  | .fin pre, hl, a, w => wpPre P ops w (fun _ a => Q .normal a w) pre hl a
  | .eff pre e H p, hl, a, w => wpPre P ops w (fun hl a => wpOp P ops Q e (fun a' w' => heldH H hl w' ∧ wpPlan P ops Q p hl a' w') a w) pre hl a
  | .two pre e1 H1 p1 e2 H2 p2, hl, a, w => wpPre P ops w (fun hl a => wpOp P ops Q e1 (fun a' w' => heldH H1 hl w' ∧ wpPlan P ops Q p1 hl a' w') a w ∧ wpOp P ops Q e2 (fun a' w' => heldH H2 hl w' ∧ wpPlan P ops Q p2 hl a' w') a w) pre hl a

def preOk (ops : Array Oper) : List (Bool × Nat) → Array Bool → Bool
  | [], _ => true
  | (_, i) :: r, l => Region.free .any ops l i && (Region.ready .any ops l).contains i && preOk ops r (l.setIfInBounds i true)
def preList : List (Bool × Nat) → Array Bool → Array Bool
  | [], l => l
  | (_, i) :: r, l => preList r (l.setIfInBounds i true)
def hOk (ops : Array Oper) (tk H : List Nat) (e : Nat) : Bool := tk.all fun i => H.contains i || (anc ops e).testBit i

def planOk (ops : Array Oper) : Plan → List Nat → Array Bool → Bool
  | .fin pre, _, l => preOk ops pre l && (Region.ready .any ops (preList pre l)).isEmpty
  | .eff pre e H p, tk, l => preOk ops pre l && Region.ready .any ops (preList pre l) == [e] && hOk ops ((pre.map (·.2)).reverse ++ tk) H e && planOk ops p ((pre.map (·.2)).reverse ++ tk) ((preList pre l).setIfInBounds e true)
  | .two pre e1 H1 p1 e2 H2 p2, tk, l => preOk ops pre l && Region.ready .any ops (preList pre l) == [e1, e2] && hOk ops ((pre.map (·.2)).reverse ++ tk) H1 e1 && hOk ops ((pre.map (·.2)).reverse ++ tk) H2 e2 &&
      planOk ops p1 ((pre.map (·.2)).reverse ++ tk) ((preList pre l).setIfInBounds e1 true) && planOk ops p2 ((pre.map (·.2)).reverse ++ tk) ((preList pre l).setIfInBounds e2 true)
def planSize : Plan → Nat
  | .fin pre => pre.length
  | .eff pre _ _ p => pre.length + (planSize p + 1)
  | .two pre _ _ p1 _ _ p2 => pre.length + (max (planSize p1) (planSize p2) + 1)

theorem pre_sound {w : World} {K : Held → Act → Prop} (hs : Region.noSelect ops = true) (hQ : ∀ c a d v w, Q (.panic c) (Act.put a d v) w → Q (.panic c) a w) {f : Nat} {l0 : Array Bool} :
    ∀ (pre : List (Bool × Nat)) (hl : Held) (l : Array Bool) (a : Act), preOk ops pre l = true → Closed ops l → preList pre l = l0 →
      (∀ hl' a', hl'.map (·.1) = (pre.map (·.2)).reverse ++ hl.map (·.1) → Closed ops l0 → K hl' a' → wpAnyE P ops Q f hl' l0 a' w) → wpPre P ops w K pre hl a → wpAnyE P ops Q (pre.length + f) hl l a w := by
  intro pre
  induction pre with
  | nil =>
    intro hl l a _ hc he h hk
    simp only [preList] at he
    subst he
    simp only [List.length_nil, Nat.zero_add]
    exact h hl a (by simp) hc hk
  | cons bi r ih =>
    obtain ⟨b, i⟩ := bi
    intro hl l a hok hc he h hk
    simp only [preOk, Bool.and_eq_true] at hok
    obtain ⟨⟨h1, h2⟩, h3⟩ := hok
    simp only [wpPre] at hk
    cases ho : ops[i]? with
    | none => rw [ho] at hk; exact hk.elim
    | some o =>
      rw [ho] at hk
      obtain ⟨v, hy, hk⟩ := hk
      rw [List.length_cons, show r.length + 1 + f = (r.length + f) + 1 from by omega]
      have hr : i ∈ Region.ready .any ops l := by simpa using h2
      exact wpAnyE_take ho hs h1 h2 hc (fun c a w => hQ c a _ v w) hy (ih _ _ _ h3 (closed_set hc hr) he (fun hl' a' hm => h hl' a' (by rw [hm]; simp)) hk)

theorem held_of {tk H : List Nat} {e : Nat} {hl : Held} {w w' : World} (hh : hOk ops tk H e = true) (hm : hl.map (·.1) = tk) (h : heldH H hl w') : HeldOk ops hl e w w' := by
  intro p hp ha _
  have h1 := List.all_eq_true.1 hh p.1 (by rw [← hm]; exact List.mem_map_of_mem hp)
  rw [Bool.or_eq_true] at h1
  rcases h1 with h1 | h1
  · exact heldH_mem h p hp h1
  · rw [ha] at h1; cases h1

theorem plan_sound (hs : Region.noSelect ops = true) (hQ : ∀ c a d v w, Q (.panic c) (Act.put a d v) w → Q (.panic c) a w) :
    ∀ (p : Plan) (k : Nat) (hl : Held) (l : Array Bool) (a : Act) (w : World), planOk ops p (hl.map (·.1)) l = true → Closed ops l → wpPlan P ops Q p hl a w → wpAnyE P ops Q (planSize p + k) hl l a w := by
  intro p
  induction p with
  | fin pre =>
    intro k hl l a w hok hc h
    simp only [planOk, Bool.and_eq_true] at hok
    have hr : Region.ready .any ops (preList pre l) = [] := by simpa using hok.2
    refine pre_sound hs hQ pre hl l a hok.1 hc rfl (fun hl' a' _ _ hq => ?_) h
    cases k with
    | zero => exact ⟨hr, hq⟩
    | succ k => exact ⟨fun _ => hq, by rw [hr]; simp⟩
  | eff pre e H p ih =>
    intro k hl l a w hok hc h
    simp only [planOk, Bool.and_eq_true] at hok
    obtain ⟨⟨⟨h1, h2⟩, h3⟩, h4⟩ := hok
    have hr : Region.ready .any ops (preList pre l) = [e] := by simpa using h2
    rw [planSize, Nat.add_assoc]
    refine pre_sound hs hQ pre hl l a h1 hc rfl (fun hl' a' hm hc' hq => ?_) h
    rw [show planSize p + 1 + k = (planSize p + k) + 1 from by omega]
    refine ⟨fun h0 => absurd (hr ▸ h0 : [_] = []) (by simp), fun j hj => ?_⟩
    have hj' := hj
    rw [hr, List.mem_singleton] at hj'
    subst hj'
    refine wpOp_mono (fun a2 w2 h5 => ⟨held_of h3 hm h5.1, ih k hl' _ a2 w2 ?_ (closed_set hc' hj) h5.2⟩) hq
    rw [hm]; exact h4
  | two pre e1 H1 p1 e2 H2 p2 ih1 ih2 =>
    intro k hl l a w hok hc h
    simp only [planOk, Bool.and_eq_true] at hok
    obtain ⟨⟨⟨⟨⟨h1, h2⟩, h3⟩, h3'⟩, h4⟩, h4'⟩ := hok
    have hr : Region.ready .any ops (preList pre l) = [e1, e2] := by simpa using h2
    rw [planSize, Nat.add_assoc]
    refine pre_sound hs hQ pre hl l a h1 hc rfl (fun hl' a' hm hc' hq => ?_) h
    obtain ⟨k1, hk1⟩ : ∃ k1, max (planSize p1) (planSize p2) + k = planSize p1 + k1 := ⟨max (planSize p1) (planSize p2) + k - planSize p1, by omega⟩
    obtain ⟨k2, hk2⟩ : ∃ k2, max (planSize p1) (planSize p2) + k = planSize p2 + k2 := ⟨max (planSize p1) (planSize p2) + k - planSize p2, by omega⟩
    rw [show max (planSize p1) (planSize p2) + 1 + k = (max (planSize p1) (planSize p2) + k) + 1 from by omega]
    refine ⟨fun h0 => absurd (hr ▸ h0 : [_, _] = []) (by simp), fun j hj => ?_⟩
    have hj' := hj
    rw [hr] at hj'
    rcases List.mem_cons.1 hj' with rfl | hj'
    · refine wpOp_mono (fun a2 w2 h5 => ⟨held_of h3 hm h5.1, ?_⟩) hq.1
      rw [hk1]
      exact ih1 k1 hl' _ a2 w2 (by rw [hm]; exact h4) (closed_set hc' hj) h5.2
    · rw [List.mem_singleton] at hj'
      subst hj'
      refine wpOp_mono (fun a2 w2 h5 => ⟨held_of h3' hm h5.1, ?_⟩) hq.2
      rw [hk2]
      exact ih2 k2 hl' _ a2 w2 (by rw [hm]; exact h4') (closed_set hc' hj) h5.2

/-- **A REGION THAT DRAWS ITS ORDER, BY A PLAN.** -/
theorem wp_region_plan {id : Nat} {a : Act} {w : World} {lo : List Oper} (p : Plan) (hm : P.follows .mixedOrders = true) (hs : Region.noSelect lo.toArray = true)
    (hok : planOk lo.toArray p [] (Array.replicate lo.length false) = true) (hsz : Nat.ble (planSize p) lo.length = true) (hQ : ∀ c a d v w, Q (.panic c) (Act.put a d v) w → Q (.panic c) a w)
    (h : wpPlan P lo.toArray Q p [] a w.drew) : (Code.region id lo.toArray true).wp P Q a w := by
  refine wp_region_any hm (wpAny_of_E _ [] _ _ _ ?_)
  have hle : planSize p ≤ lo.length := Nat.le_of_ble_eq_true hsz
  have := plan_sound (P := P) (ops := lo.toArray) hs hQ p (lo.length - planSize p) [] (Array.replicate lo.length false) a w.drew (by simpa using hok) (closed_none _ _) h
  rw [show planSize p + (lo.length - planSize p) = lo.toArray.size from by simp; omega] at this
  simpa using this

/-! ### The moves -/
theorem wpPre_nil {w : World} {K : Held → Act → Prop} {hl : Held} {a : Act} (h : K hl a) : wpPre P ops w K [] hl a := h
theorem wpPre_cons {b : Bool} {w : World} {K : Held → Act → Prop} {i : Nat} {r : List (Bool × Nat)} {hl : Held} {a : Act} {o : Oper} (ho : ops[i]? = some o)
    (h : ∀ K' : Value → Act → Prop, (∀ v a', (∀ f : World → Prop, (∀ w', YAt P ops o v a w' → f w') → wpPre P ops w K r ((i, f) :: hl) a') → K' v a') →
      if Region.wanted o (yielded ops a.tmps) = true then ∃ v, (execOp a.eval o).run P w = .ok (.value v) w ∧ K' v (a.put o.dst v) else K' undef (a.put o.dst undef)) : wpPre P ops w K ((b, i) :: r) hl a := by
  simp only [wpPre, ho]
  have := h (fun v a' => a' = a.put o.dst v → wpPre P ops w K r ((i, fun w' => YAt P ops o v a w') :: hl) a') (fun v a' h => fun e => h _ (fun _ h => h))
  unfold YAt
  split at this
  · obtain ⟨v, h1, h2⟩ := this
    rename_i hw
    exact ⟨v, by rw [if_pos hw]; exact h1, h2 rfl⟩
  · rename_i hw
    exact ⟨undef, by rw [if_neg hw], this rfl⟩
def nth : List Oper → Nat → Option Oper
  | [], _ => none
  | o :: _, 0 => some o
  | _ :: r, n + 1 => nth r n
theorem nth_eq : ∀ (lo : List Oper) (i : Nat), lo.toArray[i]? = nth lo i
  | [], _ => by simp [nth]
  | o :: r, 0 => by simp [nth]
  | o :: r, n + 1 => by have := nth_eq r n; simp only [List.getElem?_toArray, List.getElem?_cons_succ, nth] at *; exact this
theorem wpPre_keep {lo : List Oper} {w : World} {K : Held → Act → Prop} {i : Nat} {r : List (Bool × Nat)} {hl : Held} {a : Act} {o : Oper} (ho : nth lo i = some o)
    (h : ∀ K' : Value → Act → Prop, (∀ v a', (∀ f : World → Prop, (∀ w', YAt P lo.toArray o v a w' → f w') → wpPre P lo.toArray w K r ((i, f) :: hl) a') → K' v a') →
      if Region.wanted o (yielded lo.toArray a.tmps) = true then ∃ v, (execOp a.eval o).run P w = .ok (.value v) w ∧ K' v (a.put o.dst v) else K' undef (a.put o.dst undef)) : wpPre P lo.toArray w K ((true, i) :: r) hl a := wpPre_cons ((nth_eq lo i).trans ho) h
theorem wpPre_drop {lo : List Oper} {w : World} {K : Held → Act → Prop} {i : Nat} {r : List (Bool × Nat)} {hl : Held} {a : Act} {o : Oper} (ho : nth lo i = some o)
    (h : ∀ K' : Value → Act → Prop, (∀ v a', (∀ f : World → Prop, wpPre P lo.toArray w K r ((i, f) :: hl) a') → K' v a') →
      if Region.wanted o (yielded lo.toArray a.tmps) = true then ∃ v, (execOp a.eval o).run P w = .ok (.value v) w ∧ K' v (a.put o.dst v) else K' undef (a.put o.dst undef)) : wpPre P lo.toArray w K ((false, i) :: r) hl a :=
  wpPre_cons ((nth_eq lo i).trans ho) (fun K' hK' => h K' (fun v a' h' => hK' v a' (fun f _ => h' f)))
theorem wpPlan_fin {pre : List (Bool × Nat)} {hl : Held} {a : Act} {w : World} (h : wpPre P ops w (fun _ a => Q .normal a w) pre hl a) : wpPlan P ops Q (.fin pre) hl a w := h
theorem wpPlan_eff {pre : List (Bool × Nat)} {e : Nat} {H : List Nat} {p : Plan} {hl : Held} {a : Act} {w : World} (h : wpPre P ops w (fun hl a => wpOp P ops Q e (fun a' w' => heldH H hl w' ∧ wpPlan P ops Q p hl a' w') a w) pre hl a) : wpPlan P ops Q (.eff pre e H p) hl a w := h
theorem wpPlan_two {pre : List (Bool × Nat)} {e1 : Nat} {H1 : List Nat} {p1 : Plan} {e2 : Nat} {H2 : List Nat} {p2 : Plan} {hl : Held} {a : Act} {w : World}
    (h : wpPre P ops w (fun hl a => wpOp P ops Q e1 (fun a' w' => heldH H1 hl w' ∧ wpPlan P ops Q p1 hl a' w') a w ∧ wpOp P ops Q e2 (fun a' w' => heldH H2 hl w' ∧ wpPlan P ops Q p2 hl a' w') a w) pre hl a) : wpPlan P ops Q (.two pre e1 H1 p1 e2 H2 p2) hl a w := h
theorem heldPair {H : List Nat} {hl : Held} {w : World} {p : Plan} {a : Act} (h1 : heldH H hl w) (h2 : wpPlan P ops Q p hl a w) : heldH H hl w ∧ wpPlan P ops Q p hl a w := ⟨h1, h2⟩
theorem wpOpPair {K1 K2 : Act → World → Prop} {i j : Nat} {a : Act} {w : World} (h1 : wpOp P ops Q i K1 a w) (h2 : wpOp P ops Q j K2 a w) : wpOp P ops Q i K1 a w ∧ wpOp P ops Q j K2 a w := ⟨h1, h2⟩
theorem heldH_nil {H : List Nat} {w : World} : heldH H [] w := trivial
theorem heldH_no {H : List Nat} {i : Nat} {f : World → Prop} {r : Held} {w : World} (hn : H.contains i = false) (h : heldH H r w) : heldH H ((i, f) :: r) w := ⟨by rw [if_neg (by simp only [hn]; decide)]; trivial, h⟩
theorem heldH_yes {H : List Nat} {i : Nat} {f : World → Prop} {r : Held} {w : World} (hf : f w) (h : heldH H r w) : heldH H ((i, f) :: r) w := ⟨by split <;> first | exact hf | trivial, h⟩
theorem wpOp_list {lo : List Oper} {i : Nat} {o : Oper} {a : Act} {w : World} {K : Act → World → Prop} (ho : nth lo i = some o) (h : wpList P lo.toArray (Exit.then K Q) [o] a w) : wpOp P lo.toArray Q i K a w := by
  unfold wpOp
  simp only [nth_eq, ho]
  simp only [wpList] at h
  split
  · rename_i hw
    rw [if_pos hw] at h
    rcases h with h | h
    · refine .inl ?_
      unfold Oper.wp at *
      generalize (execOp a.eval o).run P w = r at *
      cases r with
      | ok n w' => cases n <;> first | exact h | exact h.elim
      | halt x w' => cases x <;> first | exact h | exact h.elim
    · exact .inr h
  · rename_i hw
    rw [if_neg hw] at h
    exact h
end
end Go.Proofs.Ytidilpciolladaa
