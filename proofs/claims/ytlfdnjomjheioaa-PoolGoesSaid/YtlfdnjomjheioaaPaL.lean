/- A pool over turns of what holds no cells; what find finds. -/
import Derived.RangeFuncWrites
import Derived.Test.YtlfdnjomjheioaaPaK
namespace Go.Proofs.Ytlfdnjomjheioaa
open Go.RowKit

/-- From W on only blocks at or beyond B that hold no cells turned. -/
def Past (B : Nat) (W W' : World) : Prop := Ext (fun b => B ≤ b ∧ ¬ isC W b) W W'
theorem Past.refl (B : Nat) (W : World) : Past B W W := Ext.refl _ _
theorem Past.isC {B b : Nat} {W W' : World} (h : Past B W W') (hc : isC W b) : W'.heap[b]? = W.heap[b]? := by
  obtain ⟨cs, t, fr, hb⟩ := hc
  exact h.block b (Array.getElem?_eq_some_iff.1 hb).1 (fun hs => hs.2 ⟨cs, t, fr, hb⟩)
theorem Past.cell {B b o : Nat} {W W' : World} {v : Value} (h : Past B W W') (hc : W.cell? ⟨b, o, none⟩ = some v) : W'.cell? ⟨b, o, none⟩ = some v :=
  (World.cell?_of_block (w := W) (h.isC (isC_cell hc))).trans hc
theorem Past.step {B : Nat} {W0 W W' : World} {row : Option Nat} (h : Past B W0 W) (hg : W.grownBy W' row) (hr : ∀ r, row = some r → B ≤ r ∧ ∃ o : Obj, W.heap[r]? = some o ∧ o.isCells = false) : Past B W0 W' := by
  have hk : Ext (fun b => row = some b) W W' := ⟨hg.os, hg.tape, hg.output, hg.size, fun k hk hn => hg.block k hk (fun e => hn e.symm)⟩
  refine Ext.trans h hk (fun x hx hs => ?_)
  obtain ⟨h1, o, h2, h3⟩ := hr x hs
  refine ⟨h1, fun hc => ?_⟩
  have h4 := h.isC hc
  obtain ⟨cs, t, fr, hb⟩ := hc
  rw [hb, h2] at h4
  cases h4
  cases h3
theorem Past.below {B n : Nat} {W W' : World} (h : Past B W W') (hn : n ≤ B) (hw : n ≤ W.heap.size) : Below n W W' := h.toBelow hw (fun x hx hs => by omega)
theorem Dq.past {B : Nat} {F : Nat → Prop} {w w' : World} {d g : Nat} {l : List Job} (h : Dq w F d g l) (he : Past B w w') : Dq w' F d g l := by
  obtain ⟨v, h1, h2⟩ := h.at_
  have := he.size
  exact ⟨by have := h.lt; omega, h.few, h.ok, h.own.imp id (fun h => by omega), v, (he.isC ⟨_, _, _, h1⟩).trans h1, h2.stepC he.size (fun hc => he.isC hc) (fun b _ hc => he.isC hc)⟩
theorem JobAt.past {B : Nat} {F : Nat → Prop} {w w' : World} {h : Nat} {j : Job} (hj : JobAt w F h j) (he : Past B w w') : JobAt w' F h j := by
  obtain ⟨h0, v, h1, h2⟩ := hj
  have := he.size
  exact ⟨by omega, v, (he.isC ⟨_, _, _, h1⟩).trans h1, h2.stepC he.size (fun b _ hc => he.isC hc)⟩
theorem Pl.past {B N : Nat} {w w' : World} {F : Nat → Prop} {p : Nat} {s : List Wk} {ad : Nat → Ad} (h : Pl N w F p s ad) (he : Past B w w') : Pl N w' F p s ad := by
  obtain ⟨cur, h1, h2⟩ := h.blk
  refine ⟨⟨cur, (he.isC ⟨_, _, _, h1⟩).trans h1, h2⟩, he.cell h.n, h.n1, h.n2, fun i hi => ?_, h.sep, h.np, h.nF, h.pF, h.ge, h.pN, Nat.le_trans h.bN he.size⟩
  have hw := h.at_ i hi
  exact ⟨hw.dq.past he, he.cell hw.dp, he.cell hw.hp, fun j hj => (hw.hj j hj).past he, Nat.lt_of_lt_of_le hw.hl he.size, hw.hs⟩

/-- What is stolen of a worker; what one has held. -/
def stolen (s : List Wk) (v : Nat) : Option (List Wk × Job × Nat) :=
  match s[v]? with
  | some ⟨x :: l, h⟩ => some (s.set v ⟨l, h⟩, x, v)
  | _ => none
def heldOf (s : List Wk) (v : Nat) : Option (List Wk × Job × Nat) :=
  match s[v]? with
  | some ⟨l, some j⟩ => some (s.set v ⟨l, none⟩, j, v)
  | _ => none
def circ (s : List Wk) (pick : Int) : List Nat := (List.range s.length).map (fun i => (firstOf s.length pick + i) % s.length)
theorem circ_ring {s : List Wk} (hn : 1 ≤ s.length) (pick : Int) : circ s pick = (ring hn (firstOf s.length pick) s.length).map Fin.val := by simp [circ, ring, Function.comp_def]
def popped (s : List Wk) (i : Nat) : Option (List Wk × Job × Nat) :=
  match s[i]? with
  | some k => (k.l.getLast?).map (fun x => (s.set i ⟨k.l.dropLast, k.h⟩, x, i))
  | none => none
def found (s : List Wk) (i : Nat) (pick : Int) : Option (List Wk × Job × Nat) :=
  (popped s i).or (((circ s pick).findSome? (stolen s)).or ((circ s pick).findSome? (heldOf s)))
theorem findSome_pre {α β : Type} {f : α → Option β} {pre xs : List α} {x : α} {r : β} (hp : ∀ y ∈ pre, f y = none) (hx : f x = some r) (hpre : (pre ++ [x]) <+: xs) : xs.findSome? f = some r := by
  obtain ⟨q, rfl⟩ := hpre
  rw [List.findSome?_append, List.findSome?_append, List.findSome?_eq_none_iff.2 hp]
  simp [hx]
theorem findSome_ring {s : List Wk} {β : Type} {f : Nat → Option β} (hn : 1 ≤ s.length) (pick : Int) {pre : List (Fin s.length)} {x : Fin s.length} {r : β} (hp : ∀ y ∈ pre, f y.val = none) (hx : f x.val = some r) (hpre : (pre ++ [x]) <+: ring hn (firstOf s.length pick) s.length) : (circ s pick).findSome? f = some r := by
  rw [circ_ring hn, List.findSome?_map]
  exact findSome_pre (f := f ∘ Fin.val) hp hx hpre
theorem findSome_none {s : List Wk} {β : Type} {f : Nat → Option β} (hn : 1 ≤ s.length) (pick : Int) (hp : ∀ y ∈ ring hn (firstOf s.length pick) s.length, f y.val = none) : (circ s pick).findSome? f = none := by
  rw [circ_ring hn, List.findSome?_map]
  exact List.findSome?_eq_none_iff.2 hp
theorem kc_b {p b1 b2 : Nat} {w W : World} (l : Nat) (o o' : Obj) (_ : w.heap.size ≤ l) (h : W.heap[l]? = some o) (hc : o.isCells = false) : Kc p b1 b2 W (W.putObj l o') :=
  have hk : ∀ a v, W.cell? a = some v → (W.putObj l o').cell? a = some v := fun _ _ e => Go.cell_kept e (grownBy_putObj' W l o') (fun r e => by cases e; exact ⟨_, h, hc⟩)
  ⟨fun v e => hk _ v e, fun v e => hk _ v e, fun v e => hk _ v e⟩
theorem kc_below {p b1 b2 : Nat} {W W' : World} (h : Below W.heap.size W W') : Kc p b1 b2 W W' :=
  have hk : ∀ a v, W.cell? a = some v → W'.cell? a = some v := fun _ _ e => cell_kept h e
  ⟨fun v e => hk _ v e, fun v e => hk _ v e, fun v e => hk _ v e⟩
theorem kf_ext {B : Nat} {S : Nat → Prop} {W W' : World} (h : Ext S W W') (hS : ∀ b, B ≤ b → S b → isC W b) : KeepsFrom B W W' :=
  ⟨h.size, fun k o hB hk ho => by
    by_cases hs : S k
    · obtain ⟨cs, t, fr, hb⟩ := hS k hB hs
      rw [hb] at hk; cases hk; cases ho
    · exact (h.block k (Array.getElem?_eq_some_iff.1 hk).1 hs).trans hk⟩
theorem wpIn_name {c : Code} {F : Fence} {n : Nat} {P : Program} {Q : Exit → Act → World → Prop} {a : Act} {w : World} (h : ∀ W0, W0 = w → c.wpIn F n P Q a W0) : c.wpIn F n P Q a w := h w rfl
theorem ext_of_put2 {S : Nat → Prop} {d g : Nat} {w W : World} {o1 o2 : Obj} {e : Array Obj} {n : Nat} (h : Below w.heap.size w W) (hd : S d) (hg : S g) : Ext S w (more (putB (putB W d o1) g o2) e n) := by
  have h0 := h.size
  refine ⟨h.os, h.tape, h.output, by simp [more, putB_size]; omega, fun k hk hn => ?_⟩
  rw [more_heap (by rw [putB_size, putB_size]; omega), putB_heap (fun e => hn (by rw [e]; exact hg)), putB_heap (fun e => hn (by rw [e]; exact hd))]
  exact h.block k (by omega)
theorem Ext.more_ {S : Nat → Prop} {a b c : World} (h : Ext S a b) (k : Below b.heap.size b c) : Ext S a c := h.trans (T := fun _ => False) (Ext.of_below k) (fun _ _ h => h.elim)
theorem Ext.past {S : Nat → Prop} {B : Nat} {a b c : World} (h : Ext S a b) (k : Past B b c) (hB : a.heap.size ≤ B) : Ext S a c := h.trans k (fun x hx hs => by have := hs.1; omega)
end Go.Proofs.Ytlfdnjomjheioaa
