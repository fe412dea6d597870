/- Arguments of whatever type, opened into readings. -/
import Derived.Test.YtomhpbhkckjmdaaDoorRROut
import Derived.Deep.Slices
import Derived.ChangeArms
namespace Go.Proofs.YtomhpbhkckjmdaaDoorRR
open Go.RowKit

/-- What reads as a datum of the type t is told by d, and meets G. -/
def Opens {α : Type} (d : Enc α) (t : TypeId) (G : α → Prop) : Prop :=
  ∀ (H : Type) (enc : TypeId × Value → H) (w : World) (base : Nat) (spare : Nat → Bool) (held : Bool) (fuel : Nat) (cs : List Value) (x : DataW H × List MemPlace),
    DataW.trod enc Tryd.prog w base spare held fuel t cs = some x → ∃ a, G a ∧ d.rd (fun _ => True) w a cs
theorem Opens.int {k : IntKind} {t : TypeId} (ht : Tryd.prog.underlying t = some (.int k)) : Opens (Enc.int k) t (fun n => (Lit.int k n).wf = true) := by
  intro H enc w base spare held fuel cs x h
  obtain ⟨n, rfl, _, hw⟩ := DataW.trod_int ht h
  exact ⟨n, hw, rfl⟩
theorem Opens.bool {t : TypeId} (ht : Tryd.prog.underlying t = some .bool) : Opens Enc.bool t (fun _ => True) := by
  intro H enc w base spare held fuel cs x h
  obtain ⟨n, rfl, _⟩ := DataW.trod_bool ht h
  exact ⟨n, trivial, rfl⟩
theorem Opens.str {t : TypeId} (ht : Tryd.prog.underlying t = some .string) : Opens Enc.str t (fun s => s.size ≤ maxLen) := by
  intro H enc w base spare held fuel cs x h
  obtain ⟨n, rfl, _, hs⟩ := DataW.trod_string ht h
  exact ⟨n, hs, rfl⟩
theorem Opens.iso {α β : Type} {d : Enc α} {t : TypeId} {G : α → Prop} (h : Opens d t G) (f : β → α) (g : α → β) (hfg : ∀ a, f (g a) = a) : Opens (Enc.iso d f) t (fun b => G (f b)) := by
  intro H enc w base spare held fuel cs x hx
  obtain ⟨a, h1, h2⟩ := h H enc w base spare held fuel cs x hx
  exact ⟨g a, by show G (f (g a)); rw [hfg]; exact h1, by show d.rd _ w (f (g a)) cs; rw [hfg]; exact h2⟩
theorem list_of {α : Type} {p : Nat → α → Prop} : ∀ (n : Nat), (∀ i, i < n → ∃ a, p i a) → ∃ xs : List α, xs.length = n ∧ ∀ i (h : i < xs.length), p i xs[i]
  | 0, _ => ⟨[], rfl, fun i h => by simp at h⟩
  | n + 1, h => by
    obtain ⟨xs, h1, h2⟩ := list_of n (fun i hi => h i (by omega))
    obtain ⟨a, ha⟩ := h n (by omega)
    refine ⟨xs ++ [a], by simp [h1], fun i hi => ?_⟩
    by_cases hlt : i < xs.length
    · rw [List.getElem_append_left hlt]; exact h2 i hlt
    · have : i = n := by rw [List.length_append, List.length_singleton] at hi; omega
      subst this
      rw [List.getElem_append_right (by omega)]
      simpa using ha
theorem Opens.slice {α : Type} {d : Enc α} {t e : TypeId} {G : α → Prop} (ht : Tryd.prog.underlying t = some (.slice e)) (h : Opens d e G) (hsz : Tryd.prog.cellsOf e = d.sz) (hpos : 0 < d.sz) : Opens (Enc.slice d) t (fun xs => ∀ x ∈ xs, G x) := by
  intro H enc w base spare held fuel cs x hx
  rcases Go.Deep.open_slice ht hx with ⟨rfl, _⟩ | ⟨a, len, cap, m, n, D, Pl, rfl, _, hl, hm, hmm, _, hi⟩
  · exact ⟨[], by simp, _, rfl, Enc.Row.nil _ _ _⟩
  · rw [hsz] at hi
    have hlm : len ≤ m := by rw [hmm]; split <;> omega
    obtain ⟨xs, hlen, hxs⟩ := list_of (p := fun i y => G y ∧ ∃ cs', d.rd (fun _ => True) w y cs' ∧ ∀ j u, cs'[j]? = some u → w.cell? ((a.add (i * d.sz)).add j) = some u) len (fun i hlt => by
      obtain ⟨cs', hc, htr⟩ := hi i (by omega)
      obtain ⟨y, hg, hy⟩ := h H enc w base spare held n cs' _ htr
      obtain ⟨_, hcl, hat⟩ := World.cells?_some hc
      refine ⟨y, hg, cs', hy, fun j u hj => ?_⟩
      rw [hat j (by have := (List.getElem?_eq_some_iff.1 hj).1; omega), hj])
    refine ⟨xs, fun y hy => ?_, _, rfl, some a, cap, by rw [hlen], by omega, hm, fun hne => ?_⟩
    · obtain ⟨i, hi, rfl⟩ := List.getElem_of_mem hy
      exact (hxs i hi).1
    · have h0 : 0 < xs.length := List.length_pos_iff.2 hne
      obtain ⟨_, cs', hrd, hat⟩ := hxs 0 h0
      have hl0 := d.len hrd
      have hc0 := hat 0 (cs'[0]'(by omega)) (List.getElem?_eq_getElem (by omega))
      obtain ⟨b, off, spot⟩ := a
      have hspot : spot = none := by simpa [Addr.add] using World.cell?_spot hc0
      subst hspot
      refine ⟨b, off, rfl, trivial, ?_, fun i hi => ?_⟩
      · have := World.block_lt_of_cell? w _ hc0
        simpa [Addr.add] using this
      · obtain ⟨_, cs', hrd, hat⟩ := hxs i hi
        refine ⟨cs', hrd, fun j u hj => ?_⟩
        have := hat j u hj
        rwa [Addr.add_lit, Addr.add_lit] at this
/-- .. of fields one behind the other, from the cell off on. -/
def OpensF {α : Type} (fs : List Field) (off : Nat) (d : Enc α) (G : α → Prop) : Prop :=
  ∀ (H : Type) (enc : TypeId × Value → H) (w : World) (base : Nat) (spare : Nat → Bool) (held : Bool) (fuel : Nat) (cs : List Value),
    (∀ (i : Nat) (f : Field), fs[i]? = some f → ∃ y, DataW.trod enc Tryd.prog w base spare held fuel f.type ((cs.drop f.offset).take (Tryd.prog.cellsOf f.type)) = some y) → cs.length = off + d.sz → ∃ a, G a ∧ d.rd (fun _ => True) w a (cs.drop off)
theorem OpensF.last {α : Type} {f : Field} {off : Nat} {d : Enc α} {G : α → Prop} (h : Opens d f.type G) (ho : f.offset = off) (hs : Tryd.prog.cellsOf f.type = d.sz) : OpensF [f] off d G := by
  intro H enc w base spare held fuel cs hf hl
  obtain ⟨y, hy⟩ := hf 0 f rfl
  rw [ho, hs, List.take_of_length_le (by rw [List.length_drop]; omega)] at hy
  exact h H enc w base spare held fuel _ y hy
theorem OpensF.more {α β : Type} {f : Field} {fs : List Field} {off : Nat} {d : Enc α} {d' : Enc β} {G : α → Prop} {G' : β → Prop} (h : Opens d f.type G) (ho : f.offset = off) (hs : Tryd.prog.cellsOf f.type = d.sz)
    (hF : OpensF fs (off + d.sz) d' G') : OpensF (f :: fs) off (Enc.pair d d') (fun p => G p.1 ∧ G' p.2) := by
  intro H enc w base spare held fuel cs hf hl
  have hl' : cs.length = off + (d.sz + d'.sz) := hl
  obtain ⟨y, hy⟩ := hf 0 f rfl
  rw [ho, hs] at hy
  obtain ⟨a, ga, ra⟩ := h H enc w base spare held fuel _ y hy
  obtain ⟨b, gb, rb⟩ := hF H enc w base spare held fuel cs (fun i f' hi => hf (i + 1) f' (by simpa using hi)) (by omega)
  refine ⟨(a, b), ⟨ga, gb⟩, _, _, ?_, ra, rb⟩
  rw [← List.drop_drop]
  exact (List.take_append_drop _ _).symm
theorem Opens.struct {α : Type} {t : TypeId} {fs : Array Field} {d : Enc α} {G : α → Prop} (ht : Tryd.prog.underlying t = some (.struct fs)) (hc : Tryd.prog.cellsOf t = d.sz) (h : OpensF fs.toList 0 d G) : Opens d t G := by
  intro H enc w base spare held fuel cs x hx
  obtain ⟨ys, n, _, _, hl, hyl, hf⟩ := DataW.trod_struct ht hx
  obtain ⟨a, ga, ra⟩ := h H enc w base spare held n cs (fun i f hi => by
    have hi' : fs[i]? = some f := by simpa using hi
    have := hf i f hi'
    have hlt : i < ys.length := by rw [hyl]; exact (Array.getElem?_eq_some_iff.1 hi').1
    exact ⟨_, this.trans (List.getElem?_eq_getElem hlt)⟩) (by omega)
  exact ⟨a, ga, by simpa using ra⟩
theorem Opens.to {α β : Type} {d : Enc α} {d' : Enc β} {t : TypeId} {G : α → Prop} {G' : β → Prop} (h : Opens d t G) (conv : ∀ (w : World) (a : α) (cs : List Value), G a → d.rd (fun _ => True) w a cs → ∃ b, G' b ∧ d'.rd (fun _ => True) w b cs) : Opens d' t G' := by
  intro H enc w base spare held fuel cs x hx
  obtain ⟨a, ga, ra⟩ := h H enc w base spare held fuel cs x hx
  exact conv w a cs ga ra
/-- .. an argument that is a slice. -/
theorem Opens.arg {α : Type} {d : Enc α} {t : TypeId} {G : List α → Prop} (h : Opens (Enc.slice d) t G) {H : Type} {enc : TypeId × Value → H} {w : World} {base : Nat} {spare : Nat → Bool} {held : Bool} {a : Option Addr} {n c : Nat} {x : DataW H} {p : List MemPlace}
    (hx : DataW.Trod enc Tryd.prog w base spare held t (.slice a n c) x p) : ∃ xs, G xs ∧ d.Row (fun _ => True) w (.slice a n c) xs := by
  obtain ⟨fuel, hf⟩ := hx
  obtain ⟨xs, hg, v, hv, hr⟩ := h H enc w base spare held fuel _ _ hf
  have : v = .slice a n c := by simpa [Value.cells] using hv.symm
  subst this
  exact ⟨xs, hg, hr⟩
/-- .. one that is a struct. -/
theorem Opens.agg {α : Type} {d : Enc α} {t : TypeId} {G : α → Prop} (h : Opens d t G) {H : Type} {enc : TypeId × Value → H} {w : World} {base : Nat} {spare : Nat → Bool} {held : Bool} {cs : Array Value} {x : DataW H} {p : List MemPlace}
    (hx : DataW.Trod enc Tryd.prog w base spare held t (.agg cs) x p) : ∃ a, G a ∧ d.rd (fun _ => True) w a cs.toList := by
  obtain ⟨fuel, hf⟩ := hx
  obtain ⟨a, hg, hr⟩ := h H enc w base spare held fuel _ _ hf
  exact ⟨a, hg, by simpa [Value.cells] using hr⟩
end Go.Proofs.YtomhpbhkckjmdaaDoorRR
