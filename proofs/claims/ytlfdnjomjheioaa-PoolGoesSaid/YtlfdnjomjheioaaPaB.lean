/- A pool: from one state to the next. -/
import Derived.Test.YtlfdnjomjheioaaPaA
namespace Go.Proofs.Ytlfdnjomjheioaa
open Go.RowKit

theorem JobAt.mono {w : World} {F F' : Nat → Prop} {h : Nat} {j : Job} (hj : JobAt w F h j) (hF : ∀ b, F b → b < w.heap.size → F' b) : JobAt w F' h j := by
  obtain ⟨h0, v, h1, h2⟩ := hj
  exact ⟨h0, v, h1, h2.mono hF⟩
theorem Wat.mono {w : World} {F F' : Nat → Prop} {p i : Nat} {a : Ad} {k : Wk} (h : Wat w F p i a k) (hF : ∀ b, F b → b < w.heap.size → F' b) : Wat w F' p i a k :=
  ⟨h.dq.mono hF, h.dp, h.hp, fun j hj => (h.hj j hj).mono hF, h.hl, h.hs⟩
theorem Wat.lt {w : World} {F : Nat → Prop} {p i b : Nat} {a : Ad} {k : Wk} (h : Wat w F p i a k) (hb : a.has b) : b < w.heap.size := by
  have h1 := h.dq.lt
  rcases hb with rfl | rfl | rfl
  · exact h1
  · rcases h.dq.own with h2 | h2
    · omega
    · exact h2
  · exact h.hl
def put (ad : Nat → Ad) (i : Nat) (a : Ad) : Nat → Ad := fun j => if j = i then a else ad j
theorem put_same (ad : Nat → Ad) (i : Nat) (a : Ad) : put ad i a i = a := if_pos rfl
theorem put_other {ad : Nat → Ad} {i j : Nat} (a : Ad) (h : j ≠ i) : put ad i a j = ad j := if_neg h
/-- A worker's own blocks turn. -/
theorem Pl.turn {N : Nat} {w w' : World} {F F' : Nat → Prop} {p : Nat} {s : List Wk} {ad : Nat → Ad} (h : Pl N w F p s ad) (i : Nat) (hi : i < s.length) {a' : Ad} {k' : Wk}
    (he : Ext (fun b => (ad i).has b) w w') (hk : Wat w' F' p i a' k') (hF : ∀ b, F b → b < w.heap.size → F' b) (hF' : ∀ b, F' b → F b ∨ w.heap.size ≤ b)
    (hn : ∀ b, a'.has b → (ad i).has b ∨ w.heap.size ≤ b) (hnF : ∀ b, a'.has b → ¬ F' b) : Pl N w' F' p (s.set i k') (put ad i a') := by
  have hl := h.lt
  have hnp := h.np i hi
  have hbN := h.bN
  obtain ⟨cur, h1, h2⟩ := h.blk
  refine ⟨⟨cur, (he.block p hl hnp).trans h1, h2⟩, ?_, by rw [List.length_set]; exact h.n1, by rw [List.length_set]; exact h.n2, fun j hj => ?_, fun j k b hj hkl hjk hb hb' => ?_, fun j hj hb => ?_, fun j b hj hb hf => ?_, fun hf => ?_, fun j b hj hb => ?_, h.pN, Nat.le_trans h.bN he.size⟩
  · rw [he.cell_eq hl hnp, List.length_set]; exact h.n
  · rw [List.length_set] at hj
    by_cases hji : j = i
    · subst hji
      rw [put_same, List.getElem_set_self]; exact hk
    · rw [put_other _ hji, List.getElem_set_ne (fun e => hji e.symm)]
      exact ((h.at_ j hj).mono (F' := fun b => F b ∧ b < w.heap.size) (fun b hb hl => ⟨hb, hl⟩)).ext he hl hnp (fun b hb hs => h.sep i j b hi hj (fun e => hji e.symm) hs hb) (fun b hb hs => h.nF i b hi hs hb.1) |>.mono (fun b hb _ => hF b hb.1 hb.2)
  · rw [List.length_set] at hj hkl
    by_cases hji : j = i
    · subst hji
      rw [put_same] at hb
      rw [put_other _ (fun e => hjk e.symm)] at hb'
      rcases hn b hb with h5 | h5
      · exact h.sep j k b hi hkl hjk h5 hb'
      · have := (h.at_ k hkl).lt hb'; omega
    · rw [put_other _ hji] at hb
      by_cases hki : k = i
      · subst hki
        rw [put_same] at hb'
        rcases hn b hb' with h5 | h5
        · exact h.sep k j b hi hj (fun e => hji e.symm) h5 hb
        · have := (h.at_ j hj).lt hb; omega
      · rw [put_other _ hki] at hb'
        exact h.sep j k b hj hkl hjk hb hb'
  · rw [List.length_set] at hj
    by_cases hji : j = i
    · subst hji
      rw [put_same] at hb
      rcases hn _ hb with h5 | h5
      · exact hnp h5
      · omega
    · rw [put_other _ hji] at hb
      exact h.np j hj hb
  · rw [List.length_set] at hj
    by_cases hji : j = i
    · subst hji
      rw [put_same] at hb
      exact hnF b hb hf
    · rw [put_other _ hji] at hb
      have := (h.at_ j hj).lt hb
      rcases hF' b hf with h5 | h5
      · exact h.nF j b hj hb h5
      · omega
  · rcases hF' p hf with h5 | h5
    · exact h.pF h5
    · omega
  · rw [List.length_set] at hj
    by_cases hji : j = i
    · subst hji
      rw [put_same] at hb
      rcases hn b hb with h5 | h5
      · exact h.ge j b hi h5
      · omega
    · rw [put_other _ hji] at hb
      exact h.ge j b hj hb
theorem Dq.sharp {F : Nat → Prop} {w : World} {d g : Nat} {l : List Job} (h : Dq w F d g l) : Dq w (fun b => F b ∧ b ≠ g) d g l := by
  obtain ⟨v, h1, h2⟩ := h.at_
  exact ⟨h.lt, h.few, h.ok, h.own, v, h1, h2.mono (fun b hb _ => ⟨⟨hb.1, hb.2.2⟩, hb.2⟩)⟩
/-- A worker's deque turns. -/
theorem Pl.deq {N : Nat} {w w' : World} {F : Nat → Prop} {p : Nat} {s : List Wk} {ad : Nat → Ad} (h : Pl N w F p s ad) (i : Nat) (hi : i < s.length) {g' : Nat} {l' : List Job}
    (hd : Dq w' (fun b => F b ∨ w.heap.size ≤ b) (ad i).d g' l') (hu : Up (ad i).d (ad i).g w g' w') :
    Pl N w' (fun b => (F b ∨ w.heap.size ≤ b) ∧ b ≠ g') p (s.set i ⟨l', s[i].h⟩) (put ad i ⟨(ad i).d, g', (ad i).h⟩) := by
  have hl := h.lt
  have hk := h.at_ i hi
  have hnp := h.np i hi
  have he : Ext (fun b => (ad i).has b) w w' := hu.ext.mono (fun b _ hb => hb.imp id (fun hb => .inl hb))
  have hFF : ∀ b, F b → b < w.heap.size → (F b ∨ w.heap.size ≤ b) ∧ b ≠ g' := fun b hb hlt => ⟨.inl hb, fun e => by
    rcases hu.new with h5 | h5
    · exact h.nF i b hi (.inr (.inl (e.trans h5))) hb
    · omega⟩
  refine h.turn i hi he ⟨hd.sharp, (he.cell_eq hl hnp _).trans hk.dp, (he.cell_eq hl hnp _).trans hk.hp, fun j hj => ?_, Nat.lt_of_lt_of_le hk.hl he.size, fun j hj => ?_⟩ hFF (fun b hb => hb.1) (fun b hb => ?_) (fun b hb hf => ?_)
  · have hs := hk.hs j hj
    refine (((hk.hj j hj).mono (F' := fun b => F b ∧ b < w.heap.size) (fun b hb hl => ⟨hb, hl⟩)).ext hu.ext (fun e => e.elim hs.1 hs.2.1) (fun b hb e => ?_)).mono (fun b hb _ => hFF b hb.1 hb.2)
    rcases e with e | e
    · exact h.nF i b hi (.inl e) hb.1
    · exact h.nF i b hi (.inr (.inl e)) hb.1
  · have hs := hk.hs j hj
    have h6 := hk.hl
    refine ⟨hs.1, fun e => ?_, hs.2.2⟩
    have e : (ad i).h = g' := e
    rcases hu.new with h5 | h5
    · exact hs.2.1 (e.trans h5)
    · omega
  · rcases hb with e | e | e
    · exact .inl (.inl e)
    · rcases hu.new with h5 | h5
      · exact .inl (.inr (.inl (e.trans h5)))
      · exact .inr (by have : b = g' := e; omega)
    · exact .inl (.inr (.inr e))
  · rcases hb with e | e | e
    · have h6 := hk.dq.lt
      rcases hf.1 with h5 | h5
      · exact h.nF i b hi (.inl e) h5
      · have : b = (ad i).d := e
        omega
    · exact hf.2 e
    · have h6 := hk.hl
      rcases hf.1 with h5 | h5
      · exact h.nF i b hi (.inr (.inr e)) h5
      · have : b = (ad i).h := e
        omega
/-- The blocks of a pool. -/
def Blk (s : List Wk) (p : Nat) (ad : Nat → Ad) (b : Nat) : Prop := b = p ∨ ∃ i, i < s.length ∧ (ad i).has b
/-- From one state of a pool to the next. -/
structure Stp (s s' : List Wk) (p : Nat) (F F' : Nat → Prop) (ad ad' : Nat → Ad) (w w' : World) : Prop where
  ext : Ext (Blk s p ad) w w'
  inF : ∀ b, b < w.heap.size → F' b → F b
  inA : ∀ b, b < w.heap.size → Blk s' p ad' b → Blk s p ad b
theorem Stp.of_below {s : List Wk} {p : Nat} {F : Nat → Prop} {ad : Nat → Ad} {w w' : World} (h : Below w.heap.size w w') : Stp s s p F F ad ad w w' := ⟨Ext.of_below h, fun _ _ h => h, fun _ _ h => h⟩
theorem Stp.trans {s s1 s2 : List Wk} {p : Nat} {F F1 F2 : Nat → Prop} {ad ad1 ad2 : Nat → Ad} {w w1 w2 : World} (h : Stp s s1 p F F1 ad ad1 w w1) (k : Stp s1 s2 p F1 F2 ad1 ad2 w1 w2) : Stp s s2 p F F2 ad ad2 w w2 :=
  have hz := h.ext.size
  ⟨h.ext.trans k.ext (fun x hx e => h.inA x hx e), fun b hb e => h.inF b hb (k.inF b (by omega) e), fun b hb e => h.inA b hb (k.inA b (by omega) e)⟩
theorem Stp.then_ {s s1 : List Wk} {p : Nat} {F F1 : Nat → Prop} {ad ad1 : Nat → Ad} {w w1 w2 : World} (h : Stp s s1 p F F1 ad ad1 w w1) (k : Below w1.heap.size w1 w2) : Stp s s1 p F F1 ad ad1 w w2 := h.trans (Stp.of_below k)
theorem Stp.sharp {s s1 : List Wk} {p : Nat} {F F1 : Nat → Prop} {ad ad1 : Nat → Ad} {w w1 : World} {n : Nat} (h : Stp s s1 p (fun b => F b ∧ b < n) F1 ad ad1 w w1) : Stp s s1 p F F1 ad ad1 w w1 := ⟨h.ext, fun b hb e => (h.inF b hb e).1, h.inA⟩
theorem Pl.extb {N : Nat} {w w' : World} {F : Nat → Prop} {p : Nat} {s : List Wk} {ad : Nat → Ad} (h : Pl N w F p s ad) (he : Ext (Blk s p ad) w w') : Below N w w' :=
  he.toBelow h.bN (fun x hx e => by
    rcases e with e | ⟨i, hi, e⟩
    · have := h.pN; omega
    · have := h.ge i x hi e; omega)
theorem blk_put {s : List Wk} {p i n : Nat} {ad : Nat → Ad} {k : Wk} {a : Ad} (hi : i < s.length) (ha : ∀ b, b < n → a.has b → (ad i).has b) : ∀ b, b < n → Blk (s.set i k) p (put ad i a) b → Blk s p ad b := by
  intro b hb e
  rcases e with e | ⟨j, hj, e⟩
  · exact .inl e
  · rw [List.length_set] at hj
    by_cases hji : j = i
    · subst hji
      rw [put_same] at e
      exact .inr ⟨j, hj, ha b hb e⟩
    · rw [put_other _ hji] at e
      exact .inr ⟨j, hj, e⟩
theorem Pl.deqs {w w' : World} {F : Nat → Prop} {p : Nat} {s : List Wk} {ad : Nat → Ad} (i : Nat) (hi : i < s.length) {g' : Nat} {k : Wk} (hu : Up (ad i).d (ad i).g w g' w') :
    Stp s (s.set i k) p F (fun b => (F b ∨ w.heap.size ≤ b) ∧ b ≠ g') ad (put ad i ⟨(ad i).d, g', (ad i).h⟩) w w' :=
  ⟨hu.ext.mono (fun b _ e => .inr ⟨i, hi, e.elim .inl (fun e => .inr (.inl e))⟩), fun b hb e => e.1.elim id (fun h => by omega), blk_put hi (fun b hb e => by
    rcases e with e | e | e
    · exact .inl e
    · have e : b = g' := e
      rcases hu.new with h5 | h5
      · exact .inr (.inl (e.trans h5))
      · omega
    · exact .inr (.inr e))⟩
theorem Pl.upb {N : Nat} {w w' : World} {F : Nat → Prop} {p g' : Nat} {s : List Wk} {ad : Nat → Ad} (h : Pl N w F p s ad) (i : Nat) (hi : i < s.length) (hu : Up (ad i).d (ad i).g w g' w') : Below N w w' :=
  hu.ext.toBelow h.bN (fun x hx e => by
    rcases e with e | e
    · have := h.ge i x hi (.inl e); omega
    · have := h.ge i x hi (.inr (.inl e)); omega)
theorem Pl.setb {N : Nat} {w : World} {F : Nat → Prop} {p o : Nat} {s : List Wk} {ad : Nat → Ad} (h : Pl N w F p s ad) (v : Value) : Below N w (w.setCell ⟨p, o, none⟩ v) :=
  (Ext.setCell (S := fun b => b = p) w ⟨p, o, none⟩ v rfl).toBelow h.bN (fun x hx e => by have := h.pN; omega)
end Go.Proofs.Ytlfdnjomjheioaa
