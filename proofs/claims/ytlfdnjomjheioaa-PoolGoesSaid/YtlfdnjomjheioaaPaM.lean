/- A pool: what Pop and Steal do at a worker; blocks laid since. -/
import Derived.Test.YtlfdnjomjheioaaPaL
namespace Go.Proofs.Ytlfdnjomjheioaa
open Go.RowKit

theorem Pl.apart {N : Nat} {w w' : World} {F S : Nat → Prop} {p : Nat} {s : List Wk} {ad : Nat → Ad} (h : Pl N w F p s ad) (he : Ext S w w') (hp : ¬ S p) (ha : ∀ i, i < s.length → ∀ b, (ad i).has b → ¬ S b) (hF : ∀ b, F b → ¬ S b) : Pl N w' F p s ad := by
  have hl := h.lt
  obtain ⟨cur, h1, h2⟩ := h.blk
  exact ⟨⟨cur, (he.block p hl hp).trans h1, h2⟩, (he.cell_eq hl hp _).trans h.n, h.n1, h.n2, fun i hi => (h.at_ i hi).ext he hl hp (ha i hi) hF, h.sep, h.np, h.nF, h.pF, h.ge, h.pN, Nat.le_trans h.bN he.size⟩
/-- What a worker's call that tells a job leaves: blocks laid since w0 are no part of the pool. -/
structure Told (N lo hi : Nat) (p : Nat) (F0 A0 : Nat → Prop) (s' : List Wk) (j : Job) (vv : Value) (F' : Nat → Prop) (ad' : Nat → Ad) (w' : World) : Prop where
  pl : Pl N w' F' p s' ad'
  row : intE.Row F' w' vv j.stamp
  ok : okJob j
  inF : ∀ b, b < lo → F' b → F0 b
  inA : ∀ b i, b < lo → i < s'.length → (ad' i).has b → A0 b
  fresh : ∀ b, lo ≤ b → b < hi → ¬ F' b ∧ b ≠ p ∧ ∀ i, i < s'.length → ¬ (ad' i).has b
theorem Told.boxes {N lo hi p : Nat} {F0 A0 : Nat → Prop} {s' : List Wk} {j : Job} {vv : Value} {F' : Nat → Prop} {ad' : Nat → Ad} {w w' : World} (h : Told N lo hi p F0 A0 s' j vv F' ad' w) (he : Ext (fun b => lo ≤ b ∧ b < hi) w w') : Told N lo hi p F0 A0 s' j vv F' ad' w' :=
  ⟨h.pl.apart he (fun hs => (h.fresh p hs.1 hs.2).2.1 rfl) (fun i hi b hb hs => (h.fresh b hs.1 hs.2).2.2 i hi hb) (fun b hb hs => (h.fresh b hs.1 hs.2).1 hb), h.row.ext he (fun b hb _ hs => (h.fresh b hs.1 hs.2).1 hb), h.ok, h.inF, h.inA, h.fresh⟩
theorem Told.past {N lo hi p B : Nat} {F0 A0 : Nat → Prop} {s' : List Wk} {j : Job} {vv : Value} {F' : Nat → Prop} {ad' : Nat → Ad} {w w' : World} (h : Told N lo hi p F0 A0 s' j vv F' ad' w) (he : Past B w w') : Told N lo hi p F0 A0 s' j vv F' ad' w' :=
  ⟨h.pl.past he, h.row.stepC he.size (fun b _ hc => he.isC hc), h.ok, h.inF, h.inA, h.fresh⟩
theorem form_of2 {d g : Nat} {W w : World} (h : Ext (fun b => b = d ∨ b = g) W w) (hd : d < W.heap.size) (hg : g < W.heap.size) : ∃ o1 o2 e n, w = more (putB (putB W d o1) g o2) e n := by
  have hw1 : d < w.heap.size := Nat.lt_of_lt_of_le hd h.size
  have hw2 : g < w.heap.size := Nat.lt_of_lt_of_le hg h.size
  obtain ⟨o1, ho1⟩ : ∃ o, w.heap[d]? = some o := ⟨_, Array.getElem?_eq_getElem hw1⟩
  obtain ⟨o2, ho2⟩ : ∃ o, w.heap[g]? = some o := ⟨_, Array.getElem?_eq_getElem hw2⟩
  have hb : Below (putB (putB W d o1) g o2).heap.size (putB (putB W d o1) g o2) w := by
    refine ⟨h.os, h.tape, h.output, by rw [putB_size, putB_size]; exact h.size, fun k hk => ?_⟩
    rw [putB_size, putB_size] at hk
    by_cases hkg : k = g
    · subst hkg; rw [ho2]; simp [putB, hg]
    · rw [putB_heap hkg]
      by_cases hkd : k = d
      · subst hkd; rw [ho1]; simp [putB, hd]
      · rw [h.block k hk (fun hs => hs.elim hkd hkg), putB_heap hkd]
  obtain ⟨e, n, hw⟩ := more_of hb
  exact ⟨o1, o2, e, n, hw⟩
def Put2 (d g : Nat) (W w' : World) : Prop := ∃ o1 o2 e n, w' = more (putB (putB W d o1) g o2) e n
theorem Pl.told {N : Nat} {w W w' : World} {F : Nat → Prop} {p g' : Nat} {s : List Wk} {ad : Nat → Ad} (h : Pl N w F p s ad) (hb : Below w.heap.size w W) (i : Nat) (hi : i < s.length) {l' : List Job} {x : Job} {v' : Value}
    (hx : okJob x) (hr : intE.Row (Kx (fun b => F b ∧ b < w.heap.size) (ad i).d g') w' v' x.stamp) (hd : Dq w' (fun b => F b ∧ b < w.heap.size) (ad i).d g' l') (hu : Up (ad i).d (ad i).g W g' w') :
    (∃ F' ad', Told N w.heap.size W.heap.size p F (Blk s p ad) (s.set i ⟨l', s[i].h⟩) x v' F' ad' w') ∧ Below N W w' ∧ Put2 (ad i).d (ad i).g W w' := by
  have h1 := h.sharp.below hb
  have lt := fun j hj b hb => (h.at_ j hj).lt (b := b) hb
  have hl := h.lt
  have hs := hb.size
  have hp2 := h1.deq i hi (hd.mono (fun b hb _ => .inl hb)) hu
  have nF : ∀ b, ((F b ∧ b < w.heap.size) ∨ W.heap.size ≤ b) → b ≠ g' → ¬ (b = (ad i).d) := fun b hb _ e => by
    rcases hb with h5 | h5
    · exact h.nF i b hi (.inl e) h5.1
    · have := lt i hi b (.inl e); omega
  refine ⟨⟨_, _, hp2.apart (S := fun _ => False) (Ext.refl _ _) (fun h => h) (fun _ _ _ _ h => h) (fun _ _ h => h), hr.mono (fun b hb _ => ⟨.inl hb.1, hb.2.2⟩), hx, fun b hb0 hf => hf.1.elim (fun h5 => h5.1) (fun h5 => by omega), fun b j hb0 hj e => ?_, fun b hb1 hb2 => ⟨fun hf => ?_, by omega, fun j hj e => ?_⟩⟩, h1.upb i hi hu, form_of2 hu.ext (by have := lt i hi _ (.inl rfl); omega) (by have := lt i hi _ (.inr (.inl rfl)); omega)⟩
  · rw [List.length_set] at hj
    by_cases hji : j = i
    · subst hji
      rw [put_same] at e
      rcases e with e | e | e
      · exact .inr ⟨j, hj, .inl e⟩
      · have e : b = g' := e
        rcases hu.new with h5 | h5
        · exact .inr ⟨j, hj, .inr (.inl (e.trans h5))⟩
        · omega
      · exact .inr ⟨j, hj, .inr (.inr e)⟩
    · rw [put_other _ hji] at e
      exact .inr ⟨j, hj, e⟩
  · rcases hf.1 with h5 | h5
    · omega
    · omega
  · rw [List.length_set] at hj
    by_cases hji : j = i
    · subst hji
      rw [put_same] at e
      rcases e with e | e | e
      · have := lt j hj b (.inl e); omega
      · have e : b = g' := e
        rcases hu.new with h5 | h5
        · have := lt j hj b (.inr (.inl (e.trans h5))); omega
        · omega
      · have := lt j hj b (.inr (.inr e)); omega
    · rw [put_other _ hji] at e
      have := lt j hj b e; omega
theorem putB_get {W : World} {g k : Nat} {o : Obj} : (putB W g o).heap[k]? = if g = k then (if g < W.heap.size then some o else none) else W.heap[k]? := by
  simp only [putB, Array.getElem?_setIfInBounds]
theorem ext_put2 {lo d g : Nat} {w W W' : World} {o1 o2 : Obj} {e : Array Obj} {n n' : Nat} (h : Below w.heap.size w W) (h' : Below w.heap.size w W') (hs : W'.heap.size = W.heap.size) (hlo : lo = w.heap.size) :
    Ext (fun b => lo ≤ b ∧ b < W.heap.size) (more (putB (putB W d o1) g o2) e n) (more (putB (putB W' d o1) g o2) e n') := by
  subst hlo
  refine ⟨?_, ?_, ?_, by simp [more, putB_size, hs], fun k hk hn => ?_⟩
  · show W'.os = W.os; rw [h.os, h'.os]
  · show W'.tape = W.tape; rw [h.tape, h'.tape]
  · show W'.output = W.output; rw [h.output, h'.output]
  · by_cases hl : k < W.heap.size
    · have hlt : k < w.heap.size := by
        rcases Nat.lt_or_ge k w.heap.size with h5 | h5
        · exact h5
        · exact absurd ⟨h5, hl⟩ hn
      rw [more_heap (by rw [putB_size, putB_size]; omega), more_heap (by rw [putB_size, putB_size]; omega)]
      simp only [putB_get, putB_size, hs, h.block k hlt, h'.block k hlt]
    · exact more_swap (W := putB (putB W d o1) g o2) (by simp only [putB_size]; exact hs) (by simp only [putB_size]; omega)
theorem Told.shut {N p d g : Nat} {F0 A0 : Nat → Prop} {s' : List Wk} {j : Job} {vv : Value} {F' : Nat → Prop} {ad' : Nat → Ad} {w W W' : World} {o1 o2 : Obj} {e : Array Obj} {n n' : Nat} (h : Told N w.heap.size W.heap.size p F0 A0 s' j vv F' ad' (more (putB (putB W d o1) g o2) e n))
    (h1 : Below w.heap.size w W) (h2 : Below w.heap.size w W') (hs : W'.heap.size = W.heap.size) : Told N w.heap.size W.heap.size p F0 A0 s' j vv F' ad' (more (putB (putB W' d o1) g o2) e n') := h.boxes (ext_put2 h1 h2 hs rfl)
theorem Told.below {N lo hi p : Nat} {F0 A0 : Nat → Prop} {s' : List Wk} {j : Job} {vv : Value} {F' : Nat → Prop} {ad' : Nat → Ad} {w w' : World} (h : Told N lo hi p F0 A0 s' j vv F' ad' w) (hb : Below w.heap.size w w') : Told N lo hi p F0 A0 s' j vv F' ad' w' := h.boxes (Ext.of_below hb)
def Found (N : Nat) (w : World) (p : Nat) (F0 : Nat → Prop) (ad0 : Nat → Ad) (o : Option (List Wk × Job × Nat)) (s : List Wk) (e : Ending) (w' : World) : Prop :=
  match o with
  | some (s', j, v) => ∃ F ad vv hi, e = .returned (.tuple #[jobV j vv, .int .i64 v, .int .i64 0]) ∧ Told N w.heap.size hi p F0 (Blk s p ad0) s' j vv F ad w' ∧ Ext (Blk s p ad0) w w'
  | none => e = .returned (.tuple #[jobV job0 (.slice none 0 0), .int .i64 0, .int .i64 6]) ∧ Pl N w' F0 p s ad0 ∧ Ext (Blk s p ad0) w w'
theorem Pl.popAt {N : Nat} {w W : World} {F : Nat → Prop} {p : Nat} {s : List Wk} {ad : Nat → Ad} (h : Pl N w F p s ad) (hb : Below w.heap.size w W) (i : Nat) (hi : i < s.length) {l' : List Job} {x : Job} (hl : s[i].l = l' ++ [x]) :
    Calls Try.prog 46 #[.pointer (some ⟨(ad i).d, 0, none⟩)] W fun e w' => ∃ v', e = .returned (.tuple #[jobV x v', .int .i64 0]) ∧ intE.Row (fun _ => True) w' v' x.stamp ∧ (∃ F' ad', Told N w.heap.size W.heap.size p F (Blk s p ad) (s.set i ⟨l', s[i].h⟩) x v' F' ad' w') ∧ Below N W w' ∧ Put2 (ad i).d (ad i).g W w' := by
  have h1 := h.sharp.below hb
  have hd := (h1.at_ i hi).dq
  rw [hl] at hd
  have hx : okJob x := hd.ok x (by simp)
  refine (pop_some hd).mono ?_
  rintro e w' ⟨g', v', rfl, hr, hd', hu⟩
  exact ⟨v', rfl, hr.mono (fun _ _ _ => trivial), h.told hb i hi hx hr hd' hu⟩
theorem Pl.stealAt {N : Nat} {w W : World} {F : Nat → Prop} {p : Nat} {s : List Wk} {ad : Nat → Ad} (h : Pl N w F p s ad) (hb : Below w.heap.size w W) (i : Nat) (hi : i < s.length) {l' : List Job} {x : Job} (hl : s[i].l = x :: l') :
    Calls Try.prog 48 #[.pointer (some ⟨(ad i).d, 0, none⟩)] W fun e w' => ∃ v', e = .returned (.tuple #[jobV x v', .int .i64 0]) ∧ intE.Row (fun _ => True) w' v' x.stamp ∧ (∃ F' ad', Told N w.heap.size W.heap.size p F (Blk s p ad) (s.set i ⟨l', s[i].h⟩) x v' F' ad' w') ∧ Below N W w' ∧ Put2 (ad i).d (ad i).g W w' := by
  have h1 := h.sharp.below hb
  have hd := (h1.at_ i hi).dq
  rw [hl] at hd
  have hx : okJob x := hd.ok x (by simp)
  refine (steal_some hd).mono ?_
  rintro e w' ⟨g', v', rfl, hr, hd', hu⟩
  exact ⟨v', rfl, hr.mono (fun _ _ _ => trivial), h.told hb i hi hx hr hd' hu⟩
theorem Pl.popNone {N : Nat} {w : World} {F : Nat → Prop} {p : Nat} {s : List Wk} {ad : Nat → Ad} (h : Pl N w F p s ad) (i : Nat) (hi : i < s.length) (hl : s[i].l = []) :
    Calls Try.prog 46 #[.pointer (some ⟨(ad i).d, 0, none⟩)] w fun e w' => e = .returned (.tuple #[jobV job0 (.slice none 0 0), .int .i64 6]) ∧ Below w.heap.size w w' := by
  have hd := (h.at_ i hi).dq
  rw [hl] at hd
  exact pop_none hd
theorem Pl.stealNone {N : Nat} {w : World} {F : Nat → Prop} {p : Nat} {s : List Wk} {ad : Nat → Ad} (h : Pl N w F p s ad) (i : Nat) (hi : i < s.length) (hl : s[i].l = []) :
    Calls Try.prog 48 #[.pointer (some ⟨(ad i).d, 0, none⟩)] w fun e w' => e = .returned (.tuple #[jobV job0 (.slice none 0 0), .int .i64 6]) ∧ Below w.heap.size w w' := by
  have hd := (h.at_ i hi).dq
  rw [hl] at hd
  exact steal_none hd
end Go.Proofs.Ytlfdnjomjheioaa
