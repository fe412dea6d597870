/- A disk, and blocks that are reserved beside it; all branches opened. -/
import Derived.Test.YtgpcgndmdkgbdaaBack
import Derived.Test.YtgpcgndmdkgbdaaRows
import Derived.WalkKit
import Derived.ProofKit
import Derived.OpenShut
import Derived.ShutString
import Derived.ChangeOld
import Derived.Below
import Derived.Test.YtgpcgndmdkgbdaaGa
import Derived.Test.YtgpcgndmdkgbdaaGg
/- A disk, and blocks that are reserved beside it; all branches opened. -/
namespace Go.Proofs.Ytgpcgndmdkgbdaa
open Go.RowKit Go.Shelf

/-- A disk, and blocks R of others. -/
structure Hold (N : Nat) (w : World) (d : Nat) (s : DS) (R : Nat → Prop) (W : World) : Prop where
  ex : ∃ G : Nat → Prop, Dk W d G s ∧ (∀ b, G b → N ≤ b ∧ b < W.heap.size) ∧ (∀ b, R b → b < W.heap.size ∧ b ≠ d ∧ ¬ G b)
  d0 : N ≤ d
  low : Below N w W
abbrev Off (N : Nat) (R : Nat → Prop) : Nat → Prop := fun b => ¬ R b ∧ N ≤ b
theorem Hold.lt {N d : Nat} {w W : World} {s : DS} {R : Nat → Prop} (h : Hold N w d s R W) : d < W.heap.size := by
  obtain ⟨G, h1, _⟩ := h.ex
  exact h1.lt
theorem Hold.N {N d : Nat} {w W : World} {s : DS} {R : Nat → Prop} (h : Hold N w d s R W) : N ≤ W.heap.size := Nat.le_trans h.d0 (Nat.le_of_lt h.lt)
/-- What is made is reserved. -/
theorem Hold.more {N d : Nat} {w W X : World} {s : DS} {R : Nat → Prop} (h : Hold N w d s R W) (hb : Below W.heap.size W X) : Hold N w d s (fun b => R b ∨ (W.heap.size ≤ b ∧ b < X.heap.size)) X := by
  obtain ⟨G, h1, h2, h3⟩ := h.ex
  have hs := hb.size
  have hl := h1.lt
  refine ⟨⟨G, h1.below hb, fun b hg => ⟨(h2 b hg).1, by have := (h2 b hg).2; omega⟩, fun b hR => ?_⟩, h.d0, h.low.trans (hb.mono h.N)⟩
  rcases hR with hR | ⟨hR1, hR2⟩
  · obtain ⟨a1, a2, a3⟩ := h3 b hR
    exact ⟨by omega, a2, a3⟩
  · exact ⟨hR2, by omega, fun hg => by have := (h2 b hg).2; omega⟩
theorem Hold.less {N d : Nat} {w W : World} {s : DS} {R R' : Nat → Prop} (h : Hold N w d s R W) (hR : ∀ b, R' b → R b) : Hold N w d s R' W := by
  obtain ⟨G, h1, h2, h3⟩ := h.ex
  exact ⟨⟨G, h1, h2, fun b hb => h3 b (hR b hb)⟩, h.d0, h.low⟩
theorem Hold.below {N d : Nat} {w W X : World} {s : DS} {R : Nat → Prop} (h : Hold N w d s R W) (hb : Below W.heap.size W X) : Hold N w d s R X := (h.more hb).less (fun _ h => .inl h)
/-- Blocks of others turn. -/
theorem Hold.ext {N d : Nat} {w W X : World} {s : DS} {R S : Nat → Prop} (h : Hold N w d s R W) (he : Ext S W X) (hS : ∀ b, S b → R b ∧ N ≤ b) : Hold N w d s R X := by
  obtain ⟨G, h1, h2, h3⟩ := h.ex
  have hs := he.size
  exact ⟨⟨G, h1.ext he (fun hd => (h3 d (hS d hd).1).2.1 rfl) (fun b hg hb => (h3 b (hS b hb).1).2.2 hg), fun b hg => ⟨(h2 b hg).1, by have := (h2 b hg).2; omega⟩, fun b hb => ⟨by have := (h3 b hb).1; omega, (h3 b hb).2⟩⟩, h.d0,
    h.low.trans (he.toBelow h.N (fun x hx hxs => by have := (hS x hxs).2; omega))⟩
theorem Hold.grow {N d : Nat} {w W X : World} {s : DS} {R S : Nat → Prop} (h : Hold N w d s R W) (he : Ext S W X) (hS : ∀ b, S b → R b ∧ N ≤ b) : Hold N w d s (fun b => R b ∨ (W.heap.size ≤ b ∧ b < X.heap.size)) X := by
  obtain ⟨G, h1, h2, h3⟩ := h.ex
  have hs := he.size
  have hl := h1.lt
  refine ⟨⟨G, h1.ext he (fun hd => (h3 d (hS d hd).1).2.1 rfl) (fun b hg hb => (h3 b (hS b hb).1).2.2 hg), fun b hg => ⟨(h2 b hg).1, by have := (h2 b hg).2; omega⟩, fun b hb => ?_⟩, h.d0, h.low.trans (he.toBelow h.N (fun x hx hxs => by have := (hS x hxs).2; omega))⟩
  rcases hb with hR | ⟨hR1, hR2⟩
  · obtain ⟨a1, a2, a3⟩ := h3 b hR
    exact ⟨by omega, a2, a3⟩
  · exact ⟨hR2, by omega, fun hg => by have := (h2 b hg).2; omega⟩
/-- A call on the disk. -/
theorem Hold.op {N d f : Nat} {R : Nat → Prop} {w W : World} {s s' : DS} {c : Int} {p : DS × Int} {args : Array Value} (h : Hold N w d s R W) (hp : p = (s', c)) (hc : ∀ G, Dk W d G s → Calls Try.prog f args W (DkTo W d G p)) :
    Calls Try.prog f args W fun e X => e = .returned (.int .i64 c) ∧ Hold N w d s' R X ∧ Ext (Off N R) W X := by
  subst hp
  obtain ⟨G, h1, h2, h3⟩ := h.ex
  have hN := h.N
  have hl := h1.lt
  refine (hc G h1).mono fun e X ⟨q1, q2, q3⟩ => ?_
  have hs := q3.size
  have he : Ext (Off N R) W X := q3.mono (fun b _ hb => by
    rcases hb with rfl | hb
    · exact ⟨fun hR => (h3 _ hR).2.1 rfl, h.d0⟩
    · exact ⟨fun hR => (h3 _ hR).2.2 hb, (h2 _ hb).1⟩)
  refine ⟨q1, ⟨⟨fun b => (G b ∨ W.heap.size ≤ b) ∧ b < X.heap.size, q2.mono (fun b hb hl => ⟨hb, hl⟩), fun b hb => ⟨?_, hb.2⟩, fun b hb => ?_⟩, h.d0, h.low.trans (he.toBelow hN (fun x hx hxs => by have := hxs.2; omega))⟩, he⟩
  · rcases hb.1 with hg | hg
    · exact (h2 b hg).1
    · omega
  · obtain ⟨a1, a2, a3⟩ := h3 b hb
    exact ⟨by omega, a2, fun hx => hx.1.elim a3 (fun hx => by omega)⟩
theorem Hold.load {N d i : Nat} {R : Nat → Prop} {w W : World} {s : DS} {C : Int} {L : List (Ev × Nat)} (h : Hold N w d s R W) (hs : s.Ok C) (hC : C ≤ 1000000000) (hi : i + 1 < s.fs.length) (hp : logW (byt (fileB s i)) i ((s.fs.length - 1 : Nat) : Int) = L) :
    Calls Try.prog 10 #[.pointer (some ⟨d, 0, none⟩), .int .i64 i] W (LoadR L W) := by
  obtain ⟨G, h1, _⟩ := h.ex
  have := load_any h1 hs hC i (by omega) hi
  rw [show s.fs[i].b = fileB s i by unfold fileB; simp [show i < s.fs.length by omega], hp] at this
  exact this
theorem Hold.read {N d i n : Nat} {R : Nat → Prop} {w W : World} {s : DS} {C : Int} (h : Hold N w d s R W) (hs : s.Ok C) (hC : C ≤ 1000000000) (hi : i < s.fs.length) (hp : (fileB s i).length = n) :
    Calls Try.prog 12 #[.pointer (some ⟨d, 0, none⟩), .int .i64 i] W fun e X => ∃ A c, e = .returned (.slice A n c) ∧ Below W.heap.size W X := by
  obtain ⟨G, h1, _⟩ := h.ex
  refine (read_any h1 hs hC i hi).mono fun e X ⟨v', q1, q2, q3⟩ => ?_
  rw [show s.fs[i].b = fileB s i by unfold fileB; simp [hi]] at q2
  obtain ⟨A, c, rfl, _, _⟩ := q2.form
  rw [hp] at q1
  exact ⟨A, c, q1, q3⟩
theorem Hold.width {N d n : Nat} {R : Nat → Prop} {w W : World} {s : DS} {C : Int} (h : Hold N w d s R W) (hs : s.Ok C) (hn : s.fs.length - 1 = n) :
    Calls Try.prog 29 #[.pointer (some ⟨d, 0, none⟩)] W fun e X => e = .returned (.int .i64 n) ∧ Below W.heap.size W X := by
  obtain ⟨G, h1, _⟩ := h.ex
  subst hn
  exact width_any h1 hs.n1 hs.n2
abbrev rowsE : Enc (List Ev) := Enc.slice evE
theorem info22 : (Try.prog.info? 22).map (fun i => (i.zero, i.size, i.bytes)) = some (some (.slice none 0 0), 1, 24) := by kernel_rfl
theorem app44 {K : Nat → Prop} {g : Nat} {w : World} {v x : Value} {xs ys : List (List Ev)} (h : rowsE.Spine 22 K g w v xs) (hy : rowsE.Src K w x ys) (hKg : ∀ b, K b → b < w.heap.size → b ≠ g) (hlen : xs.length + ys.length ≤ 4294967296) :
    ∃ v' w' g', (Builtin.append_ #[44, 44] 44 #[v, x]).run Try.prog w = .ok v' w' ∧ rowsE.Spine 22 (fun b => K b ∧ b < w.heap.size) g' w' v' (xs ++ ys) ∧ Ext (fun b => b = g ∧ capOf v ≠ 0) w w' ∧ Grew g w w' v v' g' := by
  obtain ⟨i0, hi, hz0, hz1, hz2⟩ := info_parts info22
  exact h.append 44 44 44 i0 _ Try.underlying44 ⟨_, Try.underlying44⟩ hi hz0 hz1 rfl (by decide) hy hKg hlen (by rw [hz2]; decide)
/-- What is whole of each branch, the rest cut off. -/
def openN (s : DS) : Nat → Nat → List (List Ev) → DS × List (List Ev) × Int
  | 0, _, out => (s, out, 0)
  | k + 1, i, out =>
    let L := logW (byt (fileB s i)) i ((s.fs.length - 1 : Nat) : Int)
    if atF L L.length < (fileB s i).length then
      if (cutR s i (atF L L.length)).2 ≠ 0 then ((cutR s i (atF L L.length)).1, [], (cutR s i (atF L L.length)).2)
      else openN (cutR s i (atF L L.length)).1 k (i + 1) (out ++ [L.map (·.1)])
    else openN s k (i + 1) (out ++ [L.map (·.1)])
def openS (s : DS) : DS × List (List Ev) × Int := openN s (s.fs.length - 1) 0 []
def OpenR (N : Nat) (w : World) (d : Nat) (R : Nat → Prop) (W : World) (p : DS × List (List Ev) × Int) (e : Ending) (X : World) : Prop :=
  ∃ v R', e = .returned (.tuple #[v, .int .i64 p.2.2]) ∧ Hold N w d p.1 R' X ∧ (∀ b, R b → R' b) ∧ rowsE.Row R' X v p.2.1 ∧ Ext (Off N R) W X
theorem Spine_rowC {α : Type} {d : Enc α} {E : TypeId} {K K' : Nat → Prop} {g : Nat} {w : World} {v : Value} {xs : List α} (h : d.Spine E K g w v xs) (hk : ∀ b, K b → b < w.heap.size → K' b) (hg : capOf v ≠ 0 → K' g) : d.Row K' w v xs := by
  by_cases hc : capOf v = 0
  · obtain ⟨A, c, rfl, h2, h3, _⟩ := h
    have hc' : c = 0 := hc
    exact ⟨A, c, rfl, h2, h3, fun hx => absurd (List.eq_nil_of_length_eq_zero (by omega)) hx⟩
  · exact h.row hk (hg hc)
/-- A row that is built beside the disk; Q: what is reserved besides. -/
structure OutH (N : Nat) (w : World) (d : Nat) (s : DS) (R0 : Nat → Prop) (W0 : World) (v : Value) (out : List (List Ev)) (Q : Nat → Prop) (W : World) : Prop where
  ex : ∃ (R K : Nat → Prop) (g : Nat), Hold N w d s R W ∧ (∀ b, R0 b → R b) ∧ rowsE.Spine 22 K g W v out ∧ (∀ b, K b → R b ∧ (capOf v ≠ 0 → b ≠ g)) ∧ (capOf v ≠ 0 → R g ∧ W0.heap.size ≤ g ∧ g < W.heap.size) ∧ (∀ b, Q b → R b ∧ (capOf v ≠ 0 → b ≠ g))
  r0 : ∀ b, R0 b → b < W0.heap.size
  n0 : N ≤ W0.heap.size
  ext : Ext (Off N R0) W0 W
theorem OutH.less {N d : Nat} {w W0 W : World} {s : DS} {R0 Q Q' : Nat → Prop} {v : Value} {out : List (List Ev)} (h : OutH N w d s R0 W0 v out Q W) (hQ : ∀ b, Q' b → Q b) : OutH N w d s R0 W0 v out Q' W := by
  obtain ⟨R, K, g, h1, h2, h3, h4, h5, h6⟩ := h.ex
  exact ⟨⟨R, K, g, h1, h2, h3, h4, h5, fun b hb => h6 b (hQ b hb)⟩, h.r0, h.n0, h.ext⟩
theorem OutH.more {N d : Nat} {w W0 W X : World} {s : DS} {R0 Q : Nat → Prop} {v : Value} {out : List (List Ev)} (h : OutH N w d s R0 W0 v out Q W) (hb : Below W.heap.size W X) : OutH N w d s R0 W0 v out (fun b => Q b ∨ (W.heap.size ≤ b ∧ b < X.heap.size)) X := by
  obtain ⟨R, K, g, h1, h2, h3, h4, h5, h6⟩ := h.ex
  have hs := hb.size
  refine ⟨⟨_, K, g, h1.more hb, fun b hb => .inl (h2 b hb), h3.below hb, fun b hb => ⟨.inl (h4 b hb).1, (h4 b hb).2⟩, fun hc => ⟨.inl (h5 hc).1, (h5 hc).2.1, by have := (h5 hc).2.2; omega⟩, fun b hb => ?_⟩, h.r0, h.n0, h.ext.more_ hb⟩
  rcases hb with hq | hq
  · exact ⟨.inl (h6 b hq).1, (h6 b hq).2⟩
  · exact ⟨.inr hq, fun hc => by have := (h5 hc).2.2; omega⟩
theorem OutH.op {N d f : Nat} {w W0 W : World} {s s' : DS} {R0 Q : Nat → Prop} {v : Value} {out : List (List Ev)} {c : Int} {p : DS × Int} {args : Array Value} (h : OutH N w d s R0 W0 v out Q W) (hp : p = (s', c)) (hc : ∀ G, Dk W d G s → Calls Try.prog f args W (DkTo W d G p)) :
    Calls Try.prog f args W fun e X => e = .returned (.int .i64 c) ∧ OutH N w d s' R0 W0 v out Q X ∧ Ext (Off N Q) W X := by
  obtain ⟨R, K, g, h1, h2, h3, h4, h5, h6⟩ := h.ex
  refine (h1.op hp hc).mono fun e X ⟨q1, q2, q3⟩ => ⟨q1, ⟨⟨R, K, g, q2, h2, ?_, h4, fun hc => ⟨(h5 hc).1, (h5 hc).2.1, by have := (h5 hc).2.2; have := q3.size; omega⟩, h6⟩, h.r0, h.n0, h.ext.trans q3 (fun x hx hxs => ⟨fun hr => hxs.1 (h2 x hr), hxs.2⟩)⟩, q3.mono (fun b _ hb => ⟨fun hq => hb.1 (h6 b hq).1, hb.2⟩)⟩
  by_cases hc : capOf v = 0
  · exact h3.empty hc
  · exact h3.step (fun cur hcur => (q3.block g (Array.getElem?_eq_some_iff.1 hcur).1 (fun hx => hx.1 (h5 hc).1)).trans hcur) (fun b hb hl => ⟨hb, q3.block b hl (fun hx => hx.1 (h4 b hb).1)⟩)
theorem OutH.snoc {N d b : Nat} {w W0 W : World} {s : DS} {R0 Q Kx : Nat → Prop} {v : Value} {out : List (List Ev)} {xs : List Ev} {A : Option Addr} {n c : Nat} (h : OutH N w d s R0 W0 v out Q W) (hb : W.heap[b]? = some (.cells #[.slice A n c] 22 (0, 0)))
    (hx : evE.Row Kx W (.slice A n c) xs) (hKx : ∀ b, Kx b → Q b) (hlen : out.length + 1 ≤ 4294967296) :
    ∃ v' X, (Builtin.append_ #[44, 44] 44 #[v, .slice (some ⟨b, 0, none⟩) 1 1]).run Try.prog W = .ok v' X ∧ OutH N w d s R0 W0 v' (out ++ [xs]) (fun _ => False) X ∧ (∃ A' c', v' = .slice A' (out.length + 1) c') := by
  obtain ⟨R, K, g, h1, h2, h3, h4, h5, h6⟩ := h.ex
  have hWs := h.ext.size
  have hnorm : ∃ g1, rowsE.Spine 22 (fun x => K x ∨ Kx x) g1 W v out ∧ (∀ x, (K x ∨ Kx x) → x < W.heap.size → x ≠ g1) ∧ (g1 = W.heap.size ∧ capOf v = 0 ∨ g1 = g ∧ capOf v ≠ 0) := by
    by_cases hc : capOf v = 0
    · exact ⟨W.heap.size, h3.empty hc, fun x _ hx => by omega, .inl ⟨rfl, hc⟩⟩
    · refine ⟨g, h3.mono (fun x hx _ => .inl hx), fun x hx _ => ?_, .inr ⟨rfl, hc⟩⟩
      rcases hx with hx | hx
      · exact (h4 x hx).2 hc
      · exact (h6 x (hKx x hx)).2 hc
  obtain ⟨g1, k1, k2, k3⟩ := hnorm
  have hsrc : rowsE.Src (fun x => K x ∨ Kx x) W (.slice (some ⟨b, 0, none⟩) 1 1) [xs] := Enc.Src.one_blk (cs := [.slice A n c]) hb ⟨_, rfl, hx.mono (fun x hx _ => .inr hx)⟩
  obtain ⟨v', X, g', hrun, q1, q2, q3⟩ := app44 k1 hsrc k2 (by simpa using hlen)
  obtain ⟨A', c', hv', _, _⟩ := q1.form
  have hs := q2.size
  have hl : capOf v ≠ 0 → g1 = g ∧ R g ∧ W0.heap.size ≤ g ∧ g < W.heap.size := fun hc => by
    rcases k3 with ⟨_, h⟩ | ⟨h, _⟩
    · exact absurd h hc
    · exact ⟨h, h5 hc⟩
  have hh := h1.grow q2 (fun x hx => by obtain ⟨a1, a2, a3, _⟩ := hl hx.2; rw [hx.1, a1]; exact ⟨a2, by have := h.n0; omega⟩)
  have hcv : capOf v' ≠ 0 := capOf_ne q1 (by simp)
  have hgo : (g' = g ∧ g1 = g ∧ X.heap.size = W.heap.size ∧ capOf v ≠ 0) ∨ (g' = W.heap.size ∧ X.heap.size = W.heap.size + 1) := by
    rcases q3 with ⟨e1, e2, e3⟩ | e
    · have hc : capOf v ≠ 0 := by rw [← e3]; exact hcv
      exact .inl ⟨e1.trans (hl hc).1, (hl hc).1, e2, hc⟩
    · exact .inr e
  refine ⟨v', X, hrun, ?_, A', c', by rw [hv']; simp⟩
  have hh2 : Hold N w d s (fun x => R x ∨ x = g') X := hh.less (fun x hx => by
    rcases hx with hx | hx
    · exact .inl hx
    · rcases hgo with ⟨e, _, _, hc⟩ | ⟨e, e2⟩
      · rw [hx, e]; exact .inl (h5 hc).1
      · exact .inr (by omega))
  refine ⟨⟨fun x => R x ∨ x = g', fun x => (K x ∨ Kx x) ∧ x < W.heap.size, g', hh2, fun x hx => .inl (h2 x hx), q1, fun x hx => ⟨.inl ?_, fun _ => ?_⟩, fun _ => ⟨.inr rfl, ?_, ?_⟩, fun _ h => h.elim⟩, h.r0, h.n0, h.ext.trans q2 (fun x hx hxs => ?_)⟩
  · rcases hx.1 with hx1 | hx1
    · exact (h4 x hx1).1
    · exact (h6 x (hKx x hx1)).1
  · rcases hgo with ⟨e, e2, _⟩ | ⟨e, _⟩
    · rw [e, ← e2]; exact k2 x hx.1 hx.2
    · have := hx.2; omega
  · rcases hgo with ⟨e, _, _, hc⟩ | ⟨e, _⟩
    · have := (h5 hc).2.1; omega
    · omega
  · rcases hgo with ⟨e, _, e3, hc⟩ | ⟨e, e3⟩
    · have := (h5 hc).2.2; omega
    · omega
  · obtain ⟨a1, a2, a3, _⟩ := hl hxs.2
    have := hxs.1
    omega
theorem OutH.told {N d : Nat} {w W0 W : World} {s : DS} {R0 Q : Nat → Prop} {v : Value} {out : List (List Ev)} (h : OutH N w d s R0 W0 v out Q W) (c : Int) : OpenR N w d R0 W0 (s, out, c) (.returned (.tuple #[v, .int .i64 c])) W := by
  obtain ⟨R, K, g, h1, h2, h3, h4, h5, h6⟩ := h.ex
  exact ⟨v, R, rfl, h1, h2, Spine_rowC h3 (fun b hb _ => (h4 b hb).1) (fun hc => (h5 hc).1), h.ext⟩
theorem OutH.form {N d : Nat} {w W0 W : World} {s : DS} {R0 Q : Nat → Prop} {v : Value} {out : List (List Ev)} (h : OutH N w d s R0 W0 v out Q W) : ∃ A c, v = .slice A out.length c := by
  obtain ⟨_, _, _, _, _, h3, _⟩ := h.ex
  obtain ⟨A, c, e, _, _⟩ := h3.form
  exact ⟨A, c, e⟩
theorem OutH.hold {N d : Nat} {w W0 W : World} {s : DS} {R0 Q : Nat → Prop} {v : Value} {out : List (List Ev)} (h : OutH N w d s R0 W0 v out Q W) : Hold N w d s (fun _ => False) W := by
  obtain ⟨R, _, _, h1, _⟩ := h.ex
  exact h1.less (fun _ h => h.elim)
theorem OutH.start {N d : Nat} {w W : World} {s : DS} {R0 : Nat → Prop} (h : Hold N w d s R0 W) : OutH N w d s R0 W (.slice none 0 0) [] (fun _ => False) W := by
  obtain ⟨G, h1, h2, h3⟩ := h.ex
  exact ⟨⟨R0, fun _ => False, 0, h, fun _ h => h, Enc.Spine.nil _ _ _ _ _, fun _ h => h.elim, fun h => absurd rfl h, fun _ h => h.elim⟩, fun b hb => (h3 b hb).1, h.N, Ext.refl _ _⟩
theorem OutH.below {N d : Nat} {w W0 W X : World} {s : DS} {R0 Q : Nat → Prop} {v : Value} {out : List (List Ev)} (h : OutH N w d s R0 W0 v out Q W) (hb : Below W.heap.size W X) : OutH N w d s R0 W0 v out Q X := (h.more hb).less (fun _ h => .inl h)
theorem OpenR.pre {N d : Nat} {w W W1 X : World} {R : Nat → Prop} {p : DS × List (List Ev) × Int} {e : Ending} (h : OpenR N w d R W1 p e X) (hb : Below W.heap.size W W1) : OpenR N w d R W p e X := by
  obtain ⟨v, R', h1, h2, h3, h4, h5⟩ := h
  exact ⟨v, R', h1, h2, h3, h4, (Ext.of_below hb).trans h5 (fun _ _ h => h)⟩
theorem OutH.none_ {N d : Nat} {w W W0 X : World} {s : DS} {R0 Q : Nat → Prop} {v : Value} {out : List (List Ev)} (h : OutH N w d s R0 W0 v out Q X) (hb : Below W.heap.size W W0) (c : Int) : OpenR N w d R0 W (s, [], c) (.returned (.tuple #[.slice none 0 0, .int .i64 c])) X := by
  obtain ⟨R, K, g, h1, h2, h3, h4, h5, h6⟩ := h.ex
  exact ⟨_, R, rfl, h1, h2, Enc.Row.nil _ _ _, (Ext.of_below hb).trans h.ext (fun _ _ h => h)⟩
theorem openN_cut {s s2 : DS} {k i : Nat} {out : List (List Ev)} {L : List (Ev × Nat)} {c : Int} (hL : logW (byt (fileB s i)) i ((s.fs.length - 1 : Nat) : Int) = L) (hlt : atF L L.length < (fileB s i).length) (hc : cutR s i (atF L L.length) = (s2, c)) :
    openN s (k + 1) i out = if c ≠ 0 then (s2, [], c) else openN s2 k (i + 1) (out ++ [L.map (·.1)]) := by
  rw [openN]
  simp only [hL]
  rw [if_pos hlt, hc]
theorem openN_go {s : DS} {k i : Nat} {out : List (List Ev)} {L : List (Ev × Nat)} (hL : logW (byt (fileB s i)) i ((s.fs.length - 1 : Nat) : Int) = L) (hlt : ¬ atF L L.length < (fileB s i).length) :
    openN s (k + 1) i out = openN s k (i + 1) (out ++ [L.map (·.1)]) := by
  rw [openN]
  simp only [hL]
  rw [if_neg hlt]
theorem doW_len {s : DS} {i : Int} {may : Nat → Int} {act : DS → Nat → DS} (ha : ∀ s k, (act s k).fs.length = s.fs.length) : (doW s i may act).1.fs.length = s.fs.length := by
  unfold doW
  split
  · rfl
  · split
    · rfl
    · split
      · rfl
      · split
        · rfl
        · rw [ha, burn_fs]
theorem cut_len {s : DS} {i n : Int} : (cutR s i n).1.fs.length = s.fs.length := doW_len (fun s k => keep_len s k _)
set_option maxRecDepth 8000 in
set_option maxHeartbeats 4000000 in
theorem open_any {N d : Nat} {w W : World} {s : DS} {R : Nat → Prop} {C : Int} (h : Hold N w d s R W) (hs : s.Ok C) (hC : C ≤ 1000000000) : Calls Try.prog 18 #[.pointer (some ⟨d, 0, none⟩)] W (OpenR N w d R W (openS s)) := by
  have HH := hid h
  have HS := hid hs
  have HC := hid hC
  obtain ⟨n, hn⟩ : ∃ n, s.fs.length - 1 = n := ⟨_, rfl⟩
  have HN := hid hn
  have hn64 : n ≤ 64 := by have := hs.n2; omega
  have hopen : openS s = openN s n 0 [] := by unfold openS; rw [hn]
  have hlen : s.fs.length = n + 1 := by have := hs.n1; omega
  have HLN := hid hlen
  have HOP := hid hopen
  clear h hs hC hn hopen hlen
  go_enter Try.func18, Try.ntmps18
  go_wp2_with (first | (go_at_call 29; refine ((HH.out.below (by repeat (first | (with_reducible exact Below.refl _ _) | (with_reducible exact bl_mm) | (with_reducible refine bl_dr ?_) | (with_reducible refine bl_drN ?_ _) | (with_reducible refine bl_al ?_ _) | (with_reducible refine bl_more ?_ _ _)))).width HS.out HN.out).mono ?_; rintro e w1 ⟨rfl, hb1⟩; obtain ⟨ex1, dx1, rfl⟩ := more_of hb1; clear hb1))
  refine wp_name (fun W1 hW1 => ?_)
  have hW1b : Below W.heap.size W W1 := by rw [hW1]; exact (by repeat (first | (with_reducible exact Below.refl _ _) | (with_reducible exact bl_mm) | (with_reducible refine bl_dr ?_) | (with_reducible refine bl_drN ?_ _) | (with_reducible refine bl_al ?_ _) | (with_reducible refine bl_more ?_ _ _)))
  go_loopg [4, 14] n (fun k v4 v14 wr => ∃ (i : Nat) (s1 : DS) (out : List (List Ev)), v14 = .int .i64 (i : Int) ∧ i + k = n ∧ OutH N w d s1 R W1 v4 out (fun _ => False) wr ∧ openS s = openN s1 k i out ∧ s1.Ok C ∧ s1.fs.length = n + 1 ∧ out.length = i)
  case atStart => exact ⟨0, s, [], rfl, by omega, OutH.start (HH.out.below hW1b), HOP.out, HS.out, HLN.out, rfl⟩
  case round =>
    obtain ⟨i, s1, out, rfl, hik, ho, hop, hso, hsl, hol⟩ := hrel
    obtain ⟨A4, c4, rfl⟩ := ho.form
    rw [hol] at ho ⊢
    have HO := hid ho
    have HSo := hid hso
    by_cases hlt : i < n
    · obtain ⟨k2, rfl⟩ : ∃ k2, gk = k2 + 1 := ⟨gk - 1, by omega⟩
      have hj1 : (i : Int) < (n : Int) := by omega
      have hj2 : (0 : Int) ≤ (i : Int) := by omega
      have hwj : IntKind.i64.wrap ((i : Int) + 1) = ((i + 1 : Nat) : Int) := by rw [IntWalk.i64_in _ (by omega)]; rfl
      have HI1 : Hid (i + 1 < s1.fs.length) := hid (by omega)
      have HI2 : Hid (i < s1.fs.length) := hid (by omega)
      obtain ⟨L, hL⟩ : ∃ L, logW (byt (fileB s1 i)) i ((s1.fs.length - 1 : Nat) : Int) = L := ⟨_, rfl⟩
      have HLG := hid hL
      obtain ⟨m, hm⟩ : ∃ m, atF L L.length = m := ⟨_, rfl⟩
      have HAT := hid hm
      obtain ⟨q, hq⟩ : ∃ q, (fileB s1 i).length = q := ⟨_, rfl⟩
      have HRL := hid hq
      obtain ⟨es, hes⟩ : ∃ es, L.map (·.1) = es := ⟨_, rfl⟩
      have HES := hid hes
      have HLEN : Hid (out.length + 1 ≤ 4294967296) := hid (by omega)
      obtain ⟨p, hp⟩ : ∃ p, cutR s1 i m = p := ⟨_, rfl⟩
      obtain ⟨s2, c⟩ := p
      have HCUT := hid hp
      have hs2 : s2.Ok C := by have := cut_ok hso i m; rw [hp] at this; exact this
      have hl2 : s2.fs.length = n + 1 := by have := cut_len (s := s1) (i := i) (n := m); rw [hp] at this; exact this.trans hsl
      by_cases hmq : m < q
      · have hlt' : atF L L.length < (fileB s1 i).length := by omega
        have hpp : cutR s1 i (atF L L.length) = (s2, c) := by rw [hm]; exact hp
        have hON := openN_cut (k := k2) (out := out) hL hlt' hpp
        have hmq1 : (m : Int) < (q : Int) := by omega
        have HMQ := hid hmq
        by_cases hc : c = 0
        · subst hc
          rw [if_neg (by simp), hes] at hON
          have HON := hid (hop.trans hON)
          have HS2 := hid hs2
          have HL2 := hid hl2
          have HOL := hid hol
          have HIK := hid hik
          clear ho hop hso hsl hol hL hm hq hp hes hs2 hl2 hlt' hpp hON hmq hlt hik
          go_wp2_with (first | (go_at_call 10; refine ((HO.out.hold.below (by repeat (first | (with_reducible exact Below.refl _ _) | (with_reducible exact bl_mm) | (with_reducible refine bl_dr ?_) | (with_reducible refine bl_drN ?_ _) | (with_reducible refine bl_al ?_ _) | (with_reducible refine bl_more ?_ _ _)))).load (i := i) HSo.out HC.out HI1.out HLG.out).mono ?_; rintro e w2 ⟨v2, g2, rfl, ho2, hb2⟩; rw [HAT.out]; rw [HES.out] at ho2; obtain ⟨A2, c2, rfl, _, _⟩ := ho2.sp.form; have HX := hid ((ho2.row (fun _ hb => hb)).bound); obtain ⟨ex2, dx2, rfl⟩ := more_of hb2; clear ho2 hb2) | (go_at_call 12; refine ((HO.out.hold.below (by repeat (first | (with_reducible exact Below.refl _ _) | (with_reducible exact bl_mm) | (with_reducible refine bl_dr ?_) | (with_reducible refine bl_drN ?_ _) | (with_reducible refine bl_al ?_ _) | (with_reducible refine bl_more ?_ _ _)))).read (i := i) HSo.out HC.out HI2.out HRL.out).mono ?_; rintro e w3 ⟨A3, c3, rfl, hb3⟩; obtain ⟨ex3, dx3, rfl⟩ := more_of hb3; clear hb3) | (go_at_call 36; refine ((HO.out.more (X := more (more wr ex2 dx2) ex3 dx3) (by repeat (first | (with_reducible exact Below.refl _ _) | (with_reducible exact bl_mm) | (with_reducible refine bl_dr ?_) | (with_reducible refine bl_drN ?_ _) | (with_reducible refine bl_al ?_ _) | (with_reducible refine bl_more ?_ _ _)))).op HCUT.out (fun G hD => cut_all hD HSo.out HC.out i m)).mono ?_; rintro e w4 ⟨rfl, ho4, he4⟩; have HO4 := hid ho4; have HE4 := hid he4; clear ho4 he4) | (at_builtin; obtain ⟨v5, w5, hrun, ho5, A5, c5, hv5⟩ := ((HO4.out.more (X := w4.alloc (Obj.cells #[.slice A2 es.length c2] 22)) (by repeat (first | (with_reducible exact Below.refl _ _) | (with_reducible exact bl_mm) | (with_reducible refine bl_dr ?_) | (with_reducible refine bl_drN ?_ _) | (with_reducible refine bl_al ?_ _) | (with_reducible refine bl_more ?_ _ _))))).snoc (b := w4.heap.size) (alloc_blk rfl) (((HX.out.below (w' := more (more wr ex2 dx2) ex3 dx3) (by repeat (first | (with_reducible exact Below.refl _ _) | (with_reducible exact bl_mm) | (with_reducible refine bl_dr ?_) | (with_reducible refine bl_drN ?_ _) | (with_reducible refine bl_al ?_ _) | (with_reducible refine bl_more ?_ _ _)))).ext HE4.out (fun b hb _ hx => hx.1 (.inr (by simp [more_size] at hb ⊢; omega)))).below (bl_al (Below.refl _ _) _)) (fun b hb => .inl (.inr (by simp [more_size] at hb ⊢; omega))) HLEN.out; subst hv5; refine wpList_append_run (by rfl) (.tmp 36) (.tmp 38) 44 44 (by rfl) (by exact hrun) ?_; have HO5 := hid ho5; clear hrun ho5))
          go_roundg k2
          case measure => omega
          case rel => exact ⟨i + 1, s2, _, rfl, by have := HIK.out; omega, HO5.out.below (by repeat (first | (with_reducible exact Below.refl _ _) | (with_reducible exact bl_mm) | (with_reducible refine bl_dr ?_) | (with_reducible refine bl_drN ?_ _) | (with_reducible refine bl_al ?_ _) | (with_reducible refine bl_more ?_ _ _))), HON.out, HS2.out, HL2.out, by have := HOL.out; simp; omega⟩
        · rw [if_pos hc] at hON
          have HON := hid (hop.trans hON)
          have hc1 : (c != 0) = true := by simpa using hc
          clear ho hop hso hsl hol hL hm hq hp hes hs2 hl2 hlt' hpp hON hmq hlt hik hc
          go_wp2_with (first | (go_at_call 10; refine ((HO.out.hold.below (by repeat (first | (with_reducible exact Below.refl _ _) | (with_reducible exact bl_mm) | (with_reducible refine bl_dr ?_) | (with_reducible refine bl_drN ?_ _) | (with_reducible refine bl_al ?_ _) | (with_reducible refine bl_more ?_ _ _)))).load (i := i) HSo.out HC.out HI1.out HLG.out).mono ?_; rintro e w2 ⟨v2, g2, rfl, ho2, hb2⟩; rw [HAT.out]; rw [HES.out] at ho2; obtain ⟨A2, c2, rfl, _, _⟩ := ho2.sp.form; have HX := hid ((ho2.row (fun _ hb => hb)).bound); obtain ⟨ex2, dx2, rfl⟩ := more_of hb2; clear ho2 hb2) | (go_at_call 12; refine ((HO.out.hold.below (by repeat (first | (with_reducible exact Below.refl _ _) | (with_reducible exact bl_mm) | (with_reducible refine bl_dr ?_) | (with_reducible refine bl_drN ?_ _) | (with_reducible refine bl_al ?_ _) | (with_reducible refine bl_more ?_ _ _)))).read (i := i) HSo.out HC.out HI2.out HRL.out).mono ?_; rintro e w3 ⟨A3, c3, rfl, hb3⟩; obtain ⟨ex3, dx3, rfl⟩ := more_of hb3; clear hb3) | (go_at_call 36; refine ((HO.out.more (X := more (more wr ex2 dx2) ex3 dx3) (by repeat (first | (with_reducible exact Below.refl _ _) | (with_reducible exact bl_mm) | (with_reducible refine bl_dr ?_) | (with_reducible refine bl_drN ?_ _) | (with_reducible refine bl_al ?_ _) | (with_reducible refine bl_more ?_ _ _)))).op HCUT.out (fun G hD => cut_all hD HSo.out HC.out i m)).mono ?_; rintro e w4 ⟨rfl, ho4, he4⟩; have HO4 := hid ho4; have HE4 := hid he4; clear ho4 he4))
          (try rw [Exit.noGoto_ret])
          go_ret2
          rw [HON.out]
          exact HO4.out.none_ hW1b c
      · have HON := hid (by have hON := hop.trans (openN_go (k := k2) (out := out) hL (by omega)); rw [hes] at hON; exact hON)
        have hmq1 : ¬ (m : Int) < (q : Int) := by omega
        have HSL := hid hsl
        have HOL := hid hol
        have HIK := hid hik
        clear ho hop hso hsl hol hL hm hq hp hes hs2 hl2 hmq hlt hik
        go_wp2_with (first | (go_at_call 10; refine ((HO.out.hold.below (by repeat (first | (with_reducible exact Below.refl _ _) | (with_reducible exact bl_mm) | (with_reducible refine bl_dr ?_) | (with_reducible refine bl_drN ?_ _) | (with_reducible refine bl_al ?_ _) | (with_reducible refine bl_more ?_ _ _)))).load (i := i) HSo.out HC.out HI1.out HLG.out).mono ?_; rintro e w2 ⟨v2, g2, rfl, ho2, hb2⟩; rw [HAT.out]; rw [HES.out] at ho2; obtain ⟨A2, c2, rfl, _, _⟩ := ho2.sp.form; have HX := hid ((ho2.row (fun _ hb => hb)).bound); obtain ⟨ex2, dx2, rfl⟩ := more_of hb2; clear ho2 hb2) | (go_at_call 12; refine ((HO.out.hold.below (by repeat (first | (with_reducible exact Below.refl _ _) | (with_reducible exact bl_mm) | (with_reducible refine bl_dr ?_) | (with_reducible refine bl_drN ?_ _) | (with_reducible refine bl_al ?_ _) | (with_reducible refine bl_more ?_ _ _)))).read (i := i) HSo.out HC.out HI2.out HRL.out).mono ?_; rintro e w3 ⟨A3, c3, rfl, hb3⟩; have HB3 := hid hb3; clear hb3) | (at_builtin; obtain ⟨v5, w5, hrun, ho5, A5, c5, hv5⟩ := (HO.out.more (X := w3.alloc (Obj.cells #[.slice A2 es.length c2] 22)) (bl_al (bl_then (by repeat (first | (with_reducible exact Below.refl _ _) | (with_reducible exact bl_mm) | (with_reducible refine bl_dr ?_) | (with_reducible refine bl_drN ?_ _) | (with_reducible refine bl_al ?_ _) | (with_reducible refine bl_more ?_ _ _))) HB3.out) _)).snoc (b := w3.heap.size) (alloc_blk rfl) (HX.out.below (w' := w3.alloc (Obj.cells #[.slice A2 es.length c2] 22)) (bl_al HB3.out _)) (fun b hb => .inr (by have := HB3.out.size; simp [more_size] at hb this ⊢; omega)) HLEN.out; subst hv5; refine wpList_append_run (by rfl) (.tmp 36) (.tmp 38) 44 44 (by rfl) (by exact hrun) ?_; have HO5 := hid ho5; clear hrun ho5))
        go_roundg k2
        case measure => omega
        case rel => exact ⟨i + 1, s1, _, rfl, by have := HIK.out; omega, HO5.out.below (by repeat (first | (with_reducible exact Below.refl _ _) | (with_reducible exact bl_mm) | (with_reducible refine bl_dr ?_) | (with_reducible refine bl_drN ?_ _) | (with_reducible refine bl_al ?_ _) | (with_reducible refine bl_more ?_ _ _))), HON.out, HSo.out, HSL.out, by have := HOL.out; simp; omega⟩
    · have hk0 : gk = 0 := by omega
      subst hk0
      have hj1 : ¬ (i : Int) < (n : Int) := by omega
      have HON := hid (hop.trans (show openN s1 0 i out = (s1, out, 0) from rfl))
      clear ho hop hso hsl hlt hik
      go_wp2
      go_ret2
      rw [HON.out]
      have := HO.out.told 0
      exact this.pre hW1b
theorem open_at {N d : Nat} {w W : World} {s : DS} {R : Nat → Prop} {C : Int} {p : DS × List (List Ev) × Int} (h : Hold N w d s R W) (hs : s.Ok C) (hC : C ≤ 1000000000) (hp : openS s = p) : Calls Try.prog 18 #[.pointer (some ⟨d, 0, none⟩)] W (OpenR N w d R W p) := by
  subst hp
  exact open_any h hs hC
end Go.Proofs.Ytgpcgndmdkgbdaa

/- The document's words on rows of events: the same. -/
namespace Go.Proofs.Ytgpcgndmdkgbdaa
open Go.RowKit Go.Shelf

/-- A row in a row. -/
theorem row_rows {K : Nat → Prop} {w : World} {A : Option Addr} {n c : Nat} {xs : List (List Ev)} (h : rowsE.Row K w (.slice A n c) xs) (i : Nat) (hi : i < xs.length) :
    ∃ b off A' c', A = some ⟨b, off, none⟩ ∧ K b ∧ b < w.heap.size ∧ w.cell? ⟨b, off + i, none⟩ = some (.slice A' xs[i].length c') ∧ evE.Row K w (.slice A' xs[i].length c') xs[i] := by
  obtain ⟨b, off, cs, rfl, hK, hl, hrd, hc⟩ := h.get i hi
  obtain ⟨v, rfl, hv⟩ := hrd
  obtain ⟨A', c', rfl, _, _⟩ := hv.form
  have := hc 0 _ rfl
  exact ⟨b, off, A', c', rfl, hK, hl, by simpa [rowsE, Enc.slice] using this, hv⟩
set_option maxRecDepth 4000 in
set_option maxHeartbeats 2000000 in
theorem srows_any {w : World} {v u : Value} {a b : List (List Ev)} {K L : Nat → Prop} (h : rowsE.Row K w v a) (h' : rowsE.Row L w u b) : Calls Try.prog 19 #[v, u] w fun e w' => e = .returned (.bool (decide (a = b))) ∧ Below w.heap.size w w' := by
  obtain ⟨A, c, rfl, hl1, hl2⟩ := h.form
  obtain ⟨B, d, rfl, hm1, hm2⟩ := h'.form
  have HR := hid h
  have HS := hid h'
  have hml : a.length ≤ 9223372036854775807 := by simp only [maxLen] at hl2; omega
  by_cases hlen : a.length = b.length
  · have hlb : ((a.length : Int) != (b.length : Int)) = false := by simp only [bne_eq_false_iff_eq]; omega
    go_enter Try.func19, Try.ntmps19
    go_wp2
    go_loopg [5] a.length (fun k v5 wr => ∃ j : Nat, v5 = .int .i64 (j : Int) ∧ j + k = a.length ∧ (∀ i (h1 : i < a.length) (h2 : i < b.length), i < j → a[i] = b[i]) ∧ Below w.heap.size w wr)
    case atStart => exact ⟨0, rfl, by omega, fun i _ _ h => by omega, Below.refl _ _⟩
    case round =>
      obtain ⟨j, rfl, hj, hall, hb⟩ := hrel
      have HB := hid hb
      by_cases hlt : j < a.length
      · obtain ⟨k2, rfl⟩ : ∃ k2, gk = k2 + 1 := ⟨gk - 1, by omega⟩
        have hlt2 : j < b.length := by omega
        obtain ⟨b1, off, A1, c1, hA, _, hbl, p1, hv1⟩ := row_rows (HR.out.below hb) j hlt
        obtain ⟨b2, off2, A2, c2, hB, _, hbl2, q1, hv2⟩ := row_rows (HS.out.below hb) j hlt2
        subst hA
        subst hB
        obtain ⟨x, hx⟩ : ∃ x, a[j] = x := ⟨_, rfl⟩
        obtain ⟨y, hy⟩ : ∃ y, b[j] = y := ⟨_, rfl⟩
        rw [hx] at p1 hv1
        rw [hy] at q1 hv2
        obtain ⟨xl, hxl⟩ : ∃ xl, x.length = xl := ⟨_, rfl⟩
        obtain ⟨yl, hyl⟩ : ∃ yl, y.length = yl := ⟨_, rfl⟩
        rw [hxl] at p1 hv1
        rw [hyl] at q1 hv2
        have HV1 := hid hv1
        have HV2 := hid hv2
        have hj1 : (j : Int) < (a.length : Int) := by omega
        have hj3 : (j : Int) < (b.length : Int) := by omega
        have hj2 : (0 : Int) ≤ (j : Int) := by omega
        have hwj : IntKind.i64.wrap ((j : Int) + 1) = ((j + 1 : Nat) : Int) := by rw [IntWalk.i64_in _ (by omega)]; rfl
        by_cases hn : x = y
        · have HN := hid (decide_eq_true hn)
          have HALL2 : Hid (∀ i (h1 : i < a.length) (h2 : i < b.length), i < j + 1 → a[i] = b[i]) := hid (fun i h1 h2 h => by
            by_cases he : i = j
            · subst he; rw [hx, hy]; exact hn
            · exact hall i h1 h2 (by omega))
          clear h h' hb hall hx hy hl1 hl2 hm1 hm2 hlen hn hv1 hv2 hxl hyl
          go_wp2_with (first | ((with_reducible refine wp_region_plan (id := 6) (.eff [(false, 0), (false, 1), (false, 2), (false, 3), (false, 4), (false, 5), (false, 6), (false, 7)] 8 [] (.fin [(false, 9)])) ?_ ?_ ?_ ?_ ?_ ?_); kernel_rfl; kernel_rfl; kernel_rfl; kernel_rfl; (intro c a d v w h; cases d <;> exact h)) | (with_reducible refine wpPlan_eff ?_) | (with_reducible refine wpPlan_fin ?_) | (with_reducible refine wpPlan_two ?_) | (with_reducible refine wpOpPair ?_ ?_) | ((with_reducible apply wpPre_keep); rfl; intro K' hK'; go_simp; refine hK' _ _ ?_; intro f hf; clear hK' K') | ((with_reducible apply wpPre_drop); rfl; intro K' hK'; go_simp; refine hK' _ _ ?_; intro f; clear hK' K') | (with_reducible refine wpPre_nil ?_) | ((with_reducible apply wpOp_list); rfl) | (with_reducible refine heldPair ?_ ?_) | ((with_reducible refine heldH_no ?_ ?_); rfl) | (with_reducible refine heldH_yes ?_ ?_) | (with_reducible exact heldH_nil) | (unfold YAt; go_simp; done) | (go_at_call 11; refine (esames_any (HV1.out.below (by repeat (first | (with_reducible exact Below.refl _ _) | (with_reducible exact bl_mm) | (with_reducible refine bl_dr ?_) | (with_reducible refine bl_drN ?_ _) | (with_reducible refine bl_al ?_ _) | (with_reducible refine bl_more ?_ _ _)))) (HV2.out.below (by repeat (first | (with_reducible exact Below.refl _ _) | (with_reducible exact bl_mm) | (with_reducible refine bl_dr ?_) | (with_reducible refine bl_drN ?_ _) | (with_reducible refine bl_al ?_ _) | (with_reducible refine bl_more ?_ _ _))))).mono ?_; rintro e w1 ⟨rfl, hb1⟩; obtain ⟨ex1, dx1, rfl⟩ := more_of hb1; clear hb1; rw [HN.out]))
          all_goals (go_roundg k2)
          all_goals first | (exact ⟨j + 1, rfl, by omega, HALL2.out, bl_then HB.out (by repeat (first | (with_reducible exact Below.refl _ _) | (with_reducible exact bl_mm) | (with_reducible refine bl_dr ?_) | (with_reducible refine bl_drN ?_ _) | (with_reducible refine bl_al ?_ _) | (with_reducible refine bl_more ?_ _ _)))⟩) | omega
        · have HN := hid (decide_eq_false hn)
          have HE : Hid (decide (a = b) = false) := hid (decide_eq_false (fun he => hn (by rw [← hx, ← hy]; subst he; rfl)))
          clear h h' hb hall hn hx hy hl1 hl2 hm1 hm2 hlen hv1 hv2 hxl hyl
          go_wp2_with (first | ((with_reducible refine wp_region_plan (id := 6) (.eff [(false, 0), (false, 1), (false, 2), (false, 3), (false, 4), (false, 5), (false, 6), (false, 7)] 8 [] (.fin [(false, 9)])) ?_ ?_ ?_ ?_ ?_ ?_); kernel_rfl; kernel_rfl; kernel_rfl; kernel_rfl; (intro c a d v w h; cases d <;> exact h)) | (with_reducible refine wpPlan_eff ?_) | (with_reducible refine wpPlan_fin ?_) | (with_reducible refine wpPlan_two ?_) | (with_reducible refine wpOpPair ?_ ?_) | ((with_reducible apply wpPre_keep); rfl; intro K' hK'; go_simp; refine hK' _ _ ?_; intro f hf; clear hK' K') | ((with_reducible apply wpPre_drop); rfl; intro K' hK'; go_simp; refine hK' _ _ ?_; intro f; clear hK' K') | (with_reducible refine wpPre_nil ?_) | ((with_reducible apply wpOp_list); rfl) | (with_reducible refine heldPair ?_ ?_) | ((with_reducible refine heldH_no ?_ ?_); rfl) | (with_reducible refine heldH_yes ?_ ?_) | (with_reducible exact heldH_nil) | (unfold YAt; go_simp; done) | (go_at_call 11; refine (esames_any (HV1.out.below (by repeat (first | (with_reducible exact Below.refl _ _) | (with_reducible exact bl_mm) | (with_reducible refine bl_dr ?_) | (with_reducible refine bl_drN ?_ _) | (with_reducible refine bl_al ?_ _) | (with_reducible refine bl_more ?_ _ _)))) (HV2.out.below (by repeat (first | (with_reducible exact Below.refl _ _) | (with_reducible exact bl_mm) | (with_reducible refine bl_dr ?_) | (with_reducible refine bl_drN ?_ _) | (with_reducible refine bl_al ?_ _) | (with_reducible refine bl_more ?_ _ _))))).mono ?_; rintro e w1 ⟨rfl, hb1⟩; obtain ⟨ex1, dx1, rfl⟩ := more_of hb1; clear hb1; rw [HN.out]))
          all_goals (try rw [Exit.noGoto_ret])
          all_goals go_ret
          all_goals rw [HE.out]
          all_goals exact ⟨rfl, bl_then HB.out (by repeat (first | (with_reducible exact Below.refl _ _) | (with_reducible exact bl_mm) | (with_reducible refine bl_dr ?_) | (with_reducible refine bl_drN ?_ _) | (with_reducible refine bl_al ?_ _) | (with_reducible refine bl_more ?_ _ _)))⟩
      · have hjl : j = a.length := by omega
        subst hjl
        have HE : Hid (decide (a = b) = true) := hid (decide_eq_true (eq_of_all hlen (fun i h1 h2 => hall i h1 h2 h1)))
        have hj1 : ¬ (a.length : Int) < (a.length : Int) := by omega
        clear h h' hb hall hl1 hl2 hm1 hm2 hlt hlen
        go_wp2
        go_ret
        rw [HE.out]
        exact ⟨rfl, HB.out⟩
  · have hlb : ((a.length : Int) != (b.length : Int)) = true := by simp only [bne_iff_ne, ne_eq]; omega
    have HE : Hid (decide (a = b) = false) := hid (decide_eq_false (fun he => hlen (by rw [he])))
    clear h h' hl1 hl2 hm1 hm2 hlen
    go_enter Try.func19, Try.ntmps19
    go_wp2
    go_ret
    rw [HE.out]
    exact ⟨rfl, (by repeat (first | (with_reducible exact Below.refl _ _) | (with_reducible exact bl_mm) | (with_reducible refine bl_dr ?_) | (with_reducible refine bl_drN ?_ _) | (with_reducible refine bl_al ?_ _) | (with_reducible refine bl_more ?_ _ _)))⟩
end Go.Proofs.Ytgpcgndmdkgbdaa

/- Plain: a branch of two behind a crash, opened. -/
namespace Go.Proofs.Ytgpcgndmdkgbdaa

/-- A disk of two branches and a document, all of it sure. -/
def thD (B : List UInt8) (r : Int) : DS := { fs := [⟨[], 0⟩, ⟨B, B.length⟩, ⟨[], 0⟩], room := r, fuse := -1, down := false }
theorem th_file {B : List UInt8} {r : Int} : fileB (thD B r) 1 = B ∧ fileB (thD B r) 0 = [] ∧ fileB (thD B r) 2 = [] := ⟨rfl, rfl, rfl⟩
/-- The crash. -/
theorem crash_st {es : List Ev} {y : Nat} {keep : Int} (hy : y ≤ (flE es).length) : ∃ r m, y ≤ m ∧ m ≤ (flE es).length ∧ (stD es y).crash [0, keep] = thD ((ofI (flE es)).take m) r := by
  have hm : cutN ⟨ofI (flE es), y⟩ (some keep) ≤ (ofI (flE es)).length := cutN_le (f := ⟨ofI (flE es), y⟩) (by simp only [ofI_len]; exact hy) _
  have h0 := crash_done (stD es y) [0, keep] (j := 0) (by simp [stD]) 3 (by omega) (by simp [stD])
  have h1 := crash_done (stD es y) [0, keep] (j := 1) (by simp [stD]) 3 (by omega) (by simp [stD])
  have h2 := crash_done (stD es y) [0, keep] (j := 2) (by simp [stD]) 3 (by omega) (by simp [stD])
  have hlen : (crashN (stD es y) [0, keep] 3).fs.length = 3 := by rw [crash_len]; rfl
  obtain ⟨m, hme⟩ : ∃ m, cutN ⟨ofI (flE es), y⟩ (some keep) = m := ⟨_, rfl⟩
  have hym : y ≤ m := by rw [← hme]; unfold cutN; exact Nat.le_add_right _ _
  rw [hme] at hm
  have e1 : (stD es y).fs[1]'(by simp [stD]) = ⟨ofI (flE es), y⟩ := rfl
  have e0 : (stD es y).fs[0]'(by simp [stD]) = ⟨[], 0⟩ := rfl
  have e2 : (stD es y).fs[2]'(by simp [stD]) = ⟨[], 0⟩ := rfl
  rw [e0] at h0
  rw [e1] at h1
  rw [e2] at h2
  have g1 : ([0, keep] : List Int)[1]? = some keep := rfl
  rw [g1, hme] at h1
  have hfs : (crashN (stD es y) [0, keep] 3).fs = [⟨[], 0⟩, ⟨(ofI (flE es)).take m, m⟩, ⟨[], 0⟩] := by
    refine List.ext_getElem? (fun j => ?_)
    match j with
    | 0 => exact h0.trans (by simp [cutN])
    | 1 => exact h1
    | 2 => exact h2.trans (by simp [cutN])
    | j + 3 => rw [List.getElem?_eq_none (by omega), List.getElem?_eq_none (by simp)]
  rw [ofI_len] at hm
  refine ⟨(crashN (stD es y) [0, keep] 3).room, m, hym, hm, ?_⟩
  show ({ fs := (crashN (stD es y) [0, keep] 3).fs, room := (crashN (stD es y) [0, keep] 3).room, fuse := -1, down := false } : DS) = _
  rw [hfs]
  unfold thD
  rw [List.length_take, ofI_len, Nat.min_eq_left hm]
theorem flE_cons (e : Ev) (es : List Ev) : flE (e :: es) = evF e ++ flE es := by simp [flE]
theorem flE_append (a b : List Ev) : flE (a ++ b) = flE a ++ flE b := by simp [flE]
theorem evF_pos (e : Ev) : 6 ≤ (evF e).length := by rw [evF_len]; omega
theorem flE_many (es : List Ev) : es.length ≤ (flE es).length := by
  induction es with
  | nil => simp
  | cons e es ih =>
    have := evF_pos e
    rw [flE_cons, List.length_append, List.length_cons]
    omega
/-- What is whole. -/
theorem ends_take : ∀ (es : List Ev) (a r : Nat), ∃ k, k ≤ es.length ∧ (ends a es).takeWhile (fun p => decide (p.2 ≤ a + r)) = ends a (es.take k) ∧ (flE (es.take k)).length ≤ r ∧ ∀ j, j ≤ es.length → (flE (es.take j)).length ≤ r → j ≤ k
  | [], a, r => ⟨0, by simp, by simp [ends], by simp [flE], fun j hj _ => by simpa using hj⟩
  | e :: es, a, r => by
    have hp := evF_pos e
    by_cases hr : (evF e).length ≤ r
    · obtain ⟨k, h1, h2, h3, h4⟩ := ends_take es (a + (evF e).length) (r - (evF e).length)
      refine ⟨k + 1, by simpa using h1, ?_, ?_, ?_⟩
      · rw [ends, List.takeWhile_cons_of_pos (by simp; omega), List.take_succ_cons, ends, ← h2]
        congr 1
        congr 1
        funext p
        congr 1
        apply propext
        omega
      · rw [List.take_succ_cons, flE_cons, List.length_append]; omega
      · intro j hj hl
        match j with
        | 0 => omega
        | j + 1 =>
          rw [List.take_succ_cons, flE_cons, List.length_append] at hl
          have := h4 j (by simpa using hj) (by omega)
          omega
    · refine ⟨0, by simp, ?_, by simp [flE], ?_⟩
      · rw [ends, List.takeWhile_cons_of_neg (by simp; omega)]
        simp [ends]
      · intro j hj hl
        match j with
        | 0 => omega
        | j + 1 =>
          rw [List.take_succ_cons, flE_cons, List.length_append] at hl
          omega
theorem flE_take_le (es : List Ev) (k : Nat) : (flE (es.take k)).length ≤ (flE es).length := by
  have : flE es = flE (es.take k) ++ flE (es.drop k) := by rw [← flE_append, List.take_append_drop]
  rw [this, List.length_append]
  omega
/-- **A LOG THAT WAS CUT OFF IS TOLD AS FAR AS IT IS WHOLE.** -/
theorem log_pre {es : List Ev} {m : Nat} {i n : Int} (hok : ∀ j e, es[j]? = some e → okE e = true ∧ (e.2.2.2.length : Int) = n ∧ (if 0 ≤ i then e.2.2.2.getD i.toNat 0 else 0) = ((1 + j : Nat) : Int)) (hm : m ≤ (flE es).length) :
    ∃ k, k ≤ es.length ∧ logW ((flE es).take m) i n = ends 0 (es.take k) ∧ (flE (es.take k)).length ≤ m ∧ ∀ j, j ≤ es.length → (flE (es.take j)).length ≤ m → j ≤ k := by
  have hml : ((flE es).take m).length = m := by rw [List.length_take]; omega
  have hd : ((flE es).take m) = (flE (es.take m)).take m := by
    by_cases h : es.length ≤ m
    · rw [List.take_of_length_le h]
    · have h1 : flE es = flE (es.take m) ++ flE (es.drop m) := by rw [← flE_append, List.take_append_drop]
      have h2 := flE_many (es.take m)
      rw [List.length_take] at h2
      rw [h1, List.take_append_of_le_length (by omega)]
  have hlc := log_cut (bs := (flE es).take m) (i := i) (n := n) (es.take m) (m + 1) 1 0 m (by rw [List.length_take]; omega) (by rw [List.drop_zero, hd]) (fun j e h => by
    have hj := (List.getElem?_eq_some_iff.1 h).1
    rw [List.length_take] at hj
    rw [List.getElem?_take_of_lt (by omega)] at h
    exact hok j e h) (Nat.zero_le _)
  obtain ⟨k, h1, h2, h3, h4⟩ := ends_take (es.take m) 0 m
  rw [List.length_take] at h1 h4
  rw [List.take_take] at h2 h3
  rw [Nat.min_eq_left (by omega)] at h2 h3
  refine ⟨k, by omega, ?_, h3, fun j hj hl => ?_⟩
  · unfold logW
    rw [hml, hlc, h2]
  · have hj2 := flE_many (es.take j)
    rw [List.length_take] at hj2
    exact h4 j (by omega) (by rw [List.take_take, Nat.min_eq_left (by omega)]; exact hl)
theorem ofI_take (l : List Int) (m : Nat) : ofI (l.take m) = (ofI l).take m := by simp [ofI, List.map_take]
/-- Opened: what is whole stays. -/
theorem open_th {B : List UInt8} {r : Int} {es : List Ev} (hl : logW (byt B) ((1 : Nat) : Int) 2 = ends 0 es) (hB : B.take (flE es).length = ofI (flE es)) : ∃ r', openS (thD B r) = (thD (ofI (flE es)) r', [[], es], 0) := by
  have hlen : (thD B r).fs.length - 1 = 2 := rfl
  have hle : (flE es).length ≤ B.length := by
    have := congrArg List.length hB
    rw [List.length_take, ofI_len] at this
    omega
  unfold openS
  rw [hlen]
  have h0 : logW (byt (fileB (thD B r) 0)) ((0 : Nat) : Int) (((thD B r).fs.length - 1 : Nat) : Int) = [] := rfl
  rw [openN_go (L := []) h0 (by rw [th_file.2.1]; simp)]
  have h1 : logW (byt (fileB (thD B r) 1)) ((0 + 1 : Nat) : Int) (((thD B r).fs.length - 1 : Nat) : Int) = ends 0 es := hl
  have hat := atF_ends es
  by_cases hc : (flE es).length < B.length
  · have hcut : cutR (thD B r) ((0 + 1 : Nat) : Int) (atF (ends 0 es) (ends 0 es).length) = ((thD B r).keep 1 (flE es).length, 0) := by
      rw [hat]
      unfold cutR doW
      have e1 : ((thD B r).fs.getD 1 ⟨[], 0⟩).b = B := rfl
      rw [if_neg (by simp [thD]), if_neg (by simp [thD]), if_neg (by
        show ¬ (if ((flE es).length : Int) < 0 ∨ (((thD B r).fs.getD 1 ⟨[], 0⟩).b.length : Int) < (flE es).length then (2 : Int) else 0) ≠ 0
        rw [e1, if_neg (by omega)]; simp), if_neg (by simp [thD])]
      congr 1
    rw [openN_cut h1 (by rw [hat]; exact hc) hcut, if_neg (by simp)]
    refine ⟨((thD B r).keep 1 (flE es).length).room, ?_⟩
    rw [openN, ends_map]
    congr 1
    show ({ fs := [⟨[], 0⟩, ⟨B.take (flE es).length, (flE es).length⟩, ⟨[], 0⟩], room := _, fuse := -1, down := false } : DS) = _
    rw [hB]
    unfold thD
    rw [ofI_len]
    rfl
  · rw [openN_go h1 (by rw [hat]; exact hc)]
    refine ⟨r, ?_⟩
    rw [openN, ends_map]
    rw [List.take_of_length_le (by omega)] at hB
    rw [hB]
    rfl
theorem openN_ok {C : Int} : ∀ (k i : Nat) (s : DS) (out : List (List Ev)), s.Ok C → (openN s k i out).1.Ok C
  | 0, i, s, out, h => h
  | k + 1, i, s, out, h => by
    rw [openN]
    split
    · split
      · exact cut_ok h _ _
      · exact openN_ok k _ _ _ (cut_ok h _ _)
    · exact openN_ok k _ _ _ h
/-- **BEHIND A CRASH: what is whole is told, and is at least what was sure.** -/
theorem torn_law {l : List Ev} {sure keep : Int} (hl : l.length ≤ 100) : ∃ r r1 k, (stD (evsN l (n0 l)) (sy l sure (n0 l))).crash [0, keep] = r ∧ r.Ok 20000 ∧ k ≤ n0 l ∧ openS r = (thD (ofI (flE ((evsN l (n0 l)).take k))) r1, [[], (evsN l (n0 l)).take k], 0) ∧
    (0 < sure → sure ≤ n0 l → sure ≤ k) ∧ (thD (ofI (flE ((evsN l (n0 l)).take k))) r1).Ok 20000 ∧
    ∃ r2, openS (thD (ofI (flE ((evsN l (n0 l)).take k))) r1) = (thD (ofI (flE ((evsN l (n0 l)).take k))) r2, [[], (evsN l (n0 l)).take k], 0) ∧ (thD (ofI (flE ((evsN l (n0 l)).take k))) r2).Ok 20000 ∧ logW (byt (ofI (flE ((evsN l (n0 l)).take k)))) ((1 : Nat) : Int) ((2 : Nat) : Int) = ends 0 ((evsN l (n0 l)).take k) := by
  have hnl := n0_le l
  have helen := evsN_len (l := l) (j := n0 l) hnl
  have hby := evsN_bytes (l := l) (j := n0 l) (Nat.le_refl _) hl
  have hok : ∀ j e, (evsN l (n0 l))[j]? = some e → okE e = true ∧ (e.2.2.2.length : Int) = 2 ∧ (if 0 ≤ (1 : Int) then e.2.2.2.getD (1 : Int).toNat 0 else 0) = ((1 + j : Nat) : Int) := fun i e h => by
    obtain ⟨h1, h2, rfl⟩ := evsN_get h
    refine ⟨(evsN_ok (Nat.le_refl _) hl i _ h).1, rfl, ?_⟩
    simp [evG]
    omega
  have hin := evsN_in (l := l) (j := n0 l) (Nat.le_refl _) hl
  have hss : (stD (evsN l (n0 l)) (sy l sure (n0 l))).Ok 20000 := stD_ok (by omega) sy_le
  obtain ⟨r, m, h1, h2, h3⟩ := crash_st (es := evsN l (n0 l)) (y := sy l sure (n0 l)) (keep := keep) sy_le
  obtain ⟨k, k1, k2, k3, k4⟩ := log_pre hok h2
  have hsok := crashS_ok hss [0, keep]
  have hB : byt ((ofI (flE (evsN l (n0 l)))).take m) = (flE (evsN l (n0 l))).take m := by rw [← ofI_take, byt_ofI (fun b hb => hin b (List.mem_of_mem_take hb))]
  have hspl : flE (evsN l (n0 l)) = flE ((evsN l (n0 l)).take k) ++ flE ((evsN l (n0 l)).drop k) := by rw [← flE_append, List.take_append_drop]
  have hB2 : ((ofI (flE (evsN l (n0 l)))).take m).take (flE ((evsN l (n0 l)).take k)).length = ofI (flE ((evsN l (n0 l)).take k)) := by
    rw [List.take_take, Nat.min_eq_left k3, ← ofI_take]
    congr 1
    conv => lhs; rw [hspl]
    rw [List.take_left]
  obtain ⟨r1, ho1⟩ := open_th (r := r) (by rw [hB]; exact k2) hB2
  have hok2 : ∀ j e, ((evsN l (n0 l)).take k)[j]? = some e → okE e = true ∧ (e.2.2.2.length : Int) = 2 ∧ (if 0 ≤ (1 : Int) then e.2.2.2.getD (1 : Int).toNat 0 else 0) = ((1 + j : Nat) : Int) := fun j e h => by
    have hj := (List.getElem?_eq_some_iff.1 h).1
    rw [List.length_take] at hj
    rw [List.getElem?_take_of_lt (by omega)] at h
    exact hok j e h
  have hin2 : ∀ b ∈ flE ((evsN l (n0 l)).take k), 0 ≤ b ∧ b < 256 := fun b hb => hin b (by rw [hspl]; exact List.mem_append_left _ hb)
  obtain ⟨r2, ho2⟩ := open_th (B := ofI (flE ((evsN l (n0 l)).take k))) (r := r1) (by rw [byt_ofI hin2]; exact log_all hok2) (by rw [List.take_of_length_le (by rw [ofI_len]; omega)])
  rw [h3] at hsok
  have hs1 : (thD (ofI (flE ((evsN l (n0 l)).take k))) r1).Ok 20000 := by have := openN_ok ((thD ((ofI (flE (evsN l (n0 l)))).take m) r).fs.length - 1) 0 _ [] hsok; rw [show openN _ _ _ _ = openS _ from rfl, ho1] at this; exact this
  have hs2 : (thD (ofI (flE ((evsN l (n0 l)).take k))) r2).Ok 20000 := by have := openN_ok ((thD (ofI (flE ((evsN l (n0 l)).take k))) r1).fs.length - 1) 0 _ [] hs1; rw [show openN _ _ _ _ = openS _ from rfl, ho2] at this; exact this
  refine ⟨_, r1, k, h3, hsok, by omega, ho1, fun hp hq => ?_, hs1, r2, ho2, hs2, by rw [byt_ofI hin2]; exact log_all hok2⟩
  have hy : sy l sure (n0 l) = (flE (evsN l sure.toNat)).length := by unfold sy; rw [if_pos (by omega)]
  have he : evsN l sure.toNat = (evsN l (n0 l)).take sure.toNat := by
    unfold evsN
    refine List.ext_getElem? (fun j => ?_)
    rw [List.getElem?_take, List.getElem?_mapIdx, List.getElem?_mapIdx, List.getElem?_take, List.getElem?_take]
    by_cases hj : j < sure.toNat
    · rw [if_pos hj, if_pos hj, if_pos (by omega)]
    · rw [if_neg hj, if_neg hj]; rfl
  have := k4 sure.toNat (by omega) (by rw [← he, ← hy]; exact h1)
  omega
end Go.Proofs.Ytgpcgndmdkgbdaa

/- BranchTorn: behind a crash what is whole is told, and the branch is opened. -/
namespace Go.Proofs.Ytgpcgndmdkgbdaa
open Go.RowKit Go.Shelf

theorem LdI.toHold {N d M : Nat} {R : Nat → Prop} {w W : World} {s : DS} {es : List Ev} {v : Value} (h : LdI N w d s es v M R W) : ∃ R', Hold N w d s R' W ∧ evE.Row R' W v es := by
  obtain ⟨G, K, g, h1, h2, h3, h4, h5, h6⟩ := h.ex
  have hM := h.hM
  refine ⟨fun b => K b ∨ (b = g ∧ capOf v ≠ 0), ⟨⟨G, h1, fun b hb => ⟨(h2 b hb).1, by have := (h2 b hb).2; omega⟩, fun b hb => ?_⟩, h.d0, h.low⟩, Spine_rowC h3 (fun b hb _ => .inl hb) (fun hc => .inr ⟨rfl, hc⟩)⟩
  rcases hb with hb | ⟨rfl, hc⟩
  · obtain ⟨_, a2, _, a4, a5⟩ := h4 b hb
    exact ⟨a2, a4, a5⟩
  · obtain ⟨cur, hcur⟩ := h3.type hc
    obtain ⟨_, a2, a3⟩ := h5 hc
    exact ⟨(Array.getElem?_eq_some_iff.1 hcur).1, a2, a3⟩
theorem Hold.crash {N d : Nat} {R K : Nat → Prop} {w W : World} {s : DS} {C : Int} {v : Value} {ks : List Int} (h : Hold N w d s R W) (hs : s.Ok C) (hC : C ≤ 1000000000) (hk : intE.Row K W v ks) (hKd : ∀ b, K b → b ≠ d) :
    Calls Try.prog 16 #[.pointer (some ⟨d, 0, none⟩), v] W fun e X => e = .returned (.int .i64 0) ∧ Hold N w d (s.crash ks) R X ∧ Ext (Off N R) W X := by
  obtain ⟨G, h1, h2, h3⟩ := h.ex
  refine (crash_any h1 hs hC hk hKd).mono fun e X ⟨q1, q2, q3⟩ => ?_
  have hsz := q3.size
  have he : Ext (Off N R) W X := q3.mono (fun b _ hb => by subst hb; exact ⟨fun hR => (h3 _ hR).2.1 rfl, h.d0⟩)
  refine ⟨q1, ⟨⟨G, q2, fun b hb => ⟨(h2 b hb).1, by have := (h2 b hb).2; omega⟩, fun b hb => ⟨by have := (h3 b hb).1; omega, (h3 b hb).2⟩⟩, h.d0, h.low.trans (he.toBelow h.N (fun x hx hxs => by have := hxs.2; omega))⟩, he⟩
theorem Hold.synced {N d i n : Nat} {R : Nat → Prop} {w W : World} {s : DS} {C : Int} (h : Hold N w d s R W) (hs : s.Ok C) (hi : i < s.fs.length) (hn : s.fs[i].synced = n) :
    Calls Try.prog 20 #[.pointer (some ⟨d, 0, none⟩), .int .i64 i] W fun e X => e = .returned (.int .i64 n) ∧ Below W.heap.size W X := by
  obtain ⟨G, h1, _⟩ := h.ex
  subst hn
  exact synced_any h1 hs.n2 i hi
set_option maxRecDepth 8000 in
set_option maxHeartbeats 8000000 in
theorem torn_any {w : World} {v : Value} {l : List Ev} {sure keep : Int} (h : evE.Row (fun b => b < w.heap.size) w v l) : Calls Try.prog 5 #[v, .int .i64 sure, .int .i64 keep] w fun e w' => e = .returned (.bool true) ∧ Below w.heap.size w w' := by
  obtain ⟨A, c, rfl, _, _⟩ := h.form
  by_cases hl : l.length ≤ 100
  · have HR := hid h
    have HL := hid hl
    have hl1 : ¬ (100 : Int) < (l.length : Int) := by omega
    obtain ⟨r, r1, k, t1, t2, t3, t4, t5, t6, r2, t7, t8, t9⟩ := torn_law (sure := sure) (keep := keep) hl
    have hby := evsN_bytes (l := l) (j := n0 l) (Nat.le_refl _) hl
    have hs : (stD (evsN l (n0 l)) (sy l sure (n0 l))).Ok 20000 := stD_ok (by omega) sy_le
    have hel := evsN_len (l := l) (j := n0 l) (n0_le l)
    obtain ⟨es, hes⟩ : ∃ es, evsN l (n0 l) = es := ⟨_, rfl⟩
    have HES := hid hes
    rw [hes] at t1 t4 t6 t7 t8 t9 hs hel
    rw [← hel] at t3 t5
    obtain ⟨s0, hse⟩ : ∃ s0, stD es (sy l sure (n0 l)) = s0 := ⟨_, rfl⟩
    have HSE := hid hse
    rw [hse] at t1 hs
    obtain ⟨e1, hee⟩ : ∃ e1, es.take k = e1 := ⟨_, rfl⟩
    rw [hee] at t4 t6 t7 t8 t9
    obtain ⟨L, hL⟩ : ∃ L, ends 0 e1 = L := ⟨_, rfl⟩
    have hmp := ends_map e1 0
    have hat := atF_ends e1
    obtain ⟨q, hq⟩ : ∃ q, (flE e1).length = q := ⟨_, rfl⟩
    rw [hL] at t9 hmp hat
    rw [hq] at hat
    have HMP := hid hmp
    have HAT := hid hat
    have hre : (fileB (thD (ofI (flE e1)) r2) 1).length = q := by rw [th_file.1, ofI_len, hq]
    have hsy : ((thD (ofI (flE e1)) r2).fs[1]'(by show 1 < 3; omega)).synced = q := by show (ofI (flE e1)).length = q; rw [ofI_len, hq]
    have hlg : logW (byt (fileB (thD (ofI (flE e1)) r2) 1)) ((1 : Nat) : Int) (((thD (ofI (flE e1)) r2).fs.length - 1 : Nat) : Int) = L := t9
    have hl2 : (thD (ofI (flE e1)) r2).fs.length = 3 := rfl
    have HEE := hid hee
    obtain ⟨d1, hd1⟩ : ∃ d1, thD (ofI (flE e1)) r1 = d1 := ⟨_, rfl⟩
    obtain ⟨d2, hd2⟩ : ∃ d2, thD (ofI (flE e1)) r2 = d2 := ⟨_, rfl⟩
    rw [hd1] at t4 t6 t7
    have hsy' : ∃ h, ((thD (ofI (flE e1)) r2).fs[1]'h).synced = q := ⟨_, hsy⟩
    clear hsy
    rw [hd2] at t7 t8 hre hsy' hlg hl2
    have HRE := hid hre
    have HSY := hid hsy'
    have HLG := hid hlg
    have HL2 := hid hl2
    have HS5 := hid t8
    have HO2 := hid t7
    have HS4 := hid t6
    have HD1 := hid hd1
    have HD2 := hid hd2
    have HS := hid hs
    have HCR := hid t1
    have HS3 := hid t2
    have HO1 := hid t4
    have M1 := hid trivial
    have HT := hid (And.intro t3 (And.intro t5 (And.intro t6 (And.intro t7 t8))))
    clear t1 t2 t3 t4 t5 t6 t7 t8 t9 hmp hat hq hL hre hsy' hlg hl2 hby hs hel hes hse hee hd1 hd2
    clear h hl
    go_enter Try.func5, Try.ntmps5
    go_wp2_with (first | ((with_reducible refine wp_region_plan (id := 9) (.eff [(false, 0), (false, 1), (false, 2), (false, 3), (false, 4), (false, 5), (false, 6), (false, 7), (false, 8), (false, 9), (false, 10), (false, 11), (false, 12), (false, 13), (false, 14), (false, 15), (false, 16), (false, 17), (false, 18), (false, 19), (false, 20), (false, 21), (false, 22), (false, 23), (false, 24), (false, 25)] 26 [] (.fin [(false, 27), (false, 28)])) ?_ ?_ ?_ ?_ ?_ ?_); kernel_rfl; kernel_rfl; kernel_rfl; kernel_rfl; (intro c a d v w h; cases d <;> exact h)) | (with_reducible refine wpPlan_eff ?_) | (with_reducible refine wpPlan_fin ?_) | (with_reducible refine wpPlan_two ?_) | (with_reducible refine wpOpPair ?_ ?_) | ((with_reducible apply wpPre_keep); rfl; intro K' hK'; go_simp; refine hK' _ _ ?_; intro f hf; clear hK' K') | ((with_reducible apply wpPre_drop); rfl; intro K' hK'; go_simp; refine hK' _ _ ?_; intro f; clear hK' K') | (with_reducible refine wpPre_nil ?_) | ((with_reducible apply wpOp_list); rfl) | (with_reducible refine heldPair ?_ ?_) | ((with_reducible refine heldH_no ?_ ?_); rfl) | (with_reducible refine heldH_yes ?_ ?_) | (with_reducible exact heldH_nil) | (unfold YAt; go_simp; done) | (go_at_call 9; refine (llaid_any HR.out HL.out).mono ?_; rintro e w2 ⟨d, v2, M, rfl, hld⟩; rw [HES.out, HSE.out] at hld; obtain ⟨A2, c2, rfl⟩ := hld.form; obtain ⟨R2, hh2, hr2⟩ := hld.toHold; have hd2 := hh2.lt; have HH2 := hid hh2; have HR2 := hid hr2; clear hld hh2 hr2))
    go_upto_region 9 with (first | ((with_reducible refine wp_region_plan (id := 9) (.eff [(false, 0), (false, 1), (false, 2), (false, 3), (false, 4), (false, 5), (false, 6), (false, 7), (false, 8), (false, 9), (false, 10), (false, 11), (false, 12), (false, 13), (false, 14), (false, 15), (false, 16), (false, 17), (false, 18), (false, 19), (false, 20), (false, 21), (false, 22), (false, 23), (false, 24), (false, 25)] 26 [] (.fin [(false, 27), (false, 28)])) ?_ ?_ ?_ ?_ ?_ ?_); kernel_rfl; kernel_rfl; kernel_rfl; kernel_rfl; (intro c a d v w h; cases d <;> exact h)) | (with_reducible refine wpPlan_eff ?_) | (with_reducible refine wpPlan_fin ?_) | (with_reducible refine wpPlan_two ?_) | (with_reducible refine wpOpPair ?_ ?_) | ((with_reducible apply wpPre_keep); rfl; intro K' hK'; go_simp; refine hK' _ _ ?_; intro f hf; clear hK' K') | ((with_reducible apply wpPre_drop); rfl; intro K' hK'; go_simp; refine hK' _ _ ?_; intro f; clear hK' K') | (with_reducible refine wpPre_nil ?_) | ((with_reducible apply wpOp_list); rfl) | (with_reducible refine heldPair ?_ ?_) | ((with_reducible refine heldH_no ?_ ?_); rfl) | (with_reducible refine heldH_yes ?_ ?_) | (with_reducible exact heldH_nil) | (unfold YAt; go_simp; done) | (go_at_call 16; refine ((HH2.out.below (by repeat (first | (with_reducible exact Below.refl _ _) | (with_reducible exact bl_mm) | (with_reducible refine bl_dr ?_) | (with_reducible refine bl_drN ?_ _) | (with_reducible refine bl_al ?_ _) | (with_reducible refine bl_more ?_ _ _)))).crash (K := fun b => b = w2.heap.size) (ks := [0, keep]) HS.out (by omega) (row_lit (n := 2) rfl (alloc_blk (by simp)) (by simp) rfl) (fun b hb => by rw [hb]; omega)).mono ?_; rintro e w3 ⟨rfl, hh3, he3⟩; rw [HCR.out] at hh3; have HH3 := hid hh3; have HE3 := hid he3; clear hh3 he3) | (go_at_call 18; clear M1; refine ((open_at HH3.out HS3.out (by omega) HO1.out)).mono ?_; rintro e w4 ⟨v4, R4, rfl, hh4, hR4, hr4, he4⟩; obtain ⟨A4, c4, rfl, _, _⟩ := hr4.form; have HH4 := hid hh4; have HR4 := hid hr4; have HI4 := hid hR4; have HE4 := hid he4; clear hh4 hr4 hR4 he4))
    have HV2' := hid (((HR2.out.below (w' := w2.alloc (Obj.cells #[.int .i64 0, .int .i64 keep] 3)) (by repeat (first | (with_reducible exact Below.refl _ _) | (with_reducible exact bl_mm) | (with_reducible refine bl_dr ?_) | (with_reducible refine bl_drN ?_ _) | (with_reducible refine bl_al ?_ _) | (with_reducible refine bl_more ?_ _ _)))).ext HE3.out (fun b hb _ hx => hx.1 hb)).ext HE4.out (fun b hb _ hx => hx.1 hb))
    obtain ⟨b4, off, A', c', hA, hKb, hbl, p1, hv1⟩ := row_rows HR4.out 1 (by simp)
    subst hA
    have hv1 : evE.Row R4 w4 (.slice A' e1.length c') e1 := hv1
    have p1 : w4.cell? ⟨b4, off + 1, none⟩ = some (.slice A' e1.length c') := p1
    have hk : e1.length = k := by rw [← HEE.out, List.length_take]; have := HT.out.1; omega
    have he1 : es.take e1.length = e1 := by rw [hk, HEE.out]
    have hle : e1.length ≤ es.length := by rw [hk]; exact HT.out.1
    obtain ⟨_, _, hcc, hcm⟩ := HV2'.out.form
    have hv2 := HV2'.out.take e1.length c2 hle (by simp at hcc; omega) (by simp at hcc; omega)
    rw [he1] at hv2
    obtain ⟨i0, hi, hz0, hz1, hz2⟩ := info_parts info52
    have hsl := run_slice_hi (P := Try.prog) 22 52 4 Try.underlying22 hi hz1 A2 es.length c2 e1.length (by simp at hcc; omega)
    clear hi hz0 hz1 hz2
    have HV1 := hid hv1
    have HKB := hid hKb
    have HV2 := hid hv2
    have hsure : 0 < sure → sure ≤ (es.length : Int) → sure ≤ (e1.length : Int) := by rw [hk]; exact HT.out.2.1
    have hg1 : ¬ (es.length : Int) < (e1.length : Int) := by omega
    have M2 := hid trivial
    clear hKb hv1 hv2 hk he1 hcc hcm
    go_upto_region 11 with (first | ((with_reducible refine wp_region_plan (id := 9) (.eff [(false, 0), (false, 1), (false, 2), (false, 3), (false, 4), (false, 5), (false, 6), (false, 7), (false, 8), (false, 9), (false, 10), (false, 11), (false, 12), (false, 13), (false, 14), (false, 15), (false, 16), (false, 17), (false, 18), (false, 19), (false, 20), (false, 21), (false, 22), (false, 23), (false, 24), (false, 25)] 26 [] (.fin [(false, 27), (false, 28)])) ?_ ?_ ?_ ?_ ?_ ?_); kernel_rfl; kernel_rfl; kernel_rfl; kernel_rfl; (intro c a d v w h; cases d <;> exact h)) | (with_reducible refine wpPlan_eff ?_) | (with_reducible refine wpPlan_fin ?_) | (with_reducible refine wpPlan_two ?_) | (with_reducible refine wpOpPair ?_ ?_) | ((with_reducible apply wpPre_keep); rfl; intro K' hK'; go_simp; refine hK' _ _ ?_; intro f hf; clear hK' K') | ((with_reducible apply wpPre_drop); rfl; intro K' hK'; go_simp; refine hK' _ _ ?_; intro f; clear hK' K') | (with_reducible refine wpPre_nil ?_) | ((with_reducible apply wpOp_list); rfl) | (with_reducible refine heldPair ?_ ?_) | ((with_reducible refine heldH_no ?_ ?_); rfl) | (with_reducible refine heldH_yes ?_ ?_) | (with_reducible exact heldH_nil) | (unfold YAt; go_simp; done) | (go_at_call 11; clear M2; refine (esames_any (HV1.out.below (by repeat (first | (with_reducible exact Below.refl _ _) | (with_reducible exact bl_mm) | (with_reducible refine bl_dr ?_) | (with_reducible refine bl_drN ?_ _) | (with_reducible refine bl_al ?_ _) | (with_reducible refine bl_more ?_ _ _)))) (HV2.out.below (by repeat (first | (with_reducible exact Below.refl _ _) | (with_reducible exact bl_mm) | (with_reducible refine bl_dr ?_) | (with_reducible refine bl_drN ?_ _) | (with_reducible refine bl_al ?_ _) | (with_reducible refine bl_more ?_ _ _))))).mono ?_; rintro e w7 ⟨rfl, hb7⟩; obtain ⟨ex7, dx7, rfl⟩ := more_of hb7; clear hb7; rw [decide_eq_true (rfl : e1 = e1)]))
    by_cases h1 : 0 < sure
    · by_cases h2 : sure ≤ (es.length : Int)
      · have h3 : ¬ (e1.length : Int) < sure := by have := hsure h1 h2; omega
        clear hsure
        go_upto_region 13 with (first | ((with_reducible refine wp_region_plan (id := 9) (.eff [(false, 0), (false, 1), (false, 2), (false, 3), (false, 4), (false, 5), (false, 6), (false, 7), (false, 8), (false, 9), (false, 10), (false, 11), (false, 12), (false, 13), (false, 14), (false, 15), (false, 16), (false, 17), (false, 18), (false, 19), (false, 20), (false, 21), (false, 22), (false, 23), (false, 24), (false, 25)] 26 [] (.fin [(false, 27), (false, 28)])) ?_ ?_ ?_ ?_ ?_ ?_); kernel_rfl; kernel_rfl; kernel_rfl; kernel_rfl; (intro c a d v w h; cases d <;> exact h)) | (with_reducible refine wpPlan_eff ?_) | (with_reducible refine wpPlan_fin ?_) | (with_reducible refine wpPlan_two ?_) | (with_reducible refine wpOpPair ?_ ?_) | ((with_reducible apply wpPre_keep); rfl; intro K' hK'; go_simp; refine hK' _ _ ?_; intro f hf; clear hK' K') | ((with_reducible apply wpPre_drop); rfl; intro K' hK'; go_simp; refine hK' _ _ ?_; intro f; clear hK' K') | (with_reducible refine wpPre_nil ?_) | ((with_reducible apply wpOp_list); rfl) | (with_reducible refine heldPair ?_ ?_) | ((with_reducible refine heldH_no ?_ ?_); rfl) | (with_reducible refine heldH_yes ?_ ?_) | (with_reducible exact heldH_nil) | (unfold YAt; go_simp; done))
        go_wp2_with (first | ((with_reducible refine wp_region_plan (id := 9) (.eff [(false, 0), (false, 1), (false, 2), (false, 3), (false, 4), (false, 5), (false, 6), (false, 7), (false, 8), (false, 9), (false, 10), (false, 11), (false, 12), (false, 13), (false, 14), (false, 15), (false, 16), (false, 17), (false, 18), (false, 19), (false, 20), (false, 21), (false, 22), (false, 23), (false, 24), (false, 25)] 26 [] (.fin [(false, 27), (false, 28)])) ?_ ?_ ?_ ?_ ?_ ?_); kernel_rfl; kernel_rfl; kernel_rfl; kernel_rfl; (intro c a d v w h; cases d <;> exact h)) | (with_reducible refine wpPlan_eff ?_) | (with_reducible refine wpPlan_fin ?_) | (with_reducible refine wpPlan_two ?_) | (with_reducible refine wpOpPair ?_ ?_) | ((with_reducible apply wpPre_keep); rfl; intro K' hK'; go_simp; refine hK' _ _ ?_; intro f hf; clear hK' K') | ((with_reducible apply wpPre_drop); rfl; intro K' hK'; go_simp; refine hK' _ _ ?_; intro f; clear hK' K') | (with_reducible refine wpPre_nil ?_) | ((with_reducible apply wpOp_list); rfl) | (with_reducible refine heldPair ?_ ?_) | ((with_reducible refine heldH_no ?_ ?_); rfl) | (with_reducible refine heldH_yes ?_ ?_) | (with_reducible exact heldH_nil) | (unfold YAt; go_simp; done) | (go_at_call 18; refine ((open_at (HH4.out.below (by repeat (first | (with_reducible exact Below.refl _ _) | (with_reducible exact bl_mm) | (with_reducible refine bl_dr ?_) | (with_reducible refine bl_drN ?_ _) | (with_reducible refine bl_al ?_ _) | (with_reducible refine bl_more ?_ _ _)))) HS4.out (by omega) HO2.out)).mono ?_; rintro e w5 ⟨v5, R5, rfl, hh5, hR5, hr5, he5⟩; have p5 : w5.cell? ⟨b4, off + 1, none⟩ = some (.slice A' e1.length c') := (World.cell?_of_block (he5.block b4 (by simp [more_size]; omega) (fun hx => hx.1 HKB.out))).trans (by go_simp); have y5 : b4 < w5.heap.size := Nat.lt_of_lt_of_le (by simp [more_size]; omega) he5.size; obtain ⟨A5, c5, rfl, _, _⟩ := hr5.form; have HH5 := hid hh5; have HR5 := hid hr5; have HE5 := hid he5; clear hh5 hr5 hR5 he5) | (go_at_call 10; refine ((HH5.out.below (by repeat (first | (with_reducible exact Below.refl _ _) | (with_reducible exact bl_mm) | (with_reducible refine bl_dr ?_) | (with_reducible refine bl_drN ?_ _) | (with_reducible refine bl_al ?_ _) | (with_reducible refine bl_more ?_ _ _)))).load (i := 1) HS5.out (by omega) (by rw [HL2.out]; omega) HLG.out).mono ?_; rintro e w6 ⟨v6, g6, rfl, ho6, hb6⟩; rw [HMP.out] at ho6; obtain ⟨A6, c6, rfl, _, _⟩ := ho6.sp.form; have HO6 := hid (ho6.row (fun _ hb => hb)); obtain ⟨ex6, dx6, rfl⟩ := more_of hb6; rw [HAT.out]; clear ho6 hb6) | (go_at_call 19; refine (srows_any ((((HR4.out.below (by repeat (first | (with_reducible exact Below.refl _ _) | (with_reducible exact bl_mm) | (with_reducible refine bl_dr ?_) | (with_reducible refine bl_drN ?_ _) | (with_reducible refine bl_al ?_ _) | (with_reducible refine bl_more ?_ _ _)))).ext HE5.out (fun b hb _ hx => hx.1 hb))).below (by repeat (first | (with_reducible exact Below.refl _ _) | (with_reducible exact bl_mm) | (with_reducible refine bl_dr ?_) | (with_reducible refine bl_drN ?_ _) | (with_reducible refine bl_al ?_ _) | (with_reducible refine bl_more ?_ _ _)))) (HR5.out.below (by repeat (first | (with_reducible exact Below.refl _ _) | (with_reducible exact bl_mm) | (with_reducible refine bl_dr ?_) | (with_reducible refine bl_drN ?_ _) | (with_reducible refine bl_al ?_ _) | (with_reducible refine bl_more ?_ _ _))))).mono ?_; rintro e w8 ⟨rfl, hb8⟩; obtain ⟨ex8, dx8, rfl⟩ := more_of hb8; clear hb8; rw [decide_eq_true (rfl : [[], e1] = [[], e1])]) | (go_at_call 11; refine (esames_any (HO6.out.below (by repeat (first | (with_reducible exact Below.refl _ _) | (with_reducible exact bl_mm) | (with_reducible refine bl_dr ?_) | (with_reducible refine bl_drN ?_ _) | (with_reducible refine bl_al ?_ _) | (with_reducible refine bl_more ?_ _ _)))) (((HV1.out.below (by repeat (first | (with_reducible exact Below.refl _ _) | (with_reducible exact bl_mm) | (with_reducible refine bl_dr ?_) | (with_reducible refine bl_drN ?_ _) | (with_reducible refine bl_al ?_ _) | (with_reducible refine bl_more ?_ _ _)))).ext HE5.out (fun b hb _ hx => hx.1 hb)).below (by repeat (first | (with_reducible exact Below.refl _ _) | (with_reducible exact bl_mm) | (with_reducible refine bl_dr ?_) | (with_reducible refine bl_drN ?_ _) | (with_reducible refine bl_al ?_ _) | (with_reducible refine bl_more ?_ _ _))))).mono ?_; rintro e w9 ⟨rfl, hb9⟩; obtain ⟨ex9, dx9, rfl⟩ := more_of hb9; clear hb9; rw [decide_eq_true (rfl : e1 = e1)]) | (go_at_call 12; refine ((HH5.out.below (by repeat (first | (with_reducible exact Below.refl _ _) | (with_reducible exact bl_mm) | (with_reducible refine bl_dr ?_) | (with_reducible refine bl_drN ?_ _) | (with_reducible refine bl_al ?_ _) | (with_reducible refine bl_more ?_ _ _)))).read (i := 1) HS5.out (by omega) (by rw [HL2.out]; omega) HRE.out).mono ?_; rintro e w10 ⟨A10, c10, rfl, hb10⟩; obtain ⟨ex10, dx10, rfl⟩ := more_of hb10; clear hb10) | (go_at_call 20; refine ((HH5.out.below (by repeat (first | (with_reducible exact Below.refl _ _) | (with_reducible exact bl_mm) | (with_reducible refine bl_dr ?_) | (with_reducible refine bl_drN ?_ _) | (with_reducible refine bl_al ?_ _) | (with_reducible refine bl_more ?_ _ _)))).synced (i := 1) HS5.out HSY.out.1 HSY.out.2).mono ?_; rintro e w11 ⟨rfl, hb11⟩; obtain ⟨ex11, dx11, rfl⟩ := more_of hb11; clear hb11) | (go_at_call 8; refine lives_any.mono ?_; rintro e wl ⟨rfl, hbl⟩; obtain ⟨exl, dxl, rfl⟩ := more_of hbl; clear hbl))
        go_ret
        exact ⟨rfl, bl_then HH5.out.low (by repeat (first | (with_reducible exact Below.refl _ _) | (with_reducible exact bl_mm) | (with_reducible refine bl_dr ?_) | (with_reducible refine bl_drN ?_ _) | (with_reducible refine bl_al ?_ _) | (with_reducible refine bl_more ?_ _ _)))⟩
      · clear hsure
        go_upto_region 13 with (first | ((with_reducible refine wp_region_plan (id := 9) (.eff [(false, 0), (false, 1), (false, 2), (false, 3), (false, 4), (false, 5), (false, 6), (false, 7), (false, 8), (false, 9), (false, 10), (false, 11), (false, 12), (false, 13), (false, 14), (false, 15), (false, 16), (false, 17), (false, 18), (false, 19), (false, 20), (false, 21), (false, 22), (false, 23), (false, 24), (false, 25)] 26 [] (.fin [(false, 27), (false, 28)])) ?_ ?_ ?_ ?_ ?_ ?_); kernel_rfl; kernel_rfl; kernel_rfl; kernel_rfl; (intro c a d v w h; cases d <;> exact h)) | (with_reducible refine wpPlan_eff ?_) | (with_reducible refine wpPlan_fin ?_) | (with_reducible refine wpPlan_two ?_) | (with_reducible refine wpOpPair ?_ ?_) | ((with_reducible apply wpPre_keep); rfl; intro K' hK'; go_simp; refine hK' _ _ ?_; intro f hf; clear hK' K') | ((with_reducible apply wpPre_drop); rfl; intro K' hK'; go_simp; refine hK' _ _ ?_; intro f; clear hK' K') | (with_reducible refine wpPre_nil ?_) | ((with_reducible apply wpOp_list); rfl) | (with_reducible refine heldPair ?_ ?_) | ((with_reducible refine heldH_no ?_ ?_); rfl) | (with_reducible refine heldH_yes ?_ ?_) | (with_reducible exact heldH_nil) | (unfold YAt; go_simp; done))
        go_wp2_with (first | ((with_reducible refine wp_region_plan (id := 9) (.eff [(false, 0), (false, 1), (false, 2), (false, 3), (false, 4), (false, 5), (false, 6), (false, 7), (false, 8), (false, 9), (false, 10), (false, 11), (false, 12), (false, 13), (false, 14), (false, 15), (false, 16), (false, 17), (false, 18), (false, 19), (false, 20), (false, 21), (false, 22), (false, 23), (false, 24), (false, 25)] 26 [] (.fin [(false, 27), (false, 28)])) ?_ ?_ ?_ ?_ ?_ ?_); kernel_rfl; kernel_rfl; kernel_rfl; kernel_rfl; (intro c a d v w h; cases d <;> exact h)) | (with_reducible refine wpPlan_eff ?_) | (with_reducible refine wpPlan_fin ?_) | (with_reducible refine wpPlan_two ?_) | (with_reducible refine wpOpPair ?_ ?_) | ((with_reducible apply wpPre_keep); rfl; intro K' hK'; go_simp; refine hK' _ _ ?_; intro f hf; clear hK' K') | ((with_reducible apply wpPre_drop); rfl; intro K' hK'; go_simp; refine hK' _ _ ?_; intro f; clear hK' K') | (with_reducible refine wpPre_nil ?_) | ((with_reducible apply wpOp_list); rfl) | (with_reducible refine heldPair ?_ ?_) | ((with_reducible refine heldH_no ?_ ?_); rfl) | (with_reducible refine heldH_yes ?_ ?_) | (with_reducible exact heldH_nil) | (unfold YAt; go_simp; done) | (go_at_call 18; refine ((open_at (HH4.out.below (by repeat (first | (with_reducible exact Below.refl _ _) | (with_reducible exact bl_mm) | (with_reducible refine bl_dr ?_) | (with_reducible refine bl_drN ?_ _) | (with_reducible refine bl_al ?_ _) | (with_reducible refine bl_more ?_ _ _)))) HS4.out (by omega) HO2.out)).mono ?_; rintro e w5 ⟨v5, R5, rfl, hh5, hR5, hr5, he5⟩; have p5 : w5.cell? ⟨b4, off + 1, none⟩ = some (.slice A' e1.length c') := (World.cell?_of_block (he5.block b4 (by simp [more_size]; omega) (fun hx => hx.1 HKB.out))).trans (by go_simp); have y5 : b4 < w5.heap.size := Nat.lt_of_lt_of_le (by simp [more_size]; omega) he5.size; obtain ⟨A5, c5, rfl, _, _⟩ := hr5.form; have HH5 := hid hh5; have HR5 := hid hr5; have HE5 := hid he5; clear hh5 hr5 hR5 he5) | (go_at_call 10; refine ((HH5.out.below (by repeat (first | (with_reducible exact Below.refl _ _) | (with_reducible exact bl_mm) | (with_reducible refine bl_dr ?_) | (with_reducible refine bl_drN ?_ _) | (with_reducible refine bl_al ?_ _) | (with_reducible refine bl_more ?_ _ _)))).load (i := 1) HS5.out (by omega) (by rw [HL2.out]; omega) HLG.out).mono ?_; rintro e w6 ⟨v6, g6, rfl, ho6, hb6⟩; rw [HMP.out] at ho6; obtain ⟨A6, c6, rfl, _, _⟩ := ho6.sp.form; have HO6 := hid (ho6.row (fun _ hb => hb)); obtain ⟨ex6, dx6, rfl⟩ := more_of hb6; rw [HAT.out]; clear ho6 hb6) | (go_at_call 19; refine (srows_any ((((HR4.out.below (by repeat (first | (with_reducible exact Below.refl _ _) | (with_reducible exact bl_mm) | (with_reducible refine bl_dr ?_) | (with_reducible refine bl_drN ?_ _) | (with_reducible refine bl_al ?_ _) | (with_reducible refine bl_more ?_ _ _)))).ext HE5.out (fun b hb _ hx => hx.1 hb))).below (by repeat (first | (with_reducible exact Below.refl _ _) | (with_reducible exact bl_mm) | (with_reducible refine bl_dr ?_) | (with_reducible refine bl_drN ?_ _) | (with_reducible refine bl_al ?_ _) | (with_reducible refine bl_more ?_ _ _)))) (HR5.out.below (by repeat (first | (with_reducible exact Below.refl _ _) | (with_reducible exact bl_mm) | (with_reducible refine bl_dr ?_) | (with_reducible refine bl_drN ?_ _) | (with_reducible refine bl_al ?_ _) | (with_reducible refine bl_more ?_ _ _))))).mono ?_; rintro e w8 ⟨rfl, hb8⟩; obtain ⟨ex8, dx8, rfl⟩ := more_of hb8; clear hb8; rw [decide_eq_true (rfl : [[], e1] = [[], e1])]) | (go_at_call 11; refine (esames_any (HO6.out.below (by repeat (first | (with_reducible exact Below.refl _ _) | (with_reducible exact bl_mm) | (with_reducible refine bl_dr ?_) | (with_reducible refine bl_drN ?_ _) | (with_reducible refine bl_al ?_ _) | (with_reducible refine bl_more ?_ _ _)))) (((HV1.out.below (by repeat (first | (with_reducible exact Below.refl _ _) | (with_reducible exact bl_mm) | (with_reducible refine bl_dr ?_) | (with_reducible refine bl_drN ?_ _) | (with_reducible refine bl_al ?_ _) | (with_reducible refine bl_more ?_ _ _)))).ext HE5.out (fun b hb _ hx => hx.1 hb)).below (by repeat (first | (with_reducible exact Below.refl _ _) | (with_reducible exact bl_mm) | (with_reducible refine bl_dr ?_) | (with_reducible refine bl_drN ?_ _) | (with_reducible refine bl_al ?_ _) | (with_reducible refine bl_more ?_ _ _))))).mono ?_; rintro e w9 ⟨rfl, hb9⟩; obtain ⟨ex9, dx9, rfl⟩ := more_of hb9; clear hb9; rw [decide_eq_true (rfl : e1 = e1)]) | (go_at_call 12; refine ((HH5.out.below (by repeat (first | (with_reducible exact Below.refl _ _) | (with_reducible exact bl_mm) | (with_reducible refine bl_dr ?_) | (with_reducible refine bl_drN ?_ _) | (with_reducible refine bl_al ?_ _) | (with_reducible refine bl_more ?_ _ _)))).read (i := 1) HS5.out (by omega) (by rw [HL2.out]; omega) HRE.out).mono ?_; rintro e w10 ⟨A10, c10, rfl, hb10⟩; obtain ⟨ex10, dx10, rfl⟩ := more_of hb10; clear hb10) | (go_at_call 20; refine ((HH5.out.below (by repeat (first | (with_reducible exact Below.refl _ _) | (with_reducible exact bl_mm) | (with_reducible refine bl_dr ?_) | (with_reducible refine bl_drN ?_ _) | (with_reducible refine bl_al ?_ _) | (with_reducible refine bl_more ?_ _ _)))).synced (i := 1) HS5.out HSY.out.1 HSY.out.2).mono ?_; rintro e w11 ⟨rfl, hb11⟩; obtain ⟨ex11, dx11, rfl⟩ := more_of hb11; clear hb11) | (go_at_call 8; refine lives_any.mono ?_; rintro e wl ⟨rfl, hbl⟩; obtain ⟨exl, dxl, rfl⟩ := more_of hbl; clear hbl))
        go_ret
        exact ⟨rfl, bl_then HH5.out.low (by repeat (first | (with_reducible exact Below.refl _ _) | (with_reducible exact bl_mm) | (with_reducible refine bl_dr ?_) | (with_reducible refine bl_drN ?_ _) | (with_reducible refine bl_al ?_ _) | (with_reducible refine bl_more ?_ _ _)))⟩
    · clear hsure
      go_upto_region 13 with (first | ((with_reducible refine wp_region_plan (id := 9) (.eff [(false, 0), (false, 1), (false, 2), (false, 3), (false, 4), (false, 5), (false, 6), (false, 7), (false, 8), (false, 9), (false, 10), (false, 11), (false, 12), (false, 13), (false, 14), (false, 15), (false, 16), (false, 17), (false, 18), (false, 19), (false, 20), (false, 21), (false, 22), (false, 23), (false, 24), (false, 25)] 26 [] (.fin [(false, 27), (false, 28)])) ?_ ?_ ?_ ?_ ?_ ?_); kernel_rfl; kernel_rfl; kernel_rfl; kernel_rfl; (intro c a d v w h; cases d <;> exact h)) | (with_reducible refine wpPlan_eff ?_) | (with_reducible refine wpPlan_fin ?_) | (with_reducible refine wpPlan_two ?_) | (with_reducible refine wpOpPair ?_ ?_) | ((with_reducible apply wpPre_keep); rfl; intro K' hK'; go_simp; refine hK' _ _ ?_; intro f hf; clear hK' K') | ((with_reducible apply wpPre_drop); rfl; intro K' hK'; go_simp; refine hK' _ _ ?_; intro f; clear hK' K') | (with_reducible refine wpPre_nil ?_) | ((with_reducible apply wpOp_list); rfl) | (with_reducible refine heldPair ?_ ?_) | ((with_reducible refine heldH_no ?_ ?_); rfl) | (with_reducible refine heldH_yes ?_ ?_) | (with_reducible exact heldH_nil) | (unfold YAt; go_simp; done))
      go_wp2_with (first | ((with_reducible refine wp_region_plan (id := 9) (.eff [(false, 0), (false, 1), (false, 2), (false, 3), (false, 4), (false, 5), (false, 6), (false, 7), (false, 8), (false, 9), (false, 10), (false, 11), (false, 12), (false, 13), (false, 14), (false, 15), (false, 16), (false, 17), (false, 18), (false, 19), (false, 20), (false, 21), (false, 22), (false, 23), (false, 24), (false, 25)] 26 [] (.fin [(false, 27), (false, 28)])) ?_ ?_ ?_ ?_ ?_ ?_); kernel_rfl; kernel_rfl; kernel_rfl; kernel_rfl; (intro c a d v w h; cases d <;> exact h)) | (with_reducible refine wpPlan_eff ?_) | (with_reducible refine wpPlan_fin ?_) | (with_reducible refine wpPlan_two ?_) | (with_reducible refine wpOpPair ?_ ?_) | ((with_reducible apply wpPre_keep); rfl; intro K' hK'; go_simp; refine hK' _ _ ?_; intro f hf; clear hK' K') | ((with_reducible apply wpPre_drop); rfl; intro K' hK'; go_simp; refine hK' _ _ ?_; intro f; clear hK' K') | (with_reducible refine wpPre_nil ?_) | ((with_reducible apply wpOp_list); rfl) | (with_reducible refine heldPair ?_ ?_) | ((with_reducible refine heldH_no ?_ ?_); rfl) | (with_reducible refine heldH_yes ?_ ?_) | (with_reducible exact heldH_nil) | (unfold YAt; go_simp; done) | (go_at_call 18; refine ((open_at (HH4.out.below (by repeat (first | (with_reducible exact Below.refl _ _) | (with_reducible exact bl_mm) | (with_reducible refine bl_dr ?_) | (with_reducible refine bl_drN ?_ _) | (with_reducible refine bl_al ?_ _) | (with_reducible refine bl_more ?_ _ _)))) HS4.out (by omega) HO2.out)).mono ?_; rintro e w5 ⟨v5, R5, rfl, hh5, hR5, hr5, he5⟩; have p5 : w5.cell? ⟨b4, off + 1, none⟩ = some (.slice A' e1.length c') := (World.cell?_of_block (he5.block b4 (by simp [more_size]; omega) (fun hx => hx.1 HKB.out))).trans (by go_simp); have y5 : b4 < w5.heap.size := Nat.lt_of_lt_of_le (by simp [more_size]; omega) he5.size; obtain ⟨A5, c5, rfl, _, _⟩ := hr5.form; have HH5 := hid hh5; have HR5 := hid hr5; have HE5 := hid he5; clear hh5 hr5 hR5 he5) | (go_at_call 10; refine ((HH5.out.below (by repeat (first | (with_reducible exact Below.refl _ _) | (with_reducible exact bl_mm) | (with_reducible refine bl_dr ?_) | (with_reducible refine bl_drN ?_ _) | (with_reducible refine bl_al ?_ _) | (with_reducible refine bl_more ?_ _ _)))).load (i := 1) HS5.out (by omega) (by rw [HL2.out]; omega) HLG.out).mono ?_; rintro e w6 ⟨v6, g6, rfl, ho6, hb6⟩; rw [HMP.out] at ho6; obtain ⟨A6, c6, rfl, _, _⟩ := ho6.sp.form; have HO6 := hid (ho6.row (fun _ hb => hb)); obtain ⟨ex6, dx6, rfl⟩ := more_of hb6; rw [HAT.out]; clear ho6 hb6) | (go_at_call 19; refine (srows_any ((((HR4.out.below (by repeat (first | (with_reducible exact Below.refl _ _) | (with_reducible exact bl_mm) | (with_reducible refine bl_dr ?_) | (with_reducible refine bl_drN ?_ _) | (with_reducible refine bl_al ?_ _) | (with_reducible refine bl_more ?_ _ _)))).ext HE5.out (fun b hb _ hx => hx.1 hb))).below (by repeat (first | (with_reducible exact Below.refl _ _) | (with_reducible exact bl_mm) | (with_reducible refine bl_dr ?_) | (with_reducible refine bl_drN ?_ _) | (with_reducible refine bl_al ?_ _) | (with_reducible refine bl_more ?_ _ _)))) (HR5.out.below (by repeat (first | (with_reducible exact Below.refl _ _) | (with_reducible exact bl_mm) | (with_reducible refine bl_dr ?_) | (with_reducible refine bl_drN ?_ _) | (with_reducible refine bl_al ?_ _) | (with_reducible refine bl_more ?_ _ _))))).mono ?_; rintro e w8 ⟨rfl, hb8⟩; obtain ⟨ex8, dx8, rfl⟩ := more_of hb8; clear hb8; rw [decide_eq_true (rfl : [[], e1] = [[], e1])]) | (go_at_call 11; refine (esames_any (HO6.out.below (by repeat (first | (with_reducible exact Below.refl _ _) | (with_reducible exact bl_mm) | (with_reducible refine bl_dr ?_) | (with_reducible refine bl_drN ?_ _) | (with_reducible refine bl_al ?_ _) | (with_reducible refine bl_more ?_ _ _)))) (((HV1.out.below (by repeat (first | (with_reducible exact Below.refl _ _) | (with_reducible exact bl_mm) | (with_reducible refine bl_dr ?_) | (with_reducible refine bl_drN ?_ _) | (with_reducible refine bl_al ?_ _) | (with_reducible refine bl_more ?_ _ _)))).ext HE5.out (fun b hb _ hx => hx.1 hb)).below (by repeat (first | (with_reducible exact Below.refl _ _) | (with_reducible exact bl_mm) | (with_reducible refine bl_dr ?_) | (with_reducible refine bl_drN ?_ _) | (with_reducible refine bl_al ?_ _) | (with_reducible refine bl_more ?_ _ _))))).mono ?_; rintro e w9 ⟨rfl, hb9⟩; obtain ⟨ex9, dx9, rfl⟩ := more_of hb9; clear hb9; rw [decide_eq_true (rfl : e1 = e1)]) | (go_at_call 12; refine ((HH5.out.below (by repeat (first | (with_reducible exact Below.refl _ _) | (with_reducible exact bl_mm) | (with_reducible refine bl_dr ?_) | (with_reducible refine bl_drN ?_ _) | (with_reducible refine bl_al ?_ _) | (with_reducible refine bl_more ?_ _ _)))).read (i := 1) HS5.out (by omega) (by rw [HL2.out]; omega) HRE.out).mono ?_; rintro e w10 ⟨A10, c10, rfl, hb10⟩; obtain ⟨ex10, dx10, rfl⟩ := more_of hb10; clear hb10) | (go_at_call 20; refine ((HH5.out.below (by repeat (first | (with_reducible exact Below.refl _ _) | (with_reducible exact bl_mm) | (with_reducible refine bl_dr ?_) | (with_reducible refine bl_drN ?_ _) | (with_reducible refine bl_al ?_ _) | (with_reducible refine bl_more ?_ _ _)))).synced (i := 1) HS5.out HSY.out.1 HSY.out.2).mono ?_; rintro e w11 ⟨rfl, hb11⟩; obtain ⟨ex11, dx11, rfl⟩ := more_of hb11; clear hb11) | (go_at_call 8; refine lives_any.mono ?_; rintro e wl ⟨rfl, hbl⟩; obtain ⟨exl, dxl, rfl⟩ := more_of hbl; clear hbl))
      go_ret
      exact ⟨rfl, bl_then HH5.out.low (by repeat (first | (with_reducible exact Below.refl _ _) | (with_reducible exact bl_mm) | (with_reducible refine bl_dr ?_) | (with_reducible refine bl_drN ?_ _) | (with_reducible refine bl_al ?_ _) | (with_reducible refine bl_more ?_ _ _)))⟩
  · have hl1 : (100 : Int) < (l.length : Int) := by omega
    clear h hl
    go_enter Try.func5, Try.ntmps5
    go_wp2_with (first | ((with_reducible refine wp_region_plan (id := 9) (.eff [(false, 0), (false, 1), (false, 2), (false, 3), (false, 4), (false, 5), (false, 6), (false, 7), (false, 8), (false, 9), (false, 10), (false, 11), (false, 12), (false, 13), (false, 14), (false, 15), (false, 16), (false, 17), (false, 18), (false, 19), (false, 20), (false, 21), (false, 22), (false, 23), (false, 24), (false, 25)] 26 [] (.fin [(false, 27), (false, 28)])) ?_ ?_ ?_ ?_ ?_ ?_); kernel_rfl; kernel_rfl; kernel_rfl; kernel_rfl; (intro c a d v w h; cases d <;> exact h)) | (with_reducible refine wpPlan_eff ?_) | (with_reducible refine wpPlan_fin ?_) | (with_reducible refine wpPlan_two ?_) | (with_reducible refine wpOpPair ?_ ?_) | ((with_reducible apply wpPre_keep); rfl; intro K' hK'; go_simp; refine hK' _ _ ?_; intro f hf; clear hK' K') | ((with_reducible apply wpPre_drop); rfl; intro K' hK'; go_simp; refine hK' _ _ ?_; intro f; clear hK' K') | (with_reducible refine wpPre_nil ?_) | ((with_reducible apply wpOp_list); rfl) | (with_reducible refine heldPair ?_ ?_) | ((with_reducible refine heldH_no ?_ ?_); rfl) | (with_reducible refine heldH_yes ?_ ?_) | (with_reducible exact heldH_nil) | (unfold YAt; go_simp; done) | (go_at_call 8; refine lives_any.mono ?_; rintro e wl ⟨rfl, hbl⟩; obtain ⟨exl, dxl, rfl⟩ := more_of hbl; clear hbl))
    go_ret
    exact ⟨rfl, (by repeat (first | (with_reducible exact Below.refl _ _) | (with_reducible exact bl_mm) | (with_reducible refine bl_dr ?_) | (with_reducible refine bl_drN ?_ _) | (with_reducible refine bl_al ?_ _) | (with_reducible refine bl_more ?_ _ _)))⟩
end Go.Proofs.Ytgpcgndmdkgbdaa

/- 'argosylaw.BranchTorn' holds: 'Rows.BranchTornSaid', for every input, with no further condition. -/
namespace Go.Proofs.Ytgpcgndmdkgbdaa.branchTorn
open Go.ChangeShapes Go.WideShapes Go.ChangeAt Go.RowKit
open Go.ChangeMaps (open_string shut_string)

theorem own : ownKnob Try.prog.godebug = none := by kernel_rfl
theorem laidOut : laidOutB Try.prog = true := by kernel_rfl

set_option maxRecDepth 100000 in
theorem lifted (os : Os) (started : os.Started) (H : Type) (enc : TypeId × Value → H) :
    ReturnsInHanded {} Try.checked os 5 .any (Rows.branchTornSpec.pre6 enc Try.prog Try.f5 Rows.branchTornRow.domain false) (Rows.branchTornSpec.post enc Try.prog Try.f5 false true false false) := by
  refine returnsInHanded_of_change (C := Try.checked) own started (by kernel_rfl) Try.func5
    (ChangeSpec.witness6 (enc := enc) (C := Try.checked) false ⟨#[], #[.slice none 0 0, .int .i64 0, .int .i64 0], []⟩ 8 (by kernel_rfl) (by kernel_rfl) (by kernel_rfl) (by kernel_rfl)) ?_
  intro W base args ds gs before hval0 hW _ _
  have hval : ∀ (j : Nat) t v, Try.f5.params[j]? = some t → args[j]? = some v → Value.okWide Try.prog W .any base t v := hval0
  have hW' := hW
  obtain ⟨p, q, hA0, hV, rfl, _, _⟩ := hW
  have hA : DataW.TrodAll enc Try.prog W 0 (fun _ => true) true Try.f5.params.toList args.toList ds p := hA0
  rw [Try.params5] at hA hval
  obtain ⟨v0, vs0, d0, ds0, p0, q0, hargs, rfl, rfl, h0, r_0⟩ := trodAll_cons hA
  obtain ⟨v1, vs1, d1, ds1, p1, q1, rfl, rfl, rfl, h1, r_1⟩ := trodAll_cons r_0
  obtain ⟨v2, vs2, d2, ds2, p2, q2, rfl, rfl, rfl, h2, r_2⟩ := trodAll_cons r_1
  obtain ⟨rfl, rfl, rfl⟩ := trodAll_nil r_2
  obtain rfl : args = #[v0, v1, v2] := by cases args; simp_all
  obtain ⟨rfl, rfl⟩ := trodVars_none hV
  obtain ⟨b0, n0, c0, rfl⟩ := okWide_slice Try.underlying22 (hval 0 22 v0 rfl rfl)
  have k0 := h0
  have lt0 : ∀ x ∈ p0, x.block < W.heap.size := by obtain ⟨m, hm⟩ := k0; exact DataW.trod_lt m _ _ _ hm
  obtain ⟨x0, g0, r0⟩ := Opens.arg evs_op h0
  obtain ⟨a1, rfl, rfl, rfl, w1⟩ := open_int Try.underlying3 (hval 1 3 v1 rfl rfl) h1
  obtain ⟨a2, rfl, rfl, rfl, w2⟩ := open_int Try.underlying3 (hval 2 3 v2 rfl rfl) h2
  clear hA0 hval0
  refine (torn_any (r0.bound.mono (fun _ h _ => h.2))).mono fun e W' ⟨he, bel⟩ => ?_
  subst he
  exact ⟨_, rfl, _, _, _, [], _, [], hW', trodAll_mk1 (shut_bool Try.underlying4 _), (trodAll_cons_mk (Below.trod laidOut (by kernel_rfl) (of_decide_eq_true (by kernel_rfl)) k0 bel lt0) (trodAll_cons_mk (shut_int Try.underlying3 w1) (trodAll_cons_mk (shut_int Try.underlying3 w2) trodAll_mk0))), rfl, bel.frame _, fun h => by cases h⟩

theorem over : Rows.branchTornRow.holds Try.pinned (OpenSpec.ofChange Rows.branchTornSpec) :=
  OpenClaim.holds_of_wide 5 Try.f5 rfl rfl rfl rfl rfl rfl rfl ⟨rfl, rfl, rfl, rfl, rfl⟩ rfl rfl rfl rfl rfl (by kernel_rfl) Try.func5 (by kernel_rfl)
    (of_decide_eq_true (by kernel_rfl)) (by unfold Func.isWrapper; first | (rw [if_pos (by decide +kernel)]; kernel_rfl) | (rw [if_neg (by decide +kernel)]; exact ⟨rfl, rfl⟩))
    (fun os started H enc _ => lifted os started H enc)
end Go.Proofs.Ytgpcgndmdkgbdaa.branchTorn
namespace Go.Proofs.Ytgpcgndmdkgbdaa
theorem branchTorn_proved : Rows.BranchTornSaid := branchTorn.over
#print axioms branchTorn_proved
end Go.Proofs.Ytgpcgndmdkgbdaa
