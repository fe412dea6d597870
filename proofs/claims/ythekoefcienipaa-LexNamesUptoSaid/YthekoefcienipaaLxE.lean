/- The reader's state; a name shut. -/
import Derived.Test.YthekoefcienipaaLxD
import Derived.Test.YthekoefcienipaaDraw
namespace Go.Proofs.Ythekoefcienipaa
open Go.RowKit

structure Tok where
  kind : Int
  text : ByteArray
  at_ : Int
abbrev intE : Enc Int := Enc.int .i64
def tokE : Enc Tok := Enc.iso (Enc.pair intE (Enc.pair Enc.str intE)) (fun t => (t.kind, t.text, t.at_))
def tokCells (t : Tok) : List Value := [.int .i64 t.kind, .string t.text, .int .i64 t.at_]
theorem tokE_mk {K : Nat → Prop} {w : World} (t : Tok) : tokE.rd K w t (tokCells t) := ⟨[_], _, rfl, rfl, [_], _, rfl, rfl, rfl⟩
theorem tokE_open {K : Nat → Prop} {w : World} {t : Tok} {cs : List Value} (h : tokE.rd K w t cs) : cs = tokCells t := by
  obtain ⟨_, _, rfl, rfl, _, _, rfl, rfl, rfl⟩ := h
  rfl
theorem info38 : (Try.prog.info? 38).map (fun i => (i.zero, i.size, i.bytes)) = some (some (.agg #[.int .i64 0, .string ⟨#[]⟩, .int .i64 0]), 3, 32) := by kernel_rfl
theorem app23 {K : Nat → Prop} {g : Nat} {w : World} {v x : Value} {xs ys : List Tok} (h : tokE.Spine 38 K g w v xs) (hy : tokE.Src K w x ys) (hKg : ∀ b, K b → b < w.heap.size → b ≠ g) (hlen : xs.length + ys.length ≤ 4294967296) :
    ∃ v' w' g', (Builtin.append_ #[23, 23] 23 #[v, x]).run Try.prog w = .ok v' w' ∧ tokE.Spine 38 (fun b => K b ∧ b < w.heap.size) g' w' v' (xs ++ ys) ∧ Ext (fun b => b = g ∧ capOf v ≠ 0) w w' ∧ Grew g w w' v v' g' := by
  obtain ⟨i0, hi, hz0, hz1, hz2⟩ := info_parts info38
  exact h.append 23 23 23 i0 _ Try.underlying23 ⟨_, Try.underlying23⟩ hi hz0 hz1 rfl (by decide) hy hKg hlen (by rw [hz2]; decide)
theorem wpList_app23 {w : World} {ops : Array Oper} {rest : List Oper} {o : Oper} {a : Act} {Q : Exit → Act → World → Prop} {K : Nat → Prop} {g : Nat} {xs ys : List Tok} {v x : Value}
    (hg : o.guard = none) (s x' : Operand) (hop : o.op = Op.call { callee := Callee.builtin Builtin.append, args := #[s, x'], argTypes := #[23, 23] }) (hty : o.type = 23)
    (hv : a.eval s = v) (hx : a.eval x' = x) (hs : tokE.Spine 38 K g w v xs) (hy : tokE.Src K w x ys) (hKg : ∀ b, K b → b < w.heap.size → b ≠ g) (hlen : xs.length + ys.length ≤ 4294967296)
    (h : ∀ v' w' g', tokE.Spine 38 (fun b => K b ∧ b < w.heap.size) g' w' v' (xs ++ ys) → Ext (fun b => b = g ∧ capOf v ≠ 0) w w' → Grew g w w' v v' g' → wpList Try.prog ops Q rest (a.put o.dst v') w') :
    wpList Try.prog ops Q (o :: rest) a w := by
  subst hv; subst hx
  obtain ⟨v', w', g', hrun, h1, h2, h3⟩ := app23 hs hy hKg hlen
  exact wpList_append_run hg s x' 23 23 hop (by rw [hty]; exact hrun) (h v' w' g' h1 h2 h3)
/-- The reader's state: tokens, whether a remark goes on, where a name began. -/
structure LS where
  out : List Tok
  remark : Bool
  begun : Int
abbrev No : Nat → Prop := fun _ => False
structure LxS (w : World) (x g : Nat) (s : ByteArray) (m : LS) : Prop where
  few : m.out.length ≤ 65537
  own : g = x ∨ g < w.heap.size
  at_ : ∃ v, w.heap[x]? = some (.cells #[.string s, v, .bool m.remark, .int .i64 m.begun] 47 (0, 0)) ∧ tokE.Spine 38 No g w v m.out
structure Up (d g : Nat) (w : World) (g' : Nat) (w' : World) : Prop where
  ext : Ext (fun b => b = d ∨ b = g) w w'
  new : g' = g ∨ w.heap.size ≤ g'
theorem Up.of_below {d g : Nat} {w w' : World} (h : Below w.heap.size w w') : Up d g w g w' := ⟨Ext.of_below h, .inl rfl⟩
theorem Up.trans {d g g1 g2 : Nat} {w w1 w2 : World} (h : Up d g w g1 w1) (k : Up d g1 w1 g2 w2) : Up d g w g2 w2 := by
  refine ⟨h.ext.trans k.ext (fun x hx hs => ?_), ?_⟩
  · rcases hs with h1 | h1
    · exact .inl h1
    · rcases h.new with h2 | h2
      · exact .inr (by omega)
      · omega
  · have := h.ext.size
    rcases h.new with h2 | h2 <;> rcases k.new with h3 | h3
    · exact .inl (by omega)
    · exact .inr (by omega)
    · exact .inr (by omega)
    · exact .inr (by omega)
theorem LxS.lt {w : World} {x g : Nat} {s : ByteArray} {m : LS} (h : LxS w x g s m) : x < w.heap.size := by
  obtain ⟨v, h1, _⟩ := h.at_
  exact (Array.getElem?_eq_some_iff.1 h1).1
theorem LxS.below {w w' : World} {x g : Nat} {s : ByteArray} {m : LS} (h : LxS w x g s m) (hb : Below w.heap.size w w') : LxS w' x g s m := by
  obtain ⟨v, h1, h2⟩ := h.at_
  have := hb.size
  exact ⟨h.few, h.own.imp id (fun h => by omega), v, (hb.block x h.lt).trans h1, h2.step (fun cur hc => (hb.block g (Array.getElem?_eq_some_iff.1 hc).1).trans hc) (fun b hk _ => hk.elim)⟩
theorem LxS.ne {w : World} {x g : Nat} {v : Value} {out : List Tok} {cs : Array Value} (h1 : w.heap[x]? = some (.cells cs 47 (0, 0))) (h2 : tokE.Spine 38 No g w v out) (hc : capOf v ≠ 0) : g ≠ x := by
  obtain ⟨cur, hcur⟩ := h2.type hc
  rintro rfl
  rw [h1] at hcur
  cases hcur
/-- A field of the state written. -/
theorem LxS.setBegun {w : World} {x g : Nat} {s : ByteArray} {m : LS} (h : LxS w x g s m) (b : Int) : LxS (w.setCell ⟨x, 3, none⟩ (.int .i64 b)) x g s { m with begun := b } := by
  obtain ⟨v, h1, h2⟩ := h.at_
  refine ⟨h.few, h.own.imp id (fun h => by simpa using h), v, by simp [World.setCell, Array.getElem?_modify, h1], h2.step (fun cur hc => ?_) (fun b hk _ => hk.elim)⟩
  have hne : g ≠ x := by rintro rfl; rw [h1] at hc; cases hc
  rw [Below.heap_setCell _ _ _ _ hne]; exact hc
theorem LxS.setRemark {w : World} {x g : Nat} {s : ByteArray} {m : LS} (h : LxS w x g s m) (b : Bool) : LxS (w.setCell ⟨x, 2, none⟩ (.bool b)) x g s { m with remark := b } := by
  obtain ⟨v, h1, h2⟩ := h.at_
  refine ⟨h.few, h.own.imp id (fun h => by simpa using h), v, by simp [World.setCell, Array.getElem?_modify, h1], h2.step (fun cur hc => ?_) (fun b hk _ => hk.elim)⟩
  have hne : g ≠ x := by rintro rfl; rw [h1] at hc; cases hc
  rw [Below.heap_setCell _ _ _ _ hne]; exact hc
theorem LxS.appended {w W3 W2 : World} {x g g2 : Nat} {s : ByteArray} {m : LS} {v v2 : Value} {out' : List Tok} {K : Nat → Prop} (hb : w.heap[x]? = some (.cells #[.string s, v, .bool m.remark, .int .i64 m.begun] 47 (0, 0))) (hbw : Below w.heap.size w W3)
    (hown : g = x ∨ g < w.heap.size) (hne : capOf v ≠ 0 → g ≠ x) (he : Ext (fun b => b = g ∧ capOf v ≠ 0) W3 W2) (hg2 : (g2 = g ∧ W2.heap.size = W3.heap.size) ∨ (g2 = W3.heap.size ∧ W2.heap.size = W3.heap.size + 1))
    (hs : tokE.Spine 38 K g2 W2 v2 out') (hK : ∀ b, ¬ K b) (hfew : out'.length ≤ 65537) :
    LxS (W2.setCell ⟨x, 1, none⟩ v2) x g2 s ⟨out', m.remark, m.begun⟩ ∧ Up x g w g2 (W2.setCell ⟨x, 1, none⟩ v2) := by
  have hd : x < w.heap.size := (Array.getElem?_eq_some_iff.1 hb).1
  have h3 := hbw.size
  have hd2 : W2.heap[x]? = some (.cells #[.string s, v, .bool m.remark, .int .i64 m.begun] 47 (0, 0)) := by
    rw [he.block x (by omega) (fun h => hne h.2 h.1.symm), hbw.block x hd]; exact hb
  refine ⟨⟨hfew, ?_, v2, by simp [World.setCell, Array.getElem?_modify, hd2], hs.step (fun cur hc => ?_) (fun b hb _ => (hK b hb).elim)⟩, ⟨?_, ?_⟩⟩
  · rcases hg2 with ⟨h, h'⟩ | ⟨h, h'⟩
    · rcases hown with h1 | h1
      · exact .inl (h.trans h1)
      · exact .inr (by simp; omega)
    · exact .inr (by simp; omega)
  · have hne' : g2 ≠ x := by rintro rfl; rw [hd2] at hc; cases hc
    rw [Below.heap_setCell _ _ _ _ hne']; exact hc
  · refine (Ext.of_below (S := fun b => b = x ∨ b = g) hbw).trans (T := fun b => b = x ∨ b = g) ((he.mono (fun x _ h => .inr h.1)).trans (T := fun b => b = x ∨ b = g) (Ext.setCell _ _ _ (.inl rfl)) (fun _ _ h => h)) (fun _ _ h => h)
  · rcases hg2 with ⟨h, _⟩ | ⟨h, _⟩
    · exact .inl h
    · exact .inr (by omega)
end Go.Proofs.Ythekoefcienipaa
