/- Order. -/
import Derived.Test.YtomhpbhkckjmdaaDoorRRDgE
namespace Go.Proofs.YtomhpbhkckjmdaaDoorRR
open Go.RowKit

/-- What a call that goes through a graph's order tells: a number (why not), and a row. -/
def resR {α : Type} (n : Int) (l : Arcs) (f : List Nat → Int × List α) : Int × List α := if okB n l = true then (match orderR n.toNat (onAt l) with | none => (13, []) | some row => f row) else (2, [])
theorem res_bad {α : Type} {n : Int} {l : Arcs} {f : List Nat → Int × List α} (h : okB n l = false) : resR n l f = (2, []) := by simp [resR, h]
theorem res_cyc {α : Type} {n : Int} {l : Arcs} {f : List Nat → Int × List α} (h : okB n l = true) (h2 : orderR n.toNat (onAt l) = none) : resR n l f = (13, []) := by simp [resR, h, h2]
theorem res_fine {α : Type} {n : Int} {l : Arcs} {f : List Nat → Int × List α} {row : List Nat} (h : okB n l = true) (h2 : orderR n.toNat (onAt l) = some row) : resR n l f = f row := by simp [resR, h, h2]
/-- What stands in the result's variable (block o), with all it leads to behind m. -/
def OutW {α : Type} (d : Enc α) (w0 : World) (o m : Nat) (xs : List α) (Y : World) : Prop :=
  o < Y.heap.size ∧ Y.frozen? ⟨o, 0, none⟩ = false ∧ (∃ v, Y.cell? ⟨o, 0, none⟩ = some v ∧ d.Row (fun b => m < b) Y v xs) ∧ Below w0.heap.size w0 Y
theorem OutW.st {α : Type} {d : Enc α} {w0 : World} {o m : Nat} {xs : List α} {X Y : World} (h : OutW d w0 o m xs X) (he : Ext (fun b => b = m) X Y) (ho : o < m) (hw : w0.heap.size ≤ o) : OutW d w0 o m xs Y := by
  obtain ⟨h1, h2, ⟨v, h3, h4⟩, h5⟩ := h
  have hb := he.block o h1 (by omega)
  refine ⟨Nat.lt_of_lt_of_le h1 he.size, (World.frozen?_of_block (w := X) hb).trans h2, ⟨v, (World.cell?_of_block (w := X) hb).trans h3, h4.step (fun b hk hl => he.block b hl (by omega))⟩, ?_⟩
  exact h5.trans (he.toBelow h5.size (fun x hx e => by omega))
theorem OutW.below {α : Type} {d : Enc α} {w0 : World} {o m : Nat} {xs : List α} {X Y : World} (h : OutW d w0 o m xs X) (he : Below X.heap.size X Y) : OutW d w0 o m xs Y := by
  obtain ⟨h1, h2, ⟨v, h3, h4⟩, h5⟩ := h
  have hb := he.block o h1
  exact ⟨Nat.lt_of_lt_of_le h1 he.size, (World.frozen?_of_block (w := X) hb).trans h2, ⟨v, (World.cell?_of_block (w := X) hb).trans h3, h4.below he⟩, h5.trans (he.mono h5.size)⟩
def QOut {α : Type} (d : Enc α) (n : Int) (l : Arcs) (f : List Nat → Int × List α) (w0 : World) (o m : Nat) (c : Int) (Y : World) : Prop := ∃ row, orderR n.toNat (onAt l) = some row ∧ c = (f row).1 ∧ OutW d w0 o m (f row).2 Y
theorem QOut.st {α : Type} {d : Enc α} {n : Int} {l : Arcs} {f : List Nat → Int × List α} {w0 : World} {o m : Nat} (ho : o < m) (hw : w0.heap.size ≤ o) (c : Int) (X Y : World) (h : QOut d n l f w0 o m c X) (he : Ext (fun b => b = m) X Y) : QOut d n l f w0 o m c Y := by
  obtain ⟨row, h1, h2, h3⟩ := h
  exact ⟨row, h1, h2, h3.st he ho hw⟩
/-- How such a call ends. -/
def RowT {α : Type} (d : Enc α) (w : World) (r : Int × List α) (e : Ending) (w' : World) : Prop :=
  Below w.heap.size w w' ∧ ∃ v, e = .returned (.tuple #[v, .int .i64 r.1]) ∧ d.Row (fun b => w.heap.size ≤ b) w' v r.2
/-- Behind 'try'. -/
theorem TryP.out {α : Type} {d : Enc α} {n : Int} {l : Arcs} {f : List Nat → Int × List α} {w0 W w1 : World} {o : Nat} {e : Ending} (h : TryP n l (QOut d n l f w0 o W.heap.size) W e w1) (hW : OutW d w0 o W.heap.size [] W) :
    e = .returned (.int .i64 (resR n l f).1) ∧ OutW d w0 o W.heap.size (resR n l f).2 w1 := by
  obtain ⟨c, rfl, h⟩ := h
  rcases h with ⟨h1, rfl, hb⟩ | ⟨h1, h2, rfl, hb⟩ | ⟨h1, _, row, h3, h4, h5⟩
  · rw [res_bad h1]
    exact ⟨rfl, hW.below hb⟩
  · rw [res_cyc h1 h2]
    exact ⟨rfl, hW.below hb⟩
  · rw [res_fine h1 h3]
    exact ⟨by rw [h4], h5⟩
theorem OutW.fine {α : Type} {d : Enc α} {w Y : World} {m : Nat} {r : Int × List α} {v : Value} (h : d.Row (fun b => m < b) Y v r.2) (hb : Below w.heap.size w Y) (hm : w.heap.size ≤ m) : RowT d w r (.returned (.tuple #[v, .int .i64 r.1])) Y :=
  ⟨hb, v, rfl, h.mono (fun b hb _ => by omega)⟩
set_option maxHeartbeats 1000000 in
theorem order1_any {X : World} {o n c : Nat} {A : Option Addr} {v0 pv : Value} (hc : X.cell? ⟨o, 0, none⟩ = some v0) (hf : X.frozen? ⟨o, 0, none⟩ = false) : Calls Tryd.prog 20 #[pv, .slice A n c, .pointer (some ⟨o, 0, none⟩)] X fun e w' => e = .returned (.tuple #[]) ∧ w' = X.setCell ⟨o, 0, none⟩ (.slice A n c) := by
  go_enter Tryd.func20, Tryd.ntmps20
  go_wp2
  go_end0
  exact ⟨rfl, rfl⟩
theorem OutW.start {α : Type} {d : Enc α} {w0 W : World} {o m : Nat} {t : TypeId} (h : W.heap[o]? = some (.cells #[.slice none 0 0] t (0, 0))) (hb : Below w0.heap.size w0 W) : OutW d w0 o m [] W :=
  ⟨(Array.getElem?_eq_some_iff.1 h).1, frz_blk h 0, ⟨_, cell_blk h 0, Enc.Row.nil _ _ _⟩, hb⟩
set_option maxHeartbeats 4000000 in
theorem Order_any {w : World} {K : Nat → Prop} {n : Int} {v : Value} {l : Arcs} (hv : arcE.Row K w v l) : Calls Tryd.prog 9 #[.int .i64 n, v] w (RowT natE w (resR n l (fun row => (0, row)))) := by
  obtain ⟨A, cp, rfl, _, _⟩ := hv.form
  have HV := hid hv
  have hmf : ∀ (fn : Fn) (first cap : Array Value) (w : World), (Instr.makeFunc fn first cap).run Tryd.prog w = .ok (.func fn first cap) w := fun _ _ _ _ => rfl
  have HCL : Hid (∀ b X vr row, okB n l = true → orderR n.toNat (onAt l) = some row → Below (w.alloc (.cells #[.slice none 0 0] 25)).heap.size (w.alloc (.cells #[.slice none 0 0] 25)) X → (w.alloc (.cells #[.slice none 0 0] 25)).heap.size < X.heap.size → Gr X b n.toNat (onAt l) → (w.alloc (.cells #[.slice none 0 0] 25)).heap.size < b → natE.Row (fun b => (w.alloc (.cells #[.slice none 0 0] 25)).heap.size < b) X vr row →
      Calls Tryd.prog 20 #[.pointer (some ⟨b, 0, none⟩), vr, .pointer (some ⟨w.heap.size, 0, none⟩)] X (ClP (fun b => b = w.heap.size) (QOut natE n l (fun row => (0, row)) w w.heap.size (w.alloc (.cells #[.slice none 0 0] 25)).heap.size) X)) := by
    refine hid (fun b X vr row hok hor hbw hsz _ _ hr => ?_)
    obtain ⟨A', c', rfl, _, _⟩ := hr.form
    have hb0 : X.heap[w.heap.size]? = some (.cells #[.slice none 0 0] 25 (0, 0)) := (hbw.block _ (by simp)).trans (alloc_blk rfl)
    refine (order1_any (cell_blk hb0 0) (frz_blk hb0 0)).mono ?_
    rintro e w' ⟨rfl, rfl⟩
    have hsz2 : w.heap.size < X.heap.size := by simp at hsz; omega
    refine ⟨Ext.setCell _ _ _ rfl, .inl ⟨rfl, row, hor, rfl, by simpa using hsz2, ?_, ⟨.slice A' row.length c', ?_, ?_⟩, ?_⟩⟩
    · simp [World.frozen?, World.setCell, Array.getElem?_modify, hb0]
    · exact set_read (x := .slice none 0 0) (cell_blk hb0 0)
    · exact hr.step (fun k hk hl => Below.heap_setCell _ _ _ _ (by simp at hk; show k ≠ w.heap.size; omega))
    · exact Below.setCell (((Below.refl _ _).alloc (Nat.le_refl _) _).trans (hbw.mono (by simp))) (Nat.le_refl _) _
  clear hv
  go_enter Tryd.func9, Tryd.ntmps9
  go_wp2_with (first | (go_at_call 19; refine (try_20 (p := ⟨w.heap.size, 0, none⟩) (U := fun b => b = w.heap.size) (P := QOut natE n l (fun row => (0, row)) w w.heap.size (w.alloc (.cells #[.slice none 0 0] 25)).heap.size) (HV.out.below (by repeat (first | (with_reducible exact Below.refl _ _) | (with_reducible exact bl_mm) | (with_reducible refine bl_dr ?_) | (with_reducible refine bl_drN ?_ _) | (with_reducible refine bl_al ?_ _) | (with_reducible refine bl_more ?_ _ _)))) (by simp) (QOut.st (by simp) (Nat.le_refl _)) HCL.out).mono ?_; rintro e w1 hq; obtain ⟨rfl, ho1, hf1, ⟨v1, hc1, hr1⟩, hb1⟩ := hq.out (OutW.start (alloc_blk rfl) (by repeat (first | (with_reducible exact Below.refl _ _) | (with_reducible exact bl_mm) | (with_reducible refine bl_dr ?_) | (with_reducible refine bl_drN ?_ _) | (with_reducible refine bl_al ?_ _) | (with_reducible refine bl_more ?_ _ _)))); have HR1 := hid hr1; have HB1 := hid hb1; clear hq hr1 hb1))
  go_ret2
  exact OutW.fine HR1.out HB1.out (by simp)
end Go.Proofs.YtomhpbhkckjmdaaDoorRR
