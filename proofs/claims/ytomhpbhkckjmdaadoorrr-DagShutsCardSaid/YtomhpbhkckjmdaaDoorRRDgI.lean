/- Reach, as a call; Levels. -/
import Derived.Test.YtomhpbhkckjmdaaDoorRRDgH
namespace Go.Proofs.YtomhpbhkckjmdaaDoorRR
open Go.RowKit

def reachT (n : Int) (l : Arcs) : Int × List (List Nat) := resR n l (fun row => (0, (List.range n.toNat).map (fun i => nodes (reachF (onAt l) row i))))
set_option maxHeartbeats 4000000 in
theorem Reach_any {w : World} {K : Nat → Prop} {n : Int} {v : Value} {l : Arcs} (hT : Tab w) (hv : arcE.Row K w v l) : Calls Tryd.prog 10 #[.int .i64 n, v] w (RowT natsE w (reachT n l)) := by
  obtain ⟨A, cp, rfl, _, _⟩ := hv.form
  have HV := hid hv
  have hmf : ∀ (fn : Fn) (first cap : Array Value) (w : World), (Instr.makeFunc fn first cap).run Tryd.prog w = .ok (.func fn first cap) w := fun _ _ _ _ => rfl
  have HCL : Hid (∀ b X vr row, okB n l = true → orderR n.toNat (onAt l) = some row → Below (w.alloc (.cells #[.slice none 0 0] 29)).heap.size (w.alloc (.cells #[.slice none 0 0] 29)) X → (w.alloc (.cells #[.slice none 0 0] 29)).heap.size < X.heap.size → Gr X b n.toNat (onAt l) → (w.alloc (.cells #[.slice none 0 0] 29)).heap.size < b → natE.Row (fun b => (w.alloc (.cells #[.slice none 0 0] 29)).heap.size < b) X vr row →
      Calls Tryd.prog 21 #[.pointer (some ⟨b, 0, none⟩), vr, .pointer (some ⟨w.heap.size, 0, none⟩)] X (ClP (fun b => b = w.heap.size) (QOut natsE n l (fun row => (0, (List.range n.toNat).map (fun i => nodes (reachF (onAt l) row i)))) w w.heap.size (w.alloc (.cells #[.slice none 0 0] 29)).heap.size) X)) := by
    refine hid (fun b X vr row hok hor hbw hsz hg hb hr => ?_)
    have hb0 : X.heap[w.heap.size]? = some (.cells #[.slice none 0 0] 29 (0, 0)) := (hbw.block _ (by simp)).trans (alloc_blk rfl)
    have hbwX : Below w.heap.size w X := ((Below.refl _ _).alloc (Nat.le_refl _) _).trans (hbw.mono (by simp))
    exact (reach1_any (hT.below hbwX) hg (fit_of hok) hr (row_lt hor) hb0 hT.lt).mono (fun e w' h => Cl1.cl (f := fun row => (0, (List.range n.toNat).map (fun i => nodes (reachF (onAt l) row i)))) h rfl hor hbwX (Nat.le_refl _) hsz)
  clear hv hT
  go_enter Tryd.func10, Tryd.ntmps10
  go_wp2_with (first | (go_at_call 19; refine (try_21 (p := ⟨w.heap.size, 0, none⟩) (U := fun b => b = w.heap.size) (P := QOut natsE n l (fun row => (0, (List.range n.toNat).map (fun i => nodes (reachF (onAt l) row i)))) w w.heap.size (w.alloc (.cells #[.slice none 0 0] 29)).heap.size) (HV.out.below (by repeat (first | (with_reducible exact Below.refl _ _) | (with_reducible exact bl_mm) | (with_reducible refine bl_dr ?_) | (with_reducible refine bl_drN ?_ _) | (with_reducible refine bl_al ?_ _) | (with_reducible refine bl_more ?_ _ _)))) (by simp) (QOut.st (by simp) (Nat.le_refl _)) HCL.out).mono ?_; rintro e w1 hq; obtain ⟨rfl, ho1, hf1, ⟨v1, hc1, hr1⟩, hb1⟩ := hq.out (OutW.start (alloc_blk rfl) (by repeat (first | (with_reducible exact Below.refl _ _) | (with_reducible exact bl_mm) | (with_reducible refine bl_dr ?_) | (with_reducible refine bl_drN ?_ _) | (with_reducible refine bl_al ?_ _) | (with_reducible refine bl_more ?_ _ _)))); have HR1 := hid hr1; have HB1 := hid hb1; clear hq hr1 hb1))
  go_ret2
  exact OutW.fine HR1.out HB1.out (by simp)
end Go.Proofs.YtomhpbhkckjmdaaDoorRR
