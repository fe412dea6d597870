/- Reduce, as a call. -/
import Derived.Test.YtomhpbhkckjmdaaDoorRRDgR
namespace Go.Proofs.YtomhpbhkckjmdaaDoorRR
open Go.RowKit

theorem arc_free {K : Nat → Prop} {g : Nat} {w : World} {v : Value} {xs : Arcs} (h : arcE.Spine 46 K g w v xs) : arcE.Spine 46 No g w v xs := by
  obtain ⟨A, c, rfl, h2, h3, h4⟩ := h
  refine ⟨A, c, rfl, h2, h3, fun hc => ?_⟩
  obtain ⟨off, cur, cs, e1, e2, e3, hf, e4⟩ := h4 hc
  exact ⟨off, cur, cs, e1, e2, e3, ⟨hf.1, hf.2.1, fun i hi => hf.2.2 i hi⟩, e4⟩
/-- The variable of a row that may be sorted. -/
def RW (w0 : World) (o m : Nat) (xs : Arcs) (Y : World) : Prop :=
  o < Y.heap.size ∧ Y.frozen? ⟨o, 0, none⟩ = false ∧ (∃ v g, Y.cell? ⟨o, 0, none⟩ = some v ∧ arcE.Spine 46 No g Y v xs ∧ (capOf v ≠ 0 → m < g ∧ g < Y.heap.size)) ∧ Below w0.heap.size w0 Y
theorem RW.st {w0 : World} {o m : Nat} {xs : Arcs} {S : Nat → Prop} {X Y : World} (h : RW w0 o m xs X) (he : Ext S X Y) (hS : ∀ b, S b → b = m) (ho : o < m) (hw : w0.heap.size ≤ o) : RW w0 o m xs Y := by
  obtain ⟨h1, h2, ⟨v, g, h3, h4, h5⟩, h6⟩ := h
  have hb := he.block o h1 (fun e => by have := hS _ e; omega)
  refine ⟨Nat.lt_of_lt_of_le h1 he.size, (World.frozen?_of_block (w := X) hb).trans h2, ⟨v, g, (World.cell?_of_block (w := X) hb).trans h3, ?_, fun hc => ⟨(h5 hc).1, Nat.lt_of_lt_of_le (h5 hc).2 he.size⟩⟩, ?_⟩
  · by_cases hc : capOf v = 0
    · exact h4.empty hc
    · obtain ⟨h7, h8⟩ := h5 hc
      exact h4.step (fun cur hcur => (he.block g h8 (fun e => by have := hS _ e; omega)).trans hcur) (fun b hb _ => hb.elim)
  · exact h6.trans (he.toBelow h6.size (fun x hx e => by have := hS _ e; omega))
abbrev fD (n : Int) (l : Arcs) (row : List Nat) : Int × Arcs := (0, redP (reachF (onAt l) row) (onAt l) n.toNat)
def redO (n : Int) (l : Arcs) : Int × Arcs := resR n l (fD n l)
def redT (n : Int) (l : Arcs) : Int × Arcs := ((redO n l).1, sortA (redO n l).2)
def QRed (n : Int) (l : Arcs) (w0 : World) (o m : Nat) (c : Int) (Y : World) : Prop := ∃ row, orderR n.toNat (onAt l) = some row ∧ c = 0 ∧ RW w0 o m (redP (reachF (onAt l) row) (onAt l) n.toNat) Y
theorem TryP.red {n : Int} {l : Arcs} {w0 W w1 : World} {o : Nat} {e : Ending} (h : TryP n l (QRed n l w0 o W.heap.size) W e w1) (hW : RW w0 o W.heap.size [] W) (ho : o < W.heap.size) (hw : w0.heap.size ≤ o) : e = .returned (.int .i64 (redO n l).1) ∧ RW w0 o W.heap.size (redO n l).2 w1 := by
  obtain ⟨c, rfl, h⟩ := h
  unfold redO
  rcases h with ⟨h1, rfl, hb⟩ | ⟨h1, h2, rfl, hb⟩ | ⟨h1, _, row, h3, h4, h5⟩
  · rw [res_bad h1]
    exact ⟨rfl, hW.st (Ext.of_below (S := fun _ => False) hb) (fun _ h => h.elim) ho hw⟩
  · rw [res_cyc h1 h2]
    exact ⟨rfl, hW.st (Ext.of_below (S := fun _ => False) hb) (fun _ h => h.elim) ho hw⟩
  · rw [res_fine h1 h3]
    exact ⟨by rw [h4], h5⟩
theorem redI_ok {F on : Nat → Nat} {i : Nat} (hi : i < 64) : ∀ a ∈ redI F on i, okArc 64 a := by
  intro a ha
  unfold redI at ha
  obtain ⟨k, hk, rfl⟩ := List.mem_map.1 ha
  have := (mem_nodes.1 hk).1
  exact ⟨by show (0 : Int) ≤ k; omega, by show (k : Int) < 64; omega, by show (0 : Int) ≤ i; omega, by show (i : Int) < 64; omega⟩
theorem redP_ok {F on : Nat → Nat} {n : Nat} (hn : n ≤ 64) : ∀ a ∈ redP F on n, okArc 64 a := by
  intro a ha
  obtain ⟨i, hi, ha⟩ := List.mem_flatMap.1 ha
  exact redI_ok (by have := List.mem_range.1 hi; omega) a ha
theorem redO_ok (n : Int) (l : Arcs) : (∀ a ∈ (redO n l).2, okArc 64 a) ∧ (redO n l).2.length ≤ 4096 := by
  unfold redO resR
  split
  · rename_i hok
    split
    · exact ⟨fun a ha => (by cases ha), (by simp)⟩
    · have hn := (okB_n hok).2
      refine ⟨redP_ok hn, ?_⟩
      have := redP_len (reachF (onAt l) (by assumption)) (onAt l) n.toNat
      show (redP _ _ _).length ≤ 4096
      omega
  · exact ⟨fun a ha => (by cases ha), (by simp)⟩
abbrev w2D (w : World) (n : Int) : World := (w.alloc (.cells #[.int .i64 n] 3)).alloc (.cells #[.slice none 0 0] 22)
theorem RW.start {w0 W : World} {o m : Nat} {t : TypeId} (h : W.heap[o]? = some (.cells #[.slice none 0 0] t (0, 0))) (hb : Below w0.heap.size w0 W) : RW w0 o m [] W :=
  ⟨(Array.getElem?_eq_some_iff.1 h).1, frz_blk h 0, ⟨_, 0, cell_blk h 0, Enc.Spine.nil _ _ _ _ _, fun h => absurd rfl h⟩, hb⟩
set_option maxHeartbeats 4000000 in
theorem Reduce_any {w : World} {K : Nat → Prop} {n : Int} {v : Value} {l : Arcs} (hT : Tab w) (hv : arcE.Row K w v l) : Calls Tryd.prog 13 #[.int .i64 n, v] w (RowT arcE w (redT n l)) := by
  obtain ⟨A, cp, rfl, _, _⟩ := hv.form
  have HV := hid hv
  have hmf : ∀ (fn : Fn) (first cap : Array Value) (w : World), (Instr.makeFunc fn first cap).run Tryd.prog w = .ok (.func fn first cap) w := fun _ _ _ _ => rfl
  have HCL : Hid (∀ b X vr row, okB n l = true → orderR n.toNat (onAt l) = some row → Below (w2D w n).heap.size (w2D w n) X → (w2D w n).heap.size < X.heap.size → Gr X b n.toNat (onAt l) → (w2D w n).heap.size < b → natE.Row (fun b => (w2D w n).heap.size < b) X vr row →
      Calls Tryd.prog 25 #[.pointer (some ⟨b, 0, none⟩), vr, .pointer (some ⟨w.heap.size, 0, none⟩), .pointer (some ⟨w.heap.size + 1, 0, none⟩)] X (ClP (fun b => b = w.heap.size + 1) (QRed n l w (w.heap.size + 1) (w2D w n).heap.size) X)) := by
    refine hid (fun b X vr row hok hor hbw hsz hg hb hr => ?_)
    have hs2 : (w2D w n).heap.size = w.heap.size + 2 := by simp
    have hb0 : X.heap[w.heap.size + 1]? = some (.cells #[.slice none 0 0] 22 (0, 0)) := (hbw.block _ (by omega)).trans (alloc_blk (by simp))
    have hb1 : X.heap[w.heap.size]? = some (.cells #[.int .i64 n] 3 (0, 0)) := (hbw.block _ (by omega)).trans ((Below.heap_alloc _ _ _ (by simp)).trans (alloc_blk rfl))
    have hbwX : Below w.heap.size w X := (((Below.refl _ _).alloc (Nat.le_refl _) _).alloc (by simp) _ : Below w.heap.size w (w2D w n)).trans (hbw.mono (by omega))
    have hp : X.cell? ⟨w.heap.size, 0, none⟩ = some (.int .i64 (n.toNat : Int)) := by
      rw [cell_blk hb1, Int.toNat_of_nonneg (okB_n hok).1]; rfl
    refine (reduce1_any (hT.below hbwX) hg (fit_of hok) hr (row_lt hor) (by omega) (by omega) hb0 (by omega) hp).mono (fun e w' h => ?_)
    obtain ⟨rfl, he, v, g, hbk, ho⟩ := h
    refine ⟨he, .inl ⟨rfl, row, hor, rfl, (Array.getElem?_eq_some_iff.1 hbk).1, frz_blk hbk 0, ⟨v, g, cell_blk hbk 0, ?_, fun hc => ⟨by have := ho.cap hc; omega, ho.lt⟩⟩, ?_⟩⟩
    · exact arc_free ho.sp
    · exact hbwX.trans (he.toBelow hbwX.size (fun x hx e => by omega))
  clear hv hT
  go_enter Tryd.func13, Tryd.ntmps13
  go_wp2_with (first | (go_at_call 19; refine (try_25 (p := ⟨w.heap.size, 0, none⟩) (q := ⟨w.heap.size + 1, 0, none⟩) (U := fun b => b = w.heap.size + 1) (P := QRed n l w (w.heap.size + 1) (w2D w n).heap.size) (HV.out.below (by repeat (first | (with_reducible exact Below.refl _ _) | (with_reducible exact bl_mm) | (with_reducible refine bl_dr ?_) | (with_reducible refine bl_drN ?_ _) | (with_reducible refine bl_al ?_ _) | (with_reducible refine bl_more ?_ _ _)))) (by simp) (fun c X Y hp he => by obtain ⟨row, h1, h2, h3⟩ := hp; exact ⟨row, h1, h2, h3.st he (fun b hb => hb) (by simp) (by omega)⟩) HCL.out).mono ?_; rintro e w1 hq; obtain ⟨rfl, ho1, hf1, ⟨v1, g1, hc1, hs1, hg1⟩, hb1⟩ := hq.red (RW.start (alloc_blk (by simp)) (by repeat (first | (with_reducible exact Below.refl _ _) | (with_reducible exact bl_mm) | (with_reducible refine bl_dr ?_) | (with_reducible refine bl_drN ?_ _) | (with_reducible refine bl_al ?_ _) | (with_reducible refine bl_more ?_ _ _)))) (by simp) (by omega); obtain ⟨A1, c1, rfl, _, _⟩ := hs1.form; have HS1 := hid hs1; have HG1 := hid hg1; have HB1 := hid hb1; have HC1 := hid hc1; clear hq hs1 hb1 hg1) | (go_at_call 26; refine (sort_any HS1.out (redO_ok n l).1 (by have := (redO_ok n l).2; omega)).mono ?_; rintro e w3 ⟨rfl, he3, hr3⟩; have HE3 := hid he3; have HR3 := hid hr3; have hc3 := (World.cell?_of_block (w := w1) (a := ⟨w.heap.size + 1, 0, none⟩) (he3.block (w.heap.size + 1) ho1 (fun h => by have h1 : w.heap.size + 1 = g1 := h.1; have := HG1.out h.2; simp at this; omega))).trans HC1.out; clear he3 hr3))
  go_ret2
  refine ⟨HB1.out.trans ((HE3.out.toBelow HB1.out.size (fun x hx e => by have := HG1.out e.2; simp at this; omega))), _, rfl, HR3.out.mono (fun b hb _ => by have := HG1.out hb.2; simp at this; omega)⟩
end Go.Proofs.YtomhpbhkckjmdaaDoorRR
