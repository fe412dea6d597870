/- A name shut. -/
import Derived.Test.YthekoefcienipaaLxE
import Derived.Test.YthekoefcienipaaOut
import Derived.Test.YthekoefcienipaaOpen
import Derived.Test.YthekoefcienipaaCut
import Derived.Deep.Cut
namespace Go.Proofs.Ythekoefcienipaa
open Go.RowKit

theorem cell_blk {w : World} {b : Nat} {cs : Array Value} {t : TypeId} {fr : Nat × Nat} (h : w.heap[b]? = some (.cells cs t fr)) (i : Nat) : w.cell? ⟨b, i, none⟩ = cs[i]? := by simp [World.cell?, h]
theorem frz_blk {w : World} {b : Nat} {cs : Array Value} {t : TypeId} (h : w.heap[b]? = some (.cells cs t (0, 0))) (i : Nat) : w.frozen? ⟨b, i, none⟩ = false := by simp [World.frozen?, h]
theorem alloc_blk {X : World} {o : Obj} {b : Nat} (h : b = X.heap.size) : (X.alloc o).heap[b]? = some o := by subst h; exact heap_alloc_new X o
theorem tok_free {K : Nat → Prop} {g : Nat} {w : World} {v : Value} {xs : List Tok} (h : tokE.Spine 38 K g w v xs) : tokE.Spine 38 No g w v xs := by
  obtain ⟨A, c, rfl, h2, h3, h4⟩ := h
  refine ⟨A, c, rfl, h2, h3, fun hc0 => ?_⟩
  obtain ⟨off, cur, cs, rfl, hb, hle, hf, hc⟩ := h4 hc0
  exact ⟨off, cur, cs, rfl, hb, hle, ⟨hf.1, hf.2.1, fun i hi => by rw [tokE_open (hf.2.2 i hi)]; exact tokE_mk _⟩, hc⟩
def shutS (s : ByteArray) (m : LS) (a : Nat) : LS := if m.begun < 0 then m else ⟨m.out ++ [⟨1, s.extract m.begun.toNat a, m.begun⟩], m.remark, -1⟩
def shutOK (m : LS) (a : Nat) : Bool := decide (m.begun < 0) || decide ((a : Int) - m.begun ≤ 24)
set_option maxHeartbeats 4000000 in
theorem shut_any {w : World} {x g : Nat} {s : ByteArray} {m : LS} {a : Nat} (h : LxS w x g s m) (hb : m.begun ≤ a) (ha : a ≤ s.size) (hz : s.size ≤ 65536) (hf : m.out.length ≤ 65536) :
    Calls Try.prog 23 #[.pointer (some ⟨x, 0, none⟩), .int .i64 a] w fun e w' => ∃ g', e = .returned (.bool (shutOK m a)) ∧ LxS w' x g' s (shutS s m a) ∧ Up x g w g' w' := by
  obtain ⟨out, remark, begun⟩ := m
  simp only at hb hf
  by_cases hneg : begun < 0
  · obtain ⟨v, hb1, hb2⟩ := h.at_
    have h3 : w.cell? ⟨x, 3, none⟩ = some (.int .i64 begun) := cell_blk hb1 3
    have HLS := hid h
    have HN := hid hneg
    clear hb1 hb2 h
    go_enter Try.func23, Try.ntmps23
    go_wp2_with (first | ((with_reducible refine wp_region_plan (id := 5) (.eff [(true, 0), (true, 1), (true, 2), (true, 3), (true, 4), (false, 5), (false, 6), (false, 7), (false, 8), (false, 9), (false, 10), (false, 11), (false, 12), (false, 13)] 14 [0, 1, 2, 3, 4] (.eff [] 15 [0] (.eff [(false, 16), (false, 17)] 18 [] (.fin [])))) ?_ ?_ ?_ ?_ ?_ ?_); kernel_rfl; kernel_rfl; kernel_rfl; kernel_rfl; (intro c a d v w h; cases d <;> exact h)) | (with_reducible refine wpPlan_eff ?_) | (with_reducible refine wpPlan_fin ?_) | (with_reducible refine wpPlan_two ?_) | (with_reducible refine wpOpPair ?_ ?_) | ((with_reducible apply wpPre_keep); rfl; intro K' hK'; go_simp; refine hK' _ _ ?_; intro f hf; clear hK' K') | ((with_reducible apply wpPre_drop); rfl; intro K' hK'; go_simp; refine hK' _ _ ?_; intro f; clear hK' K') | (with_reducible refine wpPre_nil ?_) | ((with_reducible apply wpOp_list); rfl) | (with_reducible refine heldPair ?_ ?_) | ((with_reducible refine heldH_no ?_ ?_); rfl) | (with_reducible refine heldH_yes ?_ ?_) | (with_reducible exact heldH_nil) | (unfold YAt; go_simp; done))
    go_ret
    refine ⟨g, by unfold shutOK; simp [HN.out], ?_, Up.of_below (by repeat (first | (with_reducible exact Below.refl _ _) | (with_reducible exact bl_mm) | (with_reducible refine bl_dr ?_) | (with_reducible refine bl_drN ?_ _) | (with_reducible refine bl_al ?_ _) | (with_reducible refine bl_more ?_ _ _)))⟩
    unfold shutS
    rw [if_pos HN.out]
    exact HLS.out.below (by repeat (first | (with_reducible exact Below.refl _ _) | (with_reducible exact bl_mm) | (with_reducible refine bl_dr ?_) | (with_reducible refine bl_drN ?_ _) | (with_reducible refine bl_al ?_ _) | (with_reducible refine bl_more ?_ _ _)))
  · obtain ⟨fr, rfl⟩ : ∃ fr : Nat, begun = fr := ⟨begun.toNat, by omega⟩
    have hfa : fr ≤ a := by omega
    obtain ⟨v, hb1, hb2⟩ := h.at_
    have h3 : w.cell? ⟨x, 3, none⟩ = some (.int .i64 fr) := cell_blk hb1 3
    have f3 : w.frozen? ⟨x, 3, none⟩ = false := frz_blk hb1 3
    have HN := hid hneg
    have HX := hid (h.setBegun (-1))
    have HU : Hid (Up x g w g (w.setCell ⟨x, 3, none⟩ (.int .i64 (-1)))) := hid ⟨Ext.setCell _ _ _ (.inl rfl), .inl rfl⟩
    clear hb1 hb2 h hneg hb
    go_enter Try.func23, Try.ntmps23
    go_upto_region 5 with (first | ((with_reducible refine wp_region_plan (id := 5) (.eff [(true, 0), (true, 1), (true, 2), (true, 3), (true, 4), (false, 5), (false, 6), (false, 7), (false, 8), (false, 9), (false, 10), (false, 11), (false, 12), (false, 13)] 14 [0, 1, 2, 3, 4] (.eff [] 15 [0] (.eff [(false, 16), (false, 17)] 18 [] (.fin [])))) ?_ ?_ ?_ ?_ ?_ ?_); kernel_rfl; kernel_rfl; kernel_rfl; kernel_rfl; (intro c a d v w h; cases d <;> exact h)) | (with_reducible refine wpPlan_eff ?_) | (with_reducible refine wpPlan_fin ?_) | (with_reducible refine wpPlan_two ?_) | (with_reducible refine wpOpPair ?_ ?_) | ((with_reducible apply wpPre_keep); rfl; intro K' hK'; go_simp; refine hK' _ _ ?_; intro f hf; clear hK' K') | ((with_reducible apply wpPre_drop); rfl; intro K' hK'; go_simp; refine hK' _ _ ?_; intro f; clear hK' K') | (with_reducible refine wpPre_nil ?_) | ((with_reducible apply wpOp_list); rfl) | (with_reducible refine heldPair ?_ ?_) | ((with_reducible refine heldH_no ?_ ?_); rfl) | (with_reducible refine heldH_yes ?_ ?_) | (with_reducible exact heldH_nil) | (unfold YAt; go_simp; done))
    generalize w.setCell ⟨x, 3, none⟩ (.int .i64 (-1)) = W0 at HX HU ⊢
    clear h3 f3
    obtain ⟨A, c, hb, hsp, hne, hown⟩ : ∃ A c, W0.heap[x]? = some (.cells #[.string s, .slice A out.length c, .bool remark, .int .i64 (-1)] 47 (0, 0)) ∧ tokE.Spine 38 No g W0 (.slice A out.length c) out ∧ (c ≠ 0 → g ≠ x) ∧ (g = x ∨ g < W0.heap.size) := by
      obtain ⟨v, h1, h2⟩ := HX.out.at_
      obtain ⟨A, c, rfl, _, _⟩ := h2.form
      exact ⟨A, c, h1, h2, fun hc => LxS.ne h1 h2 hc, HX.out.own⟩
    have hx := HX.out.lt
    have h0 : W0.cell? ⟨x, 0, none⟩ = some (.string s) := cell_blk hb 0
    have h1 : W0.cell? ⟨x, 1, none⟩ = some (.slice A out.length c) := cell_blk hb 1
    have f1 : W0.frozen? ⟨x, 1, none⟩ = false := frz_blk hb 1
    have HS := hid (fun (W : World) (hW : Below W0.heap.size W0 W) => hsp.step (K' := fun b => W0.heap.size ≤ b) (w' := W) (fun cur hc => (hW.block g (Array.getElem?_eq_some_iff.1 hc).1).trans hc) (fun b hk hl => hk.elim))
    have HG := hid hne
    have HB := hid hb
    have HO := hid hown
    have HF := hid hf
    have HC : Hid (c = 0 ∨ (x ≠ g ∧ g < W0.heap.size)) := by
      by_cases hc0 : c = 0
      · exact .inl hc0
      · rcases hown with h | h
        · exact absurd h (hne hc0)
        · exact .inr ⟨fun e => hne hc0 e.symm, h⟩
    clear hb hsp hne hown hf
    rcases HC.out with rfl | ⟨hxg, hgl⟩
    · go_wp2_with (first | ((with_reducible refine wp_region_plan (id := 5) (.eff [(true, 0), (true, 1), (true, 2), (true, 3), (true, 4), (false, 5), (false, 6), (false, 7), (false, 8), (false, 9), (false, 10), (false, 11), (false, 12), (false, 13)] 14 [0, 1, 2, 3, 4] (.eff [] 15 [0] (.eff [(false, 16), (false, 17)] 18 [] (.fin [])))) ?_ ?_ ?_ ?_ ?_ ?_); kernel_rfl; kernel_rfl; kernel_rfl; kernel_rfl; (intro c a d v w h; cases d <;> exact h)) | (with_reducible refine wpPlan_eff ?_) | (with_reducible refine wpPlan_fin ?_) | (with_reducible refine wpPlan_two ?_) | (with_reducible refine wpOpPair ?_ ?_) | ((with_reducible apply wpPre_keep); rfl; intro K' hK'; go_simp; refine hK' _ _ ?_; intro f hf; clear hK' K') | ((with_reducible apply wpPre_drop); rfl; intro K' hK'; go_simp; refine hK' _ _ ?_; intro f; clear hK' K') | (with_reducible refine wpPre_nil ?_) | ((with_reducible apply wpOp_list); rfl) | (with_reducible refine heldPair ?_ ?_) | ((with_reducible refine heldH_no ?_ ?_); rfl) | (with_reducible refine heldH_yes ?_ ?_) | (with_reducible exact heldH_nil) | (unfold YAt; go_simp; done) | (at_builtin; refine wpList_app23 (ys := [⟨1, s.extract fr a, fr⟩]) (by rfl) (.tmp 22) (.tmp 32) (by rfl) (by rfl) (by rfl) (by rfl) (HS.out _ ?hA) ?hB ?hC ?hD ?_; rotate_left 4; intro v2 w2 g2 hs2 he2 hg2; obtain ⟨A2, c2, rfl, _, _⟩ := hs2.form; have HS2 := hid hs2; have HE2 := hid he2; have HG2 := hid hg2; clear hs2 hg2; obtain ⟨ex2, dx2, rfl⟩ := more_of (below_of_ext he2 (by simp [capOf])); clear he2))
      case hA => exact (by repeat (first | (with_reducible exact Below.refl _ _) | (with_reducible exact bl_mm) | (with_reducible refine bl_dr ?_) | (with_reducible refine bl_drN ?_ _) | (with_reducible refine bl_al ?_ _) | (with_reducible refine bl_more ?_ _ _)))
      case hD => have := HF.out; omega
      case hC =>
        intro b hb _ hbg
        rcases HO.out with h | h <;> omega
      case hB => exact (Enc.Row.one_blk (K := fun b => W0.heap.size ≤ b) (cs := tokCells ⟨1, s.extract fr a, fr⟩) (show ((W0.alloc (.cells #[.int .i64 1, .string (s.extract fr a), .int .i64 fr] 38)).drew).heap[W0.heap.size]? = some (.cells (tokCells ⟨1, s.extract fr a, fr⟩).toArray 38 (0, 0)) from heap_alloc_new W0 _) (tokE_mk _) (Nat.le_refl _)).src
      go_ret
      have hf := LxS.appended (m := ⟨out, remark, -1⟩) (out' := out ++ [⟨1, s.extract fr a, fr⟩]) HB.out (by repeat (first | (with_reducible exact Below.refl _ _) | (with_reducible exact bl_mm) | (with_reducible refine bl_dr ?_) | (with_reducible refine bl_drN ?_ _) | (with_reducible refine bl_al ?_ _) | (with_reducible refine bl_more ?_ _ _))) HO.out HG.out HE2.out HG2.out.two (tok_free HS2.out) (fun _ h => h) (by have := HF.out; simp; omega)
      refine ⟨?_, g2, Eq.subst (motive := fun W => LxS W x g2 s (shutS s ⟨out, remark, fr⟩ a) ∧ Up x g w g2 W) ?_ ⟨?_, HU.out.trans hf.2⟩⟩
      · unfold shutOK; simp; omega
      · go_simp
      · unfold shutS; rw [if_neg (show ¬ (fr : Int) < 0 by omega)]; simpa using hf.1
    · go_wp2_with (first | ((with_reducible refine wp_region_plan (id := 5) (.eff [(true, 0), (true, 1), (true, 2), (true, 3), (true, 4), (false, 5), (false, 6), (false, 7), (false, 8), (false, 9), (false, 10), (false, 11), (false, 12), (false, 13)] 14 [0, 1, 2, 3, 4] (.eff [] 15 [0] (.eff [(false, 16), (false, 17)] 18 [] (.fin [])))) ?_ ?_ ?_ ?_ ?_ ?_); kernel_rfl; kernel_rfl; kernel_rfl; kernel_rfl; (intro c a d v w h; cases d <;> exact h)) | (with_reducible refine wpPlan_eff ?_) | (with_reducible refine wpPlan_fin ?_) | (with_reducible refine wpPlan_two ?_) | (with_reducible refine wpOpPair ?_ ?_) | ((with_reducible apply wpPre_keep); rfl; intro K' hK'; go_simp; refine hK' _ _ ?_; intro f hf; clear hK' K') | ((with_reducible apply wpPre_drop); rfl; intro K' hK'; go_simp; refine hK' _ _ ?_; intro f; clear hK' K') | (with_reducible refine wpPre_nil ?_) | ((with_reducible apply wpOp_list); rfl) | (with_reducible refine heldPair ?_ ?_) | ((with_reducible refine heldH_no ?_ ?_); rfl) | (with_reducible refine heldH_yes ?_ ?_) | (with_reducible exact heldH_nil) | (unfold YAt; go_simp; done) | (at_builtin; refine wpList_app23 (ys := [⟨1, s.extract fr a, fr⟩]) (by rfl) (.tmp 22) (.tmp 32) (by rfl) (by rfl) (by rfl) (by rfl) (HS.out _ ?hA) ?hB ?hC ?hD ?_; rotate_left 4; intro v2 w2 g2 hs2 he2 hg2; obtain ⟨A2, c2, rfl, _, _⟩ := hs2.form; have HS2 := hid hs2; have HE2 := hid he2; have HG2 := hid hg2; clear hs2 hg2; obtain ⟨o2, ex2, dx2, rfl⟩ := form_of he2 (Nat.lt_of_lt_of_le hgl (Below.size (B := W0.heap.size) (w := W0) (by repeat (first | (with_reducible exact Below.refl _ _) | (with_reducible exact bl_mm) | (with_reducible refine bl_dr ?_) | (with_reducible refine bl_drN ?_ _) | (with_reducible refine bl_al ?_ _) | (with_reducible refine bl_more ?_ _ _))))); clear he2))
      case hA => exact (by repeat (first | (with_reducible exact Below.refl _ _) | (with_reducible exact bl_mm) | (with_reducible refine bl_dr ?_) | (with_reducible refine bl_drN ?_ _) | (with_reducible refine bl_al ?_ _) | (with_reducible refine bl_more ?_ _ _)))
      case hD => have := HF.out; omega
      case hC =>
        intro b hb _ hbg
        rcases HO.out with h | h <;> omega
      case hB => exact (Enc.Row.one_blk (K := fun b => W0.heap.size ≤ b) (cs := tokCells ⟨1, s.extract fr a, fr⟩) (show ((W0.alloc (.cells #[.int .i64 1, .string (s.extract fr a), .int .i64 fr] 38)).drew).heap[W0.heap.size]? = some (.cells (tokCells ⟨1, s.extract fr a, fr⟩).toArray 38 (0, 0)) from heap_alloc_new W0 _) (tokE_mk _) (Nat.le_refl _)).src
      go_ret
      have hf := LxS.appended (m := ⟨out, remark, -1⟩) (out' := out ++ [⟨1, s.extract fr a, fr⟩]) HB.out (by repeat (first | (with_reducible exact Below.refl _ _) | (with_reducible exact bl_mm) | (with_reducible refine bl_dr ?_) | (with_reducible refine bl_drN ?_ _) | (with_reducible refine bl_al ?_ _) | (with_reducible refine bl_more ?_ _ _))) HO.out HG.out HE2.out HG2.out.two (tok_free HS2.out) (fun _ h => h) (by have := HF.out; simp; omega)
      refine ⟨?_, g2, Eq.subst (motive := fun W => LxS W x g2 s (shutS s ⟨out, remark, fr⟩ a) ∧ Up x g w g2 W) ?_ ⟨?_, HU.out.trans hf.2⟩⟩
      · unfold shutOK; simp; omega
      · go_simp
      · unfold shutS; rw [if_neg (show ¬ (fr : Int) < 0 by omega)]; simpa using hf.1
end Go.Proofs.Ythekoefcienipaa
