/- A mark; is it of a name? -/
import Derived.Test.YthekoefcienipaaLxF
import Derived.Test.YthekoefcienipaaLxB
import Derived.Test.YthekoefcienipaaShelf
import Derived.IntWalk
namespace Go.Proofs.Ythekoefcienipaa
open Go.RowKit

def mk6 : ByteArray := { data := #[123, 125, 40, 41, 59, 44] }
def markR (r : Int) : Bool := decide (0 ≤ Lib.indexByte mk6.data.toList r.toNat.toUInt8)
def markS (s : ByteArray) (m : LS) (a : Nat) (r : Int) : LS :=
  if r = 35 then { m with remark := true } else if cls r = 3 then m else if markR r = true then ⟨m.out ++ [⟨2, s.extract a (a + 1), a⟩], m.remark, m.begun⟩ else m
def markE (r : Int) : Int := if r = 35 then 0 else if cls r = 3 then 0 else if markR r = true then 0 else 10
def namedB (m : LS) (r : Int) : Bool := decide (cls r = 1) || (decide (cls r = 2) && decide (0 ≤ m.begun))
set_option maxHeartbeats 1000000 in
theorem named_any {w : World} {x g : Nat} {s : ByteArray} {m : LS} {r : Int} (h : LxS w x g s m) (hr : okR r) :
    Calls Try.prog 31 #[.pointer (some ⟨x, 0, none⟩), .int .i32 r] w fun e w' => e = .returned (.bool (namedB m r)) ∧ Below w.heap.size w w' := by
  obtain ⟨out, remark, begun⟩ := m
  obtain ⟨v, hb1, _⟩ := h.at_
  have h3 : w.cell? ⟨x, 3, none⟩ = some (.int .i64 begun) := cell_blk hb1 3
  have hx := h.lt
  have HR := hid hr
  have hr0 := hr.1
  have hr1 := hr.2.1
  clear hr
  clear hb1 h
  go_enter Try.func31, Try.ntmps31
  generalize hc : cls r = c
  have HCC := hid hc
  by_cases c1 : c = 1
  · subst c1
    clear hc
    go_wp2_with (first | (go_at_call 28; refine (class_any HR.out).mono ?_; rintro e w1 ⟨rfl, hb1⟩; obtain ⟨ex, dx, rfl⟩ := more_of hb1; clear hb1; rw [HCC.out]))
    go_ret
    exact ⟨by unfold namedB; rw [HCC.out]; rfl, (by repeat (first | (with_reducible exact Below.refl _ _) | (with_reducible exact bl_mm) | (with_reducible refine bl_dr ?_) | (with_reducible refine bl_drN ?_ _) | (with_reducible refine bl_al ?_ _) | (with_reducible refine bl_more ?_ _ _)))⟩
  · by_cases c2 : c = 2
    · subst c2
      clear hc
      by_cases hn : begun < 0
      · have HN := hid hn
        go_wp2_with (first | (go_at_call 28; refine (class_any HR.out).mono ?_; rintro e w1 ⟨rfl, hb1⟩; obtain ⟨ex, dx, rfl⟩ := more_of hb1; clear hb1; rw [HCC.out]))
        go_ret
        exact ⟨by unfold namedB; rw [HCC.out]; have := HN.out; simp <;> omega, (by repeat (first | (with_reducible exact Below.refl _ _) | (with_reducible exact bl_mm) | (with_reducible refine bl_dr ?_) | (with_reducible refine bl_drN ?_ _) | (with_reducible refine bl_al ?_ _) | (with_reducible refine bl_more ?_ _ _)))⟩
      · have HN := hid hn
        go_wp2_with (first | (go_at_call 28; refine (class_any HR.out).mono ?_; rintro e w1 ⟨rfl, hb1⟩; obtain ⟨ex, dx, rfl⟩ := more_of hb1; clear hb1; rw [HCC.out]))
        go_ret
        exact ⟨by unfold namedB; rw [HCC.out]; have := HN.out; simp <;> omega, (by repeat (first | (with_reducible exact Below.refl _ _) | (with_reducible exact bl_mm) | (with_reducible refine bl_dr ?_) | (with_reducible refine bl_drN ?_ _) | (with_reducible refine bl_al ?_ _) | (with_reducible refine bl_more ?_ _ _)))⟩
    · have HN := hid (And.intro c1 c2)
      have c1' : ((c : Int) == 1) = false := by simpa using c1
      have c2' : ((c : Int) == 2) = false := by simpa using c2
      clear c1 c2 hc
      go_wp2_with (first | (go_at_call 28; refine (class_any HR.out).mono ?_; rintro e w1 ⟨rfl, hb1⟩; obtain ⟨ex, dx, rfl⟩ := more_of hb1; clear hb1; rw [HCC.out]))
      go_ret
      exact ⟨by unfold namedB; rw [HCC.out]; have := HN.out; simp <;> omega, (by repeat (first | (with_reducible exact Below.refl _ _) | (with_reducible exact bl_mm) | (with_reducible refine bl_dr ?_) | (with_reducible refine bl_drN ?_ _) | (with_reducible refine bl_al ?_ _) | (with_reducible refine bl_more ?_ _ _)))⟩
set_option maxHeartbeats 4000000 in
theorem mark_any {w : World} {x g : Nat} {s : ByteArray} {m : LS} {a : Nat} {r : Int} (h : LxS w x g s m) (hr : okR r) (hc1 : cls r ≠ 1) (ha : a < s.size) (hz : s.size ≤ 65536) (hf : m.out.length ≤ 65536) :
    Calls Try.prog 32 #[.pointer (some ⟨x, 0, none⟩), .int .i64 a, .int .i32 r] w fun e w' => ∃ g', e = .returned (.int .i64 (markE r)) ∧ LxS w' x g' s (markS s m a r) ∧ Up x g w g' w' := by
  have hr0 := hr.1
  have hr1 : r < 128 := by
    rcases Int.lt_or_le r 128 with h | h
    · exact h
    · exfalso; apply hc1; unfold cls; rw [if_pos (.inl h)]
  have HR := hid hr
  clear hr
  have HX := hid h
  obtain ⟨out, remark, begun⟩ := m
  by_cases q35 : r = 35
  · subst q35
    obtain ⟨v, hb1, _⟩ := h.at_
    have h2 : w.cell? ⟨x, 2, none⟩ = some (.bool remark) := cell_blk hb1 2
    have f2 : w.frozen? ⟨x, 2, none⟩ = false := frz_blk hb1 2
    have hx := h.lt
    clear hb1 h hc1
    go_enter Try.func32, Try.ntmps32
    go_wp2_with (first | ((with_reducible refine wp_region_plan (id := 7) (.eff [(true, 0), (true, 1), (true, 2), (true, 3), (true, 4), (false, 5), (false, 6), (false, 7), (false, 8), (false, 9), (false, 10), (false, 11), (false, 12), (false, 13), (false, 14)] 15 [0, 1, 2, 3, 4] (.eff [] 16 [0] (.eff [(false, 17), (false, 18)] 19 [] (.fin [])))) ?_ ?_ ?_ ?_ ?_ ?_); kernel_rfl; kernel_rfl; kernel_rfl; kernel_rfl; (intro c a d v w h; cases d <;> exact h)) | (with_reducible refine wpPlan_eff ?_) | (with_reducible refine wpPlan_fin ?_) | (with_reducible refine wpPlan_two ?_) | (with_reducible refine wpOpPair ?_ ?_) | ((with_reducible apply wpPre_keep); rfl; intro K' hK'; go_simp; refine hK' _ _ ?_; intro f hf; clear hK' K') | ((with_reducible apply wpPre_drop); rfl; intro K' hK'; go_simp; refine hK' _ _ ?_; intro f; clear hK' K') | (with_reducible refine wpPre_nil ?_) | ((with_reducible apply wpOp_list); rfl) | (with_reducible refine heldPair ?_ ?_) | ((with_reducible refine heldH_no ?_ ?_); rfl) | (with_reducible refine heldH_yes ?_ ?_) | (with_reducible exact heldH_nil) | (unfold YAt; go_simp; done) | (go_at_call 28; refine (class_any HR.out).mono ?_; rintro e w1 ⟨rfl, hb1⟩; obtain ⟨ex, dx, rfl⟩ := more_of hb1; clear hb1))
    go_ret
    have hu : Up x g w g (w.setCell ⟨x, 2, none⟩ (.bool true)) := ⟨Ext.setCell _ _ _ (.inl rfl), .inl rfl⟩
    refine ⟨g, rfl, ?_, hu.trans (Up.of_below (bl_more (Below.refl _ _) _ _))⟩
    exact (HX.out.setRemark true).below (bl_more (Below.refl _ _) _ _)
  · have HN35 := hid q35
    have b35 : (r == 35) = false := by simpa using q35
    by_cases hc3 : cls r = 3
    · have HCC := hid hc3
      have hx := h.lt
      clear h hc1 hc3 q35
      go_enter Try.func32, Try.ntmps32
      go_wp2_with (first | ((with_reducible refine wp_region_plan (id := 7) (.eff [(true, 0), (true, 1), (true, 2), (true, 3), (true, 4), (false, 5), (false, 6), (false, 7), (false, 8), (false, 9), (false, 10), (false, 11), (false, 12), (false, 13), (false, 14)] 15 [0, 1, 2, 3, 4] (.eff [] 16 [0] (.eff [(false, 17), (false, 18)] 19 [] (.fin [])))) ?_ ?_ ?_ ?_ ?_ ?_); kernel_rfl; kernel_rfl; kernel_rfl; kernel_rfl; (intro c a d v w h; cases d <;> exact h)) | (with_reducible refine wpPlan_eff ?_) | (with_reducible refine wpPlan_fin ?_) | (with_reducible refine wpPlan_two ?_) | (with_reducible refine wpOpPair ?_ ?_) | ((with_reducible apply wpPre_keep); rfl; intro K' hK'; go_simp; refine hK' _ _ ?_; intro f hf; clear hK' K') | ((with_reducible apply wpPre_drop); rfl; intro K' hK'; go_simp; refine hK' _ _ ?_; intro f; clear hK' K') | (with_reducible refine wpPre_nil ?_) | ((with_reducible apply wpOp_list); rfl) | (with_reducible refine heldPair ?_ ?_) | ((with_reducible refine heldH_no ?_ ?_); rfl) | (with_reducible refine heldH_yes ?_ ?_) | (with_reducible exact heldH_nil) | (unfold YAt; go_simp; done) | (go_at_call 28; refine (class_any HR.out).mono ?_; rintro e w1 ⟨rfl, hb1⟩; obtain ⟨ex, dx, rfl⟩ := more_of hb1; clear hb1; rw [HCC.out]))
      go_ret
      refine ⟨g, by unfold markE; rw [if_neg HN35.out, if_pos HCC.out]; rfl, ?_, Up.of_below (by repeat (first | (with_reducible exact Below.refl _ _) | (with_reducible exact bl_mm) | (with_reducible refine bl_dr ?_) | (with_reducible refine bl_drN ?_ _) | (with_reducible refine bl_al ?_ _) | (with_reducible refine bl_more ?_ _ _)))⟩
      unfold markS
      rw [if_neg HN35.out, if_pos HCC.out]
      exact HX.out.below (by repeat (first | (with_reducible exact Below.refl _ _) | (with_reducible exact bl_mm) | (with_reducible refine bl_dr ?_) | (with_reducible refine bl_drN ?_ _) | (with_reducible refine bl_al ?_ _) | (with_reducible refine bl_more ?_ _ _)))
    · have HN3 := hid hc3
      have b3 : (cls r == 3) = false := by simpa using hc3
      have hx := h.lt
      have HA := hid hr1
      cases hm : markR r with
      | false =>
        have HMR := hid hm
        clear h hc1 hm
        go_enter Try.func32, Try.ntmps32
        go_wp2_with (first | ((with_reducible refine wp_region_plan (id := 7) (.eff [(true, 0), (true, 1), (true, 2), (true, 3), (true, 4), (false, 5), (false, 6), (false, 7), (false, 8), (false, 9), (false, 10), (false, 11), (false, 12), (false, 13), (false, 14)] 15 [0, 1, 2, 3, 4] (.eff [] 16 [0] (.eff [(false, 17), (false, 18)] 19 [] (.fin [])))) ?_ ?_ ?_ ?_ ?_ ?_); kernel_rfl; kernel_rfl; kernel_rfl; kernel_rfl; (intro c a d v w h; cases d <;> exact h)) | (with_reducible refine wpPlan_eff ?_) | (with_reducible refine wpPlan_fin ?_) | (with_reducible refine wpPlan_two ?_) | (with_reducible refine wpOpPair ?_ ?_) | ((with_reducible apply wpPre_keep); rfl; intro K' hK'; go_simp; refine hK' _ _ ?_; intro f hf; clear hK' K') | ((with_reducible apply wpPre_drop); rfl; intro K' hK'; go_simp; refine hK' _ _ ?_; intro f; clear hK' K') | (with_reducible refine wpPre_nil ?_) | ((with_reducible apply wpOp_list); rfl) | (with_reducible refine heldPair ?_ ?_) | ((with_reducible refine heldH_no ?_ ?_); rfl) | (with_reducible refine heldH_yes ?_ ?_) | (with_reducible exact heldH_nil) | (unfold YAt; go_simp; done) | (go_at_call 28; refine (class_any HR.out).mono ?_; rintro e w1 ⟨rfl, hb1⟩; obtain ⟨ex, dx, rfl⟩ := more_of hb1; clear hb1) | (go_at_call 42; refine (Try.strings_ContainsRune_ascii mk6 r _ (by have := HR.out.1; omega) HA.out).mono ?_; rintro e w2 ⟨rfl, rfl⟩; (have e3 : decide (0 ≤ Lib.indexByte mk6.data.toList r.toNat.toUInt8) = false := HMR.out); rw [e3]; clear e3))
        go_ret
        refine ⟨g, by unfold markE; rw [if_neg HN35.out, if_neg HN3.out, if_neg (by rw [HMR.out]; decide)]; rfl, ?_, Up.of_below (by repeat (first | (with_reducible exact Below.refl _ _) | (with_reducible exact bl_mm) | (with_reducible refine bl_dr ?_) | (with_reducible refine bl_drN ?_ _) | (with_reducible refine bl_al ?_ _) | (with_reducible refine bl_more ?_ _ _)))⟩
        unfold markS
        rw [if_neg HN35.out, if_neg HN3.out, if_neg (by rw [HMR.out]; decide)]
        exact HX.out.below (by repeat (first | (with_reducible exact Below.refl _ _) | (with_reducible exact bl_mm) | (with_reducible refine bl_dr ?_) | (with_reducible refine bl_drN ?_ _) | (with_reducible refine bl_al ?_ _) | (with_reducible refine bl_more ?_ _ _)))
      | true =>
        have HMR := hid hm
        obtain ⟨A, c, hb, hsp, hne, hown⟩ : ∃ A c, w.heap[x]? = some (.cells #[.string s, .slice A out.length c, .bool remark, .int .i64 begun] 47 (0, 0)) ∧ tokE.Spine 38 No g w (.slice A out.length c) out ∧ (c ≠ 0 → g ≠ x) ∧ (g = x ∨ g < w.heap.size) := by
          obtain ⟨v, h1, h2⟩ := HX.out.at_
          obtain ⟨A, c, rfl, _, _⟩ := h2.form
          exact ⟨A, c, h1, h2, fun hc => LxS.ne h1 h2 hc, HX.out.own⟩
        have h0 : w.cell? ⟨x, 0, none⟩ = some (.string s) := cell_blk hb 0
        have h1 : w.cell? ⟨x, 1, none⟩ = some (.slice A out.length c) := cell_blk hb 1
        have f1 : w.frozen? ⟨x, 1, none⟩ = false := frz_blk hb 1
        have HS := hid (fun (W : World) (hW : Below w.heap.size w W) => hsp.step (K' := fun b => w.heap.size ≤ b) (w' := W) (fun cur hc => (hW.block g (Array.getElem?_eq_some_iff.1 hc).1).trans hc) (fun b hk hl => hk.elim))
        have HG := hid hne
        have HB := hid hb
        have HO := hid hown
        have HF := hid hf
        have HC : Hid (c = 0 ∨ (x ≠ g ∧ g < w.heap.size)) := by
          by_cases hc0 : c = 0
          · exact .inl hc0
          · rcases hown with h | h
            · exact absurd h (hne hc0)
            · exact .inr ⟨fun e => hne hc0 e.symm, h⟩
        clear hb hsp hne hown hf h hc1 hm
        rcases HC.out with rfl | ⟨hxg, hgl⟩
        · obtain ⟨b, hab⟩ : ∃ b, b = a + 1 := ⟨_, rfl⟩
          have ha2 : b ≤ s.size := by omega
          have ha1 : a ≤ b := by omega
          have ht : IntKind.i64.wrap ((a : Int) + 1) = (b : Int) := by rw [IntWalk.i64_in _ (by omega)]; omega
          have HAB := hid hab
          clear hab
          go_enter Try.func32, Try.ntmps32
          go_wp2_with (first | ((with_reducible refine wp_region_plan (id := 7) (.eff [(true, 0), (true, 1), (true, 2), (true, 3), (true, 4), (false, 5), (false, 6), (false, 7), (false, 8), (false, 9), (false, 10), (false, 11), (false, 12), (false, 13), (false, 14)] 15 [0, 1, 2, 3, 4] (.eff [] 16 [0] (.eff [(false, 17), (false, 18)] 19 [] (.fin [])))) ?_ ?_ ?_ ?_ ?_ ?_); kernel_rfl; kernel_rfl; kernel_rfl; kernel_rfl; (intro c a d v w h; cases d <;> exact h)) | (with_reducible refine wpPlan_eff ?_) | (with_reducible refine wpPlan_fin ?_) | (with_reducible refine wpPlan_two ?_) | (with_reducible refine wpOpPair ?_ ?_) | ((with_reducible apply wpPre_keep); rfl; intro K' hK'; go_simp; refine hK' _ _ ?_; intro f hf; clear hK' K') | ((with_reducible apply wpPre_drop); rfl; intro K' hK'; go_simp; refine hK' _ _ ?_; intro f; clear hK' K') | (with_reducible refine wpPre_nil ?_) | ((with_reducible apply wpOp_list); rfl) | (with_reducible refine heldPair ?_ ?_) | ((with_reducible refine heldH_no ?_ ?_); rfl) | (with_reducible refine heldH_yes ?_ ?_) | (with_reducible exact heldH_nil) | (unfold YAt; go_simp; done) | (go_at_call 28; refine (class_any HR.out).mono ?_; rintro e w1 ⟨rfl, hb1⟩; obtain ⟨ex, dx, rfl⟩ := more_of hb1; clear hb1) | (go_at_call 42; refine (Try.strings_ContainsRune_ascii mk6 r _ (by have := HR.out.1; omega) HA.out).mono ?_; rintro e w2 ⟨rfl, rfl⟩; (have e3 : decide (0 ≤ Lib.indexByte mk6.data.toList r.toNat.toUInt8) = true := HMR.out); rw [e3]; clear e3) | (at_builtin; refine wpList_app23 (ys := [⟨2, s.extract a b, a⟩]) (by rfl) (.tmp 27) (.tmp 38) (by rfl) (by rfl) (by rfl) (by rfl) (HS.out _ ?hA) ?hB ?hC ?hD ?_; rotate_left 4; intro v2 w2 g2 hs2 he2 hg2; obtain ⟨A2, c2, rfl, _, _⟩ := hs2.form; have HS2 := hid hs2; have HE2 := hid he2; have HG2 := hid hg2; clear hs2 hg2; obtain ⟨ex2, dx2, rfl⟩ := more_of (below_of_ext he2 (by simp [capOf])); clear he2))
          case hA => exact (by repeat (first | (with_reducible exact Below.refl _ _) | (with_reducible exact bl_mm) | (with_reducible refine bl_dr ?_) | (with_reducible refine bl_drN ?_ _) | (with_reducible refine bl_al ?_ _) | (with_reducible refine bl_more ?_ _ _)))
          case hD => have := HF.out; simp only [List.length_cons, List.length_nil]; omega
          case hC =>
            intro b hb _ hbg
            rcases HO.out with h | h <;> omega
          case hB => exact (Enc.Row.one_blk (d := tokE) (K := fun b => w.heap.size ≤ b) (cs := tokCells ⟨2, s.extract a b, a⟩) (t := 38) (alloc_blk (X := more w ex (dx + 1)) (o := .cells (tokCells ⟨2, s.extract a b, a⟩).toArray 38 (0, 0)) (b := w.heap.size + ex.size) (by simp only [more_size])) (tokE_mk _) (by omega)).src
          go_ret
          have hf := LxS.appended (m := ⟨out, remark, begun⟩) (out' := out ++ [⟨2, s.extract a b, a⟩]) HB.out (by repeat (first | (with_reducible exact Below.refl _ _) | (with_reducible exact bl_mm) | (with_reducible refine bl_dr ?_) | (with_reducible refine bl_drN ?_ _) | (with_reducible refine bl_al ?_ _) | (with_reducible refine bl_more ?_ _ _))) HO.out HG.out HE2.out HG2.out.two (tok_free HS2.out) (fun _ h => h) (by have := HF.out; simp; omega)
          refine ⟨g2, ?_, Eq.subst (motive := fun W => LxS W x g2 s (markS s ⟨out, remark, begun⟩ a r) ∧ Up x g w g2 W) ?_ ⟨?_, hf.2⟩⟩
          · unfold markE; rw [if_neg HN35.out, if_neg HN3.out, if_pos HMR.out]; rfl
          · go_simp
          · unfold markS; rw [if_neg HN35.out, if_neg HN3.out, if_pos HMR.out, ← HAB.out]; exact hf.1
        · obtain ⟨b, hab⟩ : ∃ b, b = a + 1 := ⟨_, rfl⟩
          have ha2 : b ≤ s.size := by omega
          have ha1 : a ≤ b := by omega
          have ht : IntKind.i64.wrap ((a : Int) + 1) = (b : Int) := by rw [IntWalk.i64_in _ (by omega)]; omega
          have HAB := hid hab
          clear hab
          go_enter Try.func32, Try.ntmps32
          go_wp2_with (first | ((with_reducible refine wp_region_plan (id := 7) (.eff [(true, 0), (true, 1), (true, 2), (true, 3), (true, 4), (false, 5), (false, 6), (false, 7), (false, 8), (false, 9), (false, 10), (false, 11), (false, 12), (false, 13), (false, 14)] 15 [0, 1, 2, 3, 4] (.eff [] 16 [0] (.eff [(false, 17), (false, 18)] 19 [] (.fin [])))) ?_ ?_ ?_ ?_ ?_ ?_); kernel_rfl; kernel_rfl; kernel_rfl; kernel_rfl; (intro c a d v w h; cases d <;> exact h)) | (with_reducible refine wpPlan_eff ?_) | (with_reducible refine wpPlan_fin ?_) | (with_reducible refine wpPlan_two ?_) | (with_reducible refine wpOpPair ?_ ?_) | ((with_reducible apply wpPre_keep); rfl; intro K' hK'; go_simp; refine hK' _ _ ?_; intro f hf; clear hK' K') | ((with_reducible apply wpPre_drop); rfl; intro K' hK'; go_simp; refine hK' _ _ ?_; intro f; clear hK' K') | (with_reducible refine wpPre_nil ?_) | ((with_reducible apply wpOp_list); rfl) | (with_reducible refine heldPair ?_ ?_) | ((with_reducible refine heldH_no ?_ ?_); rfl) | (with_reducible refine heldH_yes ?_ ?_) | (with_reducible exact heldH_nil) | (unfold YAt; go_simp; done) | (go_at_call 28; refine (class_any HR.out).mono ?_; rintro e w1 ⟨rfl, hb1⟩; obtain ⟨ex, dx, rfl⟩ := more_of hb1; clear hb1) | (go_at_call 42; refine (Try.strings_ContainsRune_ascii mk6 r _ (by have := HR.out.1; omega) HA.out).mono ?_; rintro e w2 ⟨rfl, rfl⟩; (have e3 : decide (0 ≤ Lib.indexByte mk6.data.toList r.toNat.toUInt8) = true := HMR.out); rw [e3]; clear e3) | (at_builtin; refine wpList_app23 (ys := [⟨2, s.extract a b, a⟩]) (by rfl) (.tmp 27) (.tmp 38) (by rfl) (by rfl) (by rfl) (by rfl) (HS.out _ ?hA) ?hB ?hC ?hD ?_; rotate_left 4; intro v2 w2 g2 hs2 he2 hg2; obtain ⟨A2, c2, rfl, _, _⟩ := hs2.form; have HS2 := hid hs2; have HE2 := hid he2; have HG2 := hid hg2; clear hs2 hg2; obtain ⟨o2, ex2, dx2, rfl⟩ := form_of he2 (Nat.lt_of_lt_of_le hgl (Below.size (B := w.heap.size) (w := w) (by repeat (first | (with_reducible exact Below.refl _ _) | (with_reducible exact bl_mm) | (with_reducible refine bl_dr ?_) | (with_reducible refine bl_drN ?_ _) | (with_reducible refine bl_al ?_ _) | (with_reducible refine bl_more ?_ _ _))))); clear he2))
          case hA => exact (by repeat (first | (with_reducible exact Below.refl _ _) | (with_reducible exact bl_mm) | (with_reducible refine bl_dr ?_) | (with_reducible refine bl_drN ?_ _) | (with_reducible refine bl_al ?_ _) | (with_reducible refine bl_more ?_ _ _)))
          case hD => have := HF.out; simp only [List.length_cons, List.length_nil]; omega
          case hC =>
            intro b hb _ hbg
            rcases HO.out with h | h <;> omega
          case hB => exact (Enc.Row.one_blk (d := tokE) (K := fun b => w.heap.size ≤ b) (cs := tokCells ⟨2, s.extract a b, a⟩) (t := 38) (alloc_blk (X := more w ex (dx + 1)) (o := .cells (tokCells ⟨2, s.extract a b, a⟩).toArray 38 (0, 0)) (b := w.heap.size + ex.size) (by simp only [more_size])) (tokE_mk _) (by omega)).src
          go_ret
          have hf := LxS.appended (m := ⟨out, remark, begun⟩) (out' := out ++ [⟨2, s.extract a b, a⟩]) HB.out (by repeat (first | (with_reducible exact Below.refl _ _) | (with_reducible exact bl_mm) | (with_reducible refine bl_dr ?_) | (with_reducible refine bl_drN ?_ _) | (with_reducible refine bl_al ?_ _) | (with_reducible refine bl_more ?_ _ _))) HO.out HG.out HE2.out HG2.out.two (tok_free HS2.out) (fun _ h => h) (by have := HF.out; simp; omega)
          refine ⟨g2, ?_, Eq.subst (motive := fun W => LxS W x g2 s (markS s ⟨out, remark, begun⟩ a r) ∧ Up x g w g2 W) ?_ ⟨?_, hf.2⟩⟩
          · unfold markE; rw [if_neg HN35.out, if_neg HN3.out, if_pos HMR.out]; rfl
          · go_simp
          · unfold markS; rw [if_neg HN35.out, if_neg HN3.out, if_pos HMR.out, ← HAB.out]; exact hf.1
end Go.Proofs.Ythekoefcienipaa
