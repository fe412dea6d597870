/- The document's crash. -/
import Derived.Test.YtnobbehoojgfcaaDkM
namespace Go.Proofs.Ytnobbehoojgfcaa
open Go.RowKit

set_option maxRecDepth 8000 in
set_option maxHeartbeats 2000000 in
theorem rcrash_any {w : World} {r gF : Nat} {K : Nat → Prop} {s : DS} {C : Int} {v : Value} {ks : List Int} (h : Rk w r gF s) (hs : s.Ok C) (hC : C ≤ 1000000000) (hk : intE.Row K w v ks) (hKd : ∀ b, K b → b ≠ r ∧ b ≠ gF) :
    Calls Try.prog 30 #[.pointer (some ⟨r, 0, none⟩), v] w fun e w' => e = .returned (.tuple #[]) ∧ Rk w' r gF (s.crash ks) ∧ Ext (fun b => b = r ∨ b = gF) w w' := by
  obtain ⟨A, c, rfl, hl1, hl2⟩ := hk.form
  have n1 : (r = gF) = False := by simp only [eq_iff_iff, iff_false]; exact h.ne
  have n2 : (gF = r) = False := by simp only [eq_iff_iff, iff_false]; exact h.ne.symm
  have HR := hid h
  have HS := hid hs
  have HC2 := hid hC
  have HRW0 := hid hk
  have HKD := hid hKd
  clear h hs hC hk hKd hl1 hl2
  go_enter Try.func30, Try.ntmps30
  go_wp2_with (first | ((with_reducible refine wp_region_plan (id := 3) (.fin [(false, 0), (false, 1), (false, 2), (false, 3), (false, 4), (false, 5), (false, 6), (false, 7), (false, 8), (false, 9), (false, 10), (false, 11), (false, 12), (false, 13), (false, 14), (false, 15), (false, 16), (false, 17), (false, 18)]) ?_ ?_ ?_ ?_ ?_ ?_); kernel_rfl; kernel_rfl; kernel_rfl; kernel_rfl; (intro c a d v w h; cases d <;> exact h)) | ((with_reducible refine wp_region_plan (id := 8) (.eff [(false, 0), (false, 1), (false, 2), (false, 3), (false, 4), (false, 5), (false, 6), (false, 7), (false, 8), (false, 9), (false, 10), (false, 11), (false, 12), (false, 13), (false, 14), (false, 15), (false, 16), (false, 17), (false, 18)] 19 [] (.fin [])) ?_ ?_ ?_ ?_ ?_ ?_); kernel_rfl; kernel_rfl; kernel_rfl; kernel_rfl; (intro c a d v w h; cases d <;> exact h)) | ((with_reducible refine wp_region_plan (id := 9) (.eff [(false, 0), (false, 1), (false, 2), (false, 3), (false, 4), (false, 5), (false, 6), (false, 7), (false, 8), (false, 9), (false, 10), (false, 11), (false, 12), (false, 13), (false, 14), (false, 15), (false, 16), (false, 17)] 18 [] (.fin [])) ?_ ?_ ?_ ?_ ?_ ?_); kernel_rfl; kernel_rfl; kernel_rfl; kernel_rfl; (intro c a d v w h; cases d <;> exact h)) | (with_reducible refine wpPlan_eff ?_) | (with_reducible refine wpPlan_fin ?_) | (with_reducible refine wpPlan_two ?_) | (with_reducible refine wpOpPair ?_ ?_) | ((with_reducible apply wpPre_keep); rfl; intro K' hK'; go_simp; refine hK' _ _ ?_; intro f hf; clear hK' K') | ((with_reducible apply wpPre_drop); rfl; intro K' hK'; go_simp; refine hK' _ _ ?_; intro f; clear hK' K') | (with_reducible refine wpPre_nil ?_) | ((with_reducible apply wpOp_list); rfl) | (with_reducible refine heldPair ?_ ?_) | ((with_reducible refine heldH_no ?_ ?_); rfl) | (with_reducible refine heldH_yes ?_ ?_) | (with_reducible exact heldH_nil) | (unfold YAt; go_simp; done))
  go_loopg [4] s.fs.length (fun k i wr => ∃ j : Nat, j + k = s.fs.length ∧ i = .int .i64 j ∧ Rk wr r gF (crashN s ks j) ∧ Ext (fun b => b = r ∨ b = gF) w wr)
  case atStart => exact ⟨0, by omega, rfl, HR.out.below (by repeat (first | (with_reducible exact Below.refl _ _) | (with_reducible exact bl_mm) | (with_reducible refine bl_dr ?_) | (with_reducible refine bl_drN ?_ _) | (with_reducible refine bl_al ?_ _) | (with_reducible refine bl_more ?_ _ _))), (by repeat (first | (with_reducible exact Ext.refl _ _) | (with_reducible refine ex_dr ?_) | (with_reducible refine ex_drN ?_ _) | (with_reducible refine ex_al ?_ _) | (with_reducible refine ex_more ?_ _ _) | (with_reducible refine Ext.set ?_ _ _ _ (by first | exact rfl | exact .inl rfl | exact .inr rfl))))⟩
  case round =>
    obtain ⟨j, hj, rfl, hq, he⟩ := hrel
    have HQ := hid hq
    have HE := hid he
    have HK := hid hj
    have hf := hq.f
    rw [crash_len] at hf
    have hroom := hq.room
    obtain ⟨l1, l2⟩ := hq.lt
    have f1 := (hq.frz 1).1
    have f2 := (hq.frz (j * 2)).2
    have f3 := (hq.frz (j * 2 + 1)).2
    have hrow := HRW0.out.ext he (fun b hb _ => by have := HKD.out b hb; omega)
    by_cases hlt : j < s.fs.length
    · have hlt2 : j < (crashN s ks j).fs.length := by rw [crash_len]; exact hlt
      obtain ⟨c1, c2⟩ := hq.files j hlt2
      rw [crash_file s ks hlt] at c1 c2
      have HFILE := hid (crash_file s ks hlt)
      have i1 : (j : Int) < (s.fs.length : Int) := by omega
      have i2 : (0 : Int) ≤ (j : Int) := by omega
      have w1 : IntKind.i64.wrap ((j : Int) + 1) = ((j + 1 : Nat) : Int) := by rw [IntWalk.i64_in _ (by have := HS.out.n2; omega)]; rfl
      have hsy := HS.out.sync _ (List.getElem_mem hlt)
      have hln := HS.out.len (List.getElem_mem hlt)
      have hok := crash_ok HS.out ks j (by omega)
      have hr0 := hok.room
      have hrc := hok.roomC
      obtain ⟨R, hR⟩ : ∃ R, R = (crashN s ks j).room := ⟨_, rfl⟩
      rw [← hR] at hroom hr0 hrc
      have HRR := hid hR
      have HJ := hid (And.intro hlt hlt2)
      have HRW := hid hrow
      have hC2 := HC2.out
      have w0 : IntKind.i64.wrap (R + ((s.fs[j]'hlt).b.length : Int)) = R + ((s.fs[j]'hlt).b.length : Int) := IntWalk.i64_in _ (by omega)
      have w2 : IntKind.i64.wrap (((s.fs[j]'hlt).b.length : Int) - ((s.fs[j]'hlt).synced : Int)) = ((s.fs[j]'hlt).b.length : Int) - ((s.fs[j]'hlt).synced : Int) := IntWalk.i64_in _ (by omega)
      clear hq he hj hrow hok hR
      by_cases hk : j < ks.length
      · obtain ⟨bb, off, rfl, hbl, hKb, k1⟩ := Row_int HRW.out j hk
        obtain ⟨hKb1, hKb2⟩ := HKD.out bb hKb
        have y1 : (bb = r) = False := by simp only [eq_iff_iff, iff_false]; exact hKb1
        have y2 : (r = bb) = False := by simp only [eq_iff_iff, iff_false]; exact hKb1.symm
        have y3 : (bb = gF) = False := by simp only [eq_iff_iff, iff_false]; exact hKb2
        have y4 : (gF = bb) = False := by simp only [eq_iff_iff, iff_false]; exact hKb2.symm
        clear hKb hKb1 hKb2
        have j1 : (j : Int) < (ks.length : Int) := by omega
        by_cases hneg : ks[j] < 0
        · obtain ⟨m, hm⟩ : ∃ m, m = (s.fs[j]'hlt).synced := ⟨_, rfl⟩
          have HCUT : Hid (cutN (s.fs[j]'hlt) ks[j]? = m) := hid (by rw [hm]; simp [cutN, hk]; omega)
          rw [← hm] at c2 w2
          have w3 : ¬ ((s.fs[j]'hlt).b.length : Int) - (m : Int) < 0 := by omega
          have w4 : IntKind.i64.wrap (m : Int) = (m : Int) := IntWalk.i64_in _ (by omega)
          have w5 : IntKind.i64.wrap (R + ((s.fs[j]'hlt).b.length : Int) - (m : Int)) = R + (((s.fs[j]'hlt).b.length : Int) - (m : Int)) := by rw [IntWalk.i64_in _ (by omega)]; omega
          have w6 := bs_take (s.fs[j]'hlt).b m
          have w7 : (m : Int) ≤ ((s.fs[j]'hlt).b.length : Int) := by omega
          clear hm hsy hln hC2 hr0 hrc
          go_wp2_with (first | ((with_reducible refine wp_region_plan (id := 3) (.fin [(false, 0), (false, 1), (false, 2), (false, 3), (false, 4), (false, 5), (false, 6), (false, 7), (false, 8), (false, 9), (false, 10), (false, 11), (false, 12), (false, 13), (false, 14), (false, 15), (false, 16), (false, 17), (false, 18)]) ?_ ?_ ?_ ?_ ?_ ?_); kernel_rfl; kernel_rfl; kernel_rfl; kernel_rfl; (intro c a d v w h; cases d <;> exact h)) | ((with_reducible refine wp_region_plan (id := 8) (.eff [(false, 0), (false, 1), (false, 2), (false, 3), (false, 4), (false, 5), (false, 6), (false, 7), (false, 8), (false, 9), (false, 10), (false, 11), (false, 12), (false, 13), (false, 14), (false, 15), (false, 16), (false, 17), (false, 18)] 19 [] (.fin [])) ?_ ?_ ?_ ?_ ?_ ?_); kernel_rfl; kernel_rfl; kernel_rfl; kernel_rfl; (intro c a d v w h; cases d <;> exact h)) | ((with_reducible refine wp_region_plan (id := 9) (.eff [(false, 0), (false, 1), (false, 2), (false, 3), (false, 4), (false, 5), (false, 6), (false, 7), (false, 8), (false, 9), (false, 10), (false, 11), (false, 12), (false, 13), (false, 14), (false, 15), (false, 16), (false, 17)] 18 [] (.fin [])) ?_ ?_ ?_ ?_ ?_ ?_); kernel_rfl; kernel_rfl; kernel_rfl; kernel_rfl; (intro c a d v w h; cases d <;> exact h)) | (with_reducible refine wpPlan_eff ?_) | (with_reducible refine wpPlan_fin ?_) | (with_reducible refine wpPlan_two ?_) | (with_reducible refine wpOpPair ?_ ?_) | ((with_reducible apply wpPre_keep); rfl; intro K' hK'; go_simp; refine hK' _ _ ?_; intro f hf; clear hK' K') | ((with_reducible apply wpPre_drop); rfl; intro K' hK'; go_simp; refine hK' _ _ ?_; intro f; clear hK' K') | (with_reducible refine wpPre_nil ?_) | ((with_reducible apply wpOp_list); rfl) | (with_reducible refine heldPair ?_ ?_) | ((with_reducible refine heldH_no ?_ ?_); rfl) | (with_reducible refine heldH_yes ?_ ?_) | (with_reducible exact heldH_nil) | (unfold YAt; go_simp; done))
          all_goals (
            go_roundg (s.fs.length - (j + 1))
            case measure => have := HK.out; omega
            case rel => exact ⟨j + 1, by have := HK.out; omega, rfl, by rw [crash_next (m := m) HJ.out.1 HCUT.out, keep_eq HJ.out.2, HFILE.out, ← HRR.out]; exact ((HQ.out.setRoom (R + (((s.fs[j]'hlt).b.length : Int) - (m : Int)))).setFile j HJ.out.2 ((s.fs[j]'hlt).b.take m) m).below (by repeat (first | (with_reducible exact Below.refl _ _) | (with_reducible exact bl_mm) | (with_reducible refine bl_dr ?_) | (with_reducible refine bl_drN ?_ _) | (with_reducible refine bl_al ?_ _) | (with_reducible refine bl_more ?_ _ _))), HE.out.trans ((by repeat (first | (with_reducible exact Ext.refl _ _) | (with_reducible refine ex_dr ?_) | (with_reducible refine ex_drN ?_ _) | (with_reducible refine ex_al ?_ _) | (with_reducible refine ex_more ?_ _ _) | (with_reducible refine Ext.set ?_ _ _ _ (by first | exact rfl | exact .inl rfl | exact .inr rfl)))) : Ext (fun b => b = r ∨ b = gF) wr _) (fun _ _ h => h)⟩)
        · by_cases hbig : ((s.fs[j]'hlt).b.length : Int) - ((s.fs[j]'hlt).synced : Int) < ks[j]
          · obtain ⟨m, hm⟩ : ∃ m, m = (s.fs[j]'hlt).b.length := ⟨_, rfl⟩
            have HCUT : Hid (cutN (s.fs[j]'hlt) ks[j]? = m) := hid (by rw [hm]; simp [cutN, hk]; omega)
            have w3 : IntKind.i64.wrap (((s.fs[j]'hlt).b.length : Int) - ((s.fs[j]'hlt).synced : Int) + ((s.fs[j]'hlt).synced : Int)) = (m : Int) := by rw [IntWalk.i64_in _ (by omega)]; omega
            have w4 : IntKind.i64.wrap ((s.fs[j]'hlt).b.length : Int) = (m : Int) := by rw [IntWalk.i64_in _ (by omega)]; omega
            have w5 : IntKind.i64.wrap (R + ((s.fs[j]'hlt).b.length : Int) - (m : Int)) = R + (((s.fs[j]'hlt).b.length : Int) - (m : Int)) := by rw [IntWalk.i64_in _ (by omega)]; omega
            have w6 := bs_take (s.fs[j]'hlt).b m
            have w7 : (m : Int) ≤ ((s.fs[j]'hlt).b.length : Int) := by omega
            clear hm hsy hln hC2 hr0 hrc
            go_wp2_with (first | ((with_reducible refine wp_region_plan (id := 3) (.fin [(false, 0), (false, 1), (false, 2), (false, 3), (false, 4), (false, 5), (false, 6), (false, 7), (false, 8), (false, 9), (false, 10), (false, 11), (false, 12), (false, 13), (false, 14), (false, 15), (false, 16), (false, 17), (false, 18)]) ?_ ?_ ?_ ?_ ?_ ?_); kernel_rfl; kernel_rfl; kernel_rfl; kernel_rfl; (intro c a d v w h; cases d <;> exact h)) | ((with_reducible refine wp_region_plan (id := 8) (.eff [(false, 0), (false, 1), (false, 2), (false, 3), (false, 4), (false, 5), (false, 6), (false, 7), (false, 8), (false, 9), (false, 10), (false, 11), (false, 12), (false, 13), (false, 14), (false, 15), (false, 16), (false, 17), (false, 18)] 19 [] (.fin [])) ?_ ?_ ?_ ?_ ?_ ?_); kernel_rfl; kernel_rfl; kernel_rfl; kernel_rfl; (intro c a d v w h; cases d <;> exact h)) | ((with_reducible refine wp_region_plan (id := 9) (.eff [(false, 0), (false, 1), (false, 2), (false, 3), (false, 4), (false, 5), (false, 6), (false, 7), (false, 8), (false, 9), (false, 10), (false, 11), (false, 12), (false, 13), (false, 14), (false, 15), (false, 16), (false, 17)] 18 [] (.fin [])) ?_ ?_ ?_ ?_ ?_ ?_); kernel_rfl; kernel_rfl; kernel_rfl; kernel_rfl; (intro c a d v w h; cases d <;> exact h)) | (with_reducible refine wpPlan_eff ?_) | (with_reducible refine wpPlan_fin ?_) | (with_reducible refine wpPlan_two ?_) | (with_reducible refine wpOpPair ?_ ?_) | ((with_reducible apply wpPre_keep); rfl; intro K' hK'; go_simp; refine hK' _ _ ?_; intro f hf; clear hK' K') | ((with_reducible apply wpPre_drop); rfl; intro K' hK'; go_simp; refine hK' _ _ ?_; intro f; clear hK' K') | (with_reducible refine wpPre_nil ?_) | ((with_reducible apply wpOp_list); rfl) | (with_reducible refine heldPair ?_ ?_) | ((with_reducible refine heldH_no ?_ ?_); rfl) | (with_reducible refine heldH_yes ?_ ?_) | (with_reducible exact heldH_nil) | (unfold YAt; go_simp; done))
            all_goals (
              go_roundg (s.fs.length - (j + 1))
              case measure => have := HK.out; omega
              case rel => exact ⟨j + 1, by have := HK.out; omega, rfl, by rw [crash_next (m := m) HJ.out.1 HCUT.out, keep_eq HJ.out.2, HFILE.out, ← HRR.out]; exact ((HQ.out.setRoom (R + (((s.fs[j]'hlt).b.length : Int) - (m : Int)))).setFile j HJ.out.2 ((s.fs[j]'hlt).b.take m) m).below (by repeat (first | (with_reducible exact Below.refl _ _) | (with_reducible exact bl_mm) | (with_reducible refine bl_dr ?_) | (with_reducible refine bl_drN ?_ _) | (with_reducible refine bl_al ?_ _) | (with_reducible refine bl_more ?_ _ _))), HE.out.trans ((by repeat (first | (with_reducible exact Ext.refl _ _) | (with_reducible refine ex_dr ?_) | (with_reducible refine ex_drN ?_ _) | (with_reducible refine ex_al ?_ _) | (with_reducible refine ex_more ?_ _ _) | (with_reducible refine Ext.set ?_ _ _ _ (by first | exact rfl | exact .inl rfl | exact .inr rfl)))) : Ext (fun b => b = r ∨ b = gF) wr _) (fun _ _ h => h)⟩)
          · obtain ⟨q, hq⟩ : ∃ q : Nat, ks[j] = (q : Int) := ⟨ks[j].toNat, by omega⟩
            obtain ⟨m, hm⟩ : ∃ m, m = (s.fs[j]'hlt).synced + q := ⟨_, rfl⟩
            have HCUT : Hid (cutN (s.fs[j]'hlt) ks[j]? = m) := hid (by rw [hm]; simp [cutN, hk, hq]; omega)
            have w3 : IntKind.i64.wrap ((q : Int) + ((s.fs[j]'hlt).synced : Int)) = (m : Int) := by rw [IntWalk.i64_in _ (by omega)]; omega
            rw [hq] at k1 hbig hneg
            clear hq
            have w5 : IntKind.i64.wrap (R + ((s.fs[j]'hlt).b.length : Int) - (m : Int)) = R + (((s.fs[j]'hlt).b.length : Int) - (m : Int)) := by rw [IntWalk.i64_in _ (by omega)]; omega
            have w6 := bs_take (s.fs[j]'hlt).b m
            have w7 : (m : Int) ≤ ((s.fs[j]'hlt).b.length : Int) := by omega
            clear hm hsy hln hC2 hr0 hrc
            go_wp2_with (first | ((with_reducible refine wp_region_plan (id := 3) (.fin [(false, 0), (false, 1), (false, 2), (false, 3), (false, 4), (false, 5), (false, 6), (false, 7), (false, 8), (false, 9), (false, 10), (false, 11), (false, 12), (false, 13), (false, 14), (false, 15), (false, 16), (false, 17), (false, 18)]) ?_ ?_ ?_ ?_ ?_ ?_); kernel_rfl; kernel_rfl; kernel_rfl; kernel_rfl; (intro c a d v w h; cases d <;> exact h)) | ((with_reducible refine wp_region_plan (id := 8) (.eff [(false, 0), (false, 1), (false, 2), (false, 3), (false, 4), (false, 5), (false, 6), (false, 7), (false, 8), (false, 9), (false, 10), (false, 11), (false, 12), (false, 13), (false, 14), (false, 15), (false, 16), (false, 17), (false, 18)] 19 [] (.fin [])) ?_ ?_ ?_ ?_ ?_ ?_); kernel_rfl; kernel_rfl; kernel_rfl; kernel_rfl; (intro c a d v w h; cases d <;> exact h)) | ((with_reducible refine wp_region_plan (id := 9) (.eff [(false, 0), (false, 1), (false, 2), (false, 3), (false, 4), (false, 5), (false, 6), (false, 7), (false, 8), (false, 9), (false, 10), (false, 11), (false, 12), (false, 13), (false, 14), (false, 15), (false, 16), (false, 17)] 18 [] (.fin [])) ?_ ?_ ?_ ?_ ?_ ?_); kernel_rfl; kernel_rfl; kernel_rfl; kernel_rfl; (intro c a d v w h; cases d <;> exact h)) | (with_reducible refine wpPlan_eff ?_) | (with_reducible refine wpPlan_fin ?_) | (with_reducible refine wpPlan_two ?_) | (with_reducible refine wpOpPair ?_ ?_) | ((with_reducible apply wpPre_keep); rfl; intro K' hK'; go_simp; refine hK' _ _ ?_; intro f hf; clear hK' K') | ((with_reducible apply wpPre_drop); rfl; intro K' hK'; go_simp; refine hK' _ _ ?_; intro f; clear hK' K') | (with_reducible refine wpPre_nil ?_) | ((with_reducible apply wpOp_list); rfl) | (with_reducible refine heldPair ?_ ?_) | ((with_reducible refine heldH_no ?_ ?_); rfl) | (with_reducible refine heldH_yes ?_ ?_) | (with_reducible exact heldH_nil) | (unfold YAt; go_simp; done))
            all_goals (
              go_roundg (s.fs.length - (j + 1))
              case measure => have := HK.out; omega
              case rel => exact ⟨j + 1, by have := HK.out; omega, rfl, by rw [crash_next (m := m) HJ.out.1 HCUT.out, keep_eq HJ.out.2, HFILE.out, ← HRR.out]; exact ((HQ.out.setRoom (R + (((s.fs[j]'hlt).b.length : Int) - (m : Int)))).setFile j HJ.out.2 ((s.fs[j]'hlt).b.take m) m).below (by repeat (first | (with_reducible exact Below.refl _ _) | (with_reducible exact bl_mm) | (with_reducible refine bl_dr ?_) | (with_reducible refine bl_drN ?_ _) | (with_reducible refine bl_al ?_ _) | (with_reducible refine bl_more ?_ _ _))), HE.out.trans ((by repeat (first | (with_reducible exact Ext.refl _ _) | (with_reducible refine ex_dr ?_) | (with_reducible refine ex_drN ?_ _) | (with_reducible refine ex_al ?_ _) | (with_reducible refine ex_more ?_ _ _) | (with_reducible refine Ext.set ?_ _ _ _ (by first | exact rfl | exact .inl rfl | exact .inr rfl)))) : Ext (fun b => b = r ∨ b = gF) wr _) (fun _ _ h => h)⟩)
      · have j1 : ¬ (j : Int) < (ks.length : Int) := by omega
        obtain ⟨m, hm⟩ : ∃ m, m = (s.fs[j]'hlt).synced := ⟨_, rfl⟩
        have HCUT : Hid (cutN (s.fs[j]'hlt) ks[j]? = m) := hid (by rw [hm]; simp [cutN, hk])
        rw [← hm] at c2 w2
        have w4 : IntKind.i64.wrap (m : Int) = (m : Int) := IntWalk.i64_in _ (by omega)
        have w5 : IntKind.i64.wrap (R + ((s.fs[j]'hlt).b.length : Int) - (m : Int)) = R + (((s.fs[j]'hlt).b.length : Int) - (m : Int)) := by rw [IntWalk.i64_in _ (by omega)]; omega
        have w6 := bs_take (s.fs[j]'hlt).b m
        have w7 : (m : Int) ≤ ((s.fs[j]'hlt).b.length : Int) := by omega
        clear hm hsy hln hC2 hr0 hrc
        go_wp2_with (first | ((with_reducible refine wp_region_plan (id := 3) (.fin [(false, 0), (false, 1), (false, 2), (false, 3), (false, 4), (false, 5), (false, 6), (false, 7), (false, 8), (false, 9), (false, 10), (false, 11), (false, 12), (false, 13), (false, 14), (false, 15), (false, 16), (false, 17), (false, 18)]) ?_ ?_ ?_ ?_ ?_ ?_); kernel_rfl; kernel_rfl; kernel_rfl; kernel_rfl; (intro c a d v w h; cases d <;> exact h)) | ((with_reducible refine wp_region_plan (id := 8) (.eff [(false, 0), (false, 1), (false, 2), (false, 3), (false, 4), (false, 5), (false, 6), (false, 7), (false, 8), (false, 9), (false, 10), (false, 11), (false, 12), (false, 13), (false, 14), (false, 15), (false, 16), (false, 17), (false, 18)] 19 [] (.fin [])) ?_ ?_ ?_ ?_ ?_ ?_); kernel_rfl; kernel_rfl; kernel_rfl; kernel_rfl; (intro c a d v w h; cases d <;> exact h)) | ((with_reducible refine wp_region_plan (id := 9) (.eff [(false, 0), (false, 1), (false, 2), (false, 3), (false, 4), (false, 5), (false, 6), (false, 7), (false, 8), (false, 9), (false, 10), (false, 11), (false, 12), (false, 13), (false, 14), (false, 15), (false, 16), (false, 17)] 18 [] (.fin [])) ?_ ?_ ?_ ?_ ?_ ?_); kernel_rfl; kernel_rfl; kernel_rfl; kernel_rfl; (intro c a d v w h; cases d <;> exact h)) | (with_reducible refine wpPlan_eff ?_) | (with_reducible refine wpPlan_fin ?_) | (with_reducible refine wpPlan_two ?_) | (with_reducible refine wpOpPair ?_ ?_) | ((with_reducible apply wpPre_keep); rfl; intro K' hK'; go_simp; refine hK' _ _ ?_; intro f hf; clear hK' K') | ((with_reducible apply wpPre_drop); rfl; intro K' hK'; go_simp; refine hK' _ _ ?_; intro f; clear hK' K') | (with_reducible refine wpPre_nil ?_) | ((with_reducible apply wpOp_list); rfl) | (with_reducible refine heldPair ?_ ?_) | ((with_reducible refine heldH_no ?_ ?_); rfl) | (with_reducible refine heldH_yes ?_ ?_) | (with_reducible exact heldH_nil) | (unfold YAt; go_simp; done))
        all_goals (
          go_roundg (s.fs.length - (j + 1))
          case measure => have := HK.out; omega
          case rel => exact ⟨j + 1, by have := HK.out; omega, rfl, by rw [crash_next (m := m) HJ.out.1 HCUT.out, keep_eq HJ.out.2, HFILE.out, ← HRR.out]; exact ((HQ.out.setRoom (R + (((s.fs[j]'hlt).b.length : Int) - (m : Int)))).setFile j HJ.out.2 ((s.fs[j]'hlt).b.take m) m).below (by repeat (first | (with_reducible exact Below.refl _ _) | (with_reducible exact bl_mm) | (with_reducible refine bl_dr ?_) | (with_reducible refine bl_drN ?_ _) | (with_reducible refine bl_al ?_ _) | (with_reducible refine bl_more ?_ _ _))), HE.out.trans ((by repeat (first | (with_reducible exact Ext.refl _ _) | (with_reducible refine ex_dr ?_) | (with_reducible refine ex_drN ?_ _) | (with_reducible refine ex_al ?_ _) | (with_reducible refine ex_more ?_ _ _) | (with_reducible refine Ext.set ?_ _ _ _ (by first | exact rfl | exact .inl rfl | exact .inr rfl)))) : Ext (fun b => b = r ∨ b = gF) wr _) (fun _ _ h => h)⟩)
    · obtain rfl : j = s.fs.length := by omega
      have i1 : ¬ (s.fs.length : Int) < (s.fs.length : Int) := by omega
      have f4 := (hq.frz 2).1
      have f5 := (hq.frz 3).1
      have k1 := hq.fuse
      have k2 := hq.down
      clear hq he hj hrow
      go_wp2_with (first | ((with_reducible refine wp_region_plan (id := 3) (.fin [(false, 0), (false, 1), (false, 2), (false, 3), (false, 4), (false, 5), (false, 6), (false, 7), (false, 8), (false, 9), (false, 10), (false, 11), (false, 12), (false, 13), (false, 14), (false, 15), (false, 16), (false, 17), (false, 18)]) ?_ ?_ ?_ ?_ ?_ ?_); kernel_rfl; kernel_rfl; kernel_rfl; kernel_rfl; (intro c a d v w h; cases d <;> exact h)) | ((with_reducible refine wp_region_plan (id := 8) (.eff [(false, 0), (false, 1), (false, 2), (false, 3), (false, 4), (false, 5), (false, 6), (false, 7), (false, 8), (false, 9), (false, 10), (false, 11), (false, 12), (false, 13), (false, 14), (false, 15), (false, 16), (false, 17), (false, 18)] 19 [] (.fin [])) ?_ ?_ ?_ ?_ ?_ ?_); kernel_rfl; kernel_rfl; kernel_rfl; kernel_rfl; (intro c a d v w h; cases d <;> exact h)) | ((with_reducible refine wp_region_plan (id := 9) (.eff [(false, 0), (false, 1), (false, 2), (false, 3), (false, 4), (false, 5), (false, 6), (false, 7), (false, 8), (false, 9), (false, 10), (false, 11), (false, 12), (false, 13), (false, 14), (false, 15), (false, 16), (false, 17)] 18 [] (.fin [])) ?_ ?_ ?_ ?_ ?_ ?_); kernel_rfl; kernel_rfl; kernel_rfl; kernel_rfl; (intro c a d v w h; cases d <;> exact h)) | (with_reducible refine wpPlan_eff ?_) | (with_reducible refine wpPlan_fin ?_) | (with_reducible refine wpPlan_two ?_) | (with_reducible refine wpOpPair ?_ ?_) | ((with_reducible apply wpPre_keep); rfl; intro K' hK'; go_simp; refine hK' _ _ ?_; intro f hf; clear hK' K') | ((with_reducible apply wpPre_drop); rfl; intro K' hK'; go_simp; refine hK' _ _ ?_; intro f; clear hK' K') | (with_reducible refine wpPre_nil ?_) | ((with_reducible apply wpOp_list); rfl) | (with_reducible refine heldPair ?_ ?_) | ((with_reducible refine heldH_no ?_ ?_); rfl) | (with_reducible refine heldH_yes ?_ ?_) | (with_reducible exact heldH_nil) | (unfold YAt; go_simp; done))
      go_end0
      refine ⟨rfl, ?_, HE.out.trans ((by repeat (first | (with_reducible exact Ext.refl _ _) | (with_reducible refine ex_dr ?_) | (with_reducible refine ex_drN ?_ _) | (with_reducible refine ex_al ?_ _) | (with_reducible refine ex_more ?_ _ _) | (with_reducible refine Ext.set ?_ _ _ _ (by first | exact rfl | exact .inl rfl | exact .inr rfl)))) : Ext (fun b => b = r ∨ b = gF) wr _) (fun _ _ h => h)⟩
      exact ((HQ.out.setFuse (-1)).setDown false).below (by repeat (first | (with_reducible exact Below.refl _ _) | (with_reducible exact bl_mm) | (with_reducible refine bl_dr ?_) | (with_reducible refine bl_drN ?_ _) | (with_reducible refine bl_al ?_ _) | (with_reducible refine bl_more ?_ _ _)))
end Go.Proofs.Ytnobbehoojgfcaa
