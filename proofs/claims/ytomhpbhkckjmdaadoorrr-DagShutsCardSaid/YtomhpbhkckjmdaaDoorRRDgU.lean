/- DagFollows. -/
import Derived.Test.YtomhpbhkckjmdaaDoorRRDgT
import Derived.Test.YtomhpbhkckjmdaaDoorRRDgQ
namespace Go.Proofs.YtomhpbhkckjmdaaDoorRR
open Go.RowKit

def FolP (m : Nat) (row : List Nat) (F L : Nat → Nat) : Prop := ∀ (j r : Nat), row[j]? = some r → r < m ∧ r ∉ row.take j ∧ L r ≤ (nodes (F r)).length ∧ ∀ x ∈ nodes (F r), x < m ∧ x ∈ row.take j ∧ L x < L r
theorem follows_law {m : Nat} {on : Nat → Nat} {row : List Nat} (hF : Fit m on) (h : orderR m on = some row) : FolP m row (reachF on row) (levF on row) := by
  intro j r hr
  have ht := order_topo hF.lt h
  obtain ⟨l1, l2⟩ := lev_reach hF ht j r hr
  refine ⟨row_lt h r (List.mem_of_getElem? hr), fun hm => ?_, l1, fun x hx => ?_⟩
  · obtain ⟨q, hq⟩ := List.mem_iff_getElem?.1 hm
    rw [List.getElem?_take] at hq
    split at hq
    · have := nd_pos ht.nd hr hq
      omega
    · cases hq
  · have hb := (mem_nodes.1 hx).2
    obtain ⟨q, h1, h2⟩ := chain_pos ht ((reach_chain hF ht j r hr x).1 hb) j hr
    refine ⟨row_lt h x (List.mem_of_getElem? h2), ?_, l2 x hb⟩
    refine List.mem_of_getElem? (i := q) ?_
    rw [List.getElem?_take, if_pos h1]
    exact h2
theorem take_len {α : Type} {l : List α} {j : Nat} (h : j ≤ l.length) : (l.take j).length = j := by rw [List.length_take]; omega
set_option maxRecDepth 8000 in
set_option maxHeartbeats 16000000 in
theorem follows_any {w : World} {K : Nat → Prop} {n : Int} {v : Value} {l : Arcs} (hT : Tab w) (hv : arcE.Row K w v l) : Calls Tryd.prog 3 #[.int .i64 n, v] w fun e w' => e = .returned (.bool true) ∧ Below w.heap.size w w' := by
  obtain ⟨A, cp, rfl, _, _⟩ := hv.form
  have HT := hid hT
  have HV := hid hv
  clear hT hv
  cases hfw : fewB l with
  | false =>
    have HFW := hid hfw
    clear hfw
    go_enter Tryd.func3, Tryd.ntmps3
    go_wp2_with (first | ((with_reducible refine wp_region_plan (id := 15) (.eff [(false, 0), (false, 1), (false, 2), (false, 3), (false, 4), (false, 5), (false, 6), (false, 7), (false, 8), (false, 9)] 10 [] (.fin [(false, 11), (false, 12), (false, 13), (false, 14), (false, 15), (false, 16), (false, 17), (false, 18), (false, 19), (false, 20), (false, 21), (false, 22), (false, 23), (false, 24), (false, 25), (false, 26), (false, 27), (false, 28), (false, 29), (false, 30)])) ?_ ?_ ?_ ?_ ?_ ?_); kernel_rfl; kernel_rfl; kernel_rfl; kernel_rfl; (intro c a d v w h; cases d <;> exact h)) | ((with_reducible refine wp_region_plan (id := 21) (.eff [(false, 0), (false, 1), (false, 2), (false, 3), (false, 4), (false, 5), (false, 6), (false, 7), (false, 8), (false, 9)] 10 [] (.fin [(false, 11), (false, 12), (false, 13), (false, 14), (false, 15), (false, 16), (false, 17), (false, 18), (false, 19), (false, 20), (false, 21), (false, 22), (false, 23)])) ?_ ?_ ?_ ?_ ?_ ?_); kernel_rfl; kernel_rfl; kernel_rfl; kernel_rfl; (intro c a d v w h; cases d <;> exact h)) | (with_reducible refine wpPlan_eff ?_) | (with_reducible refine wpPlan_fin ?_) | (with_reducible refine wpPlan_two ?_) | (with_reducible refine wpOpPair ?_ ?_) | ((with_reducible apply wpPre_keep); rfl; intro K' hK'; go_simp; refine hK' _ _ ?_; intro f hf; clear hK' K') | ((with_reducible apply wpPre_drop); rfl; intro K' hK'; go_simp; refine hK' _ _ ?_; intro f; clear hK' K') | (with_reducible refine wpPre_nil ?_) | ((with_reducible apply wpOp_list); rfl) | (with_reducible refine heldPair ?_ ?_) | ((with_reducible refine heldH_no ?_ ?_); rfl) | (with_reducible refine heldH_yes ?_ ?_) | (with_reducible exact heldH_nil) | (unfold YAt; go_simp; done) | (go_at_call 7; refine few_any.mono ?_; rintro e w' ⟨rfl, hw'⟩; replace hw' := hw'.symm; subst hw'; rw [HFW.out]) | (go_at_call 8; refine (lives_any (HT.out.below (by repeat (first | (with_reducible exact Below.refl _ _) | (with_reducible exact bl_mm) | (with_reducible refine bl_dr ?_) | (with_reducible refine bl_drN ?_ _) | (with_reducible refine bl_al ?_ _) | (with_reducible refine bl_more ?_ _ _))))).mono ?_; rintro e wl ⟨rfl, hbl⟩; obtain ⟨exl, dxl, rfl⟩ := more_of hbl; clear hbl))
    go_ret
    exact ⟨rfl, (by repeat (first | (with_reducible exact Below.refl _ _) | (with_reducible exact bl_mm) | (with_reducible refine bl_dr ?_) | (with_reducible refine bl_drN ?_ _) | (with_reducible refine bl_al ?_ _) | (with_reducible refine bl_more ?_ _ _)))⟩
  | true =>
    have HFW := hid hfw
    clear hfw
    cases hok : okB n l with
    | false =>
      have HOR : Hid (resR n l (fun row => (0, row)) = ((2, []) : Int × List Nat)) := hid (res_bad hok)
      clear hok
      go_enter Tryd.func3, Tryd.ntmps3
      go_wp2_with (first | ((with_reducible refine wp_region_plan (id := 15) (.eff [(false, 0), (false, 1), (false, 2), (false, 3), (false, 4), (false, 5), (false, 6), (false, 7), (false, 8), (false, 9)] 10 [] (.fin [(false, 11), (false, 12), (false, 13), (false, 14), (false, 15), (false, 16), (false, 17), (false, 18), (false, 19), (false, 20), (false, 21), (false, 22), (false, 23), (false, 24), (false, 25), (false, 26), (false, 27), (false, 28), (false, 29), (false, 30)])) ?_ ?_ ?_ ?_ ?_ ?_); kernel_rfl; kernel_rfl; kernel_rfl; kernel_rfl; (intro c a d v w h; cases d <;> exact h)) | ((with_reducible refine wp_region_plan (id := 21) (.eff [(false, 0), (false, 1), (false, 2), (false, 3), (false, 4), (false, 5), (false, 6), (false, 7), (false, 8), (false, 9)] 10 [] (.fin [(false, 11), (false, 12), (false, 13), (false, 14), (false, 15), (false, 16), (false, 17), (false, 18), (false, 19), (false, 20), (false, 21), (false, 22), (false, 23)])) ?_ ?_ ?_ ?_ ?_ ?_); kernel_rfl; kernel_rfl; kernel_rfl; kernel_rfl; (intro c a d v w h; cases d <;> exact h)) | (with_reducible refine wpPlan_eff ?_) | (with_reducible refine wpPlan_fin ?_) | (with_reducible refine wpPlan_two ?_) | (with_reducible refine wpOpPair ?_ ?_) | ((with_reducible apply wpPre_keep); rfl; intro K' hK'; go_simp; refine hK' _ _ ?_; intro f hf; clear hK' K') | ((with_reducible apply wpPre_drop); rfl; intro K' hK'; go_simp; refine hK' _ _ ?_; intro f; clear hK' K') | (with_reducible refine wpPre_nil ?_) | ((with_reducible apply wpOp_list); rfl) | (with_reducible refine heldPair ?_ ?_) | ((with_reducible refine heldH_no ?_ ?_); rfl) | (with_reducible refine heldH_yes ?_ ?_) | (with_reducible exact heldH_nil) | (unfold YAt; go_simp; done) | (go_at_call 7; refine few_any.mono ?_; rintro e w' ⟨rfl, hw'⟩; replace hw' := hw'.symm; subst hw'; rw [HFW.out]) | (go_at_call 9; refine (Order_any (HV.out.below (by repeat (first | (with_reducible exact Below.refl _ _) | (with_reducible exact bl_mm) | (with_reducible refine bl_dr ?_) | (with_reducible refine bl_drN ?_ _) | (with_reducible refine bl_al ?_ _) | (with_reducible refine bl_more ?_ _ _))))).mono ?_; rw [HOR.out]; rintro e w1 ⟨hb1, v1, rfl, hr1⟩; obtain ⟨A1, c1, rfl, _, _⟩ := hr1.form; have HR1 := hid hr1; obtain ⟨ex1, dx1, rfl⟩ := more_of hb1; clear hb1 hr1) | (go_at_call 8; refine (lives_any (HT.out.below (by repeat (first | (with_reducible exact Below.refl _ _) | (with_reducible exact bl_mm) | (with_reducible refine bl_dr ?_) | (with_reducible refine bl_drN ?_ _) | (with_reducible refine bl_al ?_ _) | (with_reducible refine bl_more ?_ _ _))))).mono ?_; rintro e wl ⟨rfl, hbl⟩; obtain ⟨exl, dxl, rfl⟩ := more_of hbl; clear hbl))
      go_ret
      exact ⟨rfl, (by repeat (first | (with_reducible exact Below.refl _ _) | (with_reducible exact bl_mm) | (with_reducible refine bl_dr ?_) | (with_reducible refine bl_drN ?_ _) | (with_reducible refine bl_al ?_ _) | (with_reducible refine bl_more ?_ _ _)))⟩
    | true =>
      cases hor : orderR n.toNat (onAt l) with
      | none =>
        have HOR : Hid (resR n l (fun row => (0, row)) = ((13, []) : Int × List Nat)) := hid (res_cyc hok hor)
        clear hok hor
        go_enter Tryd.func3, Tryd.ntmps3
        go_wp2_with (first | ((with_reducible refine wp_region_plan (id := 15) (.eff [(false, 0), (false, 1), (false, 2), (false, 3), (false, 4), (false, 5), (false, 6), (false, 7), (false, 8), (false, 9)] 10 [] (.fin [(false, 11), (false, 12), (false, 13), (false, 14), (false, 15), (false, 16), (false, 17), (false, 18), (false, 19), (false, 20), (false, 21), (false, 22), (false, 23), (false, 24), (false, 25), (false, 26), (false, 27), (false, 28), (false, 29), (false, 30)])) ?_ ?_ ?_ ?_ ?_ ?_); kernel_rfl; kernel_rfl; kernel_rfl; kernel_rfl; (intro c a d v w h; cases d <;> exact h)) | ((with_reducible refine wp_region_plan (id := 21) (.eff [(false, 0), (false, 1), (false, 2), (false, 3), (false, 4), (false, 5), (false, 6), (false, 7), (false, 8), (false, 9)] 10 [] (.fin [(false, 11), (false, 12), (false, 13), (false, 14), (false, 15), (false, 16), (false, 17), (false, 18), (false, 19), (false, 20), (false, 21), (false, 22), (false, 23)])) ?_ ?_ ?_ ?_ ?_ ?_); kernel_rfl; kernel_rfl; kernel_rfl; kernel_rfl; (intro c a d v w h; cases d <;> exact h)) | (with_reducible refine wpPlan_eff ?_) | (with_reducible refine wpPlan_fin ?_) | (with_reducible refine wpPlan_two ?_) | (with_reducible refine wpOpPair ?_ ?_) | ((with_reducible apply wpPre_keep); rfl; intro K' hK'; go_simp; refine hK' _ _ ?_; intro f hf; clear hK' K') | ((with_reducible apply wpPre_drop); rfl; intro K' hK'; go_simp; refine hK' _ _ ?_; intro f; clear hK' K') | (with_reducible refine wpPre_nil ?_) | ((with_reducible apply wpOp_list); rfl) | (with_reducible refine heldPair ?_ ?_) | ((with_reducible refine heldH_no ?_ ?_); rfl) | (with_reducible refine heldH_yes ?_ ?_) | (with_reducible exact heldH_nil) | (unfold YAt; go_simp; done) | (go_at_call 7; refine few_any.mono ?_; rintro e w' ⟨rfl, hw'⟩; replace hw' := hw'.symm; subst hw'; rw [HFW.out]) | (go_at_call 9; refine (Order_any (HV.out.below (by repeat (first | (with_reducible exact Below.refl _ _) | (with_reducible exact bl_mm) | (with_reducible refine bl_dr ?_) | (with_reducible refine bl_drN ?_ _) | (with_reducible refine bl_al ?_ _) | (with_reducible refine bl_more ?_ _ _))))).mono ?_; rw [HOR.out]; rintro e w1 ⟨hb1, v1, rfl, hr1⟩; obtain ⟨A1, c1, rfl, _, _⟩ := hr1.form; have HR1 := hid hr1; obtain ⟨ex1, dx1, rfl⟩ := more_of hb1; clear hb1 hr1) | (go_at_call 8; refine (lives_any (HT.out.below (by repeat (first | (with_reducible exact Below.refl _ _) | (with_reducible exact bl_mm) | (with_reducible refine bl_dr ?_) | (with_reducible refine bl_drN ?_ _) | (with_reducible refine bl_al ?_ _) | (with_reducible refine bl_more ?_ _ _))))).mono ?_; rintro e wl ⟨rfl, hbl⟩; obtain ⟨exl, dxl, rfl⟩ := more_of hbl; clear hbl))
        go_ret
        exact ⟨rfl, (by repeat (first | (with_reducible exact Below.refl _ _) | (with_reducible exact bl_mm) | (with_reducible refine bl_dr ?_) | (with_reducible refine bl_drN ?_ _) | (with_reducible refine bl_al ?_ _) | (with_reducible refine bl_more ?_ _ _)))⟩
      | some row =>
        have HOR : Hid (resR n l (fun row => (0, row)) = ((0, row) : Int × List Nat)) := hid (res_fine hok hor)
        have HRE : Hid (reachT n l = (0, (List.range n.toNat).map (fun i => nodes (reachF (onAt l) row i)))) := hid (res_fine hok hor)
        have HLE : Hid (levT n l = (0, (List.range n.toNat).map (levF (onAt l) row))) := hid (res_fine hok hor)
        have HFOL := hid (follows_law (fit_of hok) hor)
        have hrl := row_len hor
        obtain ⟨hn0, hn1⟩ := okB_n hok
        obtain ⟨m, rfl⟩ : ∃ m : Nat, n = m := ⟨n.toNat, by omega⟩
        rw [Int.toNat_natCast] at *
        obtain ⟨F, hF⟩ : ∃ F, reachF (onAt l) row = F := ⟨_, rfl⟩
        obtain ⟨L, hL⟩ : ∃ L, levF (onAt l) row = L := ⟨_, rfl⟩
        rw [hF] at HFOL HRE
        rw [hL] at HFOL HLE
        have hm1 : (m : Int) ≤ 64 := by omega
        have HRL := hid hrl
        have e1 : ((row.length : Int) != (m : Int)) = false := by simp [hrl]
        have e2 : ((((List.range m).map (fun i => nodes (F i))).length : Int) != (m : Int)) = false := by simp
        have e3 : ((((List.range m).map L).length : Int) != (m : Int)) = false := by simp
        have e2' : ((List.range m).map (fun i => nodes (F i))).length = m := by simp
        have e3' : ((List.range m).map L).length = m := by simp
        have HM := hid hm1
        clear hok hor hrl hF hL hn0 hn1
        go_enter Tryd.func3, Tryd.ntmps3
        go_wp2_with (first | ((with_reducible refine wp_region_plan (id := 15) (.eff [(false, 0), (false, 1), (false, 2), (false, 3), (false, 4), (false, 5), (false, 6), (false, 7), (false, 8), (false, 9)] 10 [] (.fin [(false, 11), (false, 12), (false, 13), (false, 14), (false, 15), (false, 16), (false, 17), (false, 18), (false, 19), (false, 20), (false, 21), (false, 22), (false, 23), (false, 24), (false, 25), (false, 26), (false, 27), (false, 28), (false, 29), (false, 30)])) ?_ ?_ ?_ ?_ ?_ ?_); kernel_rfl; kernel_rfl; kernel_rfl; kernel_rfl; (intro c a d v w h; cases d <;> exact h)) | ((with_reducible refine wp_region_plan (id := 21) (.eff [(false, 0), (false, 1), (false, 2), (false, 3), (false, 4), (false, 5), (false, 6), (false, 7), (false, 8), (false, 9)] 10 [] (.fin [(false, 11), (false, 12), (false, 13), (false, 14), (false, 15), (false, 16), (false, 17), (false, 18), (false, 19), (false, 20), (false, 21), (false, 22), (false, 23)])) ?_ ?_ ?_ ?_ ?_ ?_); kernel_rfl; kernel_rfl; kernel_rfl; kernel_rfl; (intro c a d v w h; cases d <;> exact h)) | (with_reducible refine wpPlan_eff ?_) | (with_reducible refine wpPlan_fin ?_) | (with_reducible refine wpPlan_two ?_) | (with_reducible refine wpOpPair ?_ ?_) | ((with_reducible apply wpPre_keep); rfl; intro K' hK'; go_simp; refine hK' _ _ ?_; intro f hf; clear hK' K') | ((with_reducible apply wpPre_drop); rfl; intro K' hK'; go_simp; refine hK' _ _ ?_; intro f; clear hK' K') | (with_reducible refine wpPre_nil ?_) | ((with_reducible apply wpOp_list); rfl) | (with_reducible refine heldPair ?_ ?_) | ((with_reducible refine heldH_no ?_ ?_); rfl) | (with_reducible refine heldH_yes ?_ ?_) | (with_reducible exact heldH_nil) | (unfold YAt; go_simp; done) | (go_at_call 7; refine few_any.mono ?_; rintro e w' ⟨rfl, hw'⟩; replace hw' := hw'.symm; subst hw'; rw [HFW.out]) | (go_at_call 9; refine (Order_any (HV.out.below (by repeat (first | (with_reducible exact Below.refl _ _) | (with_reducible exact bl_mm) | (with_reducible refine bl_dr ?_) | (with_reducible refine bl_drN ?_ _) | (with_reducible refine bl_al ?_ _) | (with_reducible refine bl_more ?_ _ _))))).mono ?_; rw [HOR.out]; rintro e w1 ⟨hb1, v1, rfl, hr1⟩; obtain ⟨A1, c1, rfl, _, _⟩ := hr1.form; have HR1 := hid hr1; obtain ⟨ex1, dx1, rfl⟩ := more_of hb1; clear hb1 hr1) | (go_at_call 10; refine (Reach_any (HT.out.below (by repeat (first | (with_reducible exact Below.refl _ _) | (with_reducible exact bl_mm) | (with_reducible refine bl_dr ?_) | (with_reducible refine bl_drN ?_ _) | (with_reducible refine bl_al ?_ _) | (with_reducible refine bl_more ?_ _ _)))) (HV.out.below (by repeat (first | (with_reducible exact Below.refl _ _) | (with_reducible exact bl_mm) | (with_reducible refine bl_dr ?_) | (with_reducible refine bl_drN ?_ _) | (with_reducible refine bl_al ?_ _) | (with_reducible refine bl_more ?_ _ _))))).mono ?_; rw [HRE.out]; rintro e w2 ⟨hb2, v2, rfl, hr2⟩; obtain ⟨A2, c2, rfl, _, _⟩ := hr2.form; have HR2 := hid hr2; obtain ⟨ex2, dx2, rfl⟩ := more_of hb2; clear hb2 hr2) | (go_at_call 11; refine (Levels_any (HT.out.below (by repeat (first | (with_reducible exact Below.refl _ _) | (with_reducible exact bl_mm) | (with_reducible refine bl_dr ?_) | (with_reducible refine bl_drN ?_ _) | (with_reducible refine bl_al ?_ _) | (with_reducible refine bl_more ?_ _ _)))) (HV.out.below (by repeat (first | (with_reducible exact Below.refl _ _) | (with_reducible exact bl_mm) | (with_reducible refine bl_dr ?_) | (with_reducible refine bl_drN ?_ _) | (with_reducible refine bl_al ?_ _) | (with_reducible refine bl_more ?_ _ _))))).mono ?_; rw [HLE.out]; rintro e w3 ⟨hb3, v3, rfl, hr3⟩; obtain ⟨A3, c3, rfl, _, _⟩ := hr3.form; have HR3 := hid hr3; have HQ1 := hid ((HR1.out.below (by repeat (first | (with_reducible exact Below.refl _ _) | (with_reducible exact bl_mm) | (with_reducible refine bl_dr ?_) | (with_reducible refine bl_drN ?_ _) | (with_reducible refine bl_al ?_ _) | (with_reducible refine bl_more ?_ _ _)))).below hb3); have HQ2 := hid ((HR2.out.below (by repeat (first | (with_reducible exact Below.refl _ _) | (with_reducible exact bl_mm) | (with_reducible refine bl_dr ?_) | (with_reducible refine bl_drN ?_ _) | (with_reducible refine bl_al ?_ _) | (with_reducible refine bl_more ?_ _ _)))).below hb3); have HB3 := hid (bl_on (w := w) (by repeat (first | (with_reducible exact Below.refl _ _) | (with_reducible exact bl_mm) | (with_reducible refine bl_dr ?_) | (with_reducible refine bl_drN ?_ _) | (with_reducible refine bl_al ?_ _) | (with_reducible refine bl_more ?_ _ _))) hb3); clear hb3 hr3))
        go_loopg [11, 12] row.length (fun k vo vi wr => ∃ (j g : Nat), j + k = row.length ∧ vi = .int .i64 (j : Int) ∧ Nums natE 3 w3.heap.size w3 wr g vo (row.take j))
        case atStart => exact ⟨0, w3.heap.size, by omega, rfl, Nums.start w3⟩
        case round =>
          obtain ⟨j, g, hk, rfl, hnu⟩ := hrel
          have HK := hid hk
          have hjl0 : j ≤ row.length := by omega
          have htl := take_len hjl0
          obtain ⟨A5, c5, rfl, hf1, hf2⟩ := hnu.sp.form
          rw [htl] at hnu
          rw [htl]
          have HTL := hid htl
          have HNU := hid hnu
          have HJL := hid hjl0
          by_cases hj : j < row.length
          · obtain ⟨r, hr⟩ := get_lt hj
            obtain ⟨f1, f2, f3, f4⟩ := HFOL.out j r hr
            obtain ⟨b1, o1, rfl, _, hbl1, x1⟩ := row_nat (HQ1.out.below hnu.low) hr
            have hLr : ((List.range m).map L)[r]? = some (L r) := by rw [List.getElem?_map, List.getElem?_range f1]; rfl
            have hFr : ((List.range m).map (fun i => nodes (F i)))[r]? = some (nodes (F r)) := by rw [List.getElem?_map, List.getElem?_range f1]; rfl
            have hq2 := HQ2.out.below hnu.low
            have hq3 := HR3.out.below hnu.low
            rw [e2'] at hq2
            rw [e3'] at hq3
            obtain ⟨b2, o2, rfl, _, hbl2, x2⟩ := row_nat hq3 hLr
            obtain ⟨b3, o3, A6, c6, rfl, hbl3, x3, hx3⟩ := row_nats hq2 hFr
            have HX3 := hid hx3
            have HQ3 := hid hq3
            have hnl := nodes_len (F r)
            have hj0 : (0 : Int) ≤ j := by omega
            have hj1 : (j : Int) < row.length := by omega
            have hj64 : (j : Int) ≤ 64 := by have := HRL.out; omega
            have r0 : (0 : Int) ≤ r := by omega
            have r1 : (r : Int) < m := by omega
            have r2 : ¬ (r : Int) < 0 := by omega
            have r3 : ¬ (m : Int) ≤ r := by omega
            have l0 : ¬ (L r : Int) < 0 := by omega
            have l1 : ¬ ((nodes (F r)).length : Int) < (L r : Int) := by omega
            have l2 : decide ((nodes (F r)).length < L r) = false := decide_eq_false (by omega)
            have l3 : decide ((L r : Int) < 0) = false := decide_eq_false (by omega)
            have HI1 : Hid (hasR (row.take j) r = false) := hid (decide_eq_false f2)
            have HF4 := hid f4
            have HR := hid hr
            have HJ := hid hj
            have N1 := hid trivial
            have hnl1 : ((nodes (F r)).length : Int) ≤ 64 := by omega
            clear hk hnu hr hj hf1 hf2 hjl0 htl f1 f2 f3 f4 hLr hFr hq2 hq3 hx3 hnl
            go_wp2_with (first | ((with_reducible refine wp_region_plan (id := 15) (.eff [(false, 0), (false, 1), (false, 2), (false, 3), (false, 4), (false, 5), (false, 6), (false, 7), (false, 8), (false, 9)] 10 [] (.fin [(false, 11), (false, 12), (false, 13), (false, 14), (false, 15), (false, 16), (false, 17), (false, 18), (false, 19), (false, 20), (false, 21), (false, 22), (false, 23), (false, 24), (false, 25), (false, 26), (false, 27), (false, 28), (false, 29), (false, 30)])) ?_ ?_ ?_ ?_ ?_ ?_); kernel_rfl; kernel_rfl; kernel_rfl; kernel_rfl; (intro c a d v w h; cases d <;> exact h)) | ((with_reducible refine wp_region_plan (id := 21) (.eff [(false, 0), (false, 1), (false, 2), (false, 3), (false, 4), (false, 5), (false, 6), (false, 7), (false, 8), (false, 9)] 10 [] (.fin [(false, 11), (false, 12), (false, 13), (false, 14), (false, 15), (false, 16), (false, 17), (false, 18), (false, 19), (false, 20), (false, 21), (false, 22), (false, 23)])) ?_ ?_ ?_ ?_ ?_ ?_); kernel_rfl; kernel_rfl; kernel_rfl; kernel_rfl; (intro c a d v w h; cases d <;> exact h)) | (with_reducible refine wpPlan_eff ?_) | (with_reducible refine wpPlan_fin ?_) | (with_reducible refine wpPlan_two ?_) | (with_reducible refine wpOpPair ?_ ?_) | ((with_reducible apply wpPre_keep); rfl; intro K' hK'; go_simp; refine hK' _ _ ?_; intro f hf; clear hK' K') | ((with_reducible apply wpPre_drop); rfl; intro K' hK'; go_simp; refine hK' _ _ ?_; intro f; clear hK' K') | (with_reducible refine wpPre_nil ?_) | ((with_reducible apply wpOp_list); rfl) | (with_reducible refine heldPair ?_ ?_) | ((with_reducible refine heldH_no ?_ ?_); rfl) | (with_reducible refine heldH_yes ?_ ?_) | (with_reducible exact heldH_nil) | (unfold YAt; go_simp; done) | (go_at_call 12; clear N1; refine (in_any (x := r) (HNU.out.below (by repeat (first | (with_reducible exact Below.refl _ _) | (with_reducible exact bl_mm) | (with_reducible refine bl_dr ?_) | (with_reducible refine bl_drN ?_ _) | (with_reducible refine bl_al ?_ _) | (with_reducible refine bl_more ?_ _ _)))).row (by rw [HTL.out]; have := HM.out; have := HRL.out; have := HJL.out; omega)).mono ?_; rw [HI1.out]; rintro e w5 ⟨rfl, rfl⟩))
            go_loopg [14] (nodes (F r)).length (fun k vi w5 => ∃ q : Nat, q + k = (nodes (F r)).length ∧ vi = .int .i64 (q : Int) ∧ Nums natE 3 w3.heap.size w3 w5 g (.slice A5 j c5) (row.take j))
            case atStart => exact ⟨0, by omega, rfl, HNU.out.below (by repeat (first | (with_reducible exact Below.refl _ _) | (with_reducible exact bl_mm) | (with_reducible refine bl_dr ?_) | (with_reducible refine bl_drN ?_ _) | (with_reducible refine bl_al ?_ _) | (with_reducible refine bl_more ?_ _ _)))⟩
            case round =>
              obtain ⟨q, hq, rfl, hnw⟩ := hrel
              have HKQ := hid hq
              have HNW := hid hnw
              have hLr : ((List.range m).map L)[r]? = some (L r) := by rw [List.getElem?_map, List.getElem?_range (by omega)]; rfl
              have hFr : ((List.range m).map (fun i => nodes (F i)))[r]? = some (nodes (F r)) := by rw [List.getElem?_map, List.getElem?_range (by omega)]; rfl
              have hq2 := HQ2.out.below hnw.low
              have hq3 := HR3.out.below hnw.low
              rw [e2'] at hq2
              rw [e3'] at hq3
              obtain ⟨b2', o2', he2', _, hbl2', x2'⟩ := row_nat hq3 hLr
              cases he2'
              obtain ⟨b3', o3', A6', c6', he3', hbl3', x3', hx3'⟩ := row_nats hq2 hFr
              cases he3'
              by_cases hql : q < (nodes (F r)).length
              · obtain ⟨xq, hxq⟩ := get_lt hql
                obtain ⟨b6, o6, rfl, _, hbl6, x6⟩ := row_nat hx3' hxq
                obtain ⟨g1, g2, g3⟩ := HF4.out xq (List.mem_of_getElem? hxq)
                have hLx : ((List.range m).map L)[xq]? = some (L xq) := by rw [List.getElem?_map, List.getElem?_range g1]; rfl
                obtain ⟨b7, o7, he7, _, hbl7, x7⟩ := row_nat hq3 hLx
                cases he7
                have q0 : (0 : Int) ≤ q := by omega
                have q1 : (q : Int) < (nodes (F r)).length := by omega
                have y0 : (0 : Int) ≤ xq := by omega
                have y1 : (xq : Int) < m := by omega
                have y2 : ¬ (xq : Int) < 0 := by omega
                have y3 : ¬ (m : Int) ≤ xq := by omega
                have y4 : ¬ (L r : Int) ≤ (L xq : Int) := by omega
                have y5 : decide (L r ≤ L xq) = false := decide_eq_false (by omega)
                have HI2 : Hid (hasR (row.take j) xq = true) := hid (decide_eq_true g2)
                have HQX := hid hxq
                clear hq hnw hLr hFr hq2 hq3 hx3' hql hxq hLx g1 g2 g3
                go_wp2_with (first | ((with_reducible refine wp_region_plan (id := 15) (.eff [(false, 0), (false, 1), (false, 2), (false, 3), (false, 4), (false, 5), (false, 6), (false, 7), (false, 8), (false, 9)] 10 [] (.fin [(false, 11), (false, 12), (false, 13), (false, 14), (false, 15), (false, 16), (false, 17), (false, 18), (false, 19), (false, 20), (false, 21), (false, 22), (false, 23), (false, 24), (false, 25), (false, 26), (false, 27), (false, 28), (false, 29), (false, 30)])) ?_ ?_ ?_ ?_ ?_ ?_); kernel_rfl; kernel_rfl; kernel_rfl; kernel_rfl; (intro c a d v w h; cases d <;> exact h)) | ((with_reducible refine wp_region_plan (id := 21) (.eff [(false, 0), (false, 1), (false, 2), (false, 3), (false, 4), (false, 5), (false, 6), (false, 7), (false, 8), (false, 9)] 10 [] (.fin [(false, 11), (false, 12), (false, 13), (false, 14), (false, 15), (false, 16), (false, 17), (false, 18), (false, 19), (false, 20), (false, 21), (false, 22), (false, 23)])) ?_ ?_ ?_ ?_ ?_ ?_); kernel_rfl; kernel_rfl; kernel_rfl; kernel_rfl; (intro c a d v w h; cases d <;> exact h)) | (with_reducible refine wpPlan_eff ?_) | (with_reducible refine wpPlan_fin ?_) | (with_reducible refine wpPlan_two ?_) | (with_reducible refine wpOpPair ?_ ?_) | ((with_reducible apply wpPre_keep); rfl; intro K' hK'; go_simp; refine hK' _ _ ?_; intro f hf; clear hK' K') | ((with_reducible apply wpPre_drop); rfl; intro K' hK'; go_simp; refine hK' _ _ ?_; intro f; clear hK' K') | (with_reducible refine wpPre_nil ?_) | ((with_reducible apply wpOp_list); rfl) | (with_reducible refine heldPair ?_ ?_) | ((with_reducible refine heldH_no ?_ ?_); rfl) | (with_reducible refine heldH_yes ?_ ?_) | (with_reducible exact heldH_nil) | (unfold YAt; go_simp; done) | (go_at_call 12; refine (in_any (x := xq) (HNW.out.below (by repeat (first | (with_reducible exact Below.refl _ _) | (with_reducible exact bl_mm) | (with_reducible refine bl_dr ?_) | (with_reducible refine bl_drN ?_ _) | (with_reducible refine bl_al ?_ _) | (with_reducible refine bl_more ?_ _ _)))).row (by rw [HTL.out]; have := HM.out; have := HRL.out; have := HJL.out; omega)).mono ?_; rw [HI2.out]; rintro e w5 ⟨rfl, rfl⟩))
                go_roundg ((nodes (F r)).length - (q + 1))
                case measure => have := HKQ.out; have := get_len HQX.out; omega
                case rel => exact ⟨q + 1, by have := HKQ.out; have := get_len HQX.out; omega, rfl, HNW.out.below (by repeat (first | (with_reducible exact Below.refl _ _) | (with_reducible exact bl_mm) | (with_reducible refine bl_dr ?_) | (with_reducible refine bl_drN ?_ _) | (with_reducible refine bl_al ?_ _) | (with_reducible refine bl_more ?_ _ _)))⟩
              · have q1 : ¬ (q : Int) < (nodes (F r)).length := by omega
                have HLEN : Hid ((row.take j).length + [r].length ≤ 4294967296) := hid (by rw [HTL.out]; have := HRL.out; simp; omega)
                have HLQ : Hid ((row.take j ++ [r]).length = j + 1) := hid (by simp [HTL.out])
                clear hq hnw hLr hFr hq2 hq3 hx3' hql
                go_wp2_with (first | ((with_reducible refine wp_region_plan (id := 15) (.eff [(false, 0), (false, 1), (false, 2), (false, 3), (false, 4), (false, 5), (false, 6), (false, 7), (false, 8), (false, 9)] 10 [] (.fin [(false, 11), (false, 12), (false, 13), (false, 14), (false, 15), (false, 16), (false, 17), (false, 18), (false, 19), (false, 20), (false, 21), (false, 22), (false, 23), (false, 24), (false, 25), (false, 26), (false, 27), (false, 28), (false, 29), (false, 30)])) ?_ ?_ ?_ ?_ ?_ ?_); kernel_rfl; kernel_rfl; kernel_rfl; kernel_rfl; (intro c a d v w h; cases d <;> exact h)) | ((with_reducible refine wp_region_plan (id := 21) (.eff [(false, 0), (false, 1), (false, 2), (false, 3), (false, 4), (false, 5), (false, 6), (false, 7), (false, 8), (false, 9)] 10 [] (.fin [(false, 11), (false, 12), (false, 13), (false, 14), (false, 15), (false, 16), (false, 17), (false, 18), (false, 19), (false, 20), (false, 21), (false, 22), (false, 23)])) ?_ ?_ ?_ ?_ ?_ ?_); kernel_rfl; kernel_rfl; kernel_rfl; kernel_rfl; (intro c a d v w h; cases d <;> exact h)) | (with_reducible refine wpPlan_eff ?_) | (with_reducible refine wpPlan_fin ?_) | (with_reducible refine wpPlan_two ?_) | (with_reducible refine wpOpPair ?_ ?_) | ((with_reducible apply wpPre_keep); rfl; intro K' hK'; go_simp; refine hK' _ _ ?_; intro f hf; clear hK' K') | ((with_reducible apply wpPre_drop); rfl; intro K' hK'; go_simp; refine hK' _ _ ?_; intro f; clear hK' K') | (with_reducible refine wpPre_nil ?_) | ((with_reducible apply wpOp_list); rfl) | (with_reducible refine heldPair ?_ ?_) | ((with_reducible refine heldH_no ?_ ?_); rfl) | (with_reducible refine heldH_yes ?_ ?_) | (with_reducible exact heldH_nil) | (unfold YAt; go_simp; done) | (at_builtin; refine wpList_app ok25 (ys := [r]) (by rfl) (.tmp 151) (.tmp 153) (by rfl) (by rfl) (by rfl) (by rfl) (HNW.out.below (by repeat (first | (with_reducible exact Below.refl _ _) | (with_reducible exact bl_mm) | (with_reducible refine bl_dr ?_) | (with_reducible refine bl_drN ?_ _) | (with_reducible refine bl_al ?_ _) | (with_reducible refine bl_more ?_ _ _)))).sp (Enc.Src.one_blk (cs := [.int .i64 (r : Int)]) (alloc_blk (by simp [more_size])) rfl) (fun _ h _ => h.elim) HLEN.out ?_; intro v2 w2 g2 hs2 he2 hg2; obtain ⟨A2', c2', hv2, _, _⟩ := hs2.form; rw [HLQ.out] at hv2; subst hv2; have HS2 := hid hs2; have HE2 := hid he2; have HG2 := hid hg2; clear hs2 hg2 he2))
                go_roundg (row.length - (j + 1))
                case measure => have := HK.out; have := HJ.out; omega
                case rel =>
                  have h := ((HNW.out.below (by repeat (first | (with_reducible exact Below.refl _ _) | (with_reducible exact bl_mm) | (with_reducible refine bl_dr ?_) | (with_reducible refine bl_drN ?_ _) | (with_reducible refine bl_al ?_ _) | (with_reducible refine bl_more ?_ _ _)))).grown HS2.out (fun _ h => h.1.elim) HE2.out HG2.out)
                  exact ⟨j + 1, g2, by have := HK.out; have := HJ.out; omega, rfl, by rw [take_next HR.out]; exact h.below (by repeat (first | (with_reducible exact Below.refl _ _) | (with_reducible exact bl_mm) | (with_reducible refine bl_dr ?_) | (with_reducible refine bl_drN ?_ _) | (with_reducible refine bl_al ?_ _) | (with_reducible refine bl_more ?_ _ _)))⟩
          · have hj1 : ¬ (j : Int) < row.length := by omega
            have HJ := hid hj
            clear hk hnu hj hf1 hf2 hjl0 htl
            go_wp2_with (first | ((with_reducible refine wp_region_plan (id := 15) (.eff [(false, 0), (false, 1), (false, 2), (false, 3), (false, 4), (false, 5), (false, 6), (false, 7), (false, 8), (false, 9)] 10 [] (.fin [(false, 11), (false, 12), (false, 13), (false, 14), (false, 15), (false, 16), (false, 17), (false, 18), (false, 19), (false, 20), (false, 21), (false, 22), (false, 23), (false, 24), (false, 25), (false, 26), (false, 27), (false, 28), (false, 29), (false, 30)])) ?_ ?_ ?_ ?_ ?_ ?_); kernel_rfl; kernel_rfl; kernel_rfl; kernel_rfl; (intro c a d v w h; cases d <;> exact h)) | ((with_reducible refine wp_region_plan (id := 21) (.eff [(false, 0), (false, 1), (false, 2), (false, 3), (false, 4), (false, 5), (false, 6), (false, 7), (false, 8), (false, 9)] 10 [] (.fin [(false, 11), (false, 12), (false, 13), (false, 14), (false, 15), (false, 16), (false, 17), (false, 18), (false, 19), (false, 20), (false, 21), (false, 22), (false, 23)])) ?_ ?_ ?_ ?_ ?_ ?_); kernel_rfl; kernel_rfl; kernel_rfl; kernel_rfl; (intro c a d v w h; cases d <;> exact h)) | (with_reducible refine wpPlan_eff ?_) | (with_reducible refine wpPlan_fin ?_) | (with_reducible refine wpPlan_two ?_) | (with_reducible refine wpOpPair ?_ ?_) | ((with_reducible apply wpPre_keep); rfl; intro K' hK'; go_simp; refine hK' _ _ ?_; intro f hf; clear hK' K') | ((with_reducible apply wpPre_drop); rfl; intro K' hK'; go_simp; refine hK' _ _ ?_; intro f; clear hK' K') | (with_reducible refine wpPre_nil ?_) | ((with_reducible apply wpOp_list); rfl) | (with_reducible refine heldPair ?_ ?_) | ((with_reducible refine heldH_no ?_ ?_); rfl) | (with_reducible refine heldH_yes ?_ ?_) | (with_reducible exact heldH_nil) | (unfold YAt; go_simp; done) | (go_at_call 8; refine (lives_any (HT.out.below (bl_on HB3.out (bl_on HNU.out.low (by repeat (first | (with_reducible exact Below.refl _ _) | (with_reducible exact bl_mm) | (with_reducible refine bl_dr ?_) | (with_reducible refine bl_drN ?_ _) | (with_reducible refine bl_al ?_ _) | (with_reducible refine bl_more ?_ _ _))))))).mono ?_; rintro e wl ⟨rfl, hbl⟩; obtain ⟨exl, dxl, rfl⟩ := more_of hbl; clear hbl))
            go_ret
            exact ⟨rfl, bl_on HB3.out (bl_on HNU.out.low (by repeat (first | (with_reducible exact Below.refl _ _) | (with_reducible exact bl_mm) | (with_reducible refine bl_dr ?_) | (with_reducible refine bl_drN ?_ _) | (with_reducible refine bl_al ?_ _) | (with_reducible refine bl_more ?_ _ _))))⟩
end Go.Proofs.YtomhpbhkckjmdaaDoorRR
