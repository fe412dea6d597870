/- DagTurns. -/
import Derived.Test.YtomhpbhkckjmdaaDoorRRDgU
namespace Go.Proofs.YtomhpbhkckjmdaaDoorRR
open Go.RowKit

theorem okB_turn (n : Int) (l : Arcs) : okB n (turnR l) = okB n l := by
  unfold okB turnR
  rw [Bool.eq_iff_iff]
  simp only [decide_eq_true_eq, List.length_map, List.mem_map, forall_exists_index, and_imp, forall_apply_eq_imp_iff₂]
  constructor
  · rintro ⟨h1, h2, h3, h4⟩
    exact ⟨h1, h2, h3, fun a ha => by have := h4 a ha; exact ⟨this.2.2.1, this.2.2.2, this.1, this.2.1⟩⟩
  · rintro ⟨h1, h2, h3, h4⟩
    exact ⟨h1, h2, h3, fun a ha => by have := h4 a ha; exact ⟨this.2.2.1, this.2.2.2, this.1, this.2.1⟩⟩
theorem turn_turn (l : Arcs) : turnR (turnR l) = l := by
  unfold turnR
  rw [List.map_map]
  have : ((fun a : Int × Int => (a.2, a.1)) ∘ fun a : Int × Int => (a.2, a.1)) = id := by funext a; rfl
  rw [this, List.map_id]
theorem turn_lean {n : Int} {l : Arcs} (h : okB n l = true) (i k : Nat) : Lean_ (onAt (turnR l)) k i ↔ Lean_ (onAt l) i k := by
  have hk := (of_decide_eq_true h).2.2.2
  unfold Lean_
  rw [on_bit, on_bit]
  unfold turnR
  constructor
  · rintro ⟨a, ha, h1, h2⟩
    obtain ⟨b, hb, rfl⟩ := List.mem_map.1 ha
    have := hk b hb
    have h3 : b.1 = (i : Int) := h1
    have h4 : b.2.toNat = k := h2
    have h5 := this.2.2.1
    exact ⟨b, hb, by omega, by omega⟩
  · rintro ⟨b, hb, h1, h2⟩
    have := hk b hb
    have h5 := this.1
    exact ⟨(b.2, b.1), List.mem_map.2 ⟨b, hb, rfl⟩, by show b.1 = (i : Int); omega, by show b.2.toNat = k; omega⟩
theorem lean_lt {n : Int} {l : Arcs} (h : okB n l = true) {i k : Nat} (hl : Lean_ (onAt l) k i) : i < n.toNat := by
  obtain ⟨a, ha, h1, h2⟩ := (on_bit l i k).1 hl
  have := (of_decide_eq_true h).2.2.2 a ha
  have h3 := this.2.2.2
  omega
theorem chain_lt {n : Int} {l : Arcs} (h : okB n l = true) {a b : Nat} (hc : Chain (Lean_ (onAt l)) a b) : b < n.toNat := by
  cases hc with
  | one h1 => exact lean_lt h h1
  | more _ h1 => exact lean_lt h h1
theorem acyclic_of {n : Int} {l : Arcs} {row : List Nat} (h : okB n l = true) (ho : orderR n.toNat (onAt l) = some row) : ∀ i, ¬ Chain (Lean_ (onAt l)) i i := by
  intro i hc
  have ht := order_topo (fit_of h).lt ho
  obtain ⟨p, hp⟩ := row_at (row_lt ho) ht.nd (row_len ho) (chain_lt h hc)
  obtain ⟨q, h1, h2⟩ := chain_pos ht hc p hp
  have := nd_pos ht.nd hp h2
  omega
theorem turn_order {n : Int} {l : Arcs} {row : List Nat} (h : okB n l = true) (ho : orderR n.toNat (onAt l) = some row) : ∃ row', orderR n.toNat (onAt (turnR l)) = some row' := by
  have h' : okB n (turnR l) = true := by rw [okB_turn]; exact h
  exact order_iff (fit_of h') (fun i hc => acyclic_of h ho i (hc.flip (fun a b hab => (turn_lean h b a).1 hab)))
theorem turn_none {n : Int} {l : Arcs} (h : okB n l = true) (ho : orderR n.toNat (onAt l) = none) : orderR n.toNat (onAt (turnR l)) = none := by
  cases hx : orderR n.toNat (onAt (turnR l)) with
  | none => rfl
  | some row =>
    have h' : okB n (turnR l) = true := by rw [okB_turn]; exact h
    obtain ⟨r, hr⟩ := turn_order h' hx
    rw [turn_turn, ho] at hr
    cases hr
theorem turn_has {n : Int} {l : Arcs} {row row' : List Nat} (h : okB n l = true) (ho : orderR n.toNat (onAt l) = some row) (ho' : orderR n.toNat (onAt (turnR l)) = some row') {i k : Nat} (hi : i < n.toNat) (hk : k < n.toNat) :
    hasR (nodes (reachF (onAt l) row i)) k = hasR (nodes (reachF (onAt (turnR l)) row' k)) i := by
  have h' : okB n (turnR l) = true := by rw [okB_turn]; exact h
  have ht := order_topo (fit_of h).lt ho
  have ht' := order_topo (fit_of h').lt ho'
  obtain ⟨p, hp⟩ := row_at (row_lt ho) ht.nd (row_len ho) hi
  obtain ⟨q, hq⟩ := row_at (row_lt ho') ht'.nd (row_len ho') hk
  unfold hasR
  rw [Bool.eq_iff_iff, decide_eq_true_iff, decide_eq_true_iff, mem_nodes, mem_nodes, reach_chain (fit_of h) ht p i hp, reach_chain (fit_of h') ht' q k hq]
  have hn := (okB_n h).2
  constructor
  · rintro ⟨_, hc⟩
    exact ⟨by omega, hc.flip (fun a b hab => (turn_lean h a b).2 hab)⟩
  · rintro ⟨_, hc⟩
    exact ⟨by omega, hc.flip (fun a b hab => (turn_lean h b a).1 hab)⟩
theorem turns_law (n : Int) (l : Arcs) : ∃ (c : Int) (m : Nat) (F F' : Nat → Nat), reachT n l = (c, (List.range m).map (fun i => nodes (F i))) ∧ reachT n (turnR l) = (c, (List.range m).map (fun i => nodes (F' i))) ∧ m ≤ 64 ∧ ∀ i k, i < m → k < m → hasR (nodes (F i)) k = hasR (nodes (F' k)) i := by
  cases hok : okB n l with
  | false => exact ⟨2, 0, fun _ => 0, fun _ => 0, res_bad hok, res_bad (by rw [okB_turn]; exact hok), by omega, fun i k h => by omega⟩
  | true =>
    have hok' : okB n (turnR l) = true := by rw [okB_turn]; exact hok
    cases hor : orderR n.toNat (onAt l) with
    | none => exact ⟨13, 0, fun _ => 0, fun _ => 0, res_cyc hok hor, res_cyc hok' (turn_none hok hor), by omega, fun i k h => by omega⟩
    | some row =>
      obtain ⟨row', hr'⟩ := turn_order hok hor
      exact ⟨0, n.toNat, _, _, res_fine hok hor, res_fine hok' hr', (okB_n hok).2, fun i k hi hk => turn_has hok hor hr' hi hk⟩
theorem few_len {l : Arcs} (h : fewB l = true) : l.length ≤ 100000 := by
  unfold fewB at h
  simp at h
  omega
set_option maxRecDepth 8000 in
set_option maxHeartbeats 16000000 in
theorem turns_any {w : World} {K : Nat → Prop} {n : Int} {v : Value} {l : Arcs} (hT : Tab w) (hv : arcE.Row K w v l) : Calls Tryd.prog 6 #[.int .i64 n, v] w fun e w' => e = .returned (.bool true) ∧ Below w.heap.size w w' := by
  obtain ⟨A, cp, rfl, _, _⟩ := hv.form
  have HT := hid hT
  have HV := hid hv
  clear hT hv
  cases hfw : fewB l with
  | false =>
    have HFW := hid hfw
    clear hfw
    go_enter Tryd.func6, Tryd.ntmps6
    go_wp2_with (first | ((with_reducible refine wp_region_plan (id := 13) (.eff [(false, 0), (false, 1), (false, 2), (false, 3), (false, 4), (true, 6), (true, 7), (true, 8), (true, 9), (true, 10)] 5 [6, 7, 8, 9, 10] (.eff [] 11 [] (.fin [(false, 12)]))) ?_ ?_ ?_ ?_ ?_ ?_); kernel_rfl; kernel_rfl; kernel_rfl; kernel_rfl; (intro c a d v w h; cases d <;> exact h)) | (with_reducible refine wpPlan_eff ?_) | (with_reducible refine wpPlan_fin ?_) | (with_reducible refine wpPlan_two ?_) | (with_reducible refine wpOpPair ?_ ?_) | ((with_reducible apply wpPre_keep); rfl; intro K' hK'; go_simp; refine hK' _ _ ?_; intro f hf; clear hK' K') | ((with_reducible apply wpPre_drop); rfl; intro K' hK'; go_simp; refine hK' _ _ ?_; intro f; clear hK' K') | (with_reducible refine wpPre_nil ?_) | ((with_reducible apply wpOp_list); rfl) | (with_reducible refine heldPair ?_ ?_) | ((with_reducible refine heldH_no ?_ ?_); rfl) | (with_reducible refine heldH_yes ?_ ?_) | (with_reducible exact heldH_nil) | (unfold YAt; go_simp; done) | (go_at_call 7; refine few_any.mono ?_; rintro e w' ⟨rfl, hw'⟩; replace hw' := hw'.symm; subst hw'; rw [HFW.out]) | (go_at_call 8; refine (lives_any (HT.out.below (by repeat (first | (with_reducible exact Below.refl _ _) | (with_reducible exact bl_mm) | (with_reducible refine bl_dr ?_) | (with_reducible refine bl_drN ?_ _) | (with_reducible refine bl_al ?_ _) | (with_reducible refine bl_more ?_ _ _))))).mono ?_; rintro e wl ⟨rfl, hbl⟩; obtain ⟨exl, dxl, rfl⟩ := more_of hbl; clear hbl))
    go_ret
    exact ⟨rfl, (by repeat (first | (with_reducible exact Below.refl _ _) | (with_reducible exact bl_mm) | (with_reducible refine bl_dr ?_) | (with_reducible refine bl_drN ?_ _) | (with_reducible refine bl_al ?_ _) | (with_reducible refine bl_more ?_ _ _)))⟩
  | true =>
    have HLL := hid (few_len hfw)
    have HLT : Hid ((turnR l).length ≤ 100000) := hid (by unfold turnR; rw [List.length_map]; exact HLL.out)
    have HFW := hid hfw
    have M1 := hid trivial
    have M2 := hid trivial
    have M3 := hid trivial
    clear hfw
    obtain ⟨c, m, F, F', hre, hre2, hm, hsame⟩ := turns_law n l
    have HRE := hid hre
    have HRE2 := hid hre2
    have HSM := hid hsame
    have hm1 : (m : Int) ≤ 64 := by omega
    have hl1 : ((List.range m).map (fun i => nodes (F i))).length = m := by simp
    have hl2 : ((List.range m).map (fun i => nodes (F' i))).length = m := by simp
    clear hre hre2 hsame hm
    go_enter Tryd.func6, Tryd.ntmps6
    go_wp2_with (first | ((with_reducible refine wp_region_plan (id := 13) (.eff [(false, 0), (false, 1), (false, 2), (false, 3), (false, 4), (true, 6), (true, 7), (true, 8), (true, 9), (true, 10)] 5 [6, 7, 8, 9, 10] (.eff [] 11 [] (.fin [(false, 12)]))) ?_ ?_ ?_ ?_ ?_ ?_); kernel_rfl; kernel_rfl; kernel_rfl; kernel_rfl; (intro c a d v w h; cases d <;> exact h)) | (with_reducible refine wpPlan_eff ?_) | (with_reducible refine wpPlan_fin ?_) | (with_reducible refine wpPlan_two ?_) | (with_reducible refine wpOpPair ?_ ?_) | ((with_reducible apply wpPre_keep); rfl; intro K' hK'; go_simp; refine hK' _ _ ?_; intro f hf; clear hK' K') | ((with_reducible apply wpPre_drop); rfl; intro K' hK'; go_simp; refine hK' _ _ ?_; intro f; clear hK' K') | (with_reducible refine wpPre_nil ?_) | ((with_reducible apply wpOp_list); rfl) | (with_reducible refine heldPair ?_ ?_) | ((with_reducible refine heldH_no ?_ ?_); rfl) | (with_reducible refine heldH_yes ?_ ?_) | (with_reducible exact heldH_nil) | (unfold YAt; go_simp; done) | (go_at_call 7; refine few_any.mono ?_; rintro e w' ⟨rfl, hw'⟩; replace hw' := hw'.symm; subst hw'; rw [HFW.out]) | (go_at_call 10; clear M1; refine (Reach_any (HT.out.below (by repeat (first | (with_reducible exact Below.refl _ _) | (with_reducible exact bl_mm) | (with_reducible refine bl_dr ?_) | (with_reducible refine bl_drN ?_ _) | (with_reducible refine bl_al ?_ _) | (with_reducible refine bl_more ?_ _ _)))) (HV.out.below (by repeat (first | (with_reducible exact Below.refl _ _) | (with_reducible exact bl_mm) | (with_reducible refine bl_dr ?_) | (with_reducible refine bl_drN ?_ _) | (with_reducible refine bl_al ?_ _) | (with_reducible refine bl_more ?_ _ _))))).mono ?_; rw [HRE.out]; rintro e w2 ⟨hb2, v2, rfl, hr2⟩; obtain ⟨A2, c2, rfl, _, _⟩ := hr2.form; have HR2 := hid hr2; obtain ⟨ex2, dx2, rfl⟩ := more_of hb2; clear hb2 hr2) | (go_at_call 18; clear M2; refine (turn_any (HV.out.below (by repeat (first | (with_reducible exact Below.refl _ _) | (with_reducible exact bl_mm) | (with_reducible refine bl_dr ?_) | (with_reducible refine bl_drN ?_ _) | (with_reducible refine bl_al ?_ _) | (with_reducible refine bl_more ?_ _ _)))) HLL.out).mono ?_; rintro e w3 ⟨v3, g3, rfl, hn3⟩; obtain ⟨A3, c3, rfl, _, _⟩ := hn3.sp.form; have HR3 := hid hn3.row; obtain ⟨ex3, dx3, rfl⟩ := more_of hn3.low; clear hn3))
    go_wp2_with (first | ((with_reducible refine wp_region_plan (id := 13) (.eff [(false, 0), (false, 1), (false, 2), (false, 3), (false, 4), (true, 6), (true, 7), (true, 8), (true, 9), (true, 10)] 5 [6, 7, 8, 9, 10] (.eff [] 11 [] (.fin [(false, 12)]))) ?_ ?_ ?_ ?_ ?_ ?_); kernel_rfl; kernel_rfl; kernel_rfl; kernel_rfl; (intro c a d v w h; cases d <;> exact h)) | (with_reducible refine wpPlan_eff ?_) | (with_reducible refine wpPlan_fin ?_) | (with_reducible refine wpPlan_two ?_) | (with_reducible refine wpOpPair ?_ ?_) | ((with_reducible apply wpPre_keep); rfl; intro K' hK'; go_simp; refine hK' _ _ ?_; intro f hf; clear hK' K') | ((with_reducible apply wpPre_drop); rfl; intro K' hK'; go_simp; refine hK' _ _ ?_; intro f; clear hK' K') | (with_reducible refine wpPre_nil ?_) | ((with_reducible apply wpOp_list); rfl) | (with_reducible refine heldPair ?_ ?_) | ((with_reducible refine heldH_no ?_ ?_); rfl) | (with_reducible refine heldH_yes ?_ ?_) | (with_reducible exact heldH_nil) | (unfold YAt; go_simp; done) | (go_at_call 10; refine (Reach_any (HT.out.below (by repeat (first | (with_reducible exact Below.refl _ _) | (with_reducible exact bl_mm) | (with_reducible refine bl_dr ?_) | (with_reducible refine bl_drN ?_ _) | (with_reducible refine bl_al ?_ _) | (with_reducible refine bl_more ?_ _ _)))) HR3.out).mono ?_; rw [HRE2.out]; rintro e w4 ⟨hb4, v4, rfl, hr4⟩; obtain ⟨A4, c4, rfl, _, _⟩ := hr4.form; have HR4 := hid hr4; obtain ⟨ex4, dx4, rfl⟩ := more_of hb4; clear hb4 hr4) | (go_at_call 18; clear M3; refine (turn_any (HV.out.below (by repeat (first | (with_reducible exact Below.refl _ _) | (with_reducible exact bl_mm) | (with_reducible refine bl_dr ?_) | (with_reducible refine bl_drN ?_ _) | (with_reducible refine bl_al ?_ _) | (with_reducible refine bl_more ?_ _ _)))) HLL.out).mono ?_; rintro e w5 ⟨v5, g5, rfl, hn5⟩; obtain ⟨A5, c5, rfl, _, _⟩ := hn5.sp.form; have HR5 := hid hn5.row; obtain ⟨ex5, dx5, rfl⟩ := more_of hn5.low; clear hn5) | (go_at_call 18; refine (turn_any HR5.out HLT.out).mono ?_; rw [turn_turn]; rintro e w6 ⟨v6, g6, rfl, hn6⟩; obtain ⟨A6, c6, rfl, _, _⟩ := hn6.sp.form; have HR6 := hid hn6.row; obtain ⟨ex6, dx6, rfl⟩ := more_of hn6.low; clear hn6) | (go_at_call 15; refine (sameA_any HR6.out (HV.out.below (by repeat (first | (with_reducible exact Below.refl _ _) | (with_reducible exact bl_mm) | (with_reducible refine bl_dr ?_) | (with_reducible refine bl_drN ?_ _) | (with_reducible refine bl_al ?_ _) | (with_reducible refine bl_more ?_ _ _)))) HLL.out).mono ?_; rw [show decide (l = l) = true from decide_eq_true rfl]; rintro e w7 ⟨rfl, hb7⟩; have HQ1 := hid ((HR2.out.below (by repeat (first | (with_reducible exact Below.refl _ _) | (with_reducible exact bl_mm) | (with_reducible refine bl_dr ?_) | (with_reducible refine bl_drN ?_ _) | (with_reducible refine bl_al ?_ _) | (with_reducible refine bl_more ?_ _ _)))).below hb7); have HQ2 := hid ((HR4.out.below (by repeat (first | (with_reducible exact Below.refl _ _) | (with_reducible exact bl_mm) | (with_reducible refine bl_dr ?_) | (with_reducible refine bl_drN ?_ _) | (with_reducible refine bl_al ?_ _) | (with_reducible refine bl_more ?_ _ _)))).below hb7); have HB7 := hid (bl_on (w := w) (by repeat (first | (with_reducible exact Below.refl _ _) | (with_reducible exact bl_mm) | (with_reducible refine bl_dr ?_) | (with_reducible refine bl_drN ?_ _) | (with_reducible refine bl_al ?_ _) | (with_reducible refine bl_more ?_ _ _))) hb7); clear hb7))
    go_loopg [9] m (fun k vi wr => ∃ j : Nat, j + k = m ∧ vi = .int .i64 (j : Int) ∧ Below w7.heap.size w7 wr)
    case atStart => exact ⟨0, by omega, rfl, Below.refl _ _⟩
    case round =>
      obtain ⟨j, hk, rfl, hbw⟩ := hrel
      have HK := hid hk
      have HBW := hid hbw
      by_cases hj : j < m
      · have hj0 : (0 : Int) ≤ j := by omega
        have hj1 : (j : Int) < m := by omega
        have HJ := hid hj
        clear hk hbw hj
        go_wp2_with (first | ((with_reducible refine wp_region_plan (id := 13) (.eff [(false, 0), (false, 1), (false, 2), (false, 3), (false, 4), (true, 6), (true, 7), (true, 8), (true, 9), (true, 10)] 5 [6, 7, 8, 9, 10] (.eff [] 11 [] (.fin [(false, 12)]))) ?_ ?_ ?_ ?_ ?_ ?_); kernel_rfl; kernel_rfl; kernel_rfl; kernel_rfl; (intro c a d v w h; cases d <;> exact h)) | (with_reducible refine wpPlan_eff ?_) | (with_reducible refine wpPlan_fin ?_) | (with_reducible refine wpPlan_two ?_) | (with_reducible refine wpOpPair ?_ ?_) | ((with_reducible apply wpPre_keep); rfl; intro K' hK'; go_simp; refine hK' _ _ ?_; intro f hf; clear hK' K') | ((with_reducible apply wpPre_drop); rfl; intro K' hK'; go_simp; refine hK' _ _ ?_; intro f; clear hK' K') | (with_reducible refine wpPre_nil ?_) | ((with_reducible apply wpOp_list); rfl) | (with_reducible refine heldPair ?_ ?_) | ((with_reducible refine heldH_no ?_ ?_); rfl) | (with_reducible refine heldH_yes ?_ ?_) | (with_reducible exact heldH_nil) | (unfold YAt; go_simp; done))
        go_loopg [10] m (fun k vi w5 => ∃ q : Nat, q + k = m ∧ vi = .int .i64 (q : Int) ∧ Below w7.heap.size w7 w5)
        case atStart => exact ⟨0, by omega, rfl, HBW.out⟩
        case round =>
          obtain ⟨q, hq, rfl, hbq⟩ := hrel
          have HKQ := hid hq
          have HBQ := hid hbq
          by_cases hql : q < m
          · have q0 : (0 : Int) ≤ q := by omega
            have q1 : (q : Int) < m := by omega
            have hq1 := HQ1.out.below hbq
            have hq2 := HQ2.out.below hbq
            rw [hl1] at hq1
            rw [hl2] at hq2
            obtain ⟨b1, o1, A7, c7, rfl, hbl1, x1, hx1⟩ := row_nats hq1 (i := j) (xs := nodes (F j)) (by rw [List.getElem?_map, List.getElem?_range HJ.out]; rfl)
            obtain ⟨b2, o2, A8, c8, rfl, hbl2, x2, hx2⟩ := row_nats hq2 (i := q) (xs := nodes (F' q)) (by rw [List.getElem?_map, List.getElem?_range hql]; rfl)
            have HX1 := hid hx1
            have HX2 := hid hx2
            have N1 := hid trivial
            have N2 := hid trivial
            have HQL := hid hql
            cases hc : hasR (nodes (F j)) q with
            | true =>
              have HI1 := hid hc
              have HI2 : Hid (hasR (nodes (F' q)) j = true) := hid (by rw [← HSM.out j q HJ.out hql]; exact hc)
              clear hq hbq hql hq1 hq2 hx1 hx2 hc
              go_wp2_with (first | ((with_reducible refine wp_region_plan (id := 13) (.eff [(false, 0), (false, 1), (false, 2), (false, 3), (false, 4), (true, 6), (true, 7), (true, 8), (true, 9), (true, 10)] 5 [6, 7, 8, 9, 10] (.eff [] 11 [] (.fin [(false, 12)]))) ?_ ?_ ?_ ?_ ?_ ?_); kernel_rfl; kernel_rfl; kernel_rfl; kernel_rfl; (intro c a d v w h; cases d <;> exact h)) | (with_reducible refine wpPlan_eff ?_) | (with_reducible refine wpPlan_fin ?_) | (with_reducible refine wpPlan_two ?_) | (with_reducible refine wpOpPair ?_ ?_) | ((with_reducible apply wpPre_keep); rfl; intro K' hK'; go_simp; refine hK' _ _ ?_; intro f hf; clear hK' K') | ((with_reducible apply wpPre_drop); rfl; intro K' hK'; go_simp; refine hK' _ _ ?_; intro f; clear hK' K') | (with_reducible refine wpPre_nil ?_) | ((with_reducible apply wpOp_list); rfl) | (with_reducible refine heldPair ?_ ?_) | ((with_reducible refine heldH_no ?_ ?_); rfl) | (with_reducible refine heldH_yes ?_ ?_) | (with_reducible exact heldH_nil) | (unfold YAt; go_simp; done) | (go_at_call 12; clear N1; refine (in_any (x := q) (HX1.out.below (by repeat (first | (with_reducible exact Below.refl _ _) | (with_reducible exact bl_mm) | (with_reducible refine bl_dr ?_) | (with_reducible refine bl_drN ?_ _) | (with_reducible refine bl_al ?_ _) | (with_reducible refine bl_more ?_ _ _)))) (by have := nodes_len (F j); omega)).mono ?_; rw [HI1.out]; rintro e w9 ⟨rfl, rfl⟩) | (go_at_call 12; clear N2; refine (in_any (x := j) (HX2.out.below (by repeat (first | (with_reducible exact Below.refl _ _) | (with_reducible exact bl_mm) | (with_reducible refine bl_dr ?_) | (with_reducible refine bl_drN ?_ _) | (with_reducible refine bl_al ?_ _) | (with_reducible refine bl_more ?_ _ _)))) (by have := nodes_len (F' q); omega)).mono ?_; rw [HI2.out]; rintro e w9 ⟨rfl, rfl⟩))
              all_goals
                go_roundg (m - (q + 1))
                case measure => have := HKQ.out; have := HQL.out; omega
                case rel => exact ⟨q + 1, by have := HKQ.out; have := HQL.out; omega, rfl, bl_on HBQ.out (by repeat (first | (with_reducible exact Below.refl _ _) | (with_reducible exact bl_mm) | (with_reducible refine bl_dr ?_) | (with_reducible refine bl_drN ?_ _) | (with_reducible refine bl_al ?_ _) | (with_reducible refine bl_more ?_ _ _)))⟩
            | false =>
              have HI1 := hid hc
              have HI2 : Hid (hasR (nodes (F' q)) j = false) := hid (by rw [← HSM.out j q HJ.out hql]; exact hc)
              clear hq hbq hql hq1 hq2 hx1 hx2 hc
              go_wp2_with (first | ((with_reducible refine wp_region_plan (id := 13) (.eff [(false, 0), (false, 1), (false, 2), (false, 3), (false, 4), (true, 6), (true, 7), (true, 8), (true, 9), (true, 10)] 5 [6, 7, 8, 9, 10] (.eff [] 11 [] (.fin [(false, 12)]))) ?_ ?_ ?_ ?_ ?_ ?_); kernel_rfl; kernel_rfl; kernel_rfl; kernel_rfl; (intro c a d v w h; cases d <;> exact h)) | (with_reducible refine wpPlan_eff ?_) | (with_reducible refine wpPlan_fin ?_) | (with_reducible refine wpPlan_two ?_) | (with_reducible refine wpOpPair ?_ ?_) | ((with_reducible apply wpPre_keep); rfl; intro K' hK'; go_simp; refine hK' _ _ ?_; intro f hf; clear hK' K') | ((with_reducible apply wpPre_drop); rfl; intro K' hK'; go_simp; refine hK' _ _ ?_; intro f; clear hK' K') | (with_reducible refine wpPre_nil ?_) | ((with_reducible apply wpOp_list); rfl) | (with_reducible refine heldPair ?_ ?_) | ((with_reducible refine heldH_no ?_ ?_); rfl) | (with_reducible refine heldH_yes ?_ ?_) | (with_reducible exact heldH_nil) | (unfold YAt; go_simp; done) | (go_at_call 12; clear N1; refine (in_any (x := q) (HX1.out.below (by repeat (first | (with_reducible exact Below.refl _ _) | (with_reducible exact bl_mm) | (with_reducible refine bl_dr ?_) | (with_reducible refine bl_drN ?_ _) | (with_reducible refine bl_al ?_ _) | (with_reducible refine bl_more ?_ _ _)))) (by have := nodes_len (F j); omega)).mono ?_; rw [HI1.out]; rintro e w9 ⟨rfl, rfl⟩) | (go_at_call 12; clear N2; refine (in_any (x := j) (HX2.out.below (by repeat (first | (with_reducible exact Below.refl _ _) | (with_reducible exact bl_mm) | (with_reducible refine bl_dr ?_) | (with_reducible refine bl_drN ?_ _) | (with_reducible refine bl_al ?_ _) | (with_reducible refine bl_more ?_ _ _)))) (by have := nodes_len (F' q); omega)).mono ?_; rw [HI2.out]; rintro e w9 ⟨rfl, rfl⟩))
              all_goals
                go_roundg (m - (q + 1))
                case measure => have := HKQ.out; have := HQL.out; omega
                case rel => exact ⟨q + 1, by have := HKQ.out; have := HQL.out; omega, rfl, bl_on HBQ.out (by repeat (first | (with_reducible exact Below.refl _ _) | (with_reducible exact bl_mm) | (with_reducible refine bl_dr ?_) | (with_reducible refine bl_drN ?_ _) | (with_reducible refine bl_al ?_ _) | (with_reducible refine bl_more ?_ _ _)))⟩
          · have q1 : ¬ (q : Int) < m := by omega
            clear hq hbq hql
            go_wp2_with (first | ((with_reducible refine wp_region_plan (id := 13) (.eff [(false, 0), (false, 1), (false, 2), (false, 3), (false, 4), (true, 6), (true, 7), (true, 8), (true, 9), (true, 10)] 5 [6, 7, 8, 9, 10] (.eff [] 11 [] (.fin [(false, 12)]))) ?_ ?_ ?_ ?_ ?_ ?_); kernel_rfl; kernel_rfl; kernel_rfl; kernel_rfl; (intro c a d v w h; cases d <;> exact h)) | (with_reducible refine wpPlan_eff ?_) | (with_reducible refine wpPlan_fin ?_) | (with_reducible refine wpPlan_two ?_) | (with_reducible refine wpOpPair ?_ ?_) | ((with_reducible apply wpPre_keep); rfl; intro K' hK'; go_simp; refine hK' _ _ ?_; intro f hf; clear hK' K') | ((with_reducible apply wpPre_drop); rfl; intro K' hK'; go_simp; refine hK' _ _ ?_; intro f; clear hK' K') | (with_reducible refine wpPre_nil ?_) | ((with_reducible apply wpOp_list); rfl) | (with_reducible refine heldPair ?_ ?_) | ((with_reducible refine heldH_no ?_ ?_); rfl) | (with_reducible refine heldH_yes ?_ ?_) | (with_reducible exact heldH_nil) | (unfold YAt; go_simp; done))
            go_roundg (m - (j + 1))
            case measure => have := HK.out; have := HJ.out; omega
            case rel => exact ⟨j + 1, by have := HK.out; have := HJ.out; omega, rfl, HBQ.out⟩
      · have hj1 : ¬ (j : Int) < m := by omega
        clear hk hbw hj
        go_wp2_with (first | ((with_reducible refine wp_region_plan (id := 13) (.eff [(false, 0), (false, 1), (false, 2), (false, 3), (false, 4), (true, 6), (true, 7), (true, 8), (true, 9), (true, 10)] 5 [6, 7, 8, 9, 10] (.eff [] 11 [] (.fin [(false, 12)]))) ?_ ?_ ?_ ?_ ?_ ?_); kernel_rfl; kernel_rfl; kernel_rfl; kernel_rfl; (intro c a d v w h; cases d <;> exact h)) | (with_reducible refine wpPlan_eff ?_) | (with_reducible refine wpPlan_fin ?_) | (with_reducible refine wpPlan_two ?_) | (with_reducible refine wpOpPair ?_ ?_) | ((with_reducible apply wpPre_keep); rfl; intro K' hK'; go_simp; refine hK' _ _ ?_; intro f hf; clear hK' K') | ((with_reducible apply wpPre_drop); rfl; intro K' hK'; go_simp; refine hK' _ _ ?_; intro f; clear hK' K') | (with_reducible refine wpPre_nil ?_) | ((with_reducible apply wpOp_list); rfl) | (with_reducible refine heldPair ?_ ?_) | ((with_reducible refine heldH_no ?_ ?_); rfl) | (with_reducible refine heldH_yes ?_ ?_) | (with_reducible exact heldH_nil) | (unfold YAt; go_simp; done) | (go_at_call 8; refine (lives_any (HT.out.below (bl_on HB7.out (bl_on HBW.out (by repeat (first | (with_reducible exact Below.refl _ _) | (with_reducible exact bl_mm) | (with_reducible refine bl_dr ?_) | (with_reducible refine bl_drN ?_ _) | (with_reducible refine bl_al ?_ _) | (with_reducible refine bl_more ?_ _ _))))))).mono ?_; rintro e wl ⟨rfl, hbl⟩; obtain ⟨exl, dxl, rfl⟩ := more_of hbl; clear hbl))
        go_ret
        exact ⟨rfl, bl_on HB7.out (bl_on HBW.out (by repeat (first | (with_reducible exact Below.refl _ _) | (with_reducible exact bl_mm) | (with_reducible refine bl_dr ?_) | (with_reducible refine bl_drN ?_ _) | (with_reducible refine bl_al ?_ _) | (with_reducible refine bl_more ?_ _ _))))⟩
end Go.Proofs.YtomhpbhkckjmdaaDoorRR
