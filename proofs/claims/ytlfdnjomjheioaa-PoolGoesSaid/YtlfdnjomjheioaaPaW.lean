/- The document's pool: Take, its circles. -/
import Derived.Test.YtlfdnjomjheioaaPaV
import Derived.Deep.Cut
namespace Go.Proofs.Ytlfdnjomjheioaa
open Go.RowKit

theorem circ_at {s : List Wk} {β : Type} {g : Nat → Option β} {pick : Int} {m : Nat} {r : β} (hm : m < s.length) (hno : ∀ y, y < m → g ((firstOf s.length pick + y) % s.length) = none) (hy : g ((firstOf s.length pick + m) % s.length) = some r) : (circ s pick).findSome? g = some r := by
  refine findSome_pre (pre := (List.range m).map (fun i => (firstOf s.length pick + i) % s.length)) (x := (firstOf s.length pick + m) % s.length) (fun y hy => ?_) hy ?_
  · obtain ⟨i, hi, rfl⟩ := List.mem_map.1 hy
    exact hno i (List.mem_range.1 hi)
  · have e : (List.range m).map (fun i => (firstOf s.length pick + i) % s.length) ++ [(firstOf s.length pick + m) % s.length] = (List.range (m + 1)).map (fun i => (firstOf s.length pick + i) % s.length) := by rw [List.range_succ, List.map_append]; rfl
    rw [e]
    have : (List.range (m + 1)).map (fun i => (firstOf s.length pick + i) % s.length) = (circ s pick).take (m + 1) := by unfold circ; rw [← List.map_take, List.take_range, Nat.min_eq_left (by omega)]
    rw [this]
    exact List.take_prefix _ _
theorem circ_no {s : List Wk} {β : Type} {g : Nat → Option β} {pick : Int} (hno : ∀ y, y < s.length → g ((firstOf s.length pick + y) % s.length) = none) : (circ s pick).findSome? g = none := by
  rw [List.findSome?_eq_none_iff]
  intro y hy
  obtain ⟨i, hi, rfl⟩ := List.mem_map.1 hy
  exact hno i (List.mem_range.1 hi)
theorem first_eq {n : Nat} (hn : 1 ≤ n) (pick : Int) : (pick.tmod (n : Int) + (n : Int)).tmod (n : Int) = (firstOf n pick : Nat) ∧ -(n : Int) < pick.tmod n ∧ pick.tmod n < n ∧ firstOf n pick < n := by
  have q3 := Int.emod_nonneg pick (show (n : Int) ≠ 0 by omega)
  have q4 := Int.emod_lt_of_pos pick (show (0 : Int) < n by omega)
  have a1 := Int.lt_tmod_of_pos pick (show (0 : Int) < n by omega)
  have a2 := Int.tmod_lt_of_pos pick (show (0 : Int) < n by omega)
  refine ⟨?_, a1, a2, by unfold firstOf; omega⟩
  rw [Int.tmod_eq_emod_of_nonneg (by omega), Int.add_emod_right]
  unfold firstOf
  rw [Int.toNat_of_nonneg q3]
  have q1 := Int.emod_add_mul_ediv pick (n : Int)
  have q2 := Int.tmod_add_mul_tdiv pick (n : Int)
  rw [show pick.tmod (n : Int) = pick + (n : Int) * (-(pick.tdiv n)) by rw [Int.mul_neg]; omega, Int.add_mul_emod_self_left]
theorem rt_of {N : Nat} {w Wx Wf : World} {K : Nat → Prop} {r : Nat} {s s' : List Wk} {b1 b2 b3 : Nat} (h0 : Rp N w K r s b1 b2 b3) (h : Rp N Wx K r s' b1 b2 b3) (he : Ext (Rb r b1 b2 b3) w Wx) (hb : Below Wx.heap.size Wx Wf) : RT N w K r b1 b2 b3 s' Wf :=
  ⟨(h.below hb).grow h0.lt, he.trans (T := fun _ => False) (Ext.of_below hb) (fun _ _ h => h.elim)⟩
theorem hold1_swap {s : List Wk} {i v : Nat} (hi : i < s.length) (hne : v ≠ i) (a : List Job) (o1 o2 : Option Job) : hold1 (s.set v ⟨a, o1⟩) i o2 = (s.set i ⟨s[i].l, o2⟩).set v ⟨a, o1⟩ := by
  rw [hold1_eq (by rw [List.length_set]; exact hi), List.getElem_set_ne hne, List.set_comm _ _ hne]
def RGo (N : Nat) (w : World) (K : Nat → Prop) (r b1 b2 b3 : Nat) (s : List Wk) (i : Nat) (o : Option (List Wk × Job × Nat)) (e : Ending) (w' : World) : Prop :=
  match o with
  | some (s1, j, v) => RTaken N w K r b1 b2 b3 (hold1 s1 i (some j)) j v 0 e w'
  | none => RTaken N w K r b1 b2 b3 s job0 0 6 e w'
set_option maxRecDepth 8000 in
set_option maxHeartbeats 4000000 in
theorem rtake_go {N : Nat} {w : World} {K : Nat → Prop} {r : Nat} {s : List Wk} {b1 b2 b3 : Nat} (h : Rp N w K r s b1 b2 b3) (i : Nat) (hi : i < s.length) (pick : Int) (hjj : s[i].h = none) (hx : s[i].l = []) :
    Calls Try.prog 32 #[.pointer (some ⟨r, 0, none⟩), .int .i64 i, .int .i64 pick] w (RGo N w K r b1 b2 b3 s i (((circ s pick).findSome? (stolen s)).or ((circ s pick).findSome? (heldOf s)))) := by
  have hj : s[i].h.isSome = false := by rw [hjj]; rfl
  obtain ⟨c1, c2, c3⟩ := h.cells
  have a1 := h.has_ i hi
  rw [hj] at a1
  obtain ⟨A, c, hr, hc⟩ := h.hold_ i hi
  have e0 := hc 0 _ rfl
  have e1 := hc 1 _ rfl
  have e2 := hc 2 _ rfl
  have e3 := hc 3 _ rfl
  have e4 := hc 4 _ rfl
  have e5 := hc 5 _ rfl
  simp only [Nat.add_zero] at e0
  have f0 := h.hold.frz (i * 6)
  have f1 := h.hold.frz (i * 6 + 1)
  have f2 := h.hold.frz (i * 6 + 2)
  have f3 := h.hold.frz (i * 6 + 3)
  have f4 := h.hold.frz (i * 6 + 4)
  have f5 := h.hold.frz (i * 6 + 5)
  have f6 := h.has.frz i
  obtain ⟨l1, l2, l3, l4⟩ := h.lt
  obtain ⟨n1, n2', n3, n4, n5, n6⟩ := h.ne
  have n2 := h.n2
  have i2 : (i : Int) < (s.length : Int) := by omega
  have i3 : (0 : Int) ≤ (i : Int) := by omega
  have HP := hid h
  have HI := hid (And.intro hi trivial)
  obtain ⟨Ar, cr, hrw, er⟩ := h.row i hi
  rw [hx] at hrw er
  simp only [List.length_nil] at hrw er
  have fr := h.rows.frz i
  have HRW := hid hrw.bound
  have hn1 := h.n1
  obtain ⟨y2, ta, tb, hfl⟩ := first_eq hn1 pick
  obtain ⟨f, hf⟩ : ∃ f, firstOf s.length pick = f := ⟨_, rfl⟩
  rw [hf] at y2 hfl
  have z0 : ((s.length : Int) == 0) = false := by simp only [beq_eq_false_iff_ne, ne_eq]; omega
  have y1 : IntKind.i64.wrap (pick.tmod (s.length : Int) + (s.length : Int)) = pick.tmod (s.length : Int) + (s.length : Int) := IntWalk.i64_in _ (by omega)
  have HF := hid hf
  have HFL := hid (And.intro hfl n2)
  have HJ := hid hjj
  clear h hr n2 hc hj hjj hx hrw hf hfl ta tb hn1
  go_enter Try.func32, Try.ntmps32
  go_wp2_with (first | ((with_reducible refine wp_region_plan (id := 8) (.eff [(false, 0), (false, 1), (false, 2), (false, 3), (false, 4), (false, 5), (false, 6), (false, 7), (false, 8), (true, 9), (false, 10), (false, 11), (false, 12), (false, 13), (true, 14), (false, 15), (true, 16), (false, 17)] 18 [9, 14, 16] (.eff [(false, 19)] 20 [14] (.eff [(false, 21)] 22 [] (.fin [])))) ?_ ?_ ?_ ?_ ?_ ?_); kernel_rfl; kernel_rfl; kernel_rfl; kernel_rfl; (intro c a d v w h; cases d <;> exact h)) | ((with_reducible refine wp_region_plan (id := 17) (.eff [(false, 0), (false, 1), (false, 2), (false, 3), (false, 4), (false, 5), (false, 6), (false, 7), (false, 8), (true, 9), (false, 10), (false, 11), (false, 12), (false, 13), (true, 14), (false, 15), (true, 16), (false, 17)] 18 [9, 14, 16] (.eff [(false, 19)] 20 [14] (.eff [(false, 21)] 22 [] (.fin [])))) ?_ ?_ ?_ ?_ ?_ ?_); kernel_rfl; kernel_rfl; kernel_rfl; kernel_rfl; (intro c a d v w h; cases d <;> exact h)) | ((with_reducible refine wp_region_plan (id := 24) (.eff [(false, 0), (false, 1), (false, 2), (false, 3), (false, 4), (false, 5), (false, 6), (false, 7), (false, 8), (true, 9), (false, 10), (false, 11), (false, 12), (false, 13), (false, 14), (false, 15), (false, 16), (false, 17)] 18 [9] (.eff [(false, 19)] 20 [] (.fin []))) ?_ ?_ ?_ ?_ ?_ ?_); kernel_rfl; kernel_rfl; kernel_rfl; kernel_rfl; (intro c a d v w h; cases d <;> exact h)) | ((with_reducible refine wp_region_plan (id := 25) (.eff [(false, 0), (false, 1), (false, 2), (false, 3), (false, 4), (false, 5), (false, 6), (false, 7), (false, 8), (true, 9), (false, 10), (false, 11)] 12 [9] (.eff [(false, 13)] 14 [] (.fin []))) ?_ ?_ ?_ ?_ ?_ ?_); kernel_rfl; kernel_rfl; kernel_rfl; kernel_rfl; (intro c a d v w h; cases d <;> exact h)) | (with_reducible refine wpPlan_eff ?_) | (with_reducible refine wpPlan_fin ?_) | (with_reducible refine wpPlan_two ?_) | (with_reducible refine wpOpPair ?_ ?_) | ((with_reducible apply wpPre_keep); rfl; intro K' hK'; go_simp; refine hK' _ _ ?_; intro f hf; clear hK' K') | ((with_reducible apply wpPre_drop); rfl; intro K' hK'; go_simp; refine hK' _ _ ?_; intro f; clear hK' K') | (with_reducible refine wpPre_nil ?_) | ((with_reducible apply wpOp_list); rfl) | (with_reducible refine heldPair ?_ ?_) | ((with_reducible refine heldH_no ?_ ?_); rfl) | (with_reducible refine heldH_yes ?_ ?_) | (with_reducible exact heldH_nil) | (unfold YAt; go_simp; done) | (go_at_call 49; refine (ris_yes (HP.out.below (by repeat (first | (with_reducible exact Below.refl _ _) | (with_reducible exact bl_mm) | (with_reducible refine bl_dr ?_) | (with_reducible refine bl_drN ?_ _) | (with_reducible refine bl_al ?_ _) | (with_reducible refine bl_more ?_ _ _)))) i HI.out.1).mono ?_; rintro e w1 ⟨rfl, hb1⟩; obtain ⟨ex, dx, rfl⟩ := more_of hb1; clear hb1) | (go_at_call 50; refine (ref_pop_none (HRW.out.below (by repeat (first | (with_reducible exact Below.refl _ _) | (with_reducible exact bl_mm) | (with_reducible refine bl_dr ?_) | (with_reducible refine bl_drN ?_ _) | (with_reducible refine bl_al ?_ _) | (with_reducible refine bl_more ?_ _ _))))).mono ?_; rintro e w2 ⟨rv1, rfl, hr2, hb2⟩; obtain ⟨A2, cc2, rfl, _, _⟩ := hr2.form; obtain ⟨ex2, dx2, rfl⟩ := more_of hb2; clear hr2 hb2))
  clear y1 y2
  go_loopg [14] s.length (fun k x wr => ∃ m : Nat, m + k = s.length ∧ x = .int .i64 m ∧ (∀ y, y < m → stolen s ((f + y) % s.length) = none) ∧ Below (w.alloc (.cells #[.int .i64 0, .bool false, .int .i64 0, .bool false, .int .i64 0, .slice none 0 0] 33)).heap.size (w.alloc (.cells #[.int .i64 0, .bool false, .int .i64 0, .bool false, .int .i64 0, .slice none 0 0] 33)) wr)
  case atStart => exact ⟨0, by omega, rfl, fun y hy => by omega, (by repeat (first | (with_reducible exact Below.refl _ _) | (with_reducible exact bl_mm) | (with_reducible refine bl_dr ?_) | (with_reducible refine bl_drN ?_ _) | (with_reducible refine bl_al ?_ _) | (with_reducible refine bl_more ?_ _ _)))⟩
  case round =>
    obtain ⟨m, hm, rfl, hno, hb⟩ := hrel
    obtain ⟨ex4, dx4, rfl⟩ := more_of hb
    have HNO := hid hno
    have HM := hid hm
    clear hno hb
    by_cases hlt : m < s.length
    · have hfl := HFL.out
      obtain ⟨v, hv⟩ : ∃ v, (f + m) % s.length = v := ⟨_, rfl⟩
      have hvl : v < s.length := by rw [← hv]; exact Nat.mod_lt _ (by omega)
      have i4 : (m : Int) < (s.length : Int) := by omega
      have y3 : IntKind.i64.wrap ((f : Int) + (m : Int)) = (f : Int) + (m : Int) := IntWalk.i64_in _ (by omega)
      have y4 : ((f : Int) + (m : Int)).tmod (s.length : Int) = (v : Int) := by rw [Int.tmod_eq_emod_of_nonneg (by omega), ← hv]; simp
      have w1' : IntKind.i64.wrap ((m : Int) + 1) = ((m + 1 : Nat) : Int) := by rw [IntWalk.i64_in _ (by omega)]; rfl
      have i5 : (v : Int) < (s.length : Int) := by omega
      have i6 : (0 : Int) ≤ (v : Int) := by omega
      obtain ⟨Av, cv, hrv, ev⟩ := HP.out.row v hvl
      have fv := HP.out.rows.frz v
      have HV := hid hv
      have HVL := hid (And.intro hvl trivial)
      clear hfl hv hm
      cases hl : s[v].l with
      | nil =>
        rw [hl] at hrv ev
        simp only [List.length_nil] at hrv ev
        have HRV := hid hrv.bound
        have HL := hid hl
        clear hrv hl
        go_wp2_with (first | ((with_reducible refine wp_region_plan (id := 8) (.eff [(false, 0), (false, 1), (false, 2), (false, 3), (false, 4), (false, 5), (false, 6), (false, 7), (false, 8), (true, 9), (false, 10), (false, 11), (false, 12), (false, 13), (true, 14), (false, 15), (true, 16), (false, 17)] 18 [9, 14, 16] (.eff [(false, 19)] 20 [14] (.eff [(false, 21)] 22 [] (.fin [])))) ?_ ?_ ?_ ?_ ?_ ?_); kernel_rfl; kernel_rfl; kernel_rfl; kernel_rfl; (intro c a d v w h; cases d <;> exact h)) | ((with_reducible refine wp_region_plan (id := 17) (.eff [(false, 0), (false, 1), (false, 2), (false, 3), (false, 4), (false, 5), (false, 6), (false, 7), (false, 8), (true, 9), (false, 10), (false, 11), (false, 12), (false, 13), (true, 14), (false, 15), (true, 16), (false, 17)] 18 [9, 14, 16] (.eff [(false, 19)] 20 [14] (.eff [(false, 21)] 22 [] (.fin [])))) ?_ ?_ ?_ ?_ ?_ ?_); kernel_rfl; kernel_rfl; kernel_rfl; kernel_rfl; (intro c a d v w h; cases d <;> exact h)) | ((with_reducible refine wp_region_plan (id := 24) (.eff [(false, 0), (false, 1), (false, 2), (false, 3), (false, 4), (false, 5), (false, 6), (false, 7), (false, 8), (true, 9), (false, 10), (false, 11), (false, 12), (false, 13), (false, 14), (false, 15), (false, 16), (false, 17)] 18 [9] (.eff [(false, 19)] 20 [] (.fin []))) ?_ ?_ ?_ ?_ ?_ ?_); kernel_rfl; kernel_rfl; kernel_rfl; kernel_rfl; (intro c a d v w h; cases d <;> exact h)) | ((with_reducible refine wp_region_plan (id := 25) (.eff [(false, 0), (false, 1), (false, 2), (false, 3), (false, 4), (false, 5), (false, 6), (false, 7), (false, 8), (true, 9), (false, 10), (false, 11)] 12 [9] (.eff [(false, 13)] 14 [] (.fin []))) ?_ ?_ ?_ ?_ ?_ ?_); kernel_rfl; kernel_rfl; kernel_rfl; kernel_rfl; (intro c a d v w h; cases d <;> exact h)) | (with_reducible refine wpPlan_eff ?_) | (with_reducible refine wpPlan_fin ?_) | (with_reducible refine wpPlan_two ?_) | (with_reducible refine wpOpPair ?_ ?_) | ((with_reducible apply wpPre_keep); rfl; intro K' hK'; go_simp; refine hK' _ _ ?_; intro f hf; clear hK' K') | ((with_reducible apply wpPre_drop); rfl; intro K' hK'; go_simp; refine hK' _ _ ?_; intro f; clear hK' K') | (with_reducible refine wpPre_nil ?_) | ((with_reducible apply wpOp_list); rfl) | (with_reducible refine heldPair ?_ ?_) | ((with_reducible refine heldH_no ?_ ?_); rfl) | (with_reducible refine heldH_yes ?_ ?_) | (with_reducible exact heldH_nil) | (unfold YAt; go_simp; done) | (go_at_call 51; refine (ref_steal_none (HRV.out.below (by repeat (first | (with_reducible exact Below.refl _ _) | (with_reducible exact bl_mm) | (with_reducible refine bl_dr ?_) | (with_reducible refine bl_drN ?_ _) | (with_reducible refine bl_al ?_ _) | (with_reducible refine bl_more ?_ _ _))))).mono ?_; rintro e w2 ⟨rv1, rfl, hr2, hb2⟩; obtain ⟨A3, cc3, rfl, _, _⟩ := hr2.form; obtain ⟨ex3, dx3, rfl⟩ := more_of hb2; clear hr2 hb2))
        go_roundg (s.length - (m + 1))
        case measure => have := HM.out; omega
        case rel =>
          refine ⟨m + 1, by have := HM.out; omega, rfl, fun y hy => ?_, (by repeat (first | (with_reducible exact Below.refl _ _) | (with_reducible exact bl_mm) | (with_reducible refine bl_dr ?_) | (with_reducible refine bl_drN ?_ _) | (with_reducible refine bl_al ?_ _) | (with_reducible refine bl_more ?_ _ _)))⟩
          rcases Nat.lt_succ_iff_lt_or_eq.1 hy with h1 | rfl
          · exact HNO.out y h1
          · rw [HV.out]; exact stolen_none HVL.out.1 HL.out
      | cons x lx =>
        rw [hl] at hrv ev
        rw [show (x :: lx).length = lx.length + 1 from rfl] at hrv ev
        have HRV := hid hrv.bound
        have HL := hid hl
        clear hrv hl
        go_wp2_with (first | ((with_reducible refine wp_region_plan (id := 8) (.eff [(false, 0), (false, 1), (false, 2), (false, 3), (false, 4), (false, 5), (false, 6), (false, 7), (false, 8), (true, 9), (false, 10), (false, 11), (false, 12), (false, 13), (true, 14), (false, 15), (true, 16), (false, 17)] 18 [9, 14, 16] (.eff [(false, 19)] 20 [14] (.eff [(false, 21)] 22 [] (.fin [])))) ?_ ?_ ?_ ?_ ?_ ?_); kernel_rfl; kernel_rfl; kernel_rfl; kernel_rfl; (intro c a d v w h; cases d <;> exact h)) | ((with_reducible refine wp_region_plan (id := 17) (.eff [(false, 0), (false, 1), (false, 2), (false, 3), (false, 4), (false, 5), (false, 6), (false, 7), (false, 8), (true, 9), (false, 10), (false, 11), (false, 12), (false, 13), (true, 14), (false, 15), (true, 16), (false, 17)] 18 [9, 14, 16] (.eff [(false, 19)] 20 [14] (.eff [(false, 21)] 22 [] (.fin [])))) ?_ ?_ ?_ ?_ ?_ ?_); kernel_rfl; kernel_rfl; kernel_rfl; kernel_rfl; (intro c a d v w h; cases d <;> exact h)) | ((with_reducible refine wp_region_plan (id := 24) (.eff [(false, 0), (false, 1), (false, 2), (false, 3), (false, 4), (false, 5), (false, 6), (false, 7), (false, 8), (true, 9), (false, 10), (false, 11), (false, 12), (false, 13), (false, 14), (false, 15), (false, 16), (false, 17)] 18 [9] (.eff [(false, 19)] 20 [] (.fin []))) ?_ ?_ ?_ ?_ ?_ ?_); kernel_rfl; kernel_rfl; kernel_rfl; kernel_rfl; (intro c a d v w h; cases d <;> exact h)) | ((with_reducible refine wp_region_plan (id := 25) (.eff [(false, 0), (false, 1), (false, 2), (false, 3), (false, 4), (false, 5), (false, 6), (false, 7), (false, 8), (true, 9), (false, 10), (false, 11)] 12 [9] (.eff [(false, 13)] 14 [] (.fin []))) ?_ ?_ ?_ ?_ ?_ ?_); kernel_rfl; kernel_rfl; kernel_rfl; kernel_rfl; (intro c a d v w h; cases d <;> exact h)) | (with_reducible refine wpPlan_eff ?_) | (with_reducible refine wpPlan_fin ?_) | (with_reducible refine wpPlan_two ?_) | (with_reducible refine wpOpPair ?_ ?_) | ((with_reducible apply wpPre_keep); rfl; intro K' hK'; go_simp; refine hK' _ _ ?_; intro f hf; clear hK' K') | ((with_reducible apply wpPre_drop); rfl; intro K' hK'; go_simp; refine hK' _ _ ?_; intro f; clear hK' K') | (with_reducible refine wpPre_nil ?_) | ((with_reducible apply wpOp_list); rfl) | (with_reducible refine heldPair ?_ ?_) | ((with_reducible refine heldH_no ?_ ?_); rfl) | (with_reducible refine heldH_yes ?_ ?_) | (with_reducible exact heldH_nil) | (unfold YAt; go_simp; done) | (go_at_call 51; refine (ref_steal (HRV.out.below (by repeat (first | (with_reducible exact Below.refl _ _) | (with_reducible exact bl_mm) | (with_reducible refine bl_dr ?_) | (with_reducible refine bl_drN ?_ _) | (with_reducible refine bl_al ?_ _) | (with_reducible refine bl_more ?_ _ _))))).mono ?_; rintro e w2 ⟨rv1, v2, rfl, hr2, hx2, hb2⟩; obtain ⟨A3, cc3, rfl, _, _⟩ := hr2.form; obtain ⟨B3, d3, rfl, _, _⟩ := hx2.form; obtain ⟨ex3, dx3, rfl⟩ := more_of hb2; have HR3 := hid hr2; have HX3 := hid hx2; clear hr2 hx2 hb2))
        refine bodyPost_ret (v := .tuple #[jobV x (.slice B3 x.stamp.length d3), .int .i64 v, .int .i64 0]) (by simp [results, Try.results32, go_sem]) rfl ?_
        have hr := Row.swp (w := w) HR3.out (by repeat (first | (with_reducible exact Below.refl _ _) | (with_reducible exact bl_mm) | (with_reducible refine bl_dr ?_) | (with_reducible refine bl_drN ?_ _) | (with_reducible refine bl_al ?_ _) | (with_reducible refine bl_more ?_ _ _))) (Below.refl _ _) (fun b hb => hb.2)
        have hx := Row.swp (w := w) HX3.out (by repeat (first | (with_reducible exact Below.refl _ _) | (with_reducible exact bl_mm) | (with_reducible refine bl_dr ?_) | (with_reducible refine bl_drN ?_ _) | (with_reducible refine bl_al ?_ _) | (with_reducible refine bl_more ?_ _ _))) (Below.refl _ _) (fun b hb => hb.2)
        have hfd : (circ s pick).findSome? (stolen s) = some (s.set v ⟨lx, s[v].h⟩, x, v) :=
          circ_at (m := m) hlt (by rw [HF.out]; exact HNO.out) (by rw [HF.out, HV.out]; exact stolen_some HVL.out.1 HL.out)
        rw [hfd]
        exact ⟨_, rfl, rtk_end (rt_both (X := ((more (more (w.alloc (.cells #[.int .i64 x.item, .bool x.undo, .int .i64 x.try_, .bool x.begun, .int .i64 x.token, .slice B3 x.stamp.length d3] 33)) ex4 dx4) ex3 dx3).alloc (.cells #[.int .i64 x.item, .bool x.undo, .int .i64 x.try_, .bool x.begun, .int .i64 x.token, .slice B3 x.stamp.length d3] 33)).drew) HP.out v HVL.out.1 i HI.out.1 (by repeat (first | (with_reducible exact Below.refl _ _) | (with_reducible exact bl_mm) | (with_reducible refine bl_dr ?_) | (with_reducible refine bl_drN ?_ _) | (with_reducible refine bl_al ?_ _) | (with_reducible refine bl_more ?_ _ _))) ((hr.below (by repeat (first | (with_reducible exact Below.refl _ _) | (with_reducible exact bl_mm) | (with_reducible refine bl_dr ?_) | (with_reducible refine bl_drN ?_ _) | (with_reducible refine bl_al ?_ _) | (with_reducible refine bl_more ?_ _ _)))).mono (fun b hb _ => .inl hb.1)) ((hx.below (by repeat (first | (with_reducible exact Below.refl _ _) | (with_reducible exact bl_mm) | (with_reducible refine bl_dr ?_) | (with_reducible refine bl_drN ?_ _) | (with_reducible refine bl_al ?_ _) | (with_reducible refine bl_more ?_ _ _)))).mono (fun b hb _ => .inl hb.1)) (by rw [job6]; go_simp)) hx⟩
    · obtain rfl : m = s.length := by omega
      have i4 : ¬ (s.length : Int) < s.length := by omega
      clear hm
      go_wp2_with (first | ((with_reducible refine wp_region_plan (id := 8) (.eff [(false, 0), (false, 1), (false, 2), (false, 3), (false, 4), (false, 5), (false, 6), (false, 7), (false, 8), (true, 9), (false, 10), (false, 11), (false, 12), (false, 13), (true, 14), (false, 15), (true, 16), (false, 17)] 18 [9, 14, 16] (.eff [(false, 19)] 20 [14] (.eff [(false, 21)] 22 [] (.fin [])))) ?_ ?_ ?_ ?_ ?_ ?_); kernel_rfl; kernel_rfl; kernel_rfl; kernel_rfl; (intro c a d v w h; cases d <;> exact h)) | ((with_reducible refine wp_region_plan (id := 17) (.eff [(false, 0), (false, 1), (false, 2), (false, 3), (false, 4), (false, 5), (false, 6), (false, 7), (false, 8), (true, 9), (false, 10), (false, 11), (false, 12), (false, 13), (true, 14), (false, 15), (true, 16), (false, 17)] 18 [9, 14, 16] (.eff [(false, 19)] 20 [14] (.eff [(false, 21)] 22 [] (.fin [])))) ?_ ?_ ?_ ?_ ?_ ?_); kernel_rfl; kernel_rfl; kernel_rfl; kernel_rfl; (intro c a d v w h; cases d <;> exact h)) | ((with_reducible refine wp_region_plan (id := 24) (.eff [(false, 0), (false, 1), (false, 2), (false, 3), (false, 4), (false, 5), (false, 6), (false, 7), (false, 8), (true, 9), (false, 10), (false, 11), (false, 12), (false, 13), (false, 14), (false, 15), (false, 16), (false, 17)] 18 [9] (.eff [(false, 19)] 20 [] (.fin []))) ?_ ?_ ?_ ?_ ?_ ?_); kernel_rfl; kernel_rfl; kernel_rfl; kernel_rfl; (intro c a d v w h; cases d <;> exact h)) | ((with_reducible refine wp_region_plan (id := 25) (.eff [(false, 0), (false, 1), (false, 2), (false, 3), (false, 4), (false, 5), (false, 6), (false, 7), (false, 8), (true, 9), (false, 10), (false, 11)] 12 [9] (.eff [(false, 13)] 14 [] (.fin []))) ?_ ?_ ?_ ?_ ?_ ?_); kernel_rfl; kernel_rfl; kernel_rfl; kernel_rfl; (intro c a d v w h; cases d <;> exact h)) | (with_reducible refine wpPlan_eff ?_) | (with_reducible refine wpPlan_fin ?_) | (with_reducible refine wpPlan_two ?_) | (with_reducible refine wpOpPair ?_ ?_) | ((with_reducible apply wpPre_keep); rfl; intro K' hK'; go_simp; refine hK' _ _ ?_; intro f hf; clear hK' K') | ((with_reducible apply wpPre_drop); rfl; intro K' hK'; go_simp; refine hK' _ _ ?_; intro f; clear hK' K') | (with_reducible refine wpPre_nil ?_) | ((with_reducible apply wpOp_list); rfl) | (with_reducible refine heldPair ?_ ?_) | ((with_reducible refine heldH_no ?_ ?_); rfl) | (with_reducible refine heldH_yes ?_ ?_) | (with_reducible exact heldH_nil) | (unfold YAt; go_simp; done))
      have hfs : (circ s pick).findSome? (stolen s) = none := circ_no (by rw [HF.out]; exact HNO.out)
      rw [hfs]
      simp only [Option.none_or]
      have HS1 := hid hfs
      clear hfs
      clear HNO
      go_loopg [19] s.length (fun k x wr => ∃ m : Nat, m + k = s.length ∧ x = .int .i64 m ∧ (∀ y, y < m → heldOf s ((f + y) % s.length) = none) ∧ Below (w.alloc (.cells #[.int .i64 0, .bool false, .int .i64 0, .bool false, .int .i64 0, .slice none 0 0] 33)).heap.size (w.alloc (.cells #[.int .i64 0, .bool false, .int .i64 0, .bool false, .int .i64 0, .slice none 0 0] 33)) wr)
      case atStart => exact ⟨0, by omega, rfl, fun y hy => by omega, (by repeat (first | (with_reducible exact Below.refl _ _) | (with_reducible exact bl_mm) | (with_reducible refine bl_dr ?_) | (with_reducible refine bl_drN ?_ _) | (with_reducible refine bl_al ?_ _) | (with_reducible refine bl_more ?_ _ _)))⟩
      case round =>
        obtain ⟨m, hm, rfl, hno, hb⟩ := hrel
        clear HM i4
        obtain ⟨ex5, dx5, rfl⟩ := more_of hb
        have HNO := hid hno
        have HM := hid hm
        clear hno hb
        by_cases hlt : m < s.length
        · have hfl := HFL.out
          obtain ⟨v, hv⟩ : ∃ v, (f + m) % s.length = v := ⟨_, rfl⟩
          have hvl : v < s.length := by rw [← hv]; exact Nat.mod_lt _ (by omega)
          have i4 : (m : Int) < (s.length : Int) := by omega
          have y3 : IntKind.i64.wrap ((f : Int) + (m : Int)) = (f : Int) + (m : Int) := IntWalk.i64_in _ (by omega)
          have y4 : ((f : Int) + (m : Int)).tmod (s.length : Int) = (v : Int) := by rw [Int.tmod_eq_emod_of_nonneg (by omega), ← hv]; simp
          have w1' : IntKind.i64.wrap ((m : Int) + 1) = ((m + 1 : Nat) : Int) := by rw [IntWalk.i64_in _ (by omega)]; rfl
          have i5 : (v : Int) < (s.length : Int) := by omega
          have i6 : (0 : Int) ≤ (v : Int) := by omega
          have av := HP.out.has_ v hvl
          have HV := hid hv
          have HVL := hid (And.intro hvl trivial)
          clear hfl hv hm
          cases hl : s[v].h with
          | none =>
            rw [hl] at av
            simp only [Option.isSome_none] at av
            have HL := hid hl
            clear hl
            go_wp2_with (first | ((with_reducible refine wp_region_plan (id := 8) (.eff [(false, 0), (false, 1), (false, 2), (false, 3), (false, 4), (false, 5), (false, 6), (false, 7), (false, 8), (true, 9), (false, 10), (false, 11), (false, 12), (false, 13), (true, 14), (false, 15), (true, 16), (false, 17)] 18 [9, 14, 16] (.eff [(false, 19)] 20 [14] (.eff [(false, 21)] 22 [] (.fin [])))) ?_ ?_ ?_ ?_ ?_ ?_); kernel_rfl; kernel_rfl; kernel_rfl; kernel_rfl; (intro c a d v w h; cases d <;> exact h)) | ((with_reducible refine wp_region_plan (id := 17) (.eff [(false, 0), (false, 1), (false, 2), (false, 3), (false, 4), (false, 5), (false, 6), (false, 7), (false, 8), (true, 9), (false, 10), (false, 11), (false, 12), (false, 13), (true, 14), (false, 15), (true, 16), (false, 17)] 18 [9, 14, 16] (.eff [(false, 19)] 20 [14] (.eff [(false, 21)] 22 [] (.fin [])))) ?_ ?_ ?_ ?_ ?_ ?_); kernel_rfl; kernel_rfl; kernel_rfl; kernel_rfl; (intro c a d v w h; cases d <;> exact h)) | ((with_reducible refine wp_region_plan (id := 24) (.eff [(false, 0), (false, 1), (false, 2), (false, 3), (false, 4), (false, 5), (false, 6), (false, 7), (false, 8), (true, 9), (false, 10), (false, 11), (false, 12), (false, 13), (false, 14), (false, 15), (false, 16), (false, 17)] 18 [9] (.eff [(false, 19)] 20 [] (.fin []))) ?_ ?_ ?_ ?_ ?_ ?_); kernel_rfl; kernel_rfl; kernel_rfl; kernel_rfl; (intro c a d v w h; cases d <;> exact h)) | ((with_reducible refine wp_region_plan (id := 25) (.eff [(false, 0), (false, 1), (false, 2), (false, 3), (false, 4), (false, 5), (false, 6), (false, 7), (false, 8), (true, 9), (false, 10), (false, 11)] 12 [9] (.eff [(false, 13)] 14 [] (.fin []))) ?_ ?_ ?_ ?_ ?_ ?_); kernel_rfl; kernel_rfl; kernel_rfl; kernel_rfl; (intro c a d v w h; cases d <;> exact h)) | (with_reducible refine wpPlan_eff ?_) | (with_reducible refine wpPlan_fin ?_) | (with_reducible refine wpPlan_two ?_) | (with_reducible refine wpOpPair ?_ ?_) | ((with_reducible apply wpPre_keep); rfl; intro K' hK'; go_simp; refine hK' _ _ ?_; intro f hf; clear hK' K') | ((with_reducible apply wpPre_drop); rfl; intro K' hK'; go_simp; refine hK' _ _ ?_; intro f; clear hK' K') | (with_reducible refine wpPre_nil ?_) | ((with_reducible apply wpOp_list); rfl) | (with_reducible refine heldPair ?_ ?_) | ((with_reducible refine heldH_no ?_ ?_); rfl) | (with_reducible refine heldH_yes ?_ ?_) | (with_reducible exact heldH_nil) | (unfold YAt; go_simp; done))
            go_roundg (s.length - (m + 1))
            case measure => have := HM.out; omega
            case rel =>
              refine ⟨m + 1, by have := HM.out; omega, rfl, fun y hy => ?_, (by repeat (first | (with_reducible exact Below.refl _ _) | (with_reducible exact bl_mm) | (with_reducible refine bl_dr ?_) | (with_reducible refine bl_drN ?_ _) | (with_reducible refine bl_al ?_ _) | (with_reducible refine bl_more ?_ _ _)))⟩
              rcases Nat.lt_succ_iff_lt_or_eq.1 hy with h1 | rfl
              · exact HNO.out y h1
              · rw [HV.out]; exact held_none HVL.out.1 HL.out
          | some x =>
            rw [hl] at av
            simp only [Option.isSome_some] at av
            have HL := hid hl
            obtain ⟨Av, cv, hrv, hcv⟩ := HP.out.hold_ v hvl
            have ho : hOf s[v] = x := by unfold hOf; rw [hl]; rfl
            rw [ho] at hrv hcv
            have g0 := hcv 0 _ rfl
            have g1 := hcv 1 _ rfl
            have g2 := hcv 2 _ rfl
            have g3 := hcv 3 _ rfl
            have g4 := hcv 4 _ rfl
            have g5 := hcv 5 _ rfl
            simp only [Nat.add_zero] at g0
            have HRV := hid hrv
            clear hl ho hcv hrv
            go_upto_region 25 with (first | ((with_reducible refine wp_region_plan (id := 8) (.eff [(false, 0), (false, 1), (false, 2), (false, 3), (false, 4), (false, 5), (false, 6), (false, 7), (false, 8), (true, 9), (false, 10), (false, 11), (false, 12), (false, 13), (true, 14), (false, 15), (true, 16), (false, 17)] 18 [9, 14, 16] (.eff [(false, 19)] 20 [14] (.eff [(false, 21)] 22 [] (.fin [])))) ?_ ?_ ?_ ?_ ?_ ?_); kernel_rfl; kernel_rfl; kernel_rfl; kernel_rfl; (intro c a d v w h; cases d <;> exact h)) | ((with_reducible refine wp_region_plan (id := 17) (.eff [(false, 0), (false, 1), (false, 2), (false, 3), (false, 4), (false, 5), (false, 6), (false, 7), (false, 8), (true, 9), (false, 10), (false, 11), (false, 12), (false, 13), (true, 14), (false, 15), (true, 16), (false, 17)] 18 [9, 14, 16] (.eff [(false, 19)] 20 [14] (.eff [(false, 21)] 22 [] (.fin [])))) ?_ ?_ ?_ ?_ ?_ ?_); kernel_rfl; kernel_rfl; kernel_rfl; kernel_rfl; (intro c a d v w h; cases d <;> exact h)) | ((with_reducible refine wp_region_plan (id := 24) (.eff [(false, 0), (false, 1), (false, 2), (false, 3), (false, 4), (false, 5), (false, 6), (false, 7), (false, 8), (true, 9), (false, 10), (false, 11), (false, 12), (false, 13), (false, 14), (false, 15), (false, 16), (false, 17)] 18 [9] (.eff [(false, 19)] 20 [] (.fin []))) ?_ ?_ ?_ ?_ ?_ ?_); kernel_rfl; kernel_rfl; kernel_rfl; kernel_rfl; (intro c a d v w h; cases d <;> exact h)) | ((with_reducible refine wp_region_plan (id := 25) (.eff [(false, 0), (false, 1), (false, 2), (false, 3), (false, 4), (false, 5), (false, 6), (false, 7), (false, 8), (true, 9), (false, 10), (false, 11)] 12 [9] (.eff [(false, 13)] 14 [] (.fin []))) ?_ ?_ ?_ ?_ ?_ ?_); kernel_rfl; kernel_rfl; kernel_rfl; kernel_rfl; (intro c a d v w h; cases d <;> exact h)) | (with_reducible refine wpPlan_eff ?_) | (with_reducible refine wpPlan_fin ?_) | (with_reducible refine wpPlan_two ?_) | (with_reducible refine wpOpPair ?_ ?_) | ((with_reducible apply wpPre_keep); rfl; intro K' hK'; go_simp; refine hK' _ _ ?_; intro f hf; clear hK' K') | ((with_reducible apply wpPre_drop); rfl; intro K' hK'; go_simp; refine hK' _ _ ?_; intro f; clear hK' K') | (with_reducible refine wpPre_nil ?_) | ((with_reducible apply wpOp_list); rfl) | (with_reducible refine heldPair ?_ ?_) | ((with_reducible refine heldH_no ?_ ?_); rfl) | (with_reducible refine heldH_yes ?_ ?_) | (with_reducible exact heldH_nil) | (unfold YAt; go_simp; done))
            have hne : v ≠ i := fun e => by subst e; have h1 := HL.out; rw [HJ.out] at h1; cases h1
            have hp4 := HP.out.setHas i HI.out.1 (some x) HRV.out
            rw [job6] at hp4
            simp only [Option.isSome_some, Option.getD_some] at hp4
            have hz4 : (((((((w.setCell ⟨b2, i * 6, none⟩ (.int .i64 x.item)).setCell ⟨b2, i * 6 + 1, none⟩ (.bool x.undo)).setCell ⟨b2, i * 6 + 2, none⟩ (.int .i64 x.try_)).setCell ⟨b2, i * 6 + 3, none⟩ (.bool x.begun)).setCell ⟨b2, i * 6 + 4, none⟩ (.int .i64 x.token)).setCell ⟨b2, i * 6 + 5, none⟩ (.slice Av x.stamp.length cv)).setCell ⟨b3, i, none⟩ (.bool true)).heap.size = w.heap.size := by simp
            have hw4 : Ext (Rb r b1 b2 b3) w (((((((w.setCell ⟨b2, i * 6, none⟩ (.int .i64 x.item)).setCell ⟨b2, i * 6 + 1, none⟩ (.bool x.undo)).setCell ⟨b2, i * 6 + 2, none⟩ (.int .i64 x.try_)).setCell ⟨b2, i * 6 + 3, none⟩ (.bool x.begun)).setCell ⟨b2, i * 6 + 4, none⟩ (.int .i64 x.token)).setCell ⟨b2, i * 6 + 5, none⟩ (.slice Av x.stamp.length cv)).setCell ⟨b3, i, none⟩ (.bool true)) := by
              rw [← job6]; exact ((ext_setCells b2 _ _ w).mono (fun b _ e => .inr (.inr (.inl e)))).trans (Ext.setCell (S := fun b => b = b3) _ _ _ rfl) (fun b _ e => .inr (.inr (.inr e)))
            generalize (((((((w.setCell ⟨b2, i * 6, none⟩ (.int .i64 x.item)).setCell ⟨b2, i * 6 + 1, none⟩ (.bool x.undo)).setCell ⟨b2, i * 6 + 2, none⟩ (.int .i64 x.try_)).setCell ⟨b2, i * 6 + 3, none⟩ (.bool x.begun)).setCell ⟨b2, i * 6 + 4, none⟩ (.int .i64 x.token)).setCell ⟨b2, i * 6 + 5, none⟩ (.slice Av x.stamp.length cv)).setCell ⟨b3, i, none⟩ (.bool true)) = w4 at hp4 hz4 hw4 ⊢
            have hz : w4.heap.size = w.heap.size := hz4
            rw [← hz]
            have HZ := hid hz
            have HW4 := hid hw4
            have HP4 := hid hp4
            have hlen4 : (s.set i ⟨s[i].l, some x⟩).length = s.length := by rw [List.length_set]
            have hv4 : v < (s.set i ⟨s[i].l, some x⟩).length := by rw [hlen4]; exact HVL.out.1
            have hsv : (s.set i ⟨s[i].l, some x⟩)[v] = s[v] := List.getElem_set_ne (fun e => hne e.symm) _
            obtain ⟨k1, k2, k3⟩ := hp4.cells
            rw [hlen4] at k1 k2 k3
            obtain ⟨Aw, cw, hrw4, hcw⟩ := hp4.hold_ v hv4
            have hov : hOf (s.set i ⟨s[i].l, some x⟩)[v] = x := by rw [hsv]; unfold hOf; rw [HL.out]; rfl
            rw [hov] at hrw4 hcw
            have p0 := hcw 0 _ rfl
            have p1 := hcw 1 _ rfl
            have p2 := hcw 2 _ rfl
            have p3 := hcw 3 _ rfl
            have p4 := hcw 4 _ rfl
            have p5 := hcw 5 _ rfl
            simp only [Nat.add_zero] at p0
            have p6 := hp4.has_ v hv4
            rw [hsv, HL.out] at p6
            have q0 := hp4.hold.frz (v * 6)
            have q1 := hp4.hold.frz (v * 6 + 1)
            have q2 := hp4.hold.frz (v * 6 + 2)
            have q3 := hp4.hold.frz (v * 6 + 3)
            have q4 := hp4.hold.frz (v * 6 + 4)
            have q5 := hp4.hold.frz (v * 6 + 5)
            have q6 := hp4.has.frz v
            obtain ⟨x1, x2, x3, x4⟩ := hp4.lt
            have HNE := hid hne
            clear hcw hrw4 hov hp4 hz hlen4 hv4 hsv hne hz4 hw4
            go_upto_region 26 with (first | ((with_reducible refine wp_region_plan (id := 8) (.eff [(false, 0), (false, 1), (false, 2), (false, 3), (false, 4), (false, 5), (false, 6), (false, 7), (false, 8), (true, 9), (false, 10), (false, 11), (false, 12), (false, 13), (true, 14), (false, 15), (true, 16), (false, 17)] 18 [9, 14, 16] (.eff [(false, 19)] 20 [14] (.eff [(false, 21)] 22 [] (.fin [])))) ?_ ?_ ?_ ?_ ?_ ?_); kernel_rfl; kernel_rfl; kernel_rfl; kernel_rfl; (intro c a d v w h; cases d <;> exact h)) | ((with_reducible refine wp_region_plan (id := 17) (.eff [(false, 0), (false, 1), (false, 2), (false, 3), (false, 4), (false, 5), (false, 6), (false, 7), (false, 8), (true, 9), (false, 10), (false, 11), (false, 12), (false, 13), (true, 14), (false, 15), (true, 16), (false, 17)] 18 [9, 14, 16] (.eff [(false, 19)] 20 [14] (.eff [(false, 21)] 22 [] (.fin [])))) ?_ ?_ ?_ ?_ ?_ ?_); kernel_rfl; kernel_rfl; kernel_rfl; kernel_rfl; (intro c a d v w h; cases d <;> exact h)) | ((with_reducible refine wp_region_plan (id := 24) (.eff [(false, 0), (false, 1), (false, 2), (false, 3), (false, 4), (false, 5), (false, 6), (false, 7), (false, 8), (true, 9), (false, 10), (false, 11), (false, 12), (false, 13), (false, 14), (false, 15), (false, 16), (false, 17)] 18 [9] (.eff [(false, 19)] 20 [] (.fin []))) ?_ ?_ ?_ ?_ ?_ ?_); kernel_rfl; kernel_rfl; kernel_rfl; kernel_rfl; (intro c a d v w h; cases d <;> exact h)) | ((with_reducible refine wp_region_plan (id := 25) (.eff [(false, 0), (false, 1), (false, 2), (false, 3), (false, 4), (false, 5), (false, 6), (false, 7), (false, 8), (true, 9), (false, 10), (false, 11)] 12 [9] (.eff [(false, 13)] 14 [] (.fin []))) ?_ ?_ ?_ ?_ ?_ ?_); kernel_rfl; kernel_rfl; kernel_rfl; kernel_rfl; (intro c a d v w h; cases d <;> exact h)) | (with_reducible refine wpPlan_eff ?_) | (with_reducible refine wpPlan_fin ?_) | (with_reducible refine wpPlan_two ?_) | (with_reducible refine wpOpPair ?_ ?_) | ((with_reducible apply wpPre_keep); rfl; intro K' hK'; go_simp; refine hK' _ _ ?_; intro f hf; clear hK' K') | ((with_reducible apply wpPre_drop); rfl; intro K' hK'; go_simp; refine hK' _ _ ?_; intro f; clear hK' K') | (with_reducible refine wpPre_nil ?_) | ((with_reducible apply wpOp_list); rfl) | (with_reducible refine heldPair ?_ ?_) | ((with_reducible refine heldH_no ?_ ?_); rfl) | (with_reducible refine heldH_yes ?_ ?_) | (with_reducible exact heldH_nil) | (unfold YAt; go_simp; done))
            have hv4 : v < (s.set i ⟨s[i].l, some x⟩).length := by rw [List.length_set]; exact HVL.out.1
            have hp5 := HP4.out.setHas v hv4 none (v := .slice none 0 0) (Enc.Row.nil _ _ _)
            rw [job6] at hp5
            simp only [Option.isSome_none, Option.getD_none, job0, show (s.set i ⟨s[i].l, some x⟩)[v] = s[v]'HVL.out.1 from List.getElem_set_ne (fun e => HNE.out e.symm) _] at hp5
            have hw5 : Ext (Rb r b1 b2 b3) w4 (((((((w4.setCell ⟨b2, v * 6, none⟩ (.int .i64 0)).setCell ⟨b2, v * 6 + 1, none⟩ (.bool false)).setCell ⟨b2, v * 6 + 2, none⟩ (.int .i64 0)).setCell ⟨b2, v * 6 + 3, none⟩ (.bool false)).setCell ⟨b2, v * 6 + 4, none⟩ (.int .i64 0)).setCell ⟨b2, v * 6 + 5, none⟩ (.slice none 0 0)).setCell ⟨b3, v, none⟩ (.bool false)) :=
              ((ext_setCells b2 (jobCells job0 (.slice none 0 0)) (v * 6) w4).mono (fun b _ e => .inr (.inr (.inl e)))).trans (Ext.setCell (S := fun b => b = b3) _ _ _ rfl) (fun b _ e => .inr (.inr (.inr e)))
            have hz5 : (((((((w4.setCell ⟨b2, v * 6, none⟩ (.int .i64 0)).setCell ⟨b2, v * 6 + 1, none⟩ (.bool false)).setCell ⟨b2, v * 6 + 2, none⟩ (.int .i64 0)).setCell ⟨b2, v * 6 + 3, none⟩ (.bool false)).setCell ⟨b2, v * 6 + 4, none⟩ (.int .i64 0)).setCell ⟨b2, v * 6 + 5, none⟩ (.slice none 0 0)).setCell ⟨b3, v, none⟩ (.bool false)).heap.size = w4.heap.size := by simp
            generalize (((((((w4.setCell ⟨b2, v * 6, none⟩ (.int .i64 0)).setCell ⟨b2, v * 6 + 1, none⟩ (.bool false)).setCell ⟨b2, v * 6 + 2, none⟩ (.int .i64 0)).setCell ⟨b2, v * 6 + 3, none⟩ (.bool false)).setCell ⟨b2, v * 6 + 4, none⟩ (.int .i64 0)).setCell ⟨b2, v * 6 + 5, none⟩ (.slice none 0 0)).setCell ⟨b3, v, none⟩ (.bool false)) = w5 at hp5 hw5 hz5 ⊢
            rw [← hz5]
            clear k1 k2 k3 p0 p1 p2 p3 p4 p5 p6 q0 q1 q2 q3 q4 q5 q6 x1 x2 x3 x4
            have hlen5 : ((s.set i ⟨s[i].l, some x⟩).set v ⟨s[v].l, none⟩).length = s.length := by rw [List.length_set, List.length_set]
            have hi5 : i < ((s.set i ⟨s[i].l, some x⟩).set v ⟨s[v].l, none⟩).length := by rw [hlen5]; exact HI.out.1
            have hsi : hOf ((s.set i ⟨s[i].l, some x⟩).set v ⟨s[v].l, none⟩)[i] = x := by rw [List.getElem_set_ne HNE.out, List.getElem_set_self]; rfl
            have HP5 := hid hp5
            have HZ5 := hid hz5
            have HW5 := hid hw5
            obtain ⟨k1, k2, k3⟩ := hp5.cells
            rw [hlen5] at k1 k2 k3
            obtain ⟨Ai, ci, hri, hci⟩ := hp5.hold_ i hi5
            rw [hsi] at hri hci
            have p0 := hci 0 _ rfl
            have p1 := hci 1 _ rfl
            have p2 := hci 2 _ rfl
            have p3 := hci 3 _ rfl
            have p4 := hci 4 _ rfl
            have p5 := hci 5 _ rfl
            simp only [Nat.add_zero] at p0
            obtain ⟨x1, x2, x3, x4⟩ := hp5.lt
            have HRI := hid hri
            clear hri hci hsi hi5 hlen5 hp5 hz5 hw5 hv4
            go_wp2_with (first | ((with_reducible refine wp_region_plan (id := 8) (.eff [(false, 0), (false, 1), (false, 2), (false, 3), (false, 4), (false, 5), (false, 6), (false, 7), (false, 8), (true, 9), (false, 10), (false, 11), (false, 12), (false, 13), (true, 14), (false, 15), (true, 16), (false, 17)] 18 [9, 14, 16] (.eff [(false, 19)] 20 [14] (.eff [(false, 21)] 22 [] (.fin [])))) ?_ ?_ ?_ ?_ ?_ ?_); kernel_rfl; kernel_rfl; kernel_rfl; kernel_rfl; (intro c a d v w h; cases d <;> exact h)) | ((with_reducible refine wp_region_plan (id := 17) (.eff [(false, 0), (false, 1), (false, 2), (false, 3), (false, 4), (false, 5), (false, 6), (false, 7), (false, 8), (true, 9), (false, 10), (false, 11), (false, 12), (false, 13), (true, 14), (false, 15), (true, 16), (false, 17)] 18 [9, 14, 16] (.eff [(false, 19)] 20 [14] (.eff [(false, 21)] 22 [] (.fin [])))) ?_ ?_ ?_ ?_ ?_ ?_); kernel_rfl; kernel_rfl; kernel_rfl; kernel_rfl; (intro c a d v w h; cases d <;> exact h)) | ((with_reducible refine wp_region_plan (id := 24) (.eff [(false, 0), (false, 1), (false, 2), (false, 3), (false, 4), (false, 5), (false, 6), (false, 7), (false, 8), (true, 9), (false, 10), (false, 11), (false, 12), (false, 13), (false, 14), (false, 15), (false, 16), (false, 17)] 18 [9] (.eff [(false, 19)] 20 [] (.fin []))) ?_ ?_ ?_ ?_ ?_ ?_); kernel_rfl; kernel_rfl; kernel_rfl; kernel_rfl; (intro c a d v w h; cases d <;> exact h)) | ((with_reducible refine wp_region_plan (id := 25) (.eff [(false, 0), (false, 1), (false, 2), (false, 3), (false, 4), (false, 5), (false, 6), (false, 7), (false, 8), (true, 9), (false, 10), (false, 11)] 12 [9] (.eff [(false, 13)] 14 [] (.fin []))) ?_ ?_ ?_ ?_ ?_ ?_); kernel_rfl; kernel_rfl; kernel_rfl; kernel_rfl; (intro c a d v w h; cases d <;> exact h)) | (with_reducible refine wpPlan_eff ?_) | (with_reducible refine wpPlan_fin ?_) | (with_reducible refine wpPlan_two ?_) | (with_reducible refine wpOpPair ?_ ?_) | ((with_reducible apply wpPre_keep); rfl; intro K' hK'; go_simp; refine hK' _ _ ?_; intro f hf; clear hK' K') | ((with_reducible apply wpPre_drop); rfl; intro K' hK'; go_simp; refine hK' _ _ ?_; intro f; clear hK' K') | (with_reducible refine wpPre_nil ?_) | ((with_reducible apply wpOp_list); rfl) | (with_reducible refine heldPair ?_ ?_) | ((with_reducible refine heldH_no ?_ ?_); rfl) | (with_reducible refine heldH_yes ?_ ?_) | (with_reducible exact heldH_nil) | (unfold YAt; go_simp; done))
            refine bodyPost_ret (v := .tuple #[jobV x (.slice Ai x.stamp.length ci), .int .i64 v, .int .i64 0]) (by simp [results, Try.results32, go_sem]) rfl ?_
            have hfd : (circ s pick).findSome? (heldOf s) = some (s.set v ⟨s[v].l, none⟩, x, v) :=
              circ_at (m := m) hlt (by rw [HF.out]; exact HNO.out) (by rw [HF.out, HV.out]; exact held_some HVL.out.1 HL.out)
            rw [hfd]
            try simp only [HS1.out, Option.none_or]
            show RTaken N w K r b1 b2 b3 (hold1 (s.set v ⟨s[v].l, none⟩) i (some x)) x v 0 _ _
            rw [hold1_swap HI.out.1 HNE.out]
            exact ⟨_, rfl, rt_of HP.out HP5.out (HW4.out.trans HW5.out (fun _ _ e => e)) (by repeat (first | (with_reducible exact Below.refl _ _) | (with_reducible exact bl_mm) | (with_reducible refine bl_dr ?_) | (with_reducible refine bl_drN ?_ _) | (with_reducible refine bl_al ?_ _) | (with_reducible refine bl_more ?_ _ _))), (HRI.out.below (by repeat (first | (with_reducible exact Below.refl _ _) | (with_reducible exact bl_mm) | (with_reducible refine bl_dr ?_) | (with_reducible refine bl_drN ?_ _) | (with_reducible refine bl_al ?_ _) | (with_reducible refine bl_more ?_ _ _)))).mono (fun _ _ _ => trivial)⟩
        · obtain rfl : m = s.length := by omega
          have i4 : ¬ (s.length : Int) < s.length := by omega
          clear hm
          go_wp2_with (first | ((with_reducible refine wp_region_plan (id := 8) (.eff [(false, 0), (false, 1), (false, 2), (false, 3), (false, 4), (false, 5), (false, 6), (false, 7), (false, 8), (true, 9), (false, 10), (false, 11), (false, 12), (false, 13), (true, 14), (false, 15), (true, 16), (false, 17)] 18 [9, 14, 16] (.eff [(false, 19)] 20 [14] (.eff [(false, 21)] 22 [] (.fin [])))) ?_ ?_ ?_ ?_ ?_ ?_); kernel_rfl; kernel_rfl; kernel_rfl; kernel_rfl; (intro c a d v w h; cases d <;> exact h)) | ((with_reducible refine wp_region_plan (id := 17) (.eff [(false, 0), (false, 1), (false, 2), (false, 3), (false, 4), (false, 5), (false, 6), (false, 7), (false, 8), (true, 9), (false, 10), (false, 11), (false, 12), (false, 13), (true, 14), (false, 15), (true, 16), (false, 17)] 18 [9, 14, 16] (.eff [(false, 19)] 20 [14] (.eff [(false, 21)] 22 [] (.fin [])))) ?_ ?_ ?_ ?_ ?_ ?_); kernel_rfl; kernel_rfl; kernel_rfl; kernel_rfl; (intro c a d v w h; cases d <;> exact h)) | ((with_reducible refine wp_region_plan (id := 24) (.eff [(false, 0), (false, 1), (false, 2), (false, 3), (false, 4), (false, 5), (false, 6), (false, 7), (false, 8), (true, 9), (false, 10), (false, 11), (false, 12), (false, 13), (false, 14), (false, 15), (false, 16), (false, 17)] 18 [9] (.eff [(false, 19)] 20 [] (.fin []))) ?_ ?_ ?_ ?_ ?_ ?_); kernel_rfl; kernel_rfl; kernel_rfl; kernel_rfl; (intro c a d v w h; cases d <;> exact h)) | ((with_reducible refine wp_region_plan (id := 25) (.eff [(false, 0), (false, 1), (false, 2), (false, 3), (false, 4), (false, 5), (false, 6), (false, 7), (false, 8), (true, 9), (false, 10), (false, 11)] 12 [9] (.eff [(false, 13)] 14 [] (.fin []))) ?_ ?_ ?_ ?_ ?_ ?_); kernel_rfl; kernel_rfl; kernel_rfl; kernel_rfl; (intro c a d v w h; cases d <;> exact h)) | (with_reducible refine wpPlan_eff ?_) | (with_reducible refine wpPlan_fin ?_) | (with_reducible refine wpPlan_two ?_) | (with_reducible refine wpOpPair ?_ ?_) | ((with_reducible apply wpPre_keep); rfl; intro K' hK'; go_simp; refine hK' _ _ ?_; intro f hf; clear hK' K') | ((with_reducible apply wpPre_drop); rfl; intro K' hK'; go_simp; refine hK' _ _ ?_; intro f; clear hK' K') | (with_reducible refine wpPre_nil ?_) | ((with_reducible apply wpOp_list); rfl) | (with_reducible refine heldPair ?_ ?_) | ((with_reducible refine heldH_no ?_ ?_); rfl) | (with_reducible refine heldH_yes ?_ ?_) | (with_reducible exact heldH_nil) | (unfold YAt; go_simp; done))
          refine bodyPost_ret (v := .tuple #[jobV job0 (.slice none 0 0), .int .i64 0, .int .i64 6]) (by simp [results, Try.results32, job0, go_sem]) rfl ?_
          have hfs : (circ s pick).findSome? (heldOf s) = none := circ_no (by rw [HF.out]; exact HNO.out)
          rw [hfs]
          simp only [HS1.out, Option.none_or]
          show RTaken N w K r b1 b2 b3 s job0 0 6 _ _
          exact ⟨_, rfl, rt_same HP.out (by repeat (first | (with_reducible exact Below.refl _ _) | (with_reducible exact bl_mm) | (with_reducible refine bl_dr ?_) | (with_reducible refine bl_drN ?_ _) | (with_reducible refine bl_al ?_ _) | (with_reducible refine bl_more ?_ _ _))), Enc.Row.nil _ _ _⟩
end Go.Proofs.Ytlfdnjomjheioaa
