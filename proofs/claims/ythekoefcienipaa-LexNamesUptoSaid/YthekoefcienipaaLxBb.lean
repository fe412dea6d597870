/- LexBack, walked. -/
import Derived.Test.YthekoefcienipaaLxTx
namespace Go.Proofs.Ythekoefcienipaa
open Go.RowKit

def itemsJ : List ByteArray → List (ByteArray × ByteArray)
  | [] => []
  | x :: r => (⟨#[]⟩, x) :: r.map (fun y => (⟨#[32]⟩, y))
theorem flat_tail (r : List ByteArray) : flat (r.map (fun y => ((⟨#[32]⟩ : ByteArray), y))) = Lib.joinTail [32] (r.map (·.data.toList)) := by
  induction r with
  | nil => rfl
  | cons y r ih =>
    rw [List.map_cons, flat, ih]
    simp [Lib.joinTail]
theorem joinB_data (xs : List ByteArray) : (joinB (xs.map tokT)).data.toList = flat (itemsJ xs) := by
  unfold joinB
  cases xs with
  | nil => rfl
  | cons x r =>
    rw [List.map_cons, List.map_cons, Lib.join_cons]
    show x.data.toList ++ _ = _
    rw [itemsJ, flat, flat_tail, List.map_map]
    rfl
theorem flat_len (items : List (ByteArray × ByteArray)) (n : Nat) (h : ∀ y ∈ items, y.1.size + y.2.size ≤ n) : (flat items).length ≤ n * items.length := by
  induction items with
  | nil => simp [flat]
  | cons y r ih =>
    obtain ⟨b, x⟩ := y
    have h1 := h (b, x) (List.mem_cons_self ..)
    have h2 := ih (fun y hy => h y (List.mem_cons_of_mem _ hy))
    have hb : b.data.toList.length = b.size := rfl
    have hx : x.data.toList.length = x.size := rfl
    have h1 : b.size + x.size ≤ n := h1
    rw [flat, List.length_append, List.length_append, List.length_cons, Nat.mul_add, hb, hx]
    omega
theorem itemsJ_mem {xs : List ByteArray} {y : ByteArray × ByteArray} (h : y ∈ itemsJ xs) : y.2 ∈ xs ∧ (y.1 = ⟨#[]⟩ ∨ y.1 = ⟨#[32]⟩) := by
  cases xs with
  | nil => cases h
  | cons x r =>
    rw [itemsJ] at h
    rcases List.mem_cons.1 h with rfl | h
    · exact ⟨List.mem_cons_self .., .inl rfl⟩
    · obtain ⟨z, hz, rfl⟩ := List.mem_map.1 h
      exact ⟨List.mem_cons_of_mem _ hz, .inr rfl⟩
theorem itemsJ_len (xs : List ByteArray) : (itemsJ xs).length = xs.length := by
  cases xs with
  | nil => rfl
  | cons x r => simp [itemsJ]
theorem itemsJ_txt (xs : List ByteArray) : (itemsJ xs).map (fun y => (kindT y.2, y.2)) = (xs.map tokT).map txt := by
  cases xs with
  | nil => rfl
  | cons x r => simp [itemsJ, tokT, txt]
theorem skip_sp : skips ⟨#[32]⟩ := by
  show skipF _ _ _ _ = _
  kernel_rfl
theorem skip_no : skips ⟨#[]⟩ := by
  show skipF _ _ _ _ = _
  kernel_rfl
theorem back_law {xs : List ByteArray} (hok : ∀ y ∈ xs, okT y = true) (hl : xs.length ≤ 300) : (joinB (xs.map tokT)).size ≤ 65536 ∧ ∃ U, dR (joinB (xs.map tokT)) = (U, ((joinB (xs.map tokT)).size : Int), 0) ∧ (xs.map tokT).map txt = U.map txt ∧ ∀ x ∈ U, ∃ a : Nat, x.at_ = a ∧ a + x.text.size ≤ (joinB (xs.map tokT)).size ∧ (joinB (xs.map tokT)).extract a (a + x.text.size) = x.text := by
  have hd := joinB_data xs
  obtain ⟨S, hS⟩ : ∃ S, joinB (xs.map tokT) = S := ⟨_, rfl⟩
  rw [hS] at hd ⊢
  have hsz : S.size = (flat (itemsJ xs)).length := by rw [← hd]; rfl
  have hfl := flat_len (itemsJ xs) 25 (fun y hy => by
    obtain ⟨h1, h2⟩ := itemsJ_mem hy
    have := okT_size (hok _ h1)
    rcases h2 with h2 | h2 <;> rw [h2]
    · show 0 + _ ≤ _; omega
    · show 1 + _ ≤ _; omega)
  rw [itemsJ_len] at hfl
  have hly := lay (s := S) (tail := []) (fun c hc => by cases hc) (itemsJ xs) 0 [] (Nat.zero_le _) (by rw [List.drop_zero, hd, List.append_nil])
    (fun y hy => by
      obtain ⟨h1, h2⟩ := itemsJ_mem hy
      refine ⟨hok _ h1, ?_⟩
      rcases h2 with h2 | h2 <;> rw [h2]
      · exact skip_no
      · exact skip_sp)
    (fun y hy => by
      cases xs with
      | nil => cases hy
      | cons x r =>
        obtain ⟨z, hz, rfl⟩ := List.mem_map.1 hy
        refine ⟨by show ¬ (1 = 0); decide, fun c hc => ?_⟩
        cases hc
        exact ⟨by decide, by decide⟩)
  obtain ⟨h1, h2⟩ := hly
  rw [List.length_nil, Nat.sub_zero, List.nil_append, dL_end (s := S) (p := S.size) (rem := false) (out := toksP 0 (itemsJ xs)) (by omega)] at h1
  refine ⟨by omega, toksP 0 (itemsJ xs), dR_inl h1, ?_, h2⟩
  rw [toksP_txt, itemsJ_txt]
set_option maxRecDepth 4000 in
set_option maxHeartbeats 4000000 in
theorem back_any {w : World} {v : Value} {xs : List ByteArray} {K : Nat → Prop} (h : Enc.str.Row K w v xs) : Calls Try.prog 5 #[v] w fun e w' => e = .returned (.bool true) ∧ Below w.heap.size w w' := by
  obtain ⟨A, ca, rfl, _, _⟩ := h.form
  have Mlives := hid trivial
  by_cases hl : (300 : Int) < xs.length
  · go_enter Try.func5, Try.ntmps5
    go_wp2_with (first | ((with_reducible refine wp_region_plan (id := 14) (.fin [(false, 0), (false, 1), (false, 2), (false, 3), (false, 4), (false, 5), (false, 6), (false, 7), (false, 8), (false, 9), (false, 10), (false, 11), (false, 12), (false, 13), (false, 14), (false, 15), (false, 16), (false, 17), (false, 18), (false, 19), (false, 20), (false, 21), (false, 22), (false, 23), (false, 24), (false, 25), (false, 26), (false, 27), (false, 28)]) ?_ ?_ ?_ ?_ ?_ ?_); kernel_rfl; kernel_rfl; kernel_rfl; kernel_rfl; (intro c a d v w h; cases d <;> exact h)) | (with_reducible refine wpPlan_eff ?_) | (with_reducible refine wpPlan_fin ?_) | (with_reducible refine wpPlan_two ?_) | (with_reducible refine wpOpPair ?_ ?_) | ((with_reducible apply wpPre_keep); rfl; intro K' hK'; go_simp; refine hK' _ _ ?_; intro f hf; clear hK' K') | ((with_reducible apply wpPre_drop); rfl; intro K' hK'; go_simp; refine hK' _ _ ?_; intro f; clear hK' K') | (with_reducible refine wpPre_nil ?_) | ((with_reducible apply wpOp_list); rfl) | (with_reducible refine heldPair ?_ ?_) | ((with_reducible refine heldH_no ?_ ?_); rfl) | (with_reducible refine heldH_yes ?_ ?_) | (with_reducible exact heldH_nil) | (unfold YAt; go_simp; done) | (go_at_call 9; clear Mlives; refine lives_any.mono ?_; rintro e w5 ⟨rfl, hb5⟩; obtain ⟨ey5, dx5, rfl⟩ := more_of hb5; clear hb5))
    go_ret
    exact ⟨rfl, (by repeat (first | (with_reducible exact Below.refl _ _) | (with_reducible exact bl_mm) | (with_reducible refine bl_dr ?_) | (with_reducible refine bl_drN ?_ _) | (with_reducible refine bl_al ?_ _) | (with_reducible refine bl_more ?_ _ _)))⟩
  · have HR := hid h
    have HL : Hid (xs.length ≤ 100000) := hid (by omega)
    have Mtexts := hid trivial
    clear h
    cases hok : xs.all okT with
    | false =>
      have HOK := hid hok
      clear hok
      go_enter Try.func5, Try.ntmps5
      go_wp2_with (first | ((with_reducible refine wp_region_plan (id := 14) (.fin [(false, 0), (false, 1), (false, 2), (false, 3), (false, 4), (false, 5), (false, 6), (false, 7), (false, 8), (false, 9), (false, 10), (false, 11), (false, 12), (false, 13), (false, 14), (false, 15), (false, 16), (false, 17), (false, 18), (false, 19), (false, 20), (false, 21), (false, 22), (false, 23), (false, 24), (false, 25), (false, 26), (false, 27), (false, 28)]) ?_ ?_ ?_ ?_ ?_ ?_); kernel_rfl; kernel_rfl; kernel_rfl; kernel_rfl; (intro c a d v w h; cases d <;> exact h)) | (with_reducible refine wpPlan_eff ?_) | (with_reducible refine wpPlan_fin ?_) | (with_reducible refine wpPlan_two ?_) | (with_reducible refine wpOpPair ?_ ?_) | ((with_reducible apply wpPre_keep); rfl; intro K' hK'; go_simp; refine hK' _ _ ?_; intro f hf; clear hK' K') | ((with_reducible apply wpPre_drop); rfl; intro K' hK'; go_simp; refine hK' _ _ ?_; intro f; clear hK' K') | (with_reducible refine wpPre_nil ?_) | ((with_reducible apply wpOp_list); rfl) | (with_reducible refine heldPair ?_ ?_) | ((with_reducible refine heldH_no ?_ ?_); rfl) | (with_reducible refine heldH_yes ?_ ?_) | (with_reducible exact heldH_nil) | (unfold YAt; go_simp; done) | (go_at_call 19; clear Mtexts; refine (texts_walk HR.out HL.out).mono ?_; rintro e w1 h1; have HB1 := hid h1.2.2; obtain rfl := h1.2.1 HOK.out; clear h1))
      go_wp2_with (first | ((with_reducible refine wp_region_plan (id := 14) (.fin [(false, 0), (false, 1), (false, 2), (false, 3), (false, 4), (false, 5), (false, 6), (false, 7), (false, 8), (false, 9), (false, 10), (false, 11), (false, 12), (false, 13), (false, 14), (false, 15), (false, 16), (false, 17), (false, 18), (false, 19), (false, 20), (false, 21), (false, 22), (false, 23), (false, 24), (false, 25), (false, 26), (false, 27), (false, 28)]) ?_ ?_ ?_ ?_ ?_ ?_); kernel_rfl; kernel_rfl; kernel_rfl; kernel_rfl; (intro c a d v w h; cases d <;> exact h)) | (with_reducible refine wpPlan_eff ?_) | (with_reducible refine wpPlan_fin ?_) | (with_reducible refine wpPlan_two ?_) | (with_reducible refine wpOpPair ?_ ?_) | ((with_reducible apply wpPre_keep); rfl; intro K' hK'; go_simp; refine hK' _ _ ?_; intro f hf; clear hK' K') | ((with_reducible apply wpPre_drop); rfl; intro K' hK'; go_simp; refine hK' _ _ ?_; intro f; clear hK' K') | (with_reducible refine wpPre_nil ?_) | ((with_reducible apply wpOp_list); rfl) | (with_reducible refine heldPair ?_ ?_) | ((with_reducible refine heldH_no ?_ ?_); rfl) | (with_reducible refine heldH_yes ?_ ?_) | (with_reducible exact heldH_nil) | (unfold YAt; go_simp; done) | (go_at_call 9; clear Mlives; refine lives_any.mono ?_; rintro e w5 ⟨rfl, hb5⟩; obtain ⟨ey5, dx5, rfl⟩ := more_of hb5; clear hb5))
      go_ret
      exact ⟨rfl, HB1.out.trans ((show Below w1.heap.size w1 _ from (by repeat (first | (with_reducible exact Below.refl _ _) | (with_reducible exact bl_mm) | (with_reducible refine bl_dr ?_) | (with_reducible refine bl_drN ?_ _) | (with_reducible refine bl_al ?_ _) | (with_reducible refine bl_more ?_ _ _)))).mono HB1.out.size)⟩
    | true =>
      have HOK := hid hok
      have HL1 : Hid ((xs.map tokT).length ≤ 100000) := hid (by rw [List.length_map]; omega)
      have HLM : Hid ((xs.map tokT).length = xs.length) := hid (List.length_map ..)
      obtain ⟨hz, U, hD, hX, hU⟩ := back_law (List.all_eq_true.1 hok) (by omega)
      have HJL : Hid ((Lib.join ((xs.map tokT).map (·.text.data.toList)) [32]).length ≤ 140737488355328) := hid (by
        have e : (joinB (xs.map tokT)).size = (Lib.join ((xs.map tokT).map (·.text.data.toList)) [32]).length := by simp [joinB, ByteArray.size]
        omega)
      obtain ⟨S, hS⟩ : ∃ S, joinB (xs.map tokT) = S := ⟨_, rfl⟩
      rw [hS] at hz hD hU
      have HS := hid hS
      have HZ := hid hz
      have HD := hid hD
      have HU := hid hU
      have HTX : Hid (decide ((xs.map tokT).map txt = U.map txt) = true) := hid (decide_eq_true hX)
      have hfew : U.length ≤ S.size := by have := dR_few S; rw [hD] at this; exact this
      have HFEW := hid hfew
      have Mjoin := hid trivial
      have Mlex := hid trivial
      have Msamet := hid trivial
      have hS0 : ((S.size : Int) != (S.size : Int)) = false := by simp
      clear hok hz hD hX hU hS hfew
      go_enter Try.func5, Try.ntmps5
      go_wp2_with (first | ((with_reducible refine wp_region_plan (id := 14) (.fin [(false, 0), (false, 1), (false, 2), (false, 3), (false, 4), (false, 5), (false, 6), (false, 7), (false, 8), (false, 9), (false, 10), (false, 11), (false, 12), (false, 13), (false, 14), (false, 15), (false, 16), (false, 17), (false, 18), (false, 19), (false, 20), (false, 21), (false, 22), (false, 23), (false, 24), (false, 25), (false, 26), (false, 27), (false, 28)]) ?_ ?_ ?_ ?_ ?_ ?_); kernel_rfl; kernel_rfl; kernel_rfl; kernel_rfl; (intro c a d v w h; cases d <;> exact h)) | (with_reducible refine wpPlan_eff ?_) | (with_reducible refine wpPlan_fin ?_) | (with_reducible refine wpPlan_two ?_) | (with_reducible refine wpOpPair ?_ ?_) | ((with_reducible apply wpPre_keep); rfl; intro K' hK'; go_simp; refine hK' _ _ ?_; intro f hf; clear hK' K') | ((with_reducible apply wpPre_drop); rfl; intro K' hK'; go_simp; refine hK' _ _ ?_; intro f; clear hK' K') | (with_reducible refine wpPre_nil ?_) | ((with_reducible apply wpOp_list); rfl) | (with_reducible refine heldPair ?_ ?_) | ((with_reducible refine heldH_no ?_ ?_); rfl) | (with_reducible refine heldH_yes ?_ ?_) | (with_reducible exact heldH_nil) | (unfold YAt; go_simp; done) | (go_at_call 19; clear Mtexts; refine (texts_walk HR.out HL.out).mono ?_; rintro e w1 h1; have HB1 := hid h1.2.2; obtain ⟨v1, rfl, hr1⟩ := h1.1 HOK.out; obtain ⟨A1, c1, hv1, _, _⟩ := hr1.form; rw [HLM.out] at hv1; subst hv1; have HR1 := hid hr1; clear hr1 h1))
      go_wp2_with (first | ((with_reducible refine wp_region_plan (id := 14) (.fin [(false, 0), (false, 1), (false, 2), (false, 3), (false, 4), (false, 5), (false, 6), (false, 7), (false, 8), (false, 9), (false, 10), (false, 11), (false, 12), (false, 13), (false, 14), (false, 15), (false, 16), (false, 17), (false, 18), (false, 19), (false, 20), (false, 21), (false, 22), (false, 23), (false, 24), (false, 25), (false, 26), (false, 27), (false, 28)]) ?_ ?_ ?_ ?_ ?_ ?_); kernel_rfl; kernel_rfl; kernel_rfl; kernel_rfl; (intro c a d v w h; cases d <;> exact h)) | (with_reducible refine wpPlan_eff ?_) | (with_reducible refine wpPlan_fin ?_) | (with_reducible refine wpPlan_two ?_) | (with_reducible refine wpOpPair ?_ ?_) | ((with_reducible apply wpPre_keep); rfl; intro K' hK'; go_simp; refine hK' _ _ ?_; intro f hf; clear hK' K') | ((with_reducible apply wpPre_drop); rfl; intro K' hK'; go_simp; refine hK' _ _ ?_; intro f; clear hK' K') | (with_reducible refine wpPre_nil ?_) | ((with_reducible apply wpOp_list); rfl) | (with_reducible refine heldPair ?_ ?_) | ((with_reducible refine heldH_no ?_ ?_); rfl) | (with_reducible refine heldH_yes ?_ ?_) | (with_reducible exact heldH_nil) | (unfold YAt; go_simp; done) | (go_at_call 17; clear Mjoin; refine (join_any HR1.out HL1.out HJL.out).mono ?_; rintro e w2 ⟨rfl, hb2⟩; rw [HS.out]; obtain ⟨ey2, dy2, rfl⟩ := more_of hb2; clear hb2))
      go_wp2_with (first | ((with_reducible refine wp_region_plan (id := 14) (.fin [(false, 0), (false, 1), (false, 2), (false, 3), (false, 4), (false, 5), (false, 6), (false, 7), (false, 8), (false, 9), (false, 10), (false, 11), (false, 12), (false, 13), (false, 14), (false, 15), (false, 16), (false, 17), (false, 18), (false, 19), (false, 20), (false, 21), (false, 22), (false, 23), (false, 24), (false, 25), (false, 26), (false, 27), (false, 28)]) ?_ ?_ ?_ ?_ ?_ ?_); kernel_rfl; kernel_rfl; kernel_rfl; kernel_rfl; (intro c a d v w h; cases d <;> exact h)) | (with_reducible refine wpPlan_eff ?_) | (with_reducible refine wpPlan_fin ?_) | (with_reducible refine wpPlan_two ?_) | (with_reducible refine wpOpPair ?_ ?_) | ((with_reducible apply wpPre_keep); rfl; intro K' hK'; go_simp; refine hK' _ _ ?_; intro f hf; clear hK' K') | ((with_reducible apply wpPre_drop); rfl; intro K' hK'; go_simp; refine hK' _ _ ?_; intro f; clear hK' K') | (with_reducible refine wpPre_nil ?_) | ((with_reducible apply wpOp_list); rfl) | (with_reducible refine heldPair ?_ ?_) | ((with_reducible refine heldH_no ?_ ?_); rfl) | (with_reducible refine heldH_yes ?_ ?_) | (with_reducible exact heldH_nil) | (unfold YAt; go_simp; done) | (go_at_call 10; clear Mlex; refine (lexd_any HZ.out).mono ?_; rintro e w3 ⟨v3, rfl, hr3, hb3⟩; rw [HD.out] at hr3 ⊢; obtain ⟨A3, c3, rfl, _, _⟩ := hr3.form; have HR3 := hid hr3; have HB3 := hid ((show Below w1.heap.size w1 _ from (by repeat (first | (with_reducible exact Below.refl _ _) | (with_reducible exact bl_mm) | (with_reducible refine bl_dr ?_) | (with_reducible refine bl_drN ?_ _) | (with_reducible refine bl_al ?_ _) | (with_reducible refine bl_more ?_ _ _)))).trans (hb3.mono (show w1.heap.size ≤ _ by simp [more_size]))); clear hr3 hb3))
      go_wp2_with (first | ((with_reducible refine wp_region_plan (id := 14) (.fin [(false, 0), (false, 1), (false, 2), (false, 3), (false, 4), (false, 5), (false, 6), (false, 7), (false, 8), (false, 9), (false, 10), (false, 11), (false, 12), (false, 13), (false, 14), (false, 15), (false, 16), (false, 17), (false, 18), (false, 19), (false, 20), (false, 21), (false, 22), (false, 23), (false, 24), (false, 25), (false, 26), (false, 27), (false, 28)]) ?_ ?_ ?_ ?_ ?_ ?_); kernel_rfl; kernel_rfl; kernel_rfl; kernel_rfl; (intro c a d v w h; cases d <;> exact h)) | (with_reducible refine wpPlan_eff ?_) | (with_reducible refine wpPlan_fin ?_) | (with_reducible refine wpPlan_two ?_) | (with_reducible refine wpOpPair ?_ ?_) | ((with_reducible apply wpPre_keep); rfl; intro K' hK'; go_simp; refine hK' _ _ ?_; intro f hf; clear hK' K') | ((with_reducible apply wpPre_drop); rfl; intro K' hK'; go_simp; refine hK' _ _ ?_; intro f; clear hK' K') | (with_reducible refine wpPre_nil ?_) | ((with_reducible apply wpOp_list); rfl) | (with_reducible refine heldPair ?_ ?_) | ((with_reducible refine heldH_no ?_ ?_); rfl) | (with_reducible refine heldH_yes ?_ ?_) | (with_reducible exact heldH_nil) | (unfold YAt; go_simp; done) | (go_at_call 20; clear Msamet; refine (texts_any (K := fun _ => True) ((HR1.out.mono (fun _ _ _ => trivial)).below HB3.out) (HR3.out.mono (fun _ _ _ => trivial)) HL1.out).mono ?_; rintro e w4 ⟨rfl, hb4⟩; rw [HTX.out]; obtain ⟨ey4, dy4, rfl⟩ := more_of hb4; clear hb4))
      go_loopg [9] U.length (fun k vi wr => ∃ i : Nat, i + k = U.length ∧ vi = .int .i64 (i : Int) ∧ ∃ ex dx, wr = more w3 ex dx)
      case atStart => exact ⟨0, by omega, rfl, ey4, dy4, rfl⟩
      case round =>
        obtain ⟨i, hk, rfl, ex, dx, rfl⟩ := hrel
        have HK := hid hk
        by_cases hi : i < U.length
        · have HI := hid (And.intro hi trivial)
          obtain ⟨bb, oo, rfl, _, hlt, x1, x2, x3⟩ := row_tok HR3.out i HI.out.1
          obtain ⟨a, ha, hb, he⟩ := HU.out _ (List.getElem_mem HI.out.1)
          rw [ha] at x3
          obtain ⟨T, hT⟩ : ∃ T, (U[i]'HI.out.1).text = T := ⟨_, rfl⟩
          obtain ⟨kd, hkd⟩ : ∃ kd, (U[i]'HI.out.1).kind = kd := ⟨_, rfl⟩
          rw [hT] at x2 hb he
          rw [hkd] at x1
          obtain ⟨d, hd⟩ : ∃ d, S.size - T.size = d := ⟨_, rfl⟩
          obtain ⟨b, hbe⟩ : ∃ b, a + T.size = b := ⟨_, rfl⟩
          rw [hbe] at hb he
          have hz := HZ.out
          have hfew := HFEW.out
          have hU5 : (U.length : Int) ≤ 65536 := by omega
          have hi0 : (0 : Int) ≤ i := by omega
          have hi1 : (i : Int) < U.length := by omega
          have hb1 : (b : Int) ≤ S.size := by omega
          have hab : (a : Int) ≤ b := by omega
          have ga : decide ((a : Int) < 0) = false := by rw [decide_eq_false_iff_not]; omega
          have hg3 : decide (d < a) = false := by rw [decide_eq_false_iff_not]; omega
          have hw1 : IntKind.i64.wrap ((S.size : Int) - (T.size : Int)) = (d : Int) := by rw [IntWalk.i64_in _ (by omega)]; omega
          have hw2 : IntKind.i64.wrap ((a : Int) + (T.size : Int)) = (b : Int) := by clear hw1; rw [IntWalk.i64_in _ (by omega)]; omega
          have heq := eqs_t he
          clear hk hi ha hb he hT hkd hd hbe hz hfew
          go_wp2_with (first | ((with_reducible refine wp_region_plan (id := 14) (.fin [(false, 0), (false, 1), (false, 2), (false, 3), (false, 4), (false, 5), (false, 6), (false, 7), (false, 8), (false, 9), (false, 10), (false, 11), (false, 12), (false, 13), (false, 14), (false, 15), (false, 16), (false, 17), (false, 18), (false, 19), (false, 20), (false, 21), (false, 22), (false, 23), (false, 24), (false, 25), (false, 26), (false, 27), (false, 28)]) ?_ ?_ ?_ ?_ ?_ ?_); kernel_rfl; kernel_rfl; kernel_rfl; kernel_rfl; (intro c a d v w h; cases d <;> exact h)) | (with_reducible refine wpPlan_eff ?_) | (with_reducible refine wpPlan_fin ?_) | (with_reducible refine wpPlan_two ?_) | (with_reducible refine wpOpPair ?_ ?_) | ((with_reducible apply wpPre_keep); rfl; intro K' hK'; go_simp; refine hK' _ _ ?_; intro f hf; clear hK' K') | ((with_reducible apply wpPre_drop); rfl; intro K' hK'; go_simp; refine hK' _ _ ?_; intro f; clear hK' K') | (with_reducible refine wpPre_nil ?_) | ((with_reducible apply wpOp_list); rfl) | (with_reducible refine heldPair ?_ ?_) | ((with_reducible refine heldH_no ?_ ?_); rfl) | (with_reducible refine heldH_yes ?_ ?_) | (with_reducible exact heldH_nil) | (unfold YAt; go_simp; done))
          go_roundg (U.length - (i + 1))
          case measure => have := HK.out; have := HI.out.1; omega
          case rel => exact ⟨i + 1, by have := HI.out.1; omega, by push_cast; rfl, more_of (by repeat (first | (with_reducible exact Below.refl _ _) | (with_reducible exact bl_mm) | (with_reducible refine bl_dr ?_) | (with_reducible refine bl_drN ?_ _) | (with_reducible refine bl_al ?_ _) | (with_reducible refine bl_more ?_ _ _)))⟩
        · have hie : i = U.length := by omega
          subst hie
          have hnl : ¬ (U.length : Int) < U.length := by omega
          clear hk hi
          go_wp2_with (first | ((with_reducible refine wp_region_plan (id := 14) (.fin [(false, 0), (false, 1), (false, 2), (false, 3), (false, 4), (false, 5), (false, 6), (false, 7), (false, 8), (false, 9), (false, 10), (false, 11), (false, 12), (false, 13), (false, 14), (false, 15), (false, 16), (false, 17), (false, 18), (false, 19), (false, 20), (false, 21), (false, 22), (false, 23), (false, 24), (false, 25), (false, 26), (false, 27), (false, 28)]) ?_ ?_ ?_ ?_ ?_ ?_); kernel_rfl; kernel_rfl; kernel_rfl; kernel_rfl; (intro c a d v w h; cases d <;> exact h)) | (with_reducible refine wpPlan_eff ?_) | (with_reducible refine wpPlan_fin ?_) | (with_reducible refine wpPlan_two ?_) | (with_reducible refine wpOpPair ?_ ?_) | ((with_reducible apply wpPre_keep); rfl; intro K' hK'; go_simp; refine hK' _ _ ?_; intro f hf; clear hK' K') | ((with_reducible apply wpPre_drop); rfl; intro K' hK'; go_simp; refine hK' _ _ ?_; intro f; clear hK' K') | (with_reducible refine wpPre_nil ?_) | ((with_reducible apply wpOp_list); rfl) | (with_reducible refine heldPair ?_ ?_) | ((with_reducible refine heldH_no ?_ ?_); rfl) | (with_reducible refine heldH_yes ?_ ?_) | (with_reducible exact heldH_nil) | (unfold YAt; go_simp; done))
          go_wp2_with (first | ((with_reducible refine wp_region_plan (id := 14) (.fin [(false, 0), (false, 1), (false, 2), (false, 3), (false, 4), (false, 5), (false, 6), (false, 7), (false, 8), (false, 9), (false, 10), (false, 11), (false, 12), (false, 13), (false, 14), (false, 15), (false, 16), (false, 17), (false, 18), (false, 19), (false, 20), (false, 21), (false, 22), (false, 23), (false, 24), (false, 25), (false, 26), (false, 27), (false, 28)]) ?_ ?_ ?_ ?_ ?_ ?_); kernel_rfl; kernel_rfl; kernel_rfl; kernel_rfl; (intro c a d v w h; cases d <;> exact h)) | (with_reducible refine wpPlan_eff ?_) | (with_reducible refine wpPlan_fin ?_) | (with_reducible refine wpPlan_two ?_) | (with_reducible refine wpOpPair ?_ ?_) | ((with_reducible apply wpPre_keep); rfl; intro K' hK'; go_simp; refine hK' _ _ ?_; intro f hf; clear hK' K') | ((with_reducible apply wpPre_drop); rfl; intro K' hK'; go_simp; refine hK' _ _ ?_; intro f; clear hK' K') | (with_reducible refine wpPre_nil ?_) | ((with_reducible apply wpOp_list); rfl) | (with_reducible refine heldPair ?_ ?_) | ((with_reducible refine heldH_no ?_ ?_); rfl) | (with_reducible refine heldH_yes ?_ ?_) | (with_reducible exact heldH_nil) | (unfold YAt; go_simp; done) | (go_at_call 9; clear Mlives; refine lives_any.mono ?_; rintro e w5 ⟨rfl, hb5⟩; obtain ⟨ey5, dx5, rfl⟩ := more_of hb5; clear hb5))
          go_ret
          exact ⟨rfl, HB1.out.trans ((HB3.out.trans ((show Below w3.heap.size w3 _ from (by repeat (first | (with_reducible exact Below.refl _ _) | (with_reducible exact bl_mm) | (with_reducible refine bl_dr ?_) | (with_reducible refine bl_drN ?_ _) | (with_reducible refine bl_al ?_ _) | (with_reducible refine bl_more ?_ _ _)))).mono HB3.out.size)).mono HB1.out.size)⟩
theorem strs_op : Opens (Enc.slice Enc.str) 33 (fun xs => ∀ x ∈ xs, x.size ≤ maxLen) := Opens.slice Try.underlying33 (Opens.str Try.underlying9) (by kernel_rfl) (by decide)
end Go.Proofs.Ythekoefcienipaa
