/- Rows of rows compared; few. -/
import Derived.Test.YtomhpbhkckjmdaaDoorRRDgL
namespace Go.Proofs.YtomhpbhkckjmdaaDoorRR
open Go.RowKit

theorem row_nats {K : Nat → Prop} {w : World} {A : Option Addr} {n c : Nat} {xss : List (List Nat)} (h : natsE.Row K w (.slice A n c) xss) {i : Nat} {xs : List Nat} (hi : xss[i]? = some xs) : ∃ b off A' c', A = some ⟨b, off, none⟩ ∧ b < w.heap.size ∧ w.cell? ⟨b, off + i, none⟩ = some (.slice A' xs.length c') ∧ natE.Row K w (.slice A' xs.length c') xs := by
  obtain ⟨hj, rfl⟩ := List.getElem?_eq_some_iff.1 hi
  obtain ⟨b, off, cs, e, hk, hl, h1, h2⟩ := h.get i hj
  obtain ⟨v, rfl, hr⟩ := h1
  obtain ⟨A', c', rfl, _, _⟩ := hr.form
  have := h2 0 _ rfl
  exact ⟨b, off, A', c', e, hl, by simpa [Enc.slice, natsE] using this, hr⟩
set_option maxHeartbeats 8000000 in
theorem sameR_any {w : World} {va vb : Value} {xs ys : List (List Nat)} {K K2 : Nat → Prop} (ha : natsE.Row K w va xs) (hb : natsE.Row K2 w vb ys) (hlen : xs.length ≤ 100000) (hlen2 : ∀ r ∈ xs, r.length ≤ 100000) : Calls Tryd.prog 14 #[va, vb] w fun e w' => e = .returned (.bool (decide (xs = ys))) ∧ Below w.heap.size w w' := by
  obtain ⟨A, ca, rfl, _, _⟩ := ha.form
  obtain ⟨B, cb, rfl, _, _⟩ := hb.form
  have HA := hid ha
  have HB := hid hb
  have HLL := hid hlen2
  clear ha hb hlen2
  by_cases hl : xs.length = ys.length
  · have hb0 : ((xs.length : Int) != (ys.length : Int)) = false := by simp [hl]
    have HL := hid hl
    have hlx : (xs.length : Int) ≤ 100000 := by omega
    clear hl hlen
    go_enter Tryd.func14, Tryd.ntmps14
    go_wp2_with (first | ((with_reducible refine wp_region_plan (id := 6) (.fin [(false, 0), (false, 1), (false, 2), (false, 3), (false, 4), (false, 5), (false, 6), (false, 7), (false, 8), (false, 9), (false, 10)]) ?_ ?_ ?_ ?_ ?_ ?_); kernel_rfl; kernel_rfl; kernel_rfl; kernel_rfl; (intro c a d v w h; cases d <;> exact h)) | ((with_reducible refine wp_region_plan (id := 11) (.fin [(false, 0), (false, 1), (false, 2), (false, 3), (false, 4), (false, 5), (false, 6), (false, 7), (false, 8), (false, 9), (false, 10), (false, 11), (false, 12), (false, 13), (false, 14)]) ?_ ?_ ?_ ?_ ?_ ?_); kernel_rfl; kernel_rfl; kernel_rfl; kernel_rfl; (intro c a d v w h; cases d <;> exact h)) | (with_reducible refine wpPlan_eff ?_) | (with_reducible refine wpPlan_fin ?_) | (with_reducible refine wpPlan_two ?_) | (with_reducible refine wpOpPair ?_ ?_) | ((with_reducible apply wpPre_keep); rfl; intro K' hK'; go_simp; refine hK' _ _ ?_; intro f hf; clear hK' K') | ((with_reducible apply wpPre_drop); rfl; intro K' hK'; go_simp; refine hK' _ _ ?_; intro f; clear hK' K') | (with_reducible refine wpPre_nil ?_) | ((with_reducible apply wpOp_list); rfl) | (with_reducible refine heldPair ?_ ?_) | ((with_reducible refine heldH_no ?_ ?_); rfl) | (with_reducible refine heldH_yes ?_ ?_) | (with_reducible exact heldH_nil) | (unfold YAt; go_simp; done))
    go_loopg [5] xs.length (fun k vi wr => ∃ j : Nat, j + k = xs.length ∧ vi = .int .i64 (j : Int) ∧ xs.take j = ys.take j ∧ ∃ ex dx, wr = more w ex dx)
    case atStart => exact ⟨0, by omega, rfl, rfl, more_of (Below.refl _ _)⟩
    case round =>
      obtain ⟨j, hk, rfl, ht, ex, dx, rfl⟩ := hrel
      have HK := hid hk
      have HT := hid ht
      by_cases hj : j < xs.length
      · obtain ⟨xa, hxa⟩ := get_lt hj
        obtain ⟨xb, hxb⟩ := get_lt (l := ys) (j := j) (by have := HL.out; omega)
        obtain ⟨b1, o1, A1, c1, rfl, hl1, x1, hra⟩ := row_nats HA.out hxa
        obtain ⟨b2, o2, A2, c2, rfl, hl2, y1, hrb⟩ := row_nats HB.out hxb
        have hj0 : (0 : Int) ≤ j := by omega
        have hjx : (j : Int) < xs.length := by omega
        have hjy : (j : Int) < ys.length := by have := HL.out; omega
        have HJ := hid hxa
        have HJ2 := hid hxb
        have HRA := hid hra
        have HRB := hid hrb
        have hxl : (xa.length : Int) ≤ 100000 := by have := HLL.out xa (List.mem_of_getElem? hxa); omega
        clear hra hrb
        by_cases he : xa.length = xb.length
        · have hq : ((xa.length : Int) != (xb.length : Int)) = false := by simp [he]
          have HE := hid he
          clear hk ht he hxa hxb hj
          go_wp2_with (first | ((with_reducible refine wp_region_plan (id := 6) (.fin [(false, 0), (false, 1), (false, 2), (false, 3), (false, 4), (false, 5), (false, 6), (false, 7), (false, 8), (false, 9), (false, 10)]) ?_ ?_ ?_ ?_ ?_ ?_); kernel_rfl; kernel_rfl; kernel_rfl; kernel_rfl; (intro c a d v w h; cases d <;> exact h)) | ((with_reducible refine wp_region_plan (id := 11) (.fin [(false, 0), (false, 1), (false, 2), (false, 3), (false, 4), (false, 5), (false, 6), (false, 7), (false, 8), (false, 9), (false, 10), (false, 11), (false, 12), (false, 13), (false, 14)]) ?_ ?_ ?_ ?_ ?_ ?_); kernel_rfl; kernel_rfl; kernel_rfl; kernel_rfl; (intro c a d v w h; cases d <;> exact h)) | (with_reducible refine wpPlan_eff ?_) | (with_reducible refine wpPlan_fin ?_) | (with_reducible refine wpPlan_two ?_) | (with_reducible refine wpOpPair ?_ ?_) | ((with_reducible apply wpPre_keep); rfl; intro K' hK'; go_simp; refine hK' _ _ ?_; intro f hf; clear hK' K') | ((with_reducible apply wpPre_drop); rfl; intro K' hK'; go_simp; refine hK' _ _ ?_; intro f; clear hK' K') | (with_reducible refine wpPre_nil ?_) | ((with_reducible apply wpOp_list); rfl) | (with_reducible refine heldPair ?_ ?_) | ((with_reducible refine heldH_no ?_ ?_); rfl) | (with_reducible refine heldH_yes ?_ ?_) | (with_reducible exact heldH_nil) | (unfold YAt; go_simp; done))
          go_loopg [6] xa.length (fun k vi w2 => ∃ q : Nat, q + k = xa.length ∧ vi = .int .i64 (q : Int) ∧ xa.take q = xb.take q ∧ ∃ ex dx, w2 = more w ex dx)
          case atStart => exact ⟨0, by omega, rfl, rfl, more_of (by repeat (first | (with_reducible exact Below.refl _ _) | (with_reducible exact bl_mm) | (with_reducible refine bl_dr ?_) | (with_reducible refine bl_drN ?_ _) | (with_reducible refine bl_al ?_ _) | (with_reducible refine bl_more ?_ _ _)))⟩
          case round =>
            obtain ⟨q, hq2, rfl, ht2, ex2, dx2, rfl⟩ := hrel
            have HK2 := hid hq2
            have HT2 := hid ht2
            by_cases hql : q < xa.length
            · obtain ⟨a, hla⟩ := get_lt hql
              obtain ⟨b, hlb⟩ := get_lt (l := xb) (j := q) (by have := HE.out; omega)
              obtain ⟨b3, o3, rfl, _, hl3, z1⟩ := row_nat HRA.out hla
              obtain ⟨b4, o4, rfl, _, hl4, z2⟩ := row_nat HRB.out hlb
              have hq0 : (0 : Int) ≤ q := by omega
              have hqx : (q : Int) < xa.length := by omega
              have hqy : (q : Int) < xb.length := by have := HE.out; omega
              have HQ := hid hla
              have HQ2 := hid hlb
              by_cases heq : a = b
              · have hqq : ((a : Int) != (b : Int)) = false := by simp [heq]
                have HEQ := hid heq
                clear hq2 ht2 heq hla hlb hql
                go_wp2_with (first | ((with_reducible refine wp_region_plan (id := 6) (.fin [(false, 0), (false, 1), (false, 2), (false, 3), (false, 4), (false, 5), (false, 6), (false, 7), (false, 8), (false, 9), (false, 10)]) ?_ ?_ ?_ ?_ ?_ ?_); kernel_rfl; kernel_rfl; kernel_rfl; kernel_rfl; (intro c a d v w h; cases d <;> exact h)) | ((with_reducible refine wp_region_plan (id := 11) (.fin [(false, 0), (false, 1), (false, 2), (false, 3), (false, 4), (false, 5), (false, 6), (false, 7), (false, 8), (false, 9), (false, 10), (false, 11), (false, 12), (false, 13), (false, 14)]) ?_ ?_ ?_ ?_ ?_ ?_); kernel_rfl; kernel_rfl; kernel_rfl; kernel_rfl; (intro c a d v w h; cases d <;> exact h)) | (with_reducible refine wpPlan_eff ?_) | (with_reducible refine wpPlan_fin ?_) | (with_reducible refine wpPlan_two ?_) | (with_reducible refine wpOpPair ?_ ?_) | ((with_reducible apply wpPre_keep); rfl; intro K' hK'; go_simp; refine hK' _ _ ?_; intro f hf; clear hK' K') | ((with_reducible apply wpPre_drop); rfl; intro K' hK'; go_simp; refine hK' _ _ ?_; intro f; clear hK' K') | (with_reducible refine wpPre_nil ?_) | ((with_reducible apply wpOp_list); rfl) | (with_reducible refine heldPair ?_ ?_) | ((with_reducible refine heldH_no ?_ ?_); rfl) | (with_reducible refine heldH_yes ?_ ?_) | (with_reducible exact heldH_nil) | (unfold YAt; go_simp; done))
                go_roundg (xa.length - (q + 1))
                case measure => have := HK2.out; have := get_len HQ.out; omega
                case rel => exact ⟨q + 1, by have := get_len HQ.out; omega, rfl, by rw [take_next HQ.out, take_next HQ2.out, HT2.out, HEQ.out], more_of (by repeat (first | (with_reducible exact Below.refl _ _) | (with_reducible exact bl_mm) | (with_reducible refine bl_dr ?_) | (with_reducible refine bl_drN ?_ _) | (with_reducible refine bl_al ?_ _) | (with_reducible refine bl_more ?_ _ _)))⟩
              · have hqq : ((a : Int) != (b : Int)) = true := by simp; omega
                have HNE : Hid (xs ≠ ys) := hid (fun h => heq (by
                  subst h
                  have := HJ.out
                  rw [HJ2.out] at this
                  cases this
                  rw [hla] at hlb
                  exact (Option.some.inj hlb)))
                clear hq2 ht2 heq hla hlb hql
                go_wp2_with (first | ((with_reducible refine wp_region_plan (id := 6) (.fin [(false, 0), (false, 1), (false, 2), (false, 3), (false, 4), (false, 5), (false, 6), (false, 7), (false, 8), (false, 9), (false, 10)]) ?_ ?_ ?_ ?_ ?_ ?_); kernel_rfl; kernel_rfl; kernel_rfl; kernel_rfl; (intro c a d v w h; cases d <;> exact h)) | ((with_reducible refine wp_region_plan (id := 11) (.fin [(false, 0), (false, 1), (false, 2), (false, 3), (false, 4), (false, 5), (false, 6), (false, 7), (false, 8), (false, 9), (false, 10), (false, 11), (false, 12), (false, 13), (false, 14)]) ?_ ?_ ?_ ?_ ?_ ?_); kernel_rfl; kernel_rfl; kernel_rfl; kernel_rfl; (intro c a d v w h; cases d <;> exact h)) | (with_reducible refine wpPlan_eff ?_) | (with_reducible refine wpPlan_fin ?_) | (with_reducible refine wpPlan_two ?_) | (with_reducible refine wpOpPair ?_ ?_) | ((with_reducible apply wpPre_keep); rfl; intro K' hK'; go_simp; refine hK' _ _ ?_; intro f hf; clear hK' K') | ((with_reducible apply wpPre_drop); rfl; intro K' hK'; go_simp; refine hK' _ _ ?_; intro f; clear hK' K') | (with_reducible refine wpPre_nil ?_) | ((with_reducible apply wpOp_list); rfl) | (with_reducible refine heldPair ?_ ?_) | ((with_reducible refine heldH_no ?_ ?_); rfl) | (with_reducible refine heldH_yes ?_ ?_) | (with_reducible exact heldH_nil) | (unfold YAt; go_simp; done))
                go_ret
                exact ⟨by rw [decide_eq_false HNE.out]; rfl, (by repeat (first | (with_reducible exact Below.refl _ _) | (with_reducible exact bl_mm) | (with_reducible refine bl_dr ?_) | (with_reducible refine bl_drN ?_ _) | (with_reducible refine bl_al ?_ _) | (with_reducible refine bl_more ?_ _ _)))⟩
            · have hqx : ¬ (q : Int) < xa.length := by omega
              have HEQ : Hid (xa = xb) := hid (by
                have h := ht2
                rwa [List.take_of_length_le (by omega), List.take_of_length_le (by have := HE.out; omega)] at h)
              clear hq2 ht2 hql
              go_wp2_with (first | ((with_reducible refine wp_region_plan (id := 6) (.fin [(false, 0), (false, 1), (false, 2), (false, 3), (false, 4), (false, 5), (false, 6), (false, 7), (false, 8), (false, 9), (false, 10)]) ?_ ?_ ?_ ?_ ?_ ?_); kernel_rfl; kernel_rfl; kernel_rfl; kernel_rfl; (intro c a d v w h; cases d <;> exact h)) | ((with_reducible refine wp_region_plan (id := 11) (.fin [(false, 0), (false, 1), (false, 2), (false, 3), (false, 4), (false, 5), (false, 6), (false, 7), (false, 8), (false, 9), (false, 10), (false, 11), (false, 12), (false, 13), (false, 14)]) ?_ ?_ ?_ ?_ ?_ ?_); kernel_rfl; kernel_rfl; kernel_rfl; kernel_rfl; (intro c a d v w h; cases d <;> exact h)) | (with_reducible refine wpPlan_eff ?_) | (with_reducible refine wpPlan_fin ?_) | (with_reducible refine wpPlan_two ?_) | (with_reducible refine wpOpPair ?_ ?_) | ((with_reducible apply wpPre_keep); rfl; intro K' hK'; go_simp; refine hK' _ _ ?_; intro f hf; clear hK' K') | ((with_reducible apply wpPre_drop); rfl; intro K' hK'; go_simp; refine hK' _ _ ?_; intro f; clear hK' K') | (with_reducible refine wpPre_nil ?_) | ((with_reducible apply wpOp_list); rfl) | (with_reducible refine heldPair ?_ ?_) | ((with_reducible refine heldH_no ?_ ?_); rfl) | (with_reducible refine heldH_yes ?_ ?_) | (with_reducible exact heldH_nil) | (unfold YAt; go_simp; done))
              go_roundg (xs.length - (j + 1))
              case measure => have := HK.out; have := get_len HJ.out; omega
              case rel => exact ⟨j + 1, by have := get_len HJ.out; omega, rfl, by rw [take_next HJ.out, take_next HJ2.out, HT.out, HEQ.out], more_of (by repeat (first | (with_reducible exact Below.refl _ _) | (with_reducible exact bl_mm) | (with_reducible refine bl_dr ?_) | (with_reducible refine bl_drN ?_ _) | (with_reducible refine bl_al ?_ _) | (with_reducible refine bl_more ?_ _ _)))⟩
        · have hq : ((xa.length : Int) != (xb.length : Int)) = true := by simp; omega
          have HNE : Hid (xs ≠ ys) := hid (fun h => he (by
            subst h
            have := HJ.out
            rw [HJ2.out] at this
            cases this
            rfl))
          clear he
          clear hk ht hxa hxb hj
          go_wp2_with (first | ((with_reducible refine wp_region_plan (id := 6) (.fin [(false, 0), (false, 1), (false, 2), (false, 3), (false, 4), (false, 5), (false, 6), (false, 7), (false, 8), (false, 9), (false, 10)]) ?_ ?_ ?_ ?_ ?_ ?_); kernel_rfl; kernel_rfl; kernel_rfl; kernel_rfl; (intro c a d v w h; cases d <;> exact h)) | ((with_reducible refine wp_region_plan (id := 11) (.fin [(false, 0), (false, 1), (false, 2), (false, 3), (false, 4), (false, 5), (false, 6), (false, 7), (false, 8), (false, 9), (false, 10), (false, 11), (false, 12), (false, 13), (false, 14)]) ?_ ?_ ?_ ?_ ?_ ?_); kernel_rfl; kernel_rfl; kernel_rfl; kernel_rfl; (intro c a d v w h; cases d <;> exact h)) | (with_reducible refine wpPlan_eff ?_) | (with_reducible refine wpPlan_fin ?_) | (with_reducible refine wpPlan_two ?_) | (with_reducible refine wpOpPair ?_ ?_) | ((with_reducible apply wpPre_keep); rfl; intro K' hK'; go_simp; refine hK' _ _ ?_; intro f hf; clear hK' K') | ((with_reducible apply wpPre_drop); rfl; intro K' hK'; go_simp; refine hK' _ _ ?_; intro f; clear hK' K') | (with_reducible refine wpPre_nil ?_) | ((with_reducible apply wpOp_list); rfl) | (with_reducible refine heldPair ?_ ?_) | ((with_reducible refine heldH_no ?_ ?_); rfl) | (with_reducible refine heldH_yes ?_ ?_) | (with_reducible exact heldH_nil) | (unfold YAt; go_simp; done))
          go_ret
          exact ⟨by rw [decide_eq_false HNE.out]; rfl, (by repeat (first | (with_reducible exact Below.refl _ _) | (with_reducible exact bl_mm) | (with_reducible refine bl_dr ?_) | (with_reducible refine bl_drN ?_ _) | (with_reducible refine bl_al ?_ _) | (with_reducible refine bl_more ?_ _ _)))⟩
      · have hjx : ¬ (j : Int) < xs.length := by omega
        have HJ := hid hj
        clear hk ht hj
        go_wp2_with (first | ((with_reducible refine wp_region_plan (id := 6) (.fin [(false, 0), (false, 1), (false, 2), (false, 3), (false, 4), (false, 5), (false, 6), (false, 7), (false, 8), (false, 9), (false, 10)]) ?_ ?_ ?_ ?_ ?_ ?_); kernel_rfl; kernel_rfl; kernel_rfl; kernel_rfl; (intro c a d v w h; cases d <;> exact h)) | ((with_reducible refine wp_region_plan (id := 11) (.fin [(false, 0), (false, 1), (false, 2), (false, 3), (false, 4), (false, 5), (false, 6), (false, 7), (false, 8), (false, 9), (false, 10), (false, 11), (false, 12), (false, 13), (false, 14)]) ?_ ?_ ?_ ?_ ?_ ?_); kernel_rfl; kernel_rfl; kernel_rfl; kernel_rfl; (intro c a d v w h; cases d <;> exact h)) | (with_reducible refine wpPlan_eff ?_) | (with_reducible refine wpPlan_fin ?_) | (with_reducible refine wpPlan_two ?_) | (with_reducible refine wpOpPair ?_ ?_) | ((with_reducible apply wpPre_keep); rfl; intro K' hK'; go_simp; refine hK' _ _ ?_; intro f hf; clear hK' K') | ((with_reducible apply wpPre_drop); rfl; intro K' hK'; go_simp; refine hK' _ _ ?_; intro f; clear hK' K') | (with_reducible refine wpPre_nil ?_) | ((with_reducible apply wpOp_list); rfl) | (with_reducible refine heldPair ?_ ?_) | ((with_reducible refine heldH_no ?_ ?_); rfl) | (with_reducible refine heldH_yes ?_ ?_) | (with_reducible exact heldH_nil) | (unfold YAt; go_simp; done))
        go_ret
        have h := HT.out
        rw [List.take_of_length_le (by have := HJ.out; omega), List.take_of_length_le (by have := HJ.out; have := HL.out; omega)] at h
        exact ⟨by rw [decide_eq_true h]; rfl, (by repeat (first | (with_reducible exact Below.refl _ _) | (with_reducible exact bl_mm) | (with_reducible refine bl_dr ?_) | (with_reducible refine bl_drN ?_ _) | (with_reducible refine bl_al ?_ _) | (with_reducible refine bl_more ?_ _ _)))⟩
  · have hb0 : ((xs.length : Int) != (ys.length : Int)) = true := by simp; omega
    have HL := hid hl
    clear hl hlen
    go_enter Tryd.func14, Tryd.ntmps14
    go_wp2_with (first | ((with_reducible refine wp_region_plan (id := 6) (.fin [(false, 0), (false, 1), (false, 2), (false, 3), (false, 4), (false, 5), (false, 6), (false, 7), (false, 8), (false, 9), (false, 10)]) ?_ ?_ ?_ ?_ ?_ ?_); kernel_rfl; kernel_rfl; kernel_rfl; kernel_rfl; (intro c a d v w h; cases d <;> exact h)) | ((with_reducible refine wp_region_plan (id := 11) (.fin [(false, 0), (false, 1), (false, 2), (false, 3), (false, 4), (false, 5), (false, 6), (false, 7), (false, 8), (false, 9), (false, 10), (false, 11), (false, 12), (false, 13), (false, 14)]) ?_ ?_ ?_ ?_ ?_ ?_); kernel_rfl; kernel_rfl; kernel_rfl; kernel_rfl; (intro c a d v w h; cases d <;> exact h)) | (with_reducible refine wpPlan_eff ?_) | (with_reducible refine wpPlan_fin ?_) | (with_reducible refine wpPlan_two ?_) | (with_reducible refine wpOpPair ?_ ?_) | ((with_reducible apply wpPre_keep); rfl; intro K' hK'; go_simp; refine hK' _ _ ?_; intro f hf; clear hK' K') | ((with_reducible apply wpPre_drop); rfl; intro K' hK'; go_simp; refine hK' _ _ ?_; intro f; clear hK' K') | (with_reducible refine wpPre_nil ?_) | ((with_reducible apply wpOp_list); rfl) | (with_reducible refine heldPair ?_ ?_) | ((with_reducible refine heldH_no ?_ ?_); rfl) | (with_reducible refine heldH_yes ?_ ?_) | (with_reducible exact heldH_nil) | (unfold YAt; go_simp; done))
    go_ret
    exact ⟨by rw [decide_eq_false (fun h => HL.out (by rw [h]))]; rfl, (by repeat (first | (with_reducible exact Below.refl _ _) | (with_reducible exact bl_mm) | (with_reducible refine bl_dr ?_) | (with_reducible refine bl_drN ?_ _) | (with_reducible refine bl_al ?_ _) | (with_reducible refine bl_more ?_ _ _)))⟩
def fewB (l : Arcs) : Bool := decide (l.length ≤ 300) || (decide (4096 < l.length) && decide (l.length ≤ 8192))
set_option maxHeartbeats 1000000 in
theorem few_any {w : World} {A : Option Addr} {l : Arcs} {c : Nat} : Calls Tryd.prog 7 #[.slice A l.length c] w fun e w' => e = .returned (.bool (fewB l)) ∧ w' = w := by
  have e1 : decide ((l.length : Int) ≤ 300) = decide (l.length ≤ 300) := by simp; omega
  by_cases h1 : l.length ≤ 300
  · have i1 : (l.length : Int) ≤ 300 := by omega
    have HF : Hid (fewB l = true) := hid (by unfold fewB; simp [h1])
    clear e1 h1
    go_enter Tryd.func7, Tryd.ntmps7
    go_wp2
    go_ret
    exact ⟨by rw [HF.out]; rfl, rfl⟩
  · have i1 : ¬ (l.length : Int) ≤ 300 := by omega
    by_cases h2 : 4096 < l.length
    · have i2 : (4096 : Int) < (l.length : Int) := by omega
      by_cases h3 : l.length ≤ 8192
      · have i3 : (l.length : Int) ≤ 8192 := by omega
        have HF : Hid (fewB l = true) := hid (by unfold fewB; simp [h1, h2, h3])
        clear e1 h1 h2 h3
        go_enter Tryd.func7, Tryd.ntmps7
        go_wp2
        go_ret
        exact ⟨by rw [HF.out]; rfl, rfl⟩
      · have i3 : ¬ (l.length : Int) ≤ 8192 := by omega
        have HF : Hid (fewB l = false) := hid (by unfold fewB; simp [h1, h3])
        clear e1 h1 h2 h3
        go_enter Tryd.func7, Tryd.ntmps7
        go_wp2
        go_ret
        exact ⟨by rw [HF.out]; rfl, rfl⟩
    · have i2 : ¬ (4096 : Int) < (l.length : Int) := by omega
      have HF : Hid (fewB l = false) := hid (by unfold fewB; simp [h1, h2])
      clear e1 h1 h2
      go_enter Tryd.func7, Tryd.ntmps7
      go_wp2
      go_ret
      exact ⟨by rw [HF.out]; rfl, rfl⟩
end Go.Proofs.YtomhpbhkckjmdaaDoorRR
