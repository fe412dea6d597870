/- Rows compared; In; few. -/
import Derived.Test.YtomhpbhkckjmdaaDoorRRDgK
namespace Go.Proofs.YtomhpbhkckjmdaaDoorRR
open Go.RowKit

/-- A number in a row. -/
def hasR (xs : List Nat) (x : Nat) : Bool := decide (x ∈ xs)
set_option maxHeartbeats 4000000 in
theorem in_any {w : World} {K : Nat → Prop} {v : Value} {xs : List Nat} {x : Nat} (hv : natE.Row K w v xs) (hl : xs.length ≤ 100000) : Calls Tryd.prog 12 #[v, .int .i64 (x : Int)] w fun e w' => e = .returned (.bool (hasR xs x)) ∧ w' = w := by
  obtain ⟨A, cp, rfl, _, _⟩ := hv.form
  have HV := hid hv
  have HL := hid hl
  have hl1 : (xs.length : Int) ≤ 100000 := by omega
  clear hv hl
  go_enter Tryd.func12, Tryd.ntmps12
  go_wp2
  go_loop [5] (fun vi => ∃ j : Nat, j ≤ xs.length ∧ vi = .int .i64 (j : Int) ∧ ∀ i, i < j → xs[i]? ≠ some x) (fun vi => xs.length - (intOf vi).toNat)
  case atStart => exact ⟨0, by omega, rfl, fun i h => by omega⟩
  case round =>
    obtain ⟨j, hj, rfl, hn⟩ := hrel
    have HN := hid hn
    clear hn
    by_cases hjl : j < xs.length
    · obtain ⟨a, ha⟩ := get_lt hjl
      obtain ⟨b, off, rfl, _, hbl, x1⟩ := row_nat HV.out ha
      have h0 : (0 : Int) ≤ j := by omega
      have h1 : (j : Int) < xs.length := by omega
      have HA := hid ha
      have HJ := hid hjl
      by_cases hx : a = x
      · have hq : ((a : Int) == (x : Int)) = true := by simp [hx]
        have HX := hid hx
        clear hj ha hjl hx
        go_wp2
        go_ret
        exact ⟨by rw [show hasR xs x = true from decide_eq_true (HX.out ▸ List.mem_of_getElem? HA.out)]; rfl, rfl⟩
      · have hq : ((a : Int) == (x : Int)) = false := by simp; omega
        have HX := hid hx
        clear hj ha hjl hx
        go_wp2
        go_round
        case rel =>
          refine ⟨j + 1, HJ.out, rfl, fun i hi => ?_⟩
          rcases Nat.lt_or_ge i j with h | h
          · exact HN.out i h
          · obtain rfl : i = j := by omega
            rw [HA.out]
            exact fun h => HX.out (Option.some.inj h)
        case measure => have := HJ.out; simp [intOf]; omega
    · have h1 : ¬ (j : Int) < xs.length := by omega
      have HJ := hid hjl
      clear hj hjl
      go_wp2
      go_ret
      refine ⟨?_, rfl⟩
      rw [show hasR xs x = false from decide_eq_false (fun h => by
        obtain ⟨i, hi⟩ := List.mem_iff_getElem?.1 h
        exact HN.out i (by have := get_len hi; have := HJ.out; omega) hi)]
      rfl
set_option maxHeartbeats 4000000 in
theorem sameI_any {w : World} {va vb : Value} {xs ys : List Nat} {K K2 : Nat → Prop} (ha : natE.Row K w va xs) (hb : natE.Row K2 w vb ys) (hlen : xs.length ≤ 100000) : Calls Tryd.prog 17 #[va, vb] w fun e w' => e = .returned (.bool (decide (xs = ys))) ∧ Below w.heap.size w w' := by
  obtain ⟨A, ca, rfl, _, _⟩ := ha.form
  obtain ⟨B, cb, rfl, _, _⟩ := hb.form
  have HA := hid ha
  have HB := hid hb
  clear ha hb
  by_cases hl : xs.length = ys.length
  · have hb0 : ((xs.length : Int) != (ys.length : Int)) = false := by simp [hl]
    have HL := hid hl
    have hlx : (xs.length : Int) ≤ 100000 := by omega
    clear hl hlen
    go_enter Tryd.func17, Tryd.ntmps17
    go_wp2_with (first | ((with_reducible refine wp_region_plan (id := 6) (.fin [(false, 0), (false, 1), (false, 2), (false, 3), (false, 4), (false, 5), (false, 6), (false, 7), (false, 8)]) ?_ ?_ ?_ ?_ ?_ ?_); kernel_rfl; kernel_rfl; kernel_rfl; kernel_rfl; (intro c a d v w h; cases d <;> exact h)) | (with_reducible refine wpPlan_eff ?_) | (with_reducible refine wpPlan_fin ?_) | (with_reducible refine wpPlan_two ?_) | (with_reducible refine wpOpPair ?_ ?_) | ((with_reducible apply wpPre_keep); rfl; intro K' hK'; go_simp; refine hK' _ _ ?_; intro f hf; clear hK' K') | ((with_reducible apply wpPre_drop); rfl; intro K' hK'; go_simp; refine hK' _ _ ?_; intro f; clear hK' K') | (with_reducible refine wpPre_nil ?_) | ((with_reducible apply wpOp_list); rfl) | (with_reducible refine heldPair ?_ ?_) | ((with_reducible refine heldH_no ?_ ?_); rfl) | (with_reducible refine heldH_yes ?_ ?_) | (with_reducible exact heldH_nil) | (unfold YAt; go_simp; done))
    go_loopg [5] xs.length (fun k vi wr => ∃ j : Nat, j + k = xs.length ∧ vi = .int .i64 (j : Int) ∧ xs.take j = ys.take j ∧ ∃ ex dx, wr = more w ex dx)
    case atStart => exact ⟨0, by omega, rfl, rfl, more_of (Below.refl _ _)⟩
    case round =>
      obtain ⟨j, hk, rfl, ht, ex, dx, rfl⟩ := hrel
      have HK := hid hk
      have HT := hid ht
      by_cases hj : j < xs.length
      · obtain ⟨a, hla⟩ := get_lt hj
        obtain ⟨b, hlb⟩ := get_lt (l := ys) (j := j) (by have := HL.out; omega)
        obtain ⟨b1, o1, rfl, _, hl1, x1⟩ := row_nat HA.out hla
        obtain ⟨b2, o2, rfl, _, hl2, y1⟩ := row_nat HB.out hlb
        have hj0 : (0 : Int) ≤ j := by omega
        have hjx : (j : Int) < xs.length := by omega
        have hjy : (j : Int) < ys.length := by have := HL.out; omega
        have HJ := hid hla
        have HJ2 := hid hlb
        by_cases he : a = b
        · have hq : ((a : Int) != (b : Int)) = false := by simp [he]
          have HE := hid he
          clear hk ht he hla hlb hj
          go_wp2_with (first | ((with_reducible refine wp_region_plan (id := 6) (.fin [(false, 0), (false, 1), (false, 2), (false, 3), (false, 4), (false, 5), (false, 6), (false, 7), (false, 8)]) ?_ ?_ ?_ ?_ ?_ ?_); kernel_rfl; kernel_rfl; kernel_rfl; kernel_rfl; (intro c a d v w h; cases d <;> exact h)) | (with_reducible refine wpPlan_eff ?_) | (with_reducible refine wpPlan_fin ?_) | (with_reducible refine wpPlan_two ?_) | (with_reducible refine wpOpPair ?_ ?_) | ((with_reducible apply wpPre_keep); rfl; intro K' hK'; go_simp; refine hK' _ _ ?_; intro f hf; clear hK' K') | ((with_reducible apply wpPre_drop); rfl; intro K' hK'; go_simp; refine hK' _ _ ?_; intro f; clear hK' K') | (with_reducible refine wpPre_nil ?_) | ((with_reducible apply wpOp_list); rfl) | (with_reducible refine heldPair ?_ ?_) | ((with_reducible refine heldH_no ?_ ?_); rfl) | (with_reducible refine heldH_yes ?_ ?_) | (with_reducible exact heldH_nil) | (unfold YAt; go_simp; done))
          go_roundg (xs.length - (j + 1))
          case measure => have := HK.out; have := get_len HJ.out; omega
          case rel => exact ⟨j + 1, by have := get_len HJ.out; omega, rfl, by rw [take_next HJ.out, take_next HJ2.out, HT.out, HE.out], more_of (by repeat (first | (with_reducible exact Below.refl _ _) | (with_reducible exact bl_mm) | (with_reducible refine bl_dr ?_) | (with_reducible refine bl_drN ?_ _) | (with_reducible refine bl_al ?_ _) | (with_reducible refine bl_more ?_ _ _)))⟩
        · have hq : ((a : Int) != (b : Int)) = true := by simp; omega
          have HE := hid he
          clear hk ht he hla hlb hj
          go_wp2_with (first | ((with_reducible refine wp_region_plan (id := 6) (.fin [(false, 0), (false, 1), (false, 2), (false, 3), (false, 4), (false, 5), (false, 6), (false, 7), (false, 8)]) ?_ ?_ ?_ ?_ ?_ ?_); kernel_rfl; kernel_rfl; kernel_rfl; kernel_rfl; (intro c a d v w h; cases d <;> exact h)) | (with_reducible refine wpPlan_eff ?_) | (with_reducible refine wpPlan_fin ?_) | (with_reducible refine wpPlan_two ?_) | (with_reducible refine wpOpPair ?_ ?_) | ((with_reducible apply wpPre_keep); rfl; intro K' hK'; go_simp; refine hK' _ _ ?_; intro f hf; clear hK' K') | ((with_reducible apply wpPre_drop); rfl; intro K' hK'; go_simp; refine hK' _ _ ?_; intro f; clear hK' K') | (with_reducible refine wpPre_nil ?_) | ((with_reducible apply wpOp_list); rfl) | (with_reducible refine heldPair ?_ ?_) | ((with_reducible refine heldH_no ?_ ?_); rfl) | (with_reducible refine heldH_yes ?_ ?_) | (with_reducible exact heldH_nil) | (unfold YAt; go_simp; done))
          go_ret
          exact ⟨by rw [decide_eq_false (fun h => HE.out (by subst h; have := HJ.out; rw [HJ2.out] at this; exact (Option.some.inj this).symm))]; rfl, (by repeat (first | (with_reducible exact Below.refl _ _) | (with_reducible exact bl_mm) | (with_reducible refine bl_dr ?_) | (with_reducible refine bl_drN ?_ _) | (with_reducible refine bl_al ?_ _) | (with_reducible refine bl_more ?_ _ _)))⟩
      · have hjx : ¬ (j : Int) < xs.length := by omega
        have HJ := hid hj
        clear hk ht hj
        go_wp2_with (first | ((with_reducible refine wp_region_plan (id := 6) (.fin [(false, 0), (false, 1), (false, 2), (false, 3), (false, 4), (false, 5), (false, 6), (false, 7), (false, 8)]) ?_ ?_ ?_ ?_ ?_ ?_); kernel_rfl; kernel_rfl; kernel_rfl; kernel_rfl; (intro c a d v w h; cases d <;> exact h)) | (with_reducible refine wpPlan_eff ?_) | (with_reducible refine wpPlan_fin ?_) | (with_reducible refine wpPlan_two ?_) | (with_reducible refine wpOpPair ?_ ?_) | ((with_reducible apply wpPre_keep); rfl; intro K' hK'; go_simp; refine hK' _ _ ?_; intro f hf; clear hK' K') | ((with_reducible apply wpPre_drop); rfl; intro K' hK'; go_simp; refine hK' _ _ ?_; intro f; clear hK' K') | (with_reducible refine wpPre_nil ?_) | ((with_reducible apply wpOp_list); rfl) | (with_reducible refine heldPair ?_ ?_) | ((with_reducible refine heldH_no ?_ ?_); rfl) | (with_reducible refine heldH_yes ?_ ?_) | (with_reducible exact heldH_nil) | (unfold YAt; go_simp; done))
        go_ret
        have h := HT.out
        rw [List.take_of_length_le (by have := HJ.out; omega), List.take_of_length_le (by have := HJ.out; have := HL.out; omega)] at h
        exact ⟨by rw [decide_eq_true h]; rfl, (by repeat (first | (with_reducible exact Below.refl _ _) | (with_reducible exact bl_mm) | (with_reducible refine bl_dr ?_) | (with_reducible refine bl_drN ?_ _) | (with_reducible refine bl_al ?_ _) | (with_reducible refine bl_more ?_ _ _)))⟩
  · have hb0 : ((xs.length : Int) != (ys.length : Int)) = true := by simp; omega
    have HL := hid hl
    clear hl hlen
    go_enter Tryd.func17, Tryd.ntmps17
    go_wp2_with (first | ((with_reducible refine wp_region_plan (id := 6) (.fin [(false, 0), (false, 1), (false, 2), (false, 3), (false, 4), (false, 5), (false, 6), (false, 7), (false, 8)]) ?_ ?_ ?_ ?_ ?_ ?_); kernel_rfl; kernel_rfl; kernel_rfl; kernel_rfl; (intro c a d v w h; cases d <;> exact h)) | (with_reducible refine wpPlan_eff ?_) | (with_reducible refine wpPlan_fin ?_) | (with_reducible refine wpPlan_two ?_) | (with_reducible refine wpOpPair ?_ ?_) | ((with_reducible apply wpPre_keep); rfl; intro K' hK'; go_simp; refine hK' _ _ ?_; intro f hf; clear hK' K') | ((with_reducible apply wpPre_drop); rfl; intro K' hK'; go_simp; refine hK' _ _ ?_; intro f; clear hK' K') | (with_reducible refine wpPre_nil ?_) | ((with_reducible apply wpOp_list); rfl) | (with_reducible refine heldPair ?_ ?_) | ((with_reducible refine heldH_no ?_ ?_); rfl) | (with_reducible refine heldH_yes ?_ ?_) | (with_reducible exact heldH_nil) | (unfold YAt; go_simp; done))
    go_ret
    exact ⟨by rw [decide_eq_false (fun h => HL.out (by rw [h]))]; rfl, (by repeat (first | (with_reducible exact Below.refl _ _) | (with_reducible exact bl_mm) | (with_reducible refine bl_dr ?_) | (with_reducible refine bl_drN ?_ _) | (with_reducible refine bl_al ?_ _) | (with_reducible refine bl_more ?_ _ _)))⟩
theorem arc_neq (a b a' b' : Int) (W : World) : (binOp .neq 46 (.agg #[.int .i64 a, .int .i64 b]) (.agg #[.int .i64 a', .int .i64 b'])).run Tryd.prog W = .ok (.bool (!(a == a' && b == b'))) W := by
  by_cases h1 : a = a' <;> by_cases h2 : b = b' <;> simp [h1, h2, go_sem]
set_option maxHeartbeats 4000000 in
theorem sameA_any {w : World} {va vb : Value} {xs ys : Arcs} {K K2 : Nat → Prop} (ha : arcE.Row K w va xs) (hb : arcE.Row K2 w vb ys) (hlen : xs.length ≤ 100000) : Calls Tryd.prog 15 #[va, vb] w fun e w' => e = .returned (.bool (decide (xs = ys))) ∧ Below w.heap.size w w' := by
  obtain ⟨A, ca, rfl, _, _⟩ := ha.form
  obtain ⟨B, cb, rfl, _, _⟩ := hb.form
  have HA := hid ha
  have HB := hid hb
  clear ha hb
  by_cases hl : xs.length = ys.length
  · have hb0 : ((xs.length : Int) != (ys.length : Int)) = false := by simp [hl]
    have HL := hid hl
    have hlx : (xs.length : Int) ≤ 100000 := by omega
    clear hl hlen
    go_enter Tryd.func15, Tryd.ntmps15
    go_wp2_with (first | ((with_reducible refine wp_region_plan (id := 6) (.fin [(false, 0), (false, 1), (false, 2), (false, 3), (false, 4), (false, 5), (false, 6), (false, 7), (false, 8)]) ?_ ?_ ?_ ?_ ?_ ?_); kernel_rfl; kernel_rfl; kernel_rfl; kernel_rfl; (intro c a d v w h; cases d <;> exact h)) | (with_reducible refine wpPlan_eff ?_) | (with_reducible refine wpPlan_fin ?_) | (with_reducible refine wpPlan_two ?_) | (with_reducible refine wpOpPair ?_ ?_) | ((with_reducible apply wpPre_keep); rfl; intro K' hK'; go_simp; refine hK' _ _ ?_; intro f hf; clear hK' K') | ((with_reducible apply wpPre_drop); rfl; intro K' hK'; go_simp; refine hK' _ _ ?_; intro f; clear hK' K') | (with_reducible refine wpPre_nil ?_) | ((with_reducible apply wpOp_list); rfl) | (with_reducible refine heldPair ?_ ?_) | ((with_reducible refine heldH_no ?_ ?_); rfl) | (with_reducible refine heldH_yes ?_ ?_) | (with_reducible exact heldH_nil) | (unfold YAt; go_simp; done))
    go_loopg [5] xs.length (fun k vi wr => ∃ j : Nat, j + k = xs.length ∧ vi = .int .i64 (j : Int) ∧ xs.take j = ys.take j ∧ ∃ ex dx, wr = more w ex dx)
    case atStart => exact ⟨0, by omega, rfl, rfl, more_of (Below.refl _ _)⟩
    case round =>
      obtain ⟨j, hk, rfl, ht, ex, dx, rfl⟩ := hrel
      have HK := hid hk
      have HT := hid ht
      by_cases hj : j < xs.length
      · obtain ⟨⟨a1, a2⟩, hla⟩ := get_lt hj
        obtain ⟨⟨c1, c2⟩, hlb⟩ := get_lt (l := ys) (j := j) (by have := HL.out; omega)
        obtain ⟨b1, o1, rfl, _, hl1, x1, x2⟩ := row_arc HA.out hla
        obtain ⟨b2, o2, rfl, _, hl2, y1, y2⟩ := row_arc HB.out hlb
        simp only at x1 x2 y1 y2
        have hj0 : (0 : Int) ≤ j := by omega
        have hjx : (j : Int) < xs.length := by omega
        have hjy : (j : Int) < ys.length := by have := HL.out; omega
        have HJ := hid hla
        have HJ2 := hid hlb
        have hnq := arc_neq a1 a2 c1 c2
        by_cases he : a1 = c1 ∧ a2 = c2
        · rw [show (!(a1 == c1 && a2 == c2)) = false by simp [he.1, he.2]] at hnq
          have HE := hid he
          clear hk ht he hla hlb hj
          go_wp2_with (first | ((with_reducible refine wp_region_plan (id := 6) (.fin [(false, 0), (false, 1), (false, 2), (false, 3), (false, 4), (false, 5), (false, 6), (false, 7), (false, 8)]) ?_ ?_ ?_ ?_ ?_ ?_); kernel_rfl; kernel_rfl; kernel_rfl; kernel_rfl; (intro c a d v w h; cases d <;> exact h)) | (with_reducible refine wpPlan_eff ?_) | (with_reducible refine wpPlan_fin ?_) | (with_reducible refine wpPlan_two ?_) | (with_reducible refine wpOpPair ?_ ?_) | ((with_reducible apply wpPre_keep); rfl; intro K' hK'; go_simp; refine hK' _ _ ?_; intro f hf; clear hK' K') | ((with_reducible apply wpPre_drop); rfl; intro K' hK'; go_simp; refine hK' _ _ ?_; intro f; clear hK' K') | (with_reducible refine wpPre_nil ?_) | ((with_reducible apply wpOp_list); rfl) | (with_reducible refine heldPair ?_ ?_) | ((with_reducible refine heldH_no ?_ ?_); rfl) | (with_reducible refine heldH_yes ?_ ?_) | (with_reducible exact heldH_nil) | (unfold YAt; go_simp; done))
          go_roundg (xs.length - (j + 1))
          case measure => have := HK.out; have := get_len HJ.out; omega
          case rel => exact ⟨j + 1, by have := get_len HJ.out; omega, rfl, by rw [take_next HJ.out, take_next HJ2.out, HT.out, HE.out.1, HE.out.2], more_of (by repeat (first | (with_reducible exact Below.refl _ _) | (with_reducible exact bl_mm) | (with_reducible refine bl_dr ?_) | (with_reducible refine bl_drN ?_ _) | (with_reducible refine bl_al ?_ _) | (with_reducible refine bl_more ?_ _ _)))⟩
        · rw [show (!(a1 == c1 && a2 == c2)) = true by
            by_cases h1 : a1 = c1
            · have h2 : ¬ a2 = c2 := fun h => he ⟨h1, h⟩
              simp [h1, h2]
            · simp [h1]] at hnq
          have HE := hid he
          clear hk ht he hla hlb hj
          go_wp2_with (first | ((with_reducible refine wp_region_plan (id := 6) (.fin [(false, 0), (false, 1), (false, 2), (false, 3), (false, 4), (false, 5), (false, 6), (false, 7), (false, 8)]) ?_ ?_ ?_ ?_ ?_ ?_); kernel_rfl; kernel_rfl; kernel_rfl; kernel_rfl; (intro c a d v w h; cases d <;> exact h)) | (with_reducible refine wpPlan_eff ?_) | (with_reducible refine wpPlan_fin ?_) | (with_reducible refine wpPlan_two ?_) | (with_reducible refine wpOpPair ?_ ?_) | ((with_reducible apply wpPre_keep); rfl; intro K' hK'; go_simp; refine hK' _ _ ?_; intro f hf; clear hK' K') | ((with_reducible apply wpPre_drop); rfl; intro K' hK'; go_simp; refine hK' _ _ ?_; intro f; clear hK' K') | (with_reducible refine wpPre_nil ?_) | ((with_reducible apply wpOp_list); rfl) | (with_reducible refine heldPair ?_ ?_) | ((with_reducible refine heldH_no ?_ ?_); rfl) | (with_reducible refine heldH_yes ?_ ?_) | (with_reducible exact heldH_nil) | (unfold YAt; go_simp; done))
          go_ret
          exact ⟨by rw [decide_eq_false (fun h => HE.out (by subst h; have := HJ.out; rw [HJ2.out] at this; cases this; exact ⟨rfl, rfl⟩))]; rfl, (by repeat (first | (with_reducible exact Below.refl _ _) | (with_reducible exact bl_mm) | (with_reducible refine bl_dr ?_) | (with_reducible refine bl_drN ?_ _) | (with_reducible refine bl_al ?_ _) | (with_reducible refine bl_more ?_ _ _)))⟩
      · have hjx : ¬ (j : Int) < xs.length := by omega
        have HJ := hid hj
        clear hk ht hj
        go_wp2_with (first | ((with_reducible refine wp_region_plan (id := 6) (.fin [(false, 0), (false, 1), (false, 2), (false, 3), (false, 4), (false, 5), (false, 6), (false, 7), (false, 8)]) ?_ ?_ ?_ ?_ ?_ ?_); kernel_rfl; kernel_rfl; kernel_rfl; kernel_rfl; (intro c a d v w h; cases d <;> exact h)) | (with_reducible refine wpPlan_eff ?_) | (with_reducible refine wpPlan_fin ?_) | (with_reducible refine wpPlan_two ?_) | (with_reducible refine wpOpPair ?_ ?_) | ((with_reducible apply wpPre_keep); rfl; intro K' hK'; go_simp; refine hK' _ _ ?_; intro f hf; clear hK' K') | ((with_reducible apply wpPre_drop); rfl; intro K' hK'; go_simp; refine hK' _ _ ?_; intro f; clear hK' K') | (with_reducible refine wpPre_nil ?_) | ((with_reducible apply wpOp_list); rfl) | (with_reducible refine heldPair ?_ ?_) | ((with_reducible refine heldH_no ?_ ?_); rfl) | (with_reducible refine heldH_yes ?_ ?_) | (with_reducible exact heldH_nil) | (unfold YAt; go_simp; done))
        go_ret
        have h := HT.out
        rw [List.take_of_length_le (by have := HJ.out; omega), List.take_of_length_le (by have := HJ.out; have := HL.out; omega)] at h
        exact ⟨by rw [decide_eq_true h]; rfl, (by repeat (first | (with_reducible exact Below.refl _ _) | (with_reducible exact bl_mm) | (with_reducible refine bl_dr ?_) | (with_reducible refine bl_drN ?_ _) | (with_reducible refine bl_al ?_ _) | (with_reducible refine bl_more ?_ _ _)))⟩
  · have hb0 : ((xs.length : Int) != (ys.length : Int)) = true := by simp; omega
    have HL := hid hl
    clear hl hlen
    go_enter Tryd.func15, Tryd.ntmps15
    go_wp2_with (first | ((with_reducible refine wp_region_plan (id := 6) (.fin [(false, 0), (false, 1), (false, 2), (false, 3), (false, 4), (false, 5), (false, 6), (false, 7), (false, 8)]) ?_ ?_ ?_ ?_ ?_ ?_); kernel_rfl; kernel_rfl; kernel_rfl; kernel_rfl; (intro c a d v w h; cases d <;> exact h)) | (with_reducible refine wpPlan_eff ?_) | (with_reducible refine wpPlan_fin ?_) | (with_reducible refine wpPlan_two ?_) | (with_reducible refine wpOpPair ?_ ?_) | ((with_reducible apply wpPre_keep); rfl; intro K' hK'; go_simp; refine hK' _ _ ?_; intro f hf; clear hK' K') | ((with_reducible apply wpPre_drop); rfl; intro K' hK'; go_simp; refine hK' _ _ ?_; intro f; clear hK' K') | (with_reducible refine wpPre_nil ?_) | ((with_reducible apply wpOp_list); rfl) | (with_reducible refine heldPair ?_ ?_) | ((with_reducible refine heldH_no ?_ ?_); rfl) | (with_reducible refine heldH_yes ?_ ?_) | (with_reducible exact heldH_nil) | (unfold YAt; go_simp; done))
    go_ret
    exact ⟨by rw [decide_eq_false (fun h => HL.out (by rw [h]))]; rfl, (by repeat (first | (with_reducible exact Below.refl _ _) | (with_reducible exact bl_mm) | (with_reducible refine bl_dr ?_) | (with_reducible refine bl_drN ?_ _) | (with_reducible refine bl_al ?_ _) | (with_reducible refine bl_more ?_ _ _)))⟩
end Go.Proofs.YtomhpbhkckjmdaaDoorRR
