/- Tokens compared. -/
import Derived.Test.YthekoefcienipaaLxX
namespace Go.Proofs.Ythekoefcienipaa
open Go.RowKit

deriving instance DecidableEq for Tok
theorem tok_neq (k a k' a' : Int) (t t' : ByteArray) (W : World) : (binOp .neq 38 (.agg #[.int .i64 k, .string t, .int .i64 a]) (.agg #[.int .i64 k', .string t', .int .i64 a'])).run Try.prog W = .ok (.bool (!(k == k' && t.toList == t'.toList && a == a'))) W := by
  by_cases h1 : k = k' <;> by_cases h2 : t.toList = t'.toList <;> by_cases h3 : a = a' <;> simp [h1, h2, h3, go_sem]
theorem tok_neq_yes {x y : Tok} (h : x = y) (W : World) : (binOp .neq 38 (.agg #[.int .i64 x.kind, .string x.text, .int .i64 x.at_]) (.agg #[.int .i64 y.kind, .string y.text, .int .i64 y.at_])).run Try.prog W = .ok (.bool false) W := by
  subst h
  rw [tok_neq]
  simp
theorem tok_neq_no {x y : Tok} (h : x ≠ y) (W : World) : (binOp .neq 38 (.agg #[.int .i64 x.kind, .string x.text, .int .i64 x.at_]) (.agg #[.int .i64 y.kind, .string y.text, .int .i64 y.at_])).run Try.prog W = .ok (.bool true) W := by
  rw [tok_neq]
  have : (x.kind == y.kind && x.text.toList == y.text.toList && x.at_ == y.at_) = false := by
    obtain ⟨k, t, a⟩ := x
    obtain ⟨k', t', a'⟩ := y
    by_cases h1 : k = k'
    · by_cases h2 : t = t'
      · by_cases h3 : a = a'
        · exact absurd (by rw [h1, h2, h3]) h
        · simp [h3]
      · simp only [eqs_f h2]; simp
    · simp [h1]
  rw [this]
  rfl
/-- A token's three cells. -/
theorem row_tok {K : Nat → Prop} {w : World} {A : Option Addr} {n c : Nat} {xs : List Tok} (h : tokE.Row K w (.slice A n c) xs) (i : Nat) (hi : i < xs.length) : ∃ b off, A = some ⟨b, off, none⟩ ∧ K b ∧ b < w.heap.size ∧ w.cell? ⟨b, off + i * 3, none⟩ = some (.int .i64 (xs[i]'hi).kind) ∧ w.cell? ⟨b, off + i * 3 + 1, none⟩ = some (.string (xs[i]'hi).text) ∧ w.cell? ⟨b, off + i * 3 + 2, none⟩ = some (.int .i64 (xs[i]'hi).at_) := by
  obtain ⟨b, off, cs, e, hk, hl, h1, h2⟩ := h.get i hi
  have h1 := tokE_open h1
  subst h1
  exact ⟨b, off, e, hk, hl, h2 0 _ rfl, h2 1 _ rfl, h2 2 _ rfl⟩
set_option maxHeartbeats 4000000 in
theorem same_any {w : World} {va vb : Value} {xs ys : List Tok} {K : Nat → Prop} (ha : tokE.Row K w va xs) (hb : tokE.Row K w vb ys) (hlen : xs.length ≤ 100000) (hlen2 : ys.length ≤ 100000) : Calls Try.prog 12 #[va, vb] w fun e w' => e = .returned (.bool (decide (xs = ys))) ∧ Below w.heap.size w w' := by
  obtain ⟨A, ca, rfl, _, _⟩ := ha.form
  obtain ⟨B, cb, rfl, _, _⟩ := hb.form
  have HA := hid ha
  have HB := hid hb
  clear ha hb
  by_cases hl : xs.length = ys.length
  · have hb0 : ((xs.length : Int) != (ys.length : Int)) = false := by simp [hl]
    have HL := hid hl
    have hlx : (xs.length : Int) ≤ 100000 := by omega
    clear hl hlen hlen2
    go_enter Try.func12, Try.ntmps12
    go_wp2_with (first | ((with_reducible refine wp_region_plan (id := 6) (.fin [(false, 0), (false, 1), (false, 2), (false, 3), (false, 4), (false, 5), (false, 6), (false, 7), (false, 8)]) ?_ ?_ ?_ ?_ ?_ ?_); kernel_rfl; kernel_rfl; kernel_rfl; kernel_rfl; (intro c a d v w h; cases d <;> exact h)) | (with_reducible refine wpPlan_eff ?_) | (with_reducible refine wpPlan_fin ?_) | (with_reducible refine wpPlan_two ?_) | (with_reducible refine wpOpPair ?_ ?_) | ((with_reducible apply wpPre_keep); rfl; intro K' hK'; go_simp; refine hK' _ _ ?_; intro f hf; clear hK' K') | ((with_reducible apply wpPre_drop); rfl; intro K' hK'; go_simp; refine hK' _ _ ?_; intro f; clear hK' K') | (with_reducible refine wpPre_nil ?_) | ((with_reducible apply wpOp_list); rfl) | (with_reducible refine heldPair ?_ ?_) | ((with_reducible refine heldH_no ?_ ?_); rfl) | (with_reducible refine heldH_yes ?_ ?_) | (with_reducible exact heldH_nil) | (unfold YAt; go_simp; done))
    go_loopg [5] xs.length (fun k vi wr => ∃ j : Nat, j + k = xs.length ∧ vi = .int .i64 (j : Int) ∧ xs.take j = ys.take j ∧ ∃ ex dx, wr = more w ex dx)
    case atStart => exact ⟨0, by omega, rfl, rfl, more_of (Below.refl _ _)⟩
    case round =>
      obtain ⟨j, hk, rfl, ht, ex, dx, rfl⟩ := hrel
      have HK := hid hk
      have HT := hid ht
      by_cases hj : j < xs.length
      · have hj2 : j < ys.length := by have := HL.out; omega
        obtain ⟨b1, o1, rfl, _, hl1, x1, x2, x3⟩ := row_tok HA.out j hj
        obtain ⟨b2, o2, rfl, _, hl2, y1, y2, y3⟩ := row_tok HB.out j hj2
        have hj0 : (0 : Int) ≤ j := by omega
        have hjx : (j : Int) < xs.length := by omega
        have hjy : (j : Int) < ys.length := by omega
        have HJ := hid (And.intro hj trivial)
        have HJ2 := hid (And.intro hj2 trivial)
        by_cases he : xs[j] = ys[j]
        · have hq := tok_neq_yes he
          have HE := hid he
          clear hk ht he
          go_wp2_with (first | ((with_reducible refine wp_region_plan (id := 6) (.fin [(false, 0), (false, 1), (false, 2), (false, 3), (false, 4), (false, 5), (false, 6), (false, 7), (false, 8)]) ?_ ?_ ?_ ?_ ?_ ?_); kernel_rfl; kernel_rfl; kernel_rfl; kernel_rfl; (intro c a d v w h; cases d <;> exact h)) | (with_reducible refine wpPlan_eff ?_) | (with_reducible refine wpPlan_fin ?_) | (with_reducible refine wpPlan_two ?_) | (with_reducible refine wpOpPair ?_ ?_) | ((with_reducible apply wpPre_keep); rfl; intro K' hK'; go_simp; refine hK' _ _ ?_; intro f hf; clear hK' K') | ((with_reducible apply wpPre_drop); rfl; intro K' hK'; go_simp; refine hK' _ _ ?_; intro f; clear hK' K') | (with_reducible refine wpPre_nil ?_) | ((with_reducible apply wpOp_list); rfl) | (with_reducible refine heldPair ?_ ?_) | ((with_reducible refine heldH_no ?_ ?_); rfl) | (with_reducible refine heldH_yes ?_ ?_) | (with_reducible exact heldH_nil) | (unfold YAt; go_simp; done))
          go_roundg (xs.length - (j + 1))
          case measure => have := HK.out; have := HJ.out.1; omega
          case rel => exact ⟨j + 1, by have := HJ.out.1; omega, rfl, by rw [List.take_succ_eq_append_getElem HJ.out.1, List.take_succ_eq_append_getElem HJ2.out.1, HT.out, HE.out], more_of (by repeat (first | (with_reducible exact Below.refl _ _) | (with_reducible exact bl_mm) | (with_reducible refine bl_dr ?_) | (with_reducible refine bl_drN ?_ _) | (with_reducible refine bl_al ?_ _) | (with_reducible refine bl_more ?_ _ _)))⟩
        · have hq := tok_neq_no he
          have HE := hid he
          clear hk ht he
          go_wp2_with (first | ((with_reducible refine wp_region_plan (id := 6) (.fin [(false, 0), (false, 1), (false, 2), (false, 3), (false, 4), (false, 5), (false, 6), (false, 7), (false, 8)]) ?_ ?_ ?_ ?_ ?_ ?_); kernel_rfl; kernel_rfl; kernel_rfl; kernel_rfl; (intro c a d v w h; cases d <;> exact h)) | (with_reducible refine wpPlan_eff ?_) | (with_reducible refine wpPlan_fin ?_) | (with_reducible refine wpPlan_two ?_) | (with_reducible refine wpOpPair ?_ ?_) | ((with_reducible apply wpPre_keep); rfl; intro K' hK'; go_simp; refine hK' _ _ ?_; intro f hf; clear hK' K') | ((with_reducible apply wpPre_drop); rfl; intro K' hK'; go_simp; refine hK' _ _ ?_; intro f; clear hK' K') | (with_reducible refine wpPre_nil ?_) | ((with_reducible apply wpOp_list); rfl) | (with_reducible refine heldPair ?_ ?_) | ((with_reducible refine heldH_no ?_ ?_); rfl) | (with_reducible refine heldH_yes ?_ ?_) | (with_reducible exact heldH_nil) | (unfold YAt; go_simp; done))
          go_ret
          exact ⟨by rw [decide_eq_false (fun h => HE.out (by subst h; rfl))]; rfl, (by repeat (first | (with_reducible exact Below.refl _ _) | (with_reducible exact bl_mm) | (with_reducible refine bl_dr ?_) | (with_reducible refine bl_drN ?_ _) | (with_reducible refine bl_al ?_ _) | (with_reducible refine bl_more ?_ _ _)))⟩
      · have hje : j = xs.length := by omega
        subst hje
        clear hk ht hj
        have hnl : ¬ (xs.length : Int) < xs.length := by omega
        go_wp2_with (first | ((with_reducible refine wp_region_plan (id := 6) (.fin [(false, 0), (false, 1), (false, 2), (false, 3), (false, 4), (false, 5), (false, 6), (false, 7), (false, 8)]) ?_ ?_ ?_ ?_ ?_ ?_); kernel_rfl; kernel_rfl; kernel_rfl; kernel_rfl; (intro c a d v w h; cases d <;> exact h)) | (with_reducible refine wpPlan_eff ?_) | (with_reducible refine wpPlan_fin ?_) | (with_reducible refine wpPlan_two ?_) | (with_reducible refine wpOpPair ?_ ?_) | ((with_reducible apply wpPre_keep); rfl; intro K' hK'; go_simp; refine hK' _ _ ?_; intro f hf; clear hK' K') | ((with_reducible apply wpPre_drop); rfl; intro K' hK'; go_simp; refine hK' _ _ ?_; intro f; clear hK' K') | (with_reducible refine wpPre_nil ?_) | ((with_reducible apply wpOp_list); rfl) | (with_reducible refine heldPair ?_ ?_) | ((with_reducible refine heldH_no ?_ ?_); rfl) | (with_reducible refine heldH_yes ?_ ?_) | (with_reducible exact heldH_nil) | (unfold YAt; go_simp; done))
        go_ret
        refine ⟨?_, (by repeat (first | (with_reducible exact Below.refl _ _) | (with_reducible exact bl_mm) | (with_reducible refine bl_dr ?_) | (with_reducible refine bl_drN ?_ _) | (with_reducible refine bl_al ?_ _) | (with_reducible refine bl_more ?_ _ _)))⟩
        have h := HT.out
        rw [List.take_length, HL.out, List.take_length] at h
        rw [decide_eq_true h]
        rfl
  · have hb0 : ((xs.length : Int) != (ys.length : Int)) = true := by simp; omega
    have HL := hid hl
    clear hl
    go_enter Try.func12, Try.ntmps12
    go_wp2_with (first | ((with_reducible refine wp_region_plan (id := 6) (.fin [(false, 0), (false, 1), (false, 2), (false, 3), (false, 4), (false, 5), (false, 6), (false, 7), (false, 8)]) ?_ ?_ ?_ ?_ ?_ ?_); kernel_rfl; kernel_rfl; kernel_rfl; kernel_rfl; (intro c a d v w h; cases d <;> exact h)) | (with_reducible refine wpPlan_eff ?_) | (with_reducible refine wpPlan_fin ?_) | (with_reducible refine wpPlan_two ?_) | (with_reducible refine wpOpPair ?_ ?_) | ((with_reducible apply wpPre_keep); rfl; intro K' hK'; go_simp; refine hK' _ _ ?_; intro f hf; clear hK' K') | ((with_reducible apply wpPre_drop); rfl; intro K' hK'; go_simp; refine hK' _ _ ?_; intro f; clear hK' K') | (with_reducible refine wpPre_nil ?_) | ((with_reducible apply wpOp_list); rfl) | (with_reducible refine heldPair ?_ ?_) | ((with_reducible refine heldH_no ?_ ?_); rfl) | (with_reducible refine heldH_yes ?_ ?_) | (with_reducible exact heldH_nil) | (unfold YAt; go_simp; done))
    go_ret
    exact ⟨by rw [decide_eq_false (fun h => HL.out (by rw [h]))]; rfl, (by repeat (first | (with_reducible exact Below.refl _ _) | (with_reducible exact bl_mm) | (with_reducible refine bl_dr ?_) | (with_reducible refine bl_drN ?_ _) | (with_reducible refine bl_al ?_ _) | (with_reducible refine bl_more ?_ _ _)))⟩
def txt (t : Tok) : Int × ByteArray := (t.kind, t.text)
set_option maxHeartbeats 4000000 in
theorem texts_any {w : World} {va vb : Value} {xs ys : List Tok} {K : Nat → Prop} (ha : tokE.Row K w va xs) (hb : tokE.Row K w vb ys) (hlen : xs.length ≤ 100000) : Calls Try.prog 20 #[va, vb] w fun e w' => e = .returned (.bool (decide (xs.map txt = ys.map txt))) ∧ Below w.heap.size w w' := by
  obtain ⟨A, ca, rfl, _, _⟩ := ha.form
  obtain ⟨B, cb, rfl, _, _⟩ := hb.form
  have HA := hid ha
  have HB := hid hb
  clear ha hb
  by_cases hl : xs.length = ys.length
  · have hb0 : ((xs.length : Int) != (ys.length : Int)) = false := by simp [hl]
    have HL := hid hl
    have hlx : (xs.length : Int) ≤ 100000 := by omega
    clear hl hlen
    go_enter Try.func20, Try.ntmps20
    go_wp2_with (first | ((with_reducible refine wp_region_plan (id := 6) (.fin [(false, 0), (false, 1), (false, 2), (false, 3), (false, 4), (false, 5), (false, 6), (false, 7), (false, 8), (false, 9), (false, 10), (false, 11), (false, 12), (false, 13), (false, 14), (false, 15), (false, 16), (false, 17), (false, 18), (false, 19), (false, 20), (false, 21), (false, 22), (false, 23)]) ?_ ?_ ?_ ?_ ?_ ?_); kernel_rfl; kernel_rfl; kernel_rfl; kernel_rfl; (intro c a d v w h; cases d <;> exact h)) | (with_reducible refine wpPlan_eff ?_) | (with_reducible refine wpPlan_fin ?_) | (with_reducible refine wpPlan_two ?_) | (with_reducible refine wpOpPair ?_ ?_) | ((with_reducible apply wpPre_keep); rfl; intro K' hK'; go_simp; refine hK' _ _ ?_; intro f hf; clear hK' K') | ((with_reducible apply wpPre_drop); rfl; intro K' hK'; go_simp; refine hK' _ _ ?_; intro f; clear hK' K') | (with_reducible refine wpPre_nil ?_) | ((with_reducible apply wpOp_list); rfl) | (with_reducible refine heldPair ?_ ?_) | ((with_reducible refine heldH_no ?_ ?_); rfl) | (with_reducible refine heldH_yes ?_ ?_) | (with_reducible exact heldH_nil) | (unfold YAt; go_simp; done))
    go_loopg [5] xs.length (fun k vi wr => ∃ j : Nat, j + k = xs.length ∧ vi = .int .i64 (j : Int) ∧ (xs.take j).map txt = (ys.take j).map txt ∧ ∃ ex dx, wr = more w ex dx)
    case atStart => exact ⟨0, by omega, rfl, rfl, more_of (Below.refl _ _)⟩
    case round =>
      obtain ⟨j, hk, rfl, ht, ex, dx, rfl⟩ := hrel
      have HK := hid hk
      have HT := hid ht
      by_cases hj : j < xs.length
      · have hj2 : j < ys.length := by have := HL.out; omega
        obtain ⟨b1, o1, rfl, _, hl1, x1, x2, x3⟩ := row_tok HA.out j hj
        obtain ⟨b2, o2, rfl, _, hl2, y1, y2, y3⟩ := row_tok HB.out j hj2
        have hj0 : (0 : Int) ≤ j := by omega
        have hjx : (j : Int) < xs.length := by omega
        have hjy : (j : Int) < ys.length := by omega
        have HJ := hid (And.intro hj trivial)
        have HJ2 := hid (And.intro hj2 trivial)
        by_cases hek : xs[j].kind = ys[j].kind
        · have hq1 : (xs[j].kind != ys[j].kind) = false := by simp [hek]
          have HEK := hid hek
          by_cases het : xs[j].text = ys[j].text
          · have hq2 := eqs_t het
            have HET := hid het
            clear hk ht hek het
            go_wp2_with (first | ((with_reducible refine wp_region_plan (id := 6) (.fin [(false, 0), (false, 1), (false, 2), (false, 3), (false, 4), (false, 5), (false, 6), (false, 7), (false, 8), (false, 9), (false, 10), (false, 11), (false, 12), (false, 13), (false, 14), (false, 15), (false, 16), (false, 17), (false, 18), (false, 19), (false, 20), (false, 21), (false, 22), (false, 23)]) ?_ ?_ ?_ ?_ ?_ ?_); kernel_rfl; kernel_rfl; kernel_rfl; kernel_rfl; (intro c a d v w h; cases d <;> exact h)) | (with_reducible refine wpPlan_eff ?_) | (with_reducible refine wpPlan_fin ?_) | (with_reducible refine wpPlan_two ?_) | (with_reducible refine wpOpPair ?_ ?_) | ((with_reducible apply wpPre_keep); rfl; intro K' hK'; go_simp; refine hK' _ _ ?_; intro f hf; clear hK' K') | ((with_reducible apply wpPre_drop); rfl; intro K' hK'; go_simp; refine hK' _ _ ?_; intro f; clear hK' K') | (with_reducible refine wpPre_nil ?_) | ((with_reducible apply wpOp_list); rfl) | (with_reducible refine heldPair ?_ ?_) | ((with_reducible refine heldH_no ?_ ?_); rfl) | (with_reducible refine heldH_yes ?_ ?_) | (with_reducible exact heldH_nil) | (unfold YAt; go_simp; done))
            go_roundg (xs.length - (j + 1))
            case measure => have := HK.out; have := HJ.out.1; omega
            case rel => exact ⟨j + 1, by have := HJ.out.1; omega, rfl, by rw [List.take_succ_eq_append_getElem HJ.out.1, List.take_succ_eq_append_getElem HJ2.out.1, List.map_append, List.map_append, HT.out]; simp only [List.map_cons, List.map_nil, txt, HEK.out, HET.out], more_of (by repeat (first | (with_reducible exact Below.refl _ _) | (with_reducible exact bl_mm) | (with_reducible refine bl_dr ?_) | (with_reducible refine bl_drN ?_ _) | (with_reducible refine bl_al ?_ _) | (with_reducible refine bl_more ?_ _ _)))⟩
          · have hq2 := eqs_f het
            have HET := hid het
            clear hk ht hek het
            go_wp2_with (first | ((with_reducible refine wp_region_plan (id := 6) (.fin [(false, 0), (false, 1), (false, 2), (false, 3), (false, 4), (false, 5), (false, 6), (false, 7), (false, 8), (false, 9), (false, 10), (false, 11), (false, 12), (false, 13), (false, 14), (false, 15), (false, 16), (false, 17), (false, 18), (false, 19), (false, 20), (false, 21), (false, 22), (false, 23)]) ?_ ?_ ?_ ?_ ?_ ?_); kernel_rfl; kernel_rfl; kernel_rfl; kernel_rfl; (intro c a d v w h; cases d <;> exact h)) | (with_reducible refine wpPlan_eff ?_) | (with_reducible refine wpPlan_fin ?_) | (with_reducible refine wpPlan_two ?_) | (with_reducible refine wpOpPair ?_ ?_) | ((with_reducible apply wpPre_keep); rfl; intro K' hK'; go_simp; refine hK' _ _ ?_; intro f hf; clear hK' K') | ((with_reducible apply wpPre_drop); rfl; intro K' hK'; go_simp; refine hK' _ _ ?_; intro f; clear hK' K') | (with_reducible refine wpPre_nil ?_) | ((with_reducible apply wpOp_list); rfl) | (with_reducible refine heldPair ?_ ?_) | ((with_reducible refine heldH_no ?_ ?_); rfl) | (with_reducible refine heldH_yes ?_ ?_) | (with_reducible exact heldH_nil) | (unfold YAt; go_simp; done))
            go_ret
            exact ⟨by rw [decide_eq_false (fun h => HET.out (by have := congrArg (fun l => l[j]?) h; simp [HJ.out.1, HJ2.out.1, txt] at this; exact this.2))]; rfl, (by repeat (first | (with_reducible exact Below.refl _ _) | (with_reducible exact bl_mm) | (with_reducible refine bl_dr ?_) | (with_reducible refine bl_drN ?_ _) | (with_reducible refine bl_al ?_ _) | (with_reducible refine bl_more ?_ _ _)))⟩
        · have hq1 : (xs[j].kind != ys[j].kind) = true := by simpa using hek
          have HEK := hid hek
          clear hk ht hek
          go_wp2_with (first | ((with_reducible refine wp_region_plan (id := 6) (.fin [(false, 0), (false, 1), (false, 2), (false, 3), (false, 4), (false, 5), (false, 6), (false, 7), (false, 8), (false, 9), (false, 10), (false, 11), (false, 12), (false, 13), (false, 14), (false, 15), (false, 16), (false, 17), (false, 18), (false, 19), (false, 20), (false, 21), (false, 22), (false, 23)]) ?_ ?_ ?_ ?_ ?_ ?_); kernel_rfl; kernel_rfl; kernel_rfl; kernel_rfl; (intro c a d v w h; cases d <;> exact h)) | (with_reducible refine wpPlan_eff ?_) | (with_reducible refine wpPlan_fin ?_) | (with_reducible refine wpPlan_two ?_) | (with_reducible refine wpOpPair ?_ ?_) | ((with_reducible apply wpPre_keep); rfl; intro K' hK'; go_simp; refine hK' _ _ ?_; intro f hf; clear hK' K') | ((with_reducible apply wpPre_drop); rfl; intro K' hK'; go_simp; refine hK' _ _ ?_; intro f; clear hK' K') | (with_reducible refine wpPre_nil ?_) | ((with_reducible apply wpOp_list); rfl) | (with_reducible refine heldPair ?_ ?_) | ((with_reducible refine heldH_no ?_ ?_); rfl) | (with_reducible refine heldH_yes ?_ ?_) | (with_reducible exact heldH_nil) | (unfold YAt; go_simp; done))
          go_ret
          exact ⟨by rw [decide_eq_false (fun h => HEK.out (by have := congrArg (fun l => l[j]?) h; simp [HJ.out.1, HJ2.out.1, txt] at this; exact this.1))]; rfl, (by repeat (first | (with_reducible exact Below.refl _ _) | (with_reducible exact bl_mm) | (with_reducible refine bl_dr ?_) | (with_reducible refine bl_drN ?_ _) | (with_reducible refine bl_al ?_ _) | (with_reducible refine bl_more ?_ _ _)))⟩
      · have hje : j = xs.length := by omega
        subst hje
        clear hk ht hj
        have hnl : ¬ (xs.length : Int) < xs.length := by omega
        go_wp2_with (first | ((with_reducible refine wp_region_plan (id := 6) (.fin [(false, 0), (false, 1), (false, 2), (false, 3), (false, 4), (false, 5), (false, 6), (false, 7), (false, 8), (false, 9), (false, 10), (false, 11), (false, 12), (false, 13), (false, 14), (false, 15), (false, 16), (false, 17), (false, 18), (false, 19), (false, 20), (false, 21), (false, 22), (false, 23)]) ?_ ?_ ?_ ?_ ?_ ?_); kernel_rfl; kernel_rfl; kernel_rfl; kernel_rfl; (intro c a d v w h; cases d <;> exact h)) | (with_reducible refine wpPlan_eff ?_) | (with_reducible refine wpPlan_fin ?_) | (with_reducible refine wpPlan_two ?_) | (with_reducible refine wpOpPair ?_ ?_) | ((with_reducible apply wpPre_keep); rfl; intro K' hK'; go_simp; refine hK' _ _ ?_; intro f hf; clear hK' K') | ((with_reducible apply wpPre_drop); rfl; intro K' hK'; go_simp; refine hK' _ _ ?_; intro f; clear hK' K') | (with_reducible refine wpPre_nil ?_) | ((with_reducible apply wpOp_list); rfl) | (with_reducible refine heldPair ?_ ?_) | ((with_reducible refine heldH_no ?_ ?_); rfl) | (with_reducible refine heldH_yes ?_ ?_) | (with_reducible exact heldH_nil) | (unfold YAt; go_simp; done))
        go_ret
        refine ⟨?_, (by repeat (first | (with_reducible exact Below.refl _ _) | (with_reducible exact bl_mm) | (with_reducible refine bl_dr ?_) | (with_reducible refine bl_drN ?_ _) | (with_reducible refine bl_al ?_ _) | (with_reducible refine bl_more ?_ _ _)))⟩
        have h := HT.out
        rw [List.take_length, HL.out, List.take_length] at h
        rw [decide_eq_true h]
        rfl
  · have hb0 : ((xs.length : Int) != (ys.length : Int)) = true := by simp; omega
    have HL := hid hl
    clear hl
    go_enter Try.func20, Try.ntmps20
    go_wp2_with (first | ((with_reducible refine wp_region_plan (id := 6) (.fin [(false, 0), (false, 1), (false, 2), (false, 3), (false, 4), (false, 5), (false, 6), (false, 7), (false, 8), (false, 9), (false, 10), (false, 11), (false, 12), (false, 13), (false, 14), (false, 15), (false, 16), (false, 17), (false, 18), (false, 19), (false, 20), (false, 21), (false, 22), (false, 23)]) ?_ ?_ ?_ ?_ ?_ ?_); kernel_rfl; kernel_rfl; kernel_rfl; kernel_rfl; (intro c a d v w h; cases d <;> exact h)) | (with_reducible refine wpPlan_eff ?_) | (with_reducible refine wpPlan_fin ?_) | (with_reducible refine wpPlan_two ?_) | (with_reducible refine wpOpPair ?_ ?_) | ((with_reducible apply wpPre_keep); rfl; intro K' hK'; go_simp; refine hK' _ _ ?_; intro f hf; clear hK' K') | ((with_reducible apply wpPre_drop); rfl; intro K' hK'; go_simp; refine hK' _ _ ?_; intro f; clear hK' K') | (with_reducible refine wpPre_nil ?_) | ((with_reducible apply wpOp_list); rfl) | (with_reducible refine heldPair ?_ ?_) | ((with_reducible refine heldH_no ?_ ?_); rfl) | (with_reducible refine heldH_yes ?_ ?_) | (with_reducible exact heldH_nil) | (unfold YAt; go_simp; done))
    go_ret
    exact ⟨by rw [decide_eq_false (fun h => HL.out (by have := congrArg List.length h; simpa using this))]; rfl, (by repeat (first | (with_reducible exact Below.refl _ _) | (with_reducible exact bl_mm) | (with_reducible refine bl_dr ?_) | (with_reducible refine bl_drN ?_ _) | (with_reducible refine bl_al ?_ _) | (with_reducible refine bl_more ?_ _ _)))⟩
end Go.Proofs.Ythekoefcienipaa
