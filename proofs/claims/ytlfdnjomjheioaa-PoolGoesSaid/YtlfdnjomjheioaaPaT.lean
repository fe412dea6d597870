/- The document's pool: Drop, New. -/
import Derived.Test.YtlfdnjomjheioaaPaS
namespace Go.Proofs.Ytlfdnjomjheioaa
open Go.RowKit

theorem cntN_b {s : List Wk} {a c : Int} {b : Bool} (hb : ∀ i (hi : i < s.length), s[i].l.length ≤ 128) : ∀ j, 0 ≤ cntN (fk a b c) s j ∧ cntN (fk a b c) s j ≤ 128 * (j : Int)
  | 0 => ⟨Int.le_refl _, Int.le_refl _⟩
  | j + 1 => by
    obtain ⟨i1, i2⟩ := cntN_b hb j (a := a) (b := b) (c := c)
    cases hk : s[j]? with
    | some k =>
      rw [cntN_next hk]
      obtain ⟨hl, rfl⟩ := List.getElem?_eq_some_iff.1 hk
      have h1 := hb j hl
      have h2 : (fk a b c s[j]).l.length ≤ s[j].l.length := List.length_filter_le _ _
      omega
    | none =>
      have e : cntN (fk a b c) s (j + 1) = cntN (fk a b c) s j + 0 := by
        show cntN (fk a b c) s j + (match s[j]? with | some k => (k.l.length : Int) - (fk a b c k).l.length | none => 0) = _
        rw [hk]
      rw [e]
      omega
theorem RT.trans {N : Nat} {w w1 w2 : World} {K : Nat → Prop} {r b1 b2 b3 : Nat} {s1 s2 : List Wk} (h : RT N w K r b1 b2 b3 s1 w1) (k : RT N w1 (fun b => K b ∨ w.heap.size ≤ b) r b1 b2 b3 s2 w2) : RT N w K r b1 b2 b3 s2 w2 := by
  have hz := h.2.size
  have he := h.1.nK
  refine ⟨k.1.mono (fun b hb _ => hb.elim id (fun h => .inr (by omega))) (fun b hb e => ?_), h.2.trans k.2 (fun x _ e => e)⟩
  rcases hb with rfl | rfl | rfl | rfl
  · exact he.1 e
  · exact he.2.1 e
  · exact he.2.2.1 e
  · exact he.2.2.2 e
set_option maxHeartbeats 1000000 in
theorem rdrop_any {N : Nat} {w : World} {K : Nat → Prop} {r : Nat} {s : List Wk} {b1 b2 b3 : Nat} {a c : Int} {b : Bool} (h : Rp N w K r s b1 b2 b3) (hb : ∀ i (hi : i < s.length), s[i].l.length ≤ 128) :
    Calls Try.prog 35 #[.pointer (some ⟨r, 0, none⟩), keyV a b c] w (RTurned N w K r b1 b2 b3 (s.map (fk a b c)) (cntN (fk a b c) s s.length)) := by
  have n2 := h.n2
  have hl := h.lt
  have HP := hid h
  have HB := hid hb
  have HL := hid (show ¬ Rb r b1 b2 b3 w.heap.size by rintro (e | e | e | e) <;> omega)
  have HS := hid (show ∀ j, 0 ≤ cntN (fk a b c) s j ∧ cntN (fk a b c) s j ≤ 128 * (j : Int) from cntN_b hb)
  clear h hb
  go_enter Try.func35, Try.ntmps35
  go_wp2_with (first | ((with_reducible refine wp_region_plan (id := 5) (.eff [(false, 0), (false, 1), (false, 2), (false, 3), (false, 4), (false, 5), (false, 6), (false, 7)] 8 [] (.fin [(false, 9), (false, 10), (false, 11), (false, 12), (false, 13)])) ?_ ?_ ?_ ?_ ?_ ?_); kernel_rfl; kernel_rfl; kernel_rfl; kernel_rfl; (intro c a d v w h; cases d <;> exact h)) | (with_reducible refine wpPlan_eff ?_) | (with_reducible refine wpPlan_fin ?_) | (with_reducible refine wpPlan_two ?_) | (with_reducible refine wpOpPair ?_ ?_) | ((with_reducible apply wpPre_keep); rfl; intro K' hK'; go_simp; refine hK' _ _ ?_; intro f hf; clear hK' K') | ((with_reducible apply wpPre_drop); rfl; intro K' hK'; go_simp; refine hK' _ _ ?_; intro f; clear hK' K') | (with_reducible refine wpPre_nil ?_) | ((with_reducible apply wpOp_list); rfl) | (with_reducible refine heldPair ?_ ?_) | ((with_reducible refine heldH_no ?_ ?_); rfl) | (with_reducible refine heldH_yes ?_ ?_) | (with_reducible exact heldH_nil) | (unfold YAt; go_simp; done))
  go_loopg [5, 6] s.length (fun k sm i wr => ∃ (j : Nat), j + k = s.length ∧ i = .int .i64 j ∧ sm = .int .i64 (cntN (fk a b c) s j) ∧ RT N w K r b1 b2 b3 (dropN (fk a b c) s j) wr ∧ KeyAt wr w.heap.size a b c)
  case atStart =>
    exact ⟨0, by omega, rfl, rfl, rt_same HP.out (by repeat (first | (with_reducible exact Below.refl _ _) | (with_reducible exact bl_mm) | (with_reducible refine bl_dr ?_) | (with_reducible refine bl_drN ?_ _) | (with_reducible refine bl_al ?_ _) | (with_reducible refine bl_more ?_ _ _))), ⟨by simp, by go_simp, by go_simp, by go_simp⟩⟩
  case round =>
    obtain ⟨j, hj, rfl, rfl, hrt, hke⟩ := hrel
    have HRT := hid hrt
    have HJ := hid hj
    have hp := hrt.1
    have HPJ := hid hp
    have hlen : (dropN (fk a b c) s j).length = s.length := dropN_len _ _ _
    obtain ⟨c1, _, _⟩ := hp.cells
    rw [hlen] at c1
    obtain ⟨l1, l2, _, _⟩ := hp.lt
    by_cases hlt : j < s.length
    · obtain ⟨k, hk⟩ : ∃ k, s[j]? = some k := ⟨_, List.getElem?_eq_getElem hlt⟩
      have hlt' : j < (dropN (fk a b c) s j).length := by omega
      have hkk : (dropN (fk a b c) s j)[j]? = some k := by rw [dropN_get, if_neg (by omega)]; exact hk
      have hk2 : (dropN (fk a b c) s j)[j] = k := by rw [List.getElem?_eq_getElem hlt'] at hkk; exact Option.some.inj hkk
      obtain ⟨A, cc, hr, e1⟩ := hp.row j hlt'
      rw [hk2] at hr e1
      have f1 := hp.rows.frz j
      have HLE := hid (show k.l.length ≤ 128 by have := HB.out j hlt; rw [List.getElem?_eq_getElem hlt] at hk; cases hk; exact this)
      have HKK := hid hkk
      have HLT := hid (And.intro hlt trivial)
      have HR := hid hr
      have HKE := hid hke
      obtain ⟨q3, q4, q5, q6⟩ := hke
      have hn := cntN_next (f := fk a b c) hk
      have hx1 := HS.out j
      have hx2 := HS.out (j + 1)
      have hfl : (fk a b c k).l.length = (k.l.filter (fun x => !isKey a b c x)).length := rfl
      rw [hfl] at hn
      have HND := hid (dropN_next (f := fk a b c) hk)
      obtain ⟨c0, hc0⟩ : ∃ c0, cntN (fk a b c) s j = c0 := ⟨_, rfl⟩
      obtain ⟨cn, hc1⟩ : ∃ c1, cntN (fk a b c) s (j + 1) = c1 := ⟨_, rfl⟩
      rw [hc0, hc1] at hn
      rw [hc0] at hx1 ⊢
      rw [hc1] at hx2
      have HC1 := hid hc1
      have y1 : IntKind.i64.wrap (c0 + ((k.l.length : Int) - ((k.l.filter (fun x => !isKey a b c x)).length : Int))) = cn := by rw [IntWalk.i64_in _ (by omega)]; exact hn.symm
      have i1 : (j : Int) < (s.length : Int) := by omega
      have i3 : (0 : Int) ≤ (j : Int) := by omega
      have w1' : IntKind.i64.wrap ((j : Int) + 1) = ((j + 1 : Nat) : Int) := by rw [IntWalk.i64_in _ (by omega)]; rfl
      clear hp hrt hj hk hn hx1 hx2 hfl hc0 hc1 hlt' hr hkk hk2 hlen hl n2
      go_wp2_with (first | ((with_reducible refine wp_region_plan (id := 5) (.eff [(false, 0), (false, 1), (false, 2), (false, 3), (false, 4), (false, 5), (false, 6), (false, 7)] 8 [] (.fin [(false, 9), (false, 10), (false, 11), (false, 12), (false, 13)])) ?_ ?_ ?_ ?_ ?_ ?_); kernel_rfl; kernel_rfl; kernel_rfl; kernel_rfl; (intro c a d v w h; cases d <;> exact h)) | (with_reducible refine wpPlan_eff ?_) | (with_reducible refine wpPlan_fin ?_) | (with_reducible refine wpPlan_two ?_) | (with_reducible refine wpOpPair ?_ ?_) | ((with_reducible apply wpPre_keep); rfl; intro K' hK'; go_simp; refine hK' _ _ ?_; intro f hf; clear hK' K') | ((with_reducible apply wpPre_drop); rfl; intro K' hK'; go_simp; refine hK' _ _ ?_; intro f; clear hK' K') | (with_reducible refine wpPre_nil ?_) | ((with_reducible apply wpOp_list); rfl) | (with_reducible refine heldPair ?_ ?_) | ((with_reducible refine heldH_no ?_ ?_); rfl) | (with_reducible refine heldH_yes ?_ ?_) | (with_reducible exact heldH_nil) | (unfold YAt; go_simp; done) | (go_at_call 52; refine (ref_drop (HR.out.below (by repeat (first | (with_reducible exact Below.refl _ _) | (with_reducible exact bl_mm) | (with_reducible refine bl_dr ?_) | (with_reducible refine bl_drN ?_ _) | (with_reducible refine bl_al ?_ _) | (with_reducible refine bl_more ?_ _ _)))) (by have := HLE.out; omega)).mono ?_; rintro e w2 ⟨rv1, rfl, hr2, hb2⟩; obtain ⟨A2, cc2, rfl, _, _⟩ := hr2.form; obtain ⟨ex2, dx2, rfl⟩ := more_of hb2; have HR2 := hid hr2; clear hr2 hb2))
      all_goals
        have hlt := HLT.out.1
        have hlt' : j < (dropN (fk a b c) s j).length := by rw [dropN_len]; exact hlt
        have hk2 : (dropN (fk a b c) s j)[j] = k := by have := HKK.out; rw [List.getElem?_eq_getElem hlt'] at this; exact Option.some.inj this
        have hT := rt_row (X := more wr.drew ex2 dx2) (Wf := more (wr.setCell ⟨b1, j, none⟩ (.slice A2 (k.l.filter (fun x => !isKey a b c x)).length cc2)) ex2 dx2) HPJ.out j hlt' (by repeat (first | (with_reducible exact Below.refl _ _) | (with_reducible exact bl_mm) | (with_reducible refine bl_dr ?_) | (with_reducible refine bl_drN ?_ _) | (with_reducible refine bl_al ?_ _) | (with_reducible refine bl_more ?_ _ _))) HR2.out (by go_simp)
        rw [hk2, show (⟨k.l.filter (fun x => !isKey a b c x), k.h⟩ : Wk) = fk a b c k from rfl, ← HND.out] at hT
        have HT := hid hT
        have hKE := HKE.out.ext hT.2 (HL.out : _)
        have HKN := hid hKE
        clear hT hKE hk2 hlt'
        go_roundg (s.length - (j + 1))
        case measure => have := HJ.out; omega
        case rel => exact ⟨j + 1, by have := HJ.out; omega, rfl, by rw [HC1.out], HRT.out.trans HT.out, HKN.out⟩
    · obtain rfl : j = s.length := by omega
      have i1 : ¬ (s.length : Int) < s.length := by omega
      clear hj hp hke
      go_wp2_with (first | ((with_reducible refine wp_region_plan (id := 5) (.eff [(false, 0), (false, 1), (false, 2), (false, 3), (false, 4), (false, 5), (false, 6), (false, 7)] 8 [] (.fin [(false, 9), (false, 10), (false, 11), (false, 12), (false, 13)])) ?_ ?_ ?_ ?_ ?_ ?_); kernel_rfl; kernel_rfl; kernel_rfl; kernel_rfl; (intro c a d v w h; cases d <;> exact h)) | (with_reducible refine wpPlan_eff ?_) | (with_reducible refine wpPlan_fin ?_) | (with_reducible refine wpPlan_two ?_) | (with_reducible refine wpOpPair ?_ ?_) | ((with_reducible apply wpPre_keep); rfl; intro K' hK'; go_simp; refine hK' _ _ ?_; intro f hf; clear hK' K') | ((with_reducible apply wpPre_drop); rfl; intro K' hK'; go_simp; refine hK' _ _ ?_; intro f; clear hK' K') | (with_reducible refine wpPre_nil ?_) | ((with_reducible apply wpOp_list); rfl) | (with_reducible refine heldPair ?_ ?_) | ((with_reducible refine heldH_no ?_ ?_); rfl) | (with_reducible refine heldH_yes ?_ ?_) | (with_reducible exact heldH_nil) | (unfold YAt; go_simp; done))
      go_ret
      have h1 := HRT.out
      rw [dropN_all] at h1
      exact ⟨rfl, h1.trans (rt_same h1.1 (by repeat (first | (with_reducible exact Below.refl _ _) | (with_reducible exact bl_mm) | (with_reducible refine bl_dr ?_) | (with_reducible refine bl_drN ?_ _) | (with_reducible refine bl_al ?_ _) | (with_reducible refine bl_more ?_ _ _))))⟩
end Go.Proofs.Ytlfdnjomjheioaa
