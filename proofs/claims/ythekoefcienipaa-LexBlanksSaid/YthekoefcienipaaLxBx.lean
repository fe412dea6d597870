/- LexBlanks, walked. -/
import Derived.Test.YthekoefcienipaaLxBl
namespace Go.Proofs.Ythekoefcienipaa
open Go.RowKit

abbrev byteE : Enc Int := Enc.int .u8
def kB (bs : List Int) (i : Nat) : Nat := match bs[i]? with | some b => (b % 6).toNat | none => 0
theorem row_byte {K : Nat → Prop} {w : World} {A : Option Addr} {n c : Nat} {xs : List Int} (h : byteE.Row K w (.slice A n c) xs) (i : Nat) (hi : i < xs.length) : ∃ b off, A = some ⟨b, off, none⟩ ∧ K b ∧ b < w.heap.size ∧ w.cell? ⟨b, off + i, none⟩ = some (.int .u8 (xs[i]'hi)) := by
  obtain ⟨b, off, cs, e, hk, hl, h1, h2⟩ := h.get i hi
  have h1 : cs = [.int .u8 (xs[i]'hi)] := h1
  have := h2 0 (.int .u8 (xs[i]'hi)) (by rw [h1]; rfl)
  rw [show byteE.sz = 1 from rfl, Nat.mul_one, Nat.add_zero] at this
  exact ⟨b, off, e, hk, hl, this⟩
set_option maxRecDepth 4000 in
set_option maxHeartbeats 4000000 in
theorem blanks_any {w : World} {v v' : Value} {xs : List ByteArray} {bs : List Int} {K : Nat → Prop} (h : Enc.str.Row K w v xs) (h' : byteE.Row K w v' bs) (hbs : ∀ b ∈ bs, 0 ≤ b ∧ b < 256) : Calls Try.prog 6 #[v, v'] w fun e w' => e = .returned (.bool true) ∧ Below w.heap.size w w' := by
  obtain ⟨A, ca, rfl, _, _⟩ := h.form
  obtain ⟨B, cb, rfl, _, _⟩ := h'.form
  have Mlives := hid trivial
  by_cases hl : (300 : Int) < xs.length
  · go_enter Try.func6, Try.ntmps6
    go_wp2_with (first | ((with_reducible refine wp_region_plan (id := 13) (.eff [(true, 0), (true, 2), (true, 6), (true, 7), (true, 8), (true, 9)] 1 [0, 2, 6, 7, 8, 9] (.fin [(false, 3), (false, 4), (false, 5), (false, 10), (false, 11)])) ?_ ?_ ?_ ?_ ?_ ?_); kernel_rfl; kernel_rfl; kernel_rfl; kernel_rfl; (intro c a d v w h; cases d <;> exact h)) | (with_reducible refine wpPlan_eff ?_) | (with_reducible refine wpPlan_fin ?_) | (with_reducible refine wpPlan_two ?_) | (with_reducible refine wpOpPair ?_ ?_) | ((with_reducible apply wpPre_keep); rfl; intro K' hK'; go_simp; refine hK' _ _ ?_; intro f hf; clear hK' K') | ((with_reducible apply wpPre_drop); rfl; intro K' hK'; go_simp; refine hK' _ _ ?_; intro f; clear hK' K') | (with_reducible refine wpPre_nil ?_) | ((with_reducible apply wpOp_list); rfl) | (with_reducible refine heldPair ?_ ?_) | ((with_reducible refine heldH_no ?_ ?_); rfl) | (with_reducible refine heldH_yes ?_ ?_) | (with_reducible exact heldH_nil) | (unfold YAt; go_simp; done) | (go_at_call 9; clear Mlives; refine lives_any.mono ?_; rintro e w5 ⟨rfl, hb5⟩; obtain ⟨ey5, dx5, rfl⟩ := more_of hb5; clear hb5))
    go_ret
    exact ⟨rfl, (by repeat (first | (with_reducible exact Below.refl _ _) | (with_reducible exact bl_mm) | (with_reducible refine bl_dr ?_) | (with_reducible refine bl_drN ?_ _) | (with_reducible refine bl_al ?_ _) | (with_reducible refine bl_more ?_ _ _)))⟩
  · have HR := hid h
    have HRB := hid h'
    have HBS := hid hbs
    have HL : Hid (xs.length ≤ 100000) := hid (by omega)
    have Mtexts := hid trivial
    clear h h' hbs
    cases hok : xs.all okT with
    | false =>
      have HOK := hid hok
      clear hok
      go_enter Try.func6, Try.ntmps6
      go_wp2_with (first | ((with_reducible refine wp_region_plan (id := 13) (.eff [(true, 0), (true, 2), (true, 6), (true, 7), (true, 8), (true, 9)] 1 [0, 2, 6, 7, 8, 9] (.fin [(false, 3), (false, 4), (false, 5), (false, 10), (false, 11)])) ?_ ?_ ?_ ?_ ?_ ?_); kernel_rfl; kernel_rfl; kernel_rfl; kernel_rfl; (intro c a d v w h; cases d <;> exact h)) | (with_reducible refine wpPlan_eff ?_) | (with_reducible refine wpPlan_fin ?_) | (with_reducible refine wpPlan_two ?_) | (with_reducible refine wpOpPair ?_ ?_) | ((with_reducible apply wpPre_keep); rfl; intro K' hK'; go_simp; refine hK' _ _ ?_; intro f hf; clear hK' K') | ((with_reducible apply wpPre_drop); rfl; intro K' hK'; go_simp; refine hK' _ _ ?_; intro f; clear hK' K') | (with_reducible refine wpPre_nil ?_) | ((with_reducible apply wpOp_list); rfl) | (with_reducible refine heldPair ?_ ?_) | ((with_reducible refine heldH_no ?_ ?_); rfl) | (with_reducible refine heldH_yes ?_ ?_) | (with_reducible exact heldH_nil) | (unfold YAt; go_simp; done) | (go_at_call 19; clear Mtexts; refine (texts_walk HR.out HL.out).mono ?_; rintro e w1 h1; have HB1 := hid h1.2.2; obtain rfl := h1.2.1 HOK.out; clear h1))
      go_wp2_with (first | ((with_reducible refine wp_region_plan (id := 13) (.eff [(true, 0), (true, 2), (true, 6), (true, 7), (true, 8), (true, 9)] 1 [0, 2, 6, 7, 8, 9] (.fin [(false, 3), (false, 4), (false, 5), (false, 10), (false, 11)])) ?_ ?_ ?_ ?_ ?_ ?_); kernel_rfl; kernel_rfl; kernel_rfl; kernel_rfl; (intro c a d v w h; cases d <;> exact h)) | (with_reducible refine wpPlan_eff ?_) | (with_reducible refine wpPlan_fin ?_) | (with_reducible refine wpPlan_two ?_) | (with_reducible refine wpOpPair ?_ ?_) | ((with_reducible apply wpPre_keep); rfl; intro K' hK'; go_simp; refine hK' _ _ ?_; intro f hf; clear hK' K') | ((with_reducible apply wpPre_drop); rfl; intro K' hK'; go_simp; refine hK' _ _ ?_; intro f; clear hK' K') | (with_reducible refine wpPre_nil ?_) | ((with_reducible apply wpOp_list); rfl) | (with_reducible refine heldPair ?_ ?_) | ((with_reducible refine heldH_no ?_ ?_); rfl) | (with_reducible refine heldH_yes ?_ ?_) | (with_reducible exact heldH_nil) | (unfold YAt; go_simp; done) | (go_at_call 9; clear Mlives; refine lives_any.mono ?_; rintro e w5 ⟨rfl, hb5⟩; obtain ⟨ey5, dx5, rfl⟩ := more_of hb5; clear hb5))
      go_ret
      exact ⟨rfl, HB1.out.trans ((show Below w1.heap.size w1 _ from (by repeat (first | (with_reducible exact Below.refl _ _) | (with_reducible exact bl_mm) | (with_reducible refine bl_dr ?_) | (with_reducible refine bl_drN ?_ _) | (with_reducible refine bl_al ?_ _) | (with_reducible refine bl_more ?_ _ _)))).mono HB1.out.size)⟩
    | true =>
      have HOK := hid hok
      have HL1 : Hid ((xs.map tokT).length ≤ 100000) := hid (by rw [List.length_map]; omega)
      have HLM : Hid ((xs.map tokT).length = xs.length) := hid (List.length_map ..)
      obtain ⟨U, hD, hX⟩ := blanks_law (k := kB bs) (List.all_eq_true.1 hok) (by omega)
      have HSZ := hid (catB_size (k := kB bs) (List.all_eq_true.1 hok) (show xs.length ≤ 300 by omega))
      have HD0 := hid hD
      have HTX : Hid (decide ((xs.map tokT).map txt = U.map txt) = true) := hid (decide_eq_true hX)
      have Mlex := hid trivial
      have Msamet := hid trivial
      have hxl : (xs.length : Int) ≤ 300 := by omega
      clear hok hD hX
      go_enter Try.func6, Try.ntmps6
      go_wp2_with (first | ((with_reducible refine wp_region_plan (id := 13) (.eff [(true, 0), (true, 2), (true, 6), (true, 7), (true, 8), (true, 9)] 1 [0, 2, 6, 7, 8, 9] (.fin [(false, 3), (false, 4), (false, 5), (false, 10), (false, 11)])) ?_ ?_ ?_ ?_ ?_ ?_); kernel_rfl; kernel_rfl; kernel_rfl; kernel_rfl; (intro c a d v w h; cases d <;> exact h)) | (with_reducible refine wpPlan_eff ?_) | (with_reducible refine wpPlan_fin ?_) | (with_reducible refine wpPlan_two ?_) | (with_reducible refine wpOpPair ?_ ?_) | ((with_reducible apply wpPre_keep); rfl; intro K' hK'; go_simp; refine hK' _ _ ?_; intro f hf; clear hK' K') | ((with_reducible apply wpPre_drop); rfl; intro K' hK'; go_simp; refine hK' _ _ ?_; intro f; clear hK' K') | (with_reducible refine wpPre_nil ?_) | ((with_reducible apply wpOp_list); rfl) | (with_reducible refine heldPair ?_ ?_) | ((with_reducible refine heldH_no ?_ ?_); rfl) | (with_reducible refine heldH_yes ?_ ?_) | (with_reducible exact heldH_nil) | (unfold YAt; go_simp; done) | (go_at_call 19; clear Mtexts; refine (texts_walk HR.out HL.out).mono ?_; rintro e w1 h1; have HB1 := hid h1.2.2; obtain ⟨v1, rfl, hr1⟩ := h1.1 HOK.out; obtain ⟨A1, c1, hv1, _, _⟩ := hr1.form; rw [HLM.out] at hv1; subst hv1; have HR1 := hid hr1; clear hr1 h1))
      go_loopg [7, 8] xs.length (fun k vs vi wr => ∃ j : Nat, j + k = xs.length ∧ vi = .int .i64 (j : Int) ∧ vs = .string (catB (kB bs) xs j) ∧ ∃ ex dx, wr = more w1 ex dx)
      case atStart => exact ⟨0, by omega, rfl, rfl, more_of (Below.refl _ _)⟩
      case round =>
        obtain ⟨j, hk, rfl, rfl, ex, dx, rfl⟩ := hrel
        have HK := hid hk
        have hszS := HSZ.out j
        by_cases hj : j < xs.length
        · have HJ := hid (And.intro hj trivial)
          have hnx := catB_next (k := kB bs) HJ.out.1
          have hszN := HSZ.out (j + 1)
          obtain ⟨b1, o1, rfl, _, hl1, x1⟩ := row_str (HR.out.below HB1.out) j HJ.out.1
          obtain ⟨S, hS⟩ : ∃ S, catB (kB bs) xs j = S := ⟨_, rfl⟩
          obtain ⟨T, hT⟩ : ∃ T, (xs[j]'HJ.out.1) = T := ⟨_, rfl⟩
          rw [hS] at hszS hnx ⊢
          rw [hT] at x1 hnx
          have hsT : S.size + (blk (kB bs j)).size + T.size ≤ 10200 := by rw [hnx, ByteArray.size_append, ByteArray.size_append] at hszN; exact hszN
          have hj0 : (0 : Int) ≤ j := by omega
          have hjx : (j : Int) < xs.length := by omega
          have HNX := hid hnx
          by_cases hjb : j < bs.length
          · have HJB := hid (And.intro hjb trivial)
            obtain ⟨b2, o2, rfl, _, hl2, y1⟩ := row_byte (HRB.out.below HB1.out) j HJB.out.1
            obtain ⟨c, hc⟩ : ∃ c, (bs[j]'HJB.out.1) = c := ⟨_, rfl⟩
            have hcb := HBS.out _ (List.getElem_mem HJB.out.1)
            have hkj : kB bs j = (c % 6).toNat := by unfold kB; rw [List.getElem?_eq_getElem HJB.out.1, hc]
            rw [hc] at y1 hcb
            have hjb1 : (j : Int) < bs.length := by omega
            have htm : c.tmod 6 = c % 6 := by rw [Int.tmod_eq_emod_of_nonneg hcb.1]
            have hcs : c % 6 = 0 ∨ c % 6 = 1 ∨ c % 6 = 2 ∨ c % 6 = 3 ∨ c % 6 = 4 ∨ c % 6 = 5 := by omega
            clear hk hj hS hT hszS hszN hnx hjb hc hcb
            rcases hcs with hcs | hcs | hcs | hcs | hcs | hcs
            · rw [hcs] at htm hkj
              have hkj : kB bs j = 0 := hkj
              rw [hkj] at HNX hsT
              have hsT : S.size + 1 + T.size ≤ 10200 := hsT
              have g1 : ¬ 9223372036854775807 < S.size + 1 := by omega
              have g2 : ¬ 9223372036854775807 < S.size + 1 + T.size := by omega
              clear hcs hkj hsT
              go_wp2_with (first | ((with_reducible refine wp_region_plan (id := 13) (.eff [(true, 0), (true, 2), (true, 6), (true, 7), (true, 8), (true, 9)] 1 [0, 2, 6, 7, 8, 9] (.fin [(false, 3), (false, 4), (false, 5), (false, 10), (false, 11)])) ?_ ?_ ?_ ?_ ?_ ?_); kernel_rfl; kernel_rfl; kernel_rfl; kernel_rfl; (intro c a d v w h; cases d <;> exact h)) | (with_reducible refine wpPlan_eff ?_) | (with_reducible refine wpPlan_fin ?_) | (with_reducible refine wpPlan_two ?_) | (with_reducible refine wpOpPair ?_ ?_) | ((with_reducible apply wpPre_keep); rfl; intro K' hK'; go_simp; refine hK' _ _ ?_; intro f hf; clear hK' K') | ((with_reducible apply wpPre_drop); rfl; intro K' hK'; go_simp; refine hK' _ _ ?_; intro f; clear hK' K') | (with_reducible refine wpPre_nil ?_) | ((with_reducible apply wpOp_list); rfl) | (with_reducible refine heldPair ?_ ?_) | ((with_reducible refine heldH_no ?_ ?_); rfl) | (with_reducible refine heldH_yes ?_ ?_) | (with_reducible exact heldH_nil) | (unfold YAt; go_simp; done))
              go_roundg (xs.length - (j + 1))
              case measure => have := HK.out; have := HJ.out.1; omega
              case rel => exact ⟨j + 1, by have := HJ.out.1; omega, by push_cast; rfl, by rw [HNX.out]; rfl, more_of (by repeat (first | (with_reducible exact Below.refl _ _) | (with_reducible exact bl_mm) | (with_reducible refine bl_dr ?_) | (with_reducible refine bl_drN ?_ _) | (with_reducible refine bl_al ?_ _) | (with_reducible refine bl_more ?_ _ _)))⟩
            · rw [hcs] at htm hkj
              have hkj : kB bs j = 1 := hkj
              rw [hkj] at HNX hsT
              have hsT : S.size + 2 + T.size ≤ 10200 := hsT
              have g1 : ¬ 9223372036854775807 < S.size + 2 := by omega
              have g2 : ¬ 9223372036854775807 < S.size + 2 + T.size := by omega
              clear hcs hkj hsT
              go_wp2_with (first | ((with_reducible refine wp_region_plan (id := 13) (.eff [(true, 0), (true, 2), (true, 6), (true, 7), (true, 8), (true, 9)] 1 [0, 2, 6, 7, 8, 9] (.fin [(false, 3), (false, 4), (false, 5), (false, 10), (false, 11)])) ?_ ?_ ?_ ?_ ?_ ?_); kernel_rfl; kernel_rfl; kernel_rfl; kernel_rfl; (intro c a d v w h; cases d <;> exact h)) | (with_reducible refine wpPlan_eff ?_) | (with_reducible refine wpPlan_fin ?_) | (with_reducible refine wpPlan_two ?_) | (with_reducible refine wpOpPair ?_ ?_) | ((with_reducible apply wpPre_keep); rfl; intro K' hK'; go_simp; refine hK' _ _ ?_; intro f hf; clear hK' K') | ((with_reducible apply wpPre_drop); rfl; intro K' hK'; go_simp; refine hK' _ _ ?_; intro f; clear hK' K') | (with_reducible refine wpPre_nil ?_) | ((with_reducible apply wpOp_list); rfl) | (with_reducible refine heldPair ?_ ?_) | ((with_reducible refine heldH_no ?_ ?_); rfl) | (with_reducible refine heldH_yes ?_ ?_) | (with_reducible exact heldH_nil) | (unfold YAt; go_simp; done))
              go_roundg (xs.length - (j + 1))
              case measure => have := HK.out; have := HJ.out.1; omega
              case rel => exact ⟨j + 1, by have := HJ.out.1; omega, by push_cast; rfl, by rw [HNX.out]; rfl, more_of (by repeat (first | (with_reducible exact Below.refl _ _) | (with_reducible exact bl_mm) | (with_reducible refine bl_dr ?_) | (with_reducible refine bl_drN ?_ _) | (with_reducible refine bl_al ?_ _) | (with_reducible refine bl_more ?_ _ _)))⟩
            · rw [hcs] at htm hkj
              have hkj : kB bs j = 2 := hkj
              rw [hkj] at HNX hsT
              have hsT : S.size + 10 + T.size ≤ 10200 := hsT
              have g1 : ¬ 9223372036854775807 < S.size + 10 := by omega
              have g2 : ¬ 9223372036854775807 < S.size + 10 + T.size := by omega
              clear hcs hkj hsT
              go_wp2_with (first | ((with_reducible refine wp_region_plan (id := 13) (.eff [(true, 0), (true, 2), (true, 6), (true, 7), (true, 8), (true, 9)] 1 [0, 2, 6, 7, 8, 9] (.fin [(false, 3), (false, 4), (false, 5), (false, 10), (false, 11)])) ?_ ?_ ?_ ?_ ?_ ?_); kernel_rfl; kernel_rfl; kernel_rfl; kernel_rfl; (intro c a d v w h; cases d <;> exact h)) | (with_reducible refine wpPlan_eff ?_) | (with_reducible refine wpPlan_fin ?_) | (with_reducible refine wpPlan_two ?_) | (with_reducible refine wpOpPair ?_ ?_) | ((with_reducible apply wpPre_keep); rfl; intro K' hK'; go_simp; refine hK' _ _ ?_; intro f hf; clear hK' K') | ((with_reducible apply wpPre_drop); rfl; intro K' hK'; go_simp; refine hK' _ _ ?_; intro f; clear hK' K') | (with_reducible refine wpPre_nil ?_) | ((with_reducible apply wpOp_list); rfl) | (with_reducible refine heldPair ?_ ?_) | ((with_reducible refine heldH_no ?_ ?_); rfl) | (with_reducible refine heldH_yes ?_ ?_) | (with_reducible exact heldH_nil) | (unfold YAt; go_simp; done))
              go_roundg (xs.length - (j + 1))
              case measure => have := HK.out; have := HJ.out.1; omega
              case rel => exact ⟨j + 1, by have := HJ.out.1; omega, by push_cast; rfl, by rw [HNX.out]; rfl, more_of (by repeat (first | (with_reducible exact Below.refl _ _) | (with_reducible exact bl_mm) | (with_reducible refine bl_dr ?_) | (with_reducible refine bl_drN ?_ _) | (with_reducible refine bl_al ?_ _) | (with_reducible refine bl_more ?_ _ _)))⟩
            · rw [hcs] at htm hkj
              have hkj : kB bs j = 3 := hkj
              rw [hkj] at HNX hsT
              have hsT : S.size + 2 + T.size ≤ 10200 := hsT
              have g1 : ¬ 9223372036854775807 < S.size + 2 := by omega
              have g2 : ¬ 9223372036854775807 < S.size + 2 + T.size := by omega
              clear hcs hkj hsT
              go_wp2_with (first | ((with_reducible refine wp_region_plan (id := 13) (.eff [(true, 0), (true, 2), (true, 6), (true, 7), (true, 8), (true, 9)] 1 [0, 2, 6, 7, 8, 9] (.fin [(false, 3), (false, 4), (false, 5), (false, 10), (false, 11)])) ?_ ?_ ?_ ?_ ?_ ?_); kernel_rfl; kernel_rfl; kernel_rfl; kernel_rfl; (intro c a d v w h; cases d <;> exact h)) | (with_reducible refine wpPlan_eff ?_) | (with_reducible refine wpPlan_fin ?_) | (with_reducible refine wpPlan_two ?_) | (with_reducible refine wpOpPair ?_ ?_) | ((with_reducible apply wpPre_keep); rfl; intro K' hK'; go_simp; refine hK' _ _ ?_; intro f hf; clear hK' K') | ((with_reducible apply wpPre_drop); rfl; intro K' hK'; go_simp; refine hK' _ _ ?_; intro f; clear hK' K') | (with_reducible refine wpPre_nil ?_) | ((with_reducible apply wpOp_list); rfl) | (with_reducible refine heldPair ?_ ?_) | ((with_reducible refine heldH_no ?_ ?_); rfl) | (with_reducible refine heldH_yes ?_ ?_) | (with_reducible exact heldH_nil) | (unfold YAt; go_simp; done))
              go_roundg (xs.length - (j + 1))
              case measure => have := HK.out; have := HJ.out.1; omega
              case rel => exact ⟨j + 1, by have := HJ.out.1; omega, by push_cast; rfl, by rw [HNX.out]; rfl, more_of (by repeat (first | (with_reducible exact Below.refl _ _) | (with_reducible exact bl_mm) | (with_reducible refine bl_dr ?_) | (with_reducible refine bl_drN ?_ _) | (with_reducible refine bl_al ?_ _) | (with_reducible refine bl_more ?_ _ _)))⟩
            · rw [hcs] at htm hkj
              have hkj : kB bs j = 4 := hkj
              rw [hkj] at HNX hsT
              have hsT : S.size + 7 + T.size ≤ 10200 := hsT
              have g1 : ¬ 9223372036854775807 < S.size + 7 := by omega
              have g2 : ¬ 9223372036854775807 < S.size + 7 + T.size := by omega
              clear hcs hkj hsT
              go_wp2_with (first | ((with_reducible refine wp_region_plan (id := 13) (.eff [(true, 0), (true, 2), (true, 6), (true, 7), (true, 8), (true, 9)] 1 [0, 2, 6, 7, 8, 9] (.fin [(false, 3), (false, 4), (false, 5), (false, 10), (false, 11)])) ?_ ?_ ?_ ?_ ?_ ?_); kernel_rfl; kernel_rfl; kernel_rfl; kernel_rfl; (intro c a d v w h; cases d <;> exact h)) | (with_reducible refine wpPlan_eff ?_) | (with_reducible refine wpPlan_fin ?_) | (with_reducible refine wpPlan_two ?_) | (with_reducible refine wpOpPair ?_ ?_) | ((with_reducible apply wpPre_keep); rfl; intro K' hK'; go_simp; refine hK' _ _ ?_; intro f hf; clear hK' K') | ((with_reducible apply wpPre_drop); rfl; intro K' hK'; go_simp; refine hK' _ _ ?_; intro f; clear hK' K') | (with_reducible refine wpPre_nil ?_) | ((with_reducible apply wpOp_list); rfl) | (with_reducible refine heldPair ?_ ?_) | ((with_reducible refine heldH_no ?_ ?_); rfl) | (with_reducible refine heldH_yes ?_ ?_) | (with_reducible exact heldH_nil) | (unfold YAt; go_simp; done))
              go_roundg (xs.length - (j + 1))
              case measure => have := HK.out; have := HJ.out.1; omega
              case rel => exact ⟨j + 1, by have := HJ.out.1; omega, by push_cast; rfl, by rw [HNX.out]; rfl, more_of (by repeat (first | (with_reducible exact Below.refl _ _) | (with_reducible exact bl_mm) | (with_reducible refine bl_dr ?_) | (with_reducible refine bl_drN ?_ _) | (with_reducible refine bl_al ?_ _) | (with_reducible refine bl_more ?_ _ _)))⟩
            · rw [hcs] at htm hkj
              have hkj : kB bs j = 5 := hkj
              rw [hkj] at HNX hsT
              have hsT : S.size + 2 + T.size ≤ 10200 := hsT
              have g1 : ¬ 9223372036854775807 < S.size + 2 := by omega
              have g2 : ¬ 9223372036854775807 < S.size + 2 + T.size := by omega
              clear hcs hkj hsT
              go_wp2_with (first | ((with_reducible refine wp_region_plan (id := 13) (.eff [(true, 0), (true, 2), (true, 6), (true, 7), (true, 8), (true, 9)] 1 [0, 2, 6, 7, 8, 9] (.fin [(false, 3), (false, 4), (false, 5), (false, 10), (false, 11)])) ?_ ?_ ?_ ?_ ?_ ?_); kernel_rfl; kernel_rfl; kernel_rfl; kernel_rfl; (intro c a d v w h; cases d <;> exact h)) | (with_reducible refine wpPlan_eff ?_) | (with_reducible refine wpPlan_fin ?_) | (with_reducible refine wpPlan_two ?_) | (with_reducible refine wpOpPair ?_ ?_) | ((with_reducible apply wpPre_keep); rfl; intro K' hK'; go_simp; refine hK' _ _ ?_; intro f hf; clear hK' K') | ((with_reducible apply wpPre_drop); rfl; intro K' hK'; go_simp; refine hK' _ _ ?_; intro f; clear hK' K') | (with_reducible refine wpPre_nil ?_) | ((with_reducible apply wpOp_list); rfl) | (with_reducible refine heldPair ?_ ?_) | ((with_reducible refine heldH_no ?_ ?_); rfl) | (with_reducible refine heldH_yes ?_ ?_) | (with_reducible exact heldH_nil) | (unfold YAt; go_simp; done))
              go_roundg (xs.length - (j + 1))
              case measure => have := HK.out; have := HJ.out.1; omega
              case rel => exact ⟨j + 1, by have := HJ.out.1; omega, by push_cast; rfl, by rw [HNX.out]; rfl, more_of (by repeat (first | (with_reducible exact Below.refl _ _) | (with_reducible exact bl_mm) | (with_reducible refine bl_dr ?_) | (with_reducible refine bl_drN ?_ _) | (with_reducible refine bl_al ?_ _) | (with_reducible refine bl_more ?_ _ _)))⟩
          · have hkj : kB bs j = 0 := by unfold kB; rw [List.getElem?_eq_none (by omega)]
            rw [hkj] at HNX hsT
            have hsT : S.size + 1 + T.size ≤ 10200 := hsT
            have hjb1 : ¬ (j : Int) < bs.length := by omega
            have g1 : ¬ 9223372036854775807 < S.size + 1 := by omega
            have g2 : ¬ 9223372036854775807 < S.size + 1 + T.size := by omega
            clear hk hj hS hT hszS hszN hnx hjb hkj hsT
            go_wp2_with (first | ((with_reducible refine wp_region_plan (id := 13) (.eff [(true, 0), (true, 2), (true, 6), (true, 7), (true, 8), (true, 9)] 1 [0, 2, 6, 7, 8, 9] (.fin [(false, 3), (false, 4), (false, 5), (false, 10), (false, 11)])) ?_ ?_ ?_ ?_ ?_ ?_); kernel_rfl; kernel_rfl; kernel_rfl; kernel_rfl; (intro c a d v w h; cases d <;> exact h)) | (with_reducible refine wpPlan_eff ?_) | (with_reducible refine wpPlan_fin ?_) | (with_reducible refine wpPlan_two ?_) | (with_reducible refine wpOpPair ?_ ?_) | ((with_reducible apply wpPre_keep); rfl; intro K' hK'; go_simp; refine hK' _ _ ?_; intro f hf; clear hK' K') | ((with_reducible apply wpPre_drop); rfl; intro K' hK'; go_simp; refine hK' _ _ ?_; intro f; clear hK' K') | (with_reducible refine wpPre_nil ?_) | ((with_reducible apply wpOp_list); rfl) | (with_reducible refine heldPair ?_ ?_) | ((with_reducible refine heldH_no ?_ ?_); rfl) | (with_reducible refine heldH_yes ?_ ?_) | (with_reducible exact heldH_nil) | (unfold YAt; go_simp; done))
            go_roundg (xs.length - (j + 1))
            case measure => have := HK.out; have := HJ.out.1; omega
            case rel => exact ⟨j + 1, by have := HJ.out.1; omega, by push_cast; rfl, by rw [HNX.out]; rfl, more_of (by repeat (first | (with_reducible exact Below.refl _ _) | (with_reducible exact bl_mm) | (with_reducible refine bl_dr ?_) | (with_reducible refine bl_drN ?_ _) | (with_reducible refine bl_al ?_ _) | (with_reducible refine bl_more ?_ _ _)))⟩
        · have hje : j = xs.length := by omega
          subst hje
          have hnl : ¬ (xs.length : Int) < xs.length := by omega
          have hD := HD0.out
          obtain ⟨S, hS⟩ : ∃ S, catB (kB bs) xs xs.length = S := ⟨_, rfl⟩
          rw [hS] at hszS hD ⊢
          have HD := hid hD
          have HZ : Hid ((S ++ tailB).size ≤ 65536) := hid (by
            rw [ByteArray.size_append]
            have : tailB.size = 10 := rfl
            omega)
          have g1 : ¬ 9223372036854775807 < S.size + 10 := by omega
          have hs5 : (S.size : Int) ≤ 10200 := by omega
          clear hk hj hS hszS hD
          go_wp2_with (first | ((with_reducible refine wp_region_plan (id := 13) (.eff [(true, 0), (true, 2), (true, 6), (true, 7), (true, 8), (true, 9)] 1 [0, 2, 6, 7, 8, 9] (.fin [(false, 3), (false, 4), (false, 5), (false, 10), (false, 11)])) ?_ ?_ ?_ ?_ ?_ ?_); kernel_rfl; kernel_rfl; kernel_rfl; kernel_rfl; (intro c a d v w h; cases d <;> exact h)) | (with_reducible refine wpPlan_eff ?_) | (with_reducible refine wpPlan_fin ?_) | (with_reducible refine wpPlan_two ?_) | (with_reducible refine wpOpPair ?_ ?_) | ((with_reducible apply wpPre_keep); rfl; intro K' hK'; go_simp; refine hK' _ _ ?_; intro f hf; clear hK' K') | ((with_reducible apply wpPre_drop); rfl; intro K' hK'; go_simp; refine hK' _ _ ?_; intro f; clear hK' K') | (with_reducible refine wpPre_nil ?_) | ((with_reducible apply wpOp_list); rfl) | (with_reducible refine heldPair ?_ ?_) | ((with_reducible refine heldH_no ?_ ?_); rfl) | (with_reducible refine heldH_yes ?_ ?_) | (with_reducible exact heldH_nil) | (unfold YAt; go_simp; done) | (go_at_call 10; clear Mlex; refine (lexd_any (s := S ++ tailB) HZ.out).mono ?_; rintro e w3 ⟨v3, rfl, hr3, hb3⟩; rw [HD.out] at hr3 ⊢; obtain ⟨A3, c3, rfl, _, _⟩ := hr3.form; have HR3 := hid hr3; have HB3 := hid ((show Below w1.heap.size w1 _ from (by repeat (first | (with_reducible exact Below.refl _ _) | (with_reducible exact bl_mm) | (with_reducible refine bl_dr ?_) | (with_reducible refine bl_drN ?_ _) | (with_reducible refine bl_al ?_ _) | (with_reducible refine bl_more ?_ _ _)))).trans (hb3.mono (show w1.heap.size ≤ _ by simp [more_size]))); clear hr3 hb3))
          go_wp2_with (first | ((with_reducible refine wp_region_plan (id := 13) (.eff [(true, 0), (true, 2), (true, 6), (true, 7), (true, 8), (true, 9)] 1 [0, 2, 6, 7, 8, 9] (.fin [(false, 3), (false, 4), (false, 5), (false, 10), (false, 11)])) ?_ ?_ ?_ ?_ ?_ ?_); kernel_rfl; kernel_rfl; kernel_rfl; kernel_rfl; (intro c a d v w h; cases d <;> exact h)) | (with_reducible refine wpPlan_eff ?_) | (with_reducible refine wpPlan_fin ?_) | (with_reducible refine wpPlan_two ?_) | (with_reducible refine wpOpPair ?_ ?_) | ((with_reducible apply wpPre_keep); rfl; intro K' hK'; go_simp; refine hK' _ _ ?_; intro f hf; clear hK' K') | ((with_reducible apply wpPre_drop); rfl; intro K' hK'; go_simp; refine hK' _ _ ?_; intro f; clear hK' K') | (with_reducible refine wpPre_nil ?_) | ((with_reducible apply wpOp_list); rfl) | (with_reducible refine heldPair ?_ ?_) | ((with_reducible refine heldH_no ?_ ?_); rfl) | (with_reducible refine heldH_yes ?_ ?_) | (with_reducible exact heldH_nil) | (unfold YAt; go_simp; done) | (go_at_call 20; clear Msamet; refine (texts_any (K := fun _ => True) ((HR1.out.mono (fun _ _ _ => trivial)).below HB3.out) (HR3.out.mono (fun _ _ _ => trivial)) HL1.out).mono ?_; rintro e w4 ⟨rfl, hb4⟩; rw [HTX.out]; obtain ⟨ey4, dy4, rfl⟩ := more_of hb4; clear hb4))
          go_wp2_with (first | ((with_reducible refine wp_region_plan (id := 13) (.eff [(true, 0), (true, 2), (true, 6), (true, 7), (true, 8), (true, 9)] 1 [0, 2, 6, 7, 8, 9] (.fin [(false, 3), (false, 4), (false, 5), (false, 10), (false, 11)])) ?_ ?_ ?_ ?_ ?_ ?_); kernel_rfl; kernel_rfl; kernel_rfl; kernel_rfl; (intro c a d v w h; cases d <;> exact h)) | (with_reducible refine wpPlan_eff ?_) | (with_reducible refine wpPlan_fin ?_) | (with_reducible refine wpPlan_two ?_) | (with_reducible refine wpOpPair ?_ ?_) | ((with_reducible apply wpPre_keep); rfl; intro K' hK'; go_simp; refine hK' _ _ ?_; intro f hf; clear hK' K') | ((with_reducible apply wpPre_drop); rfl; intro K' hK'; go_simp; refine hK' _ _ ?_; intro f; clear hK' K') | (with_reducible refine wpPre_nil ?_) | ((with_reducible apply wpOp_list); rfl) | (with_reducible refine heldPair ?_ ?_) | ((with_reducible refine heldH_no ?_ ?_); rfl) | (with_reducible refine heldH_yes ?_ ?_) | (with_reducible exact heldH_nil) | (unfold YAt; go_simp; done) | (go_at_call 9; clear Mlives; refine lives_any.mono ?_; rintro e w5 ⟨rfl, hb5⟩; obtain ⟨ey5, dx5, rfl⟩ := more_of hb5; clear hb5))
          go_ret
          exact ⟨rfl, HB1.out.trans ((HB3.out.trans ((show Below w3.heap.size w3 _ from (by repeat (first | (with_reducible exact Below.refl _ _) | (with_reducible exact bl_mm) | (with_reducible refine bl_dr ?_) | (with_reducible refine bl_drN ?_ _) | (with_reducible refine bl_al ?_ _) | (with_reducible refine bl_more ?_ _ _)))).mono HB3.out.size)).mono HB1.out.size)⟩
theorem bytes_op : Opens (Enc.slice byteE) 40 (fun xs => ∀ x ∈ xs, (Lit.int .u8 x).wf = true) := Opens.slice Try.underlying40 (Opens.int Try.underlying5) (by kernel_rfl) (by decide)
theorem bytes_in {xs : List Int} (h : ∀ x ∈ xs, (Lit.int .u8 x).wf = true) : ∀ b ∈ xs, 0 ≤ b ∧ b < 256 := fun b hb => by
  have := h b hb
  simp only [Lit.wf, Bool.and_eq_true, decide_eq_true_eq] at this
  have h2 : 0 ≤ b ∧ b ≤ 255 := this
  omega
end Go.Proofs.Ythekoefcienipaa
