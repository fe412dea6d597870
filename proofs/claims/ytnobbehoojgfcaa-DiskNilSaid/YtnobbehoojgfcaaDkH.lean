/- The power that goes. -/
import Derived.Test.YtnobbehoojgfcaaDkG
namespace Go.Proofs.Ytnobbehoojgfcaa
open Go.RowKit

/-- How many bytes a file has behind a crash. -/
def cutN (f : DF) (k : Option Int) : Nat := f.synced + (match k with | some x => min (max x 0).toNat (f.b.length - f.synced) | none => 0)
def crashN (s : DS) (ks : List Int) : Nat → DS
  | 0 => s
  | j + 1 => (crashN s ks j).keep j (cutN (s.fs.getD j ⟨[], 0⟩) ks[j]?)
def DS.crash (s : DS) (ks : List Int) : DS := { crashN s ks s.fs.length with fuse := -1, down := false }
theorem keep_len (s : DS) (i n : Nat) : (s.keep i n).fs.length = s.fs.length := by simp [DS.keep]
theorem crash_len (s : DS) (ks : List Int) : ∀ j, (crashN s ks j).fs.length = s.fs.length
  | 0 => rfl
  | j + 1 => (keep_len _ _ _).trans (crash_len s ks j)
theorem crash_at (s : DS) (ks : List Int) : ∀ j k, j ≤ k → (crashN s ks j).fs[k]? = s.fs[k]?
  | 0, k, _ => rfl
  | j + 1, k, h => by
    show ((crashN s ks j).fs.set j _)[k]? = _
    rw [List.getElem?_set_ne (by omega)]
    exact crash_at s ks j k (by omega)
theorem bytes_set : ∀ (l : List DF) (i : Nat) (hi : i < l.length) (f : DF), (bytes (l.set i f) : Int) = bytes l - l[i].b.length + f.b.length
  | x :: l, 0, h, f => by simp [bytes]; omega
  | x :: l, i + 1, h, f => by
    have := bytes_set l i (by simpa using h) f
    have e1 : bytes (x :: l) = x.b.length + bytes l := by simp [bytes]
    have e2 : bytes ((x :: l).set (i + 1) f) = x.b.length + bytes (l.set i f) := by simp [bytes]
    rw [e2, e1]
    simp only [List.getElem_cons_succ]
    omega
theorem keep_tot {s : DS} {i n : Nat} (hi : i < s.fs.length) (hn : n ≤ s.fs[i].b.length) : (s.keep i n).tot = s.tot := by
  have := bytes_set s.fs i hi ⟨s.fs[i].b.take n, n⟩
  simp only [List.length_take] at this
  unfold DS.keep DS.tot
  simp [hi]
  omega
theorem DS.Ok.keep {s : DS} {C : Int} (h : s.Ok C) {i n : Nat} (hi : i < s.fs.length) (hn : n ≤ s.fs[i].b.length) : (s.keep i n).Ok C := by
  refine ⟨?_, by rw [keep_tot hi hn]; exact h.tot, by rw [keep_len]; exact h.n1, by rw [keep_len]; exact h.n2, fun f hf => ?_, h.fuse1, h.fuse2⟩
  · have := h.room
    show 0 ≤ s.room + ((s.fs.getD i ⟨[], 0⟩).b.length - n : Int)
    simp [hi]; omega
  · have hf' : f ∈ s.fs.set i ⟨(s.fs.getD i ⟨[], 0⟩).b.take n, n⟩ := hf
    rcases List.mem_or_eq_of_mem_set hf' with h1 | rfl
    · exact h.sync f h1
    · simp [hi]; omega
theorem cutN_le {f : DF} (hs : f.synced ≤ f.b.length) (k : Option Int) : cutN f k ≤ f.b.length := by
  unfold cutN
  cases k <;> simp <;> omega
theorem crash_file (s : DS) (ks : List Int) {j : Nat} (hj : j < s.fs.length) : (crashN s ks j).fs[j]'(by rw [crash_len]; exact hj) = s.fs[j] := by
  have := crash_at s ks j j (Nat.le_refl _)
  rw [List.getElem?_eq_getElem hj, List.getElem?_eq_getElem (by rw [crash_len]; exact hj)] at this
  exact Option.some.inj this
theorem crash_ok {s : DS} {C : Int} (h : s.Ok C) (ks : List Int) : ∀ j, j ≤ s.fs.length → (crashN s ks j).Ok C
  | 0, _ => h
  | j + 1, hj => by
    refine (crash_ok h ks j (by omega)).keep (by rw [crash_len]; omega) ?_
    rw [crash_file s ks (by omega)]
    simp only [List.getD_eq_getElem?_getD, List.getElem?_eq_getElem (show j < s.fs.length by omega), Option.getD_some]
    exact cutN_le (h.sync _ (List.getElem_mem _)) _
theorem Row_int {K : Nat → Prop} {w : World} {A : Option Addr} {n c : Nat} {xs : List Int} (h : intE.Row K w (.slice A n c) xs) (i : Nat) (hi : i < xs.length) :
    ∃ b off, A = some ⟨b, off, none⟩ ∧ b < w.heap.size ∧ K b ∧ w.cell? ⟨b, off + i, none⟩ = some (.int .i64 xs[i]) := by
  obtain ⟨b, off, cs, rfl, hb, hl, rfl, h2⟩ := h.get i hi
  have := h2 0 _ rfl
  exact ⟨b, off, rfl, hl, hb, by simpa [Enc.int, Enc.scalar] using this⟩

theorem crash_next {s : DS} {ks : List Int} {j m : Nat} (hj : j < s.fs.length) (h : cutN s.fs[j] ks[j]? = m) : crashN s ks (j + 1) = (crashN s ks j).keep j m := by
  show (crashN s ks j).keep j (cutN (s.fs.getD j ⟨[], 0⟩) ks[j]?) = _
  rw [← h]
  simp [hj]
set_option maxRecDepth 8000 in
set_option maxHeartbeats 2000000 in
theorem crash_any {w : World} {d : Nat} {G K : Nat → Prop} {s : DS} {C : Int} {v : Value} {ks : List Int} (h : Dk w d G s) (hs : s.Ok C) (hC : C ≤ 1000000000) (hk : intE.Row K w v ks) (hKd : ∀ b, K b → b ≠ d) :
    Calls Try.prog 17 #[.pointer (some ⟨d, 0, none⟩), v] w fun e w' => e = .returned (.int .i64 0) ∧ Dk w' d G (s.crash ks) ∧ Ext (fun b => b = d) w w' := by
  obtain ⟨A, c, rfl, hl1, hl2⟩ := hk.form
  have m0 : maxLen ≤ 9223372036854775807 := by unfold maxLen; omega
  have hn := h.n
  have hd := h.lt
  have HD := hid h
  have HN := hid hs.n1
  have HN2 := hid hs.n2
  have HS := hid hs
  have HC := hid (show C ≤ 1000000000000 by omega)
  have HC2 := hid hC
  have HR := hid hk
  have HKD := hid hKd
  have HLL := hid (And.intro hl1 hl2)
  clear h hs hC hk hKd hl1 hl2 m0
  go_enter Try.func17, Try.ntmps17
  go_wp2_with (first | ((with_reducible refine wp_region_plan (id := 9) (.fin [(false, 0), (false, 1), (false, 2), (false, 3), (false, 4), (false, 5), (false, 6), (false, 7), (false, 8), (false, 9), (false, 10), (false, 11), (false, 12), (false, 13), (false, 14), (false, 15), (false, 16)]) ?_ ?_ ?_ ?_ ?_ ?_); kernel_rfl; kernel_rfl; kernel_rfl; kernel_rfl; (intro c a d v w h; cases d <;> exact h)) | (with_reducible refine wpPlan_eff ?_) | (with_reducible refine wpPlan_fin ?_) | (with_reducible refine wpPlan_two ?_) | (with_reducible refine wpOpPair ?_ ?_) | ((with_reducible apply wpPre_keep); rfl; intro K' hK'; go_simp; refine hK' _ _ ?_; intro f hf; clear hK' K') | ((with_reducible apply wpPre_drop); rfl; intro K' hK'; go_simp; refine hK' _ _ ?_; intro f; clear hK' K') | (with_reducible refine wpPre_nil ?_) | ((with_reducible apply wpOp_list); rfl) | (with_reducible refine heldPair ?_ ?_) | ((with_reducible refine heldH_no ?_ ?_); rfl) | (with_reducible refine heldH_yes ?_ ?_) | (with_reducible exact heldH_nil) | (unfold YAt; go_simp; done) | (go_at_call 35; refine (made_any (HD.out.below (by repeat (first | (with_reducible exact Below.refl _ _) | (with_reducible exact bl_mm) | (with_reducible refine bl_dr ?_) | (with_reducible refine bl_drN ?_ _) | (with_reducible refine bl_al ?_ _) | (with_reducible refine bl_more ?_ _ _)))) HN.out).mono ?_; rintro e w1 ⟨rfl, hb1⟩; obtain ⟨ex, dx, rfl⟩ := more_of hb1; clear hb1))
  go_loopg [15] s.fs.length (fun k i wr => ∃ j : Nat, j + k = s.fs.length ∧ i = .int .i64 j ∧ Dk wr d G (crashN s ks j) ∧ Ext (fun b => b = d) w wr)
  case atStart => exact ⟨0, by omega, rfl, HD.out.below (by repeat (first | (with_reducible exact Below.refl _ _) | (with_reducible exact bl_mm) | (with_reducible refine bl_dr ?_) | (with_reducible refine bl_drN ?_ _) | (with_reducible refine bl_al ?_ _) | (with_reducible refine bl_more ?_ _ _))), (by repeat (first | (with_reducible exact Ext.refl _ _) | (with_reducible refine ex_dr ?_) | (with_reducible refine ex_drN ?_ _) | (with_reducible refine ex_al ?_ _) | (with_reducible refine ex_more ?_ _ _) | (with_reducible refine Ext.set ?_ _ _ _ (by first | exact rfl | exact .inl rfl | exact .inr rfl))))⟩
  case round =>
    obtain ⟨j, hj, rfl, hq, he⟩ := hrel
    have HQ := hid hq
    have HE := hid he
    have HK := hid hj
    have hd2 := hq.lt
    have hrow := HR.out.ext he (fun b hb _ => HKD.out b hb)
    by_cases hlt : j < s.fs.length
    · have hlt2 : j < (crashN s ks j).fs.length := by rw [crash_len]; exact hlt
      obtain ⟨g, ⟨v, c1, c2, h3, h4⟩, _⟩ := hq.take j hlt2
      obtain ⟨A3, c3, rfl, -, -⟩ := h3.form
      rw [crash_file s ks hlt] at c1 c2
      have i1 : (j : Int) < (s.fs.length : Int) := by omega
      have i2 : (0 : Int) ≤ (j : Int) := by omega
      have i3 : (j : Int) < 65 := by have := HN2.out; omega
      have w1 : IntKind.i64.wrap ((j : Int) + 1) = ((j + 1 : Nat) : Int) := by rw [IntWalk.i64_in _ (by omega)]; rfl
      have hsy := HS.out.sync _ (List.getElem_mem hlt)
      have hln := HS.out.len (List.getElem_mem hlt)
      have HO := hid (crash_ok HS.out ks j (by omega))
      have HJ := hid (And.intro hlt hlt2)
      have hnle : ∀ m, m ≤ s.fs[j].b.length → m ≤ ((crashN s ks j).fs[j]'hlt2).b.length := fun m h => by rw [crash_file s ks hlt]; exact h
      have HMX := hid hnle
      have HRW := hid hrow
      have hC2 := HC2.out
      clear hq he hj h3 h4 hnle hrow
      by_cases hk : j < ks.length
      · obtain ⟨bb, off, rfl, hbl, _, k1⟩ := Row_int HRW.out j hk
        have j1 : (j : Int) < (ks.length : Int) := by omega
        by_cases hneg : ks[j] < 0
        · obtain ⟨m, hm⟩ : ∃ m, m = s.fs[j].synced := ⟨_, rfl⟩
          have HM := hid (HMX.out m (by omega))
          have HCUT : Hid (cutN s.fs[j] ks[j]? = m) := hid (by rw [hm]; simp [cutN, hk]; omega)
          rw [← hm] at c2
          have w2 : IntKind.i64.wrap ((s.fs[j].b.length : Int) - (m : Int)) = (s.fs[j].b.length : Int) - (m : Int) := IntWalk.i64_in _ (by omega)
          have w3 : ¬ (s.fs[j].b.length : Int) - (m : Int) < 0 := by omega
          have w4 : IntKind.i64.wrap (m : Int) = (m : Int) := IntWalk.i64_in _ (by omega)
          clear hm hsy hln hC2
          go_wp2_with (first | ((with_reducible refine wp_region_plan (id := 9) (.fin [(false, 0), (false, 1), (false, 2), (false, 3), (false, 4), (false, 5), (false, 6), (false, 7), (false, 8), (false, 9), (false, 10), (false, 11), (false, 12), (false, 13), (false, 14), (false, 15), (false, 16)]) ?_ ?_ ?_ ?_ ?_ ?_); kernel_rfl; kernel_rfl; kernel_rfl; kernel_rfl; (intro c a d v w h; cases d <;> exact h)) | (with_reducible refine wpPlan_eff ?_) | (with_reducible refine wpPlan_fin ?_) | (with_reducible refine wpPlan_two ?_) | (with_reducible refine wpOpPair ?_ ?_) | ((with_reducible apply wpPre_keep); rfl; intro K' hK'; go_simp; refine hK' _ _ ?_; intro f hf; clear hK' K') | ((with_reducible apply wpPre_drop); rfl; intro K' hK'; go_simp; refine hK' _ _ ?_; intro f; clear hK' K') | (with_reducible refine wpPre_nil ?_) | ((with_reducible apply wpOp_list); rfl) | (with_reducible refine heldPair ?_ ?_) | ((with_reducible refine heldH_no ?_ ?_); rfl) | (with_reducible refine heldH_yes ?_ ?_) | (with_reducible exact heldH_nil) | (unfold YAt; go_simp; done) | (go_at_call 36; refine (keep_any (C := C) (HQ.out.below (by repeat (first | (with_reducible exact Below.refl _ _) | (with_reducible exact bl_mm) | (with_reducible refine bl_dr ?_) | (with_reducible refine bl_drN ?_ _) | (with_reducible refine bl_al ?_ _) | (with_reducible refine bl_more ?_ _ _)))) HO.out HC.out j HJ.out.2 m HM.out).mono ?_; rintro e w3 ⟨rfl, hq, he⟩; have HQ2 := hid hq; have HE2 := hid he; clear hq he))
          all_goals (
            go_roundg (s.fs.length - (j + 1))
            case measure => have := HK.out; omega
            case rel => exact ⟨j + 1, by have := HK.out; omega, rfl, by rw [crash_next (m := m) HJ.out.1 HCUT.out]; exact HQ2.out, HE.out.trans (Ext.trans (by repeat (first | (with_reducible exact Ext.refl _ _) | (with_reducible refine ex_dr ?_) | (with_reducible refine ex_drN ?_ _) | (with_reducible refine ex_al ?_ _) | (with_reducible refine ex_more ?_ _ _) | (with_reducible refine Ext.set ?_ _ _ _ (by first | exact rfl | exact .inl rfl | exact .inr rfl)))) HE2.out (fun _ _ h => h)) (fun _ _ h => h)⟩)
        · by_cases hbig : (s.fs[j].b.length : Int) - (s.fs[j].synced : Int) < ks[j]
          · obtain ⟨m, hm⟩ : ∃ m, m = s.fs[j].b.length := ⟨_, rfl⟩
            have HM := hid (HMX.out m (by omega))
            have HCUT : Hid (cutN s.fs[j] ks[j]? = m) := hid (by rw [hm]; simp [cutN, hk]; omega)
            have w2 : IntKind.i64.wrap ((s.fs[j].b.length : Int) - (s.fs[j].synced : Int)) = (s.fs[j].b.length : Int) - (s.fs[j].synced : Int) := IntWalk.i64_in _ (by omega)
            have w3 : IntKind.i64.wrap ((s.fs[j].synced : Int) + ((s.fs[j].b.length : Int) - (s.fs[j].synced : Int))) = (m : Int) := by rw [IntWalk.i64_in _ (by omega)]; omega
            clear hm hsy hln hC2
            go_wp2_with (first | ((with_reducible refine wp_region_plan (id := 9) (.fin [(false, 0), (false, 1), (false, 2), (false, 3), (false, 4), (false, 5), (false, 6), (false, 7), (false, 8), (false, 9), (false, 10), (false, 11), (false, 12), (false, 13), (false, 14), (false, 15), (false, 16)]) ?_ ?_ ?_ ?_ ?_ ?_); kernel_rfl; kernel_rfl; kernel_rfl; kernel_rfl; (intro c a d v w h; cases d <;> exact h)) | (with_reducible refine wpPlan_eff ?_) | (with_reducible refine wpPlan_fin ?_) | (with_reducible refine wpPlan_two ?_) | (with_reducible refine wpOpPair ?_ ?_) | ((with_reducible apply wpPre_keep); rfl; intro K' hK'; go_simp; refine hK' _ _ ?_; intro f hf; clear hK' K') | ((with_reducible apply wpPre_drop); rfl; intro K' hK'; go_simp; refine hK' _ _ ?_; intro f; clear hK' K') | (with_reducible refine wpPre_nil ?_) | ((with_reducible apply wpOp_list); rfl) | (with_reducible refine heldPair ?_ ?_) | ((with_reducible refine heldH_no ?_ ?_); rfl) | (with_reducible refine heldH_yes ?_ ?_) | (with_reducible exact heldH_nil) | (unfold YAt; go_simp; done) | (go_at_call 36; refine (keep_any (C := C) (HQ.out.below (by repeat (first | (with_reducible exact Below.refl _ _) | (with_reducible exact bl_mm) | (with_reducible refine bl_dr ?_) | (with_reducible refine bl_drN ?_ _) | (with_reducible refine bl_al ?_ _) | (with_reducible refine bl_more ?_ _ _)))) HO.out HC.out j HJ.out.2 m HM.out).mono ?_; rintro e w3 ⟨rfl, hq, he⟩; have HQ2 := hid hq; have HE2 := hid he; clear hq he))
            all_goals (
              go_roundg (s.fs.length - (j + 1))
              case measure => have := HK.out; omega
              case rel => exact ⟨j + 1, by have := HK.out; omega, rfl, by rw [crash_next (m := m) HJ.out.1 HCUT.out]; exact HQ2.out, HE.out.trans (Ext.trans (by repeat (first | (with_reducible exact Ext.refl _ _) | (with_reducible refine ex_dr ?_) | (with_reducible refine ex_drN ?_ _) | (with_reducible refine ex_al ?_ _) | (with_reducible refine ex_more ?_ _ _) | (with_reducible refine Ext.set ?_ _ _ _ (by first | exact rfl | exact .inl rfl | exact .inr rfl)))) HE2.out (fun _ _ h => h)) (fun _ _ h => h)⟩)
          · obtain ⟨q, hq⟩ : ∃ q : Nat, ks[j] = (q : Int) := ⟨ks[j].toNat, by omega⟩
            obtain ⟨m, hm⟩ : ∃ m, m = s.fs[j].synced + q := ⟨_, rfl⟩
            have HM := hid (HMX.out m (by omega))
            have HCUT : Hid (cutN s.fs[j] ks[j]? = m) := hid (by rw [hm]; simp [cutN, hk, hq]; omega)
            have w2 : IntKind.i64.wrap ((s.fs[j].b.length : Int) - (s.fs[j].synced : Int)) = (s.fs[j].b.length : Int) - (s.fs[j].synced : Int) := IntWalk.i64_in _ (by omega)
            have w3 : IntKind.i64.wrap ((s.fs[j].synced : Int) + (q : Int)) = (m : Int) := by rw [IntWalk.i64_in _ (by omega)]; omega
            rw [hq] at k1 hbig hneg
            clear hm hsy hln hC2 hq
            go_wp2_with (first | ((with_reducible refine wp_region_plan (id := 9) (.fin [(false, 0), (false, 1), (false, 2), (false, 3), (false, 4), (false, 5), (false, 6), (false, 7), (false, 8), (false, 9), (false, 10), (false, 11), (false, 12), (false, 13), (false, 14), (false, 15), (false, 16)]) ?_ ?_ ?_ ?_ ?_ ?_); kernel_rfl; kernel_rfl; kernel_rfl; kernel_rfl; (intro c a d v w h; cases d <;> exact h)) | (with_reducible refine wpPlan_eff ?_) | (with_reducible refine wpPlan_fin ?_) | (with_reducible refine wpPlan_two ?_) | (with_reducible refine wpOpPair ?_ ?_) | ((with_reducible apply wpPre_keep); rfl; intro K' hK'; go_simp; refine hK' _ _ ?_; intro f hf; clear hK' K') | ((with_reducible apply wpPre_drop); rfl; intro K' hK'; go_simp; refine hK' _ _ ?_; intro f; clear hK' K') | (with_reducible refine wpPre_nil ?_) | ((with_reducible apply wpOp_list); rfl) | (with_reducible refine heldPair ?_ ?_) | ((with_reducible refine heldH_no ?_ ?_); rfl) | (with_reducible refine heldH_yes ?_ ?_) | (with_reducible exact heldH_nil) | (unfold YAt; go_simp; done) | (go_at_call 36; refine (keep_any (C := C) (HQ.out.below (by repeat (first | (with_reducible exact Below.refl _ _) | (with_reducible exact bl_mm) | (with_reducible refine bl_dr ?_) | (with_reducible refine bl_drN ?_ _) | (with_reducible refine bl_al ?_ _) | (with_reducible refine bl_more ?_ _ _)))) HO.out HC.out j HJ.out.2 m HM.out).mono ?_; rintro e w3 ⟨rfl, hq, he⟩; have HQ2 := hid hq; have HE2 := hid he; clear hq he))
            all_goals (
              go_roundg (s.fs.length - (j + 1))
              case measure => have := HK.out; omega
              case rel => exact ⟨j + 1, by have := HK.out; omega, rfl, by rw [crash_next (m := m) HJ.out.1 HCUT.out]; exact HQ2.out, HE.out.trans (Ext.trans (by repeat (first | (with_reducible exact Ext.refl _ _) | (with_reducible refine ex_dr ?_) | (with_reducible refine ex_drN ?_ _) | (with_reducible refine ex_al ?_ _) | (with_reducible refine ex_more ?_ _ _) | (with_reducible refine Ext.set ?_ _ _ _ (by first | exact rfl | exact .inl rfl | exact .inr rfl)))) HE2.out (fun _ _ h => h)) (fun _ _ h => h)⟩)
      · have j1 : ¬ (j : Int) < (ks.length : Int) := by omega
        obtain ⟨m, hm⟩ : ∃ m, m = s.fs[j].synced := ⟨_, rfl⟩
        have HM := hid (HMX.out m (by omega))
        have HCUT : Hid (cutN s.fs[j] ks[j]? = m) := hid (by rw [hm]; simp [cutN, hk])
        rw [← hm] at c2
        have w4 : IntKind.i64.wrap (m : Int) = (m : Int) := IntWalk.i64_in _ (by omega)
        clear hm hsy hln hC2
        go_wp2_with (first | ((with_reducible refine wp_region_plan (id := 9) (.fin [(false, 0), (false, 1), (false, 2), (false, 3), (false, 4), (false, 5), (false, 6), (false, 7), (false, 8), (false, 9), (false, 10), (false, 11), (false, 12), (false, 13), (false, 14), (false, 15), (false, 16)]) ?_ ?_ ?_ ?_ ?_ ?_); kernel_rfl; kernel_rfl; kernel_rfl; kernel_rfl; (intro c a d v w h; cases d <;> exact h)) | (with_reducible refine wpPlan_eff ?_) | (with_reducible refine wpPlan_fin ?_) | (with_reducible refine wpPlan_two ?_) | (with_reducible refine wpOpPair ?_ ?_) | ((with_reducible apply wpPre_keep); rfl; intro K' hK'; go_simp; refine hK' _ _ ?_; intro f hf; clear hK' K') | ((with_reducible apply wpPre_drop); rfl; intro K' hK'; go_simp; refine hK' _ _ ?_; intro f; clear hK' K') | (with_reducible refine wpPre_nil ?_) | ((with_reducible apply wpOp_list); rfl) | (with_reducible refine heldPair ?_ ?_) | ((with_reducible refine heldH_no ?_ ?_); rfl) | (with_reducible refine heldH_yes ?_ ?_) | (with_reducible exact heldH_nil) | (unfold YAt; go_simp; done) | (go_at_call 36; refine (keep_any (C := C) (HQ.out.below (by repeat (first | (with_reducible exact Below.refl _ _) | (with_reducible exact bl_mm) | (with_reducible refine bl_dr ?_) | (with_reducible refine bl_drN ?_ _) | (with_reducible refine bl_al ?_ _) | (with_reducible refine bl_more ?_ _ _)))) HO.out HC.out j HJ.out.2 m HM.out).mono ?_; rintro e w3 ⟨rfl, hq, he⟩; have HQ2 := hid hq; have HE2 := hid he; clear hq he))
        all_goals (
          go_roundg (s.fs.length - (j + 1))
          case measure => have := HK.out; omega
          case rel => exact ⟨j + 1, by have := HK.out; omega, rfl, by rw [crash_next (m := m) HJ.out.1 HCUT.out]; exact HQ2.out, HE.out.trans (Ext.trans (by repeat (first | (with_reducible exact Ext.refl _ _) | (with_reducible refine ex_dr ?_) | (with_reducible refine ex_drN ?_ _) | (with_reducible refine ex_al ?_ _) | (with_reducible refine ex_more ?_ _ _) | (with_reducible refine Ext.set ?_ _ _ _ (by first | exact rfl | exact .inl rfl | exact .inr rfl)))) HE2.out (fun _ _ h => h)) (fun _ _ h => h)⟩)
    · obtain rfl : j = s.fs.length := by omega
      have i1 : ¬ (s.fs.length : Int) < (s.fs.length : Int) := by omega
      have f1 := hq.frz 132
      have f2 := hq.frz 133
      have k1 := hq.fuse
      have k2 := hq.down
      clear hq he hj hrow
      go_wp2_with (first | ((with_reducible refine wp_region_plan (id := 9) (.fin [(false, 0), (false, 1), (false, 2), (false, 3), (false, 4), (false, 5), (false, 6), (false, 7), (false, 8), (false, 9), (false, 10), (false, 11), (false, 12), (false, 13), (false, 14), (false, 15), (false, 16)]) ?_ ?_ ?_ ?_ ?_ ?_); kernel_rfl; kernel_rfl; kernel_rfl; kernel_rfl; (intro c a d v w h; cases d <;> exact h)) | (with_reducible refine wpPlan_eff ?_) | (with_reducible refine wpPlan_fin ?_) | (with_reducible refine wpPlan_two ?_) | (with_reducible refine wpOpPair ?_ ?_) | ((with_reducible apply wpPre_keep); rfl; intro K' hK'; go_simp; refine hK' _ _ ?_; intro f hf; clear hK' K') | ((with_reducible apply wpPre_drop); rfl; intro K' hK'; go_simp; refine hK' _ _ ?_; intro f; clear hK' K') | (with_reducible refine wpPre_nil ?_) | ((with_reducible apply wpOp_list); rfl) | (with_reducible refine heldPair ?_ ?_) | ((with_reducible refine heldH_no ?_ ?_); rfl) | (with_reducible refine heldH_yes ?_ ?_) | (with_reducible exact heldH_nil) | (unfold YAt; go_simp; done))
      go_ret
      refine ⟨rfl, ?_, Ext.trans HE.out ((by repeat (first | (with_reducible exact Ext.refl _ _) | (with_reducible refine ex_dr ?_) | (with_reducible refine ex_drN ?_ _) | (with_reducible refine ex_al ?_ _) | (with_reducible refine ex_more ?_ _ _) | (with_reducible refine Ext.set ?_ _ _ _ (by first | exact rfl | exact .inl rfl | exact .inr rfl)))) : Ext (fun b => b = d) wr _) (fun _ _ h => h)⟩
      exact ((HQ.out.setFuse (by rw [crash_len]; exact HN2.out) (-1)).setDown (by rw [crash_len]; exact HN2.out) false).below (by repeat (first | (with_reducible exact Below.refl _ _) | (with_reducible exact bl_mm) | (with_reducible refine bl_dr ?_) | (with_reducible refine bl_drN ?_ _) | (with_reducible refine bl_al ?_ _) | (with_reducible refine bl_more ?_ _ _)))
end Go.Proofs.Ytnobbehoojgfcaa
