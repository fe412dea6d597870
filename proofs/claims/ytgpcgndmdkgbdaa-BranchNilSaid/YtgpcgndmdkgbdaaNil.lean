/- 'argosylaw.BranchNil' holds: 'Rows.BranchNilSaid', for every input, with no further condition. -/
import Derived.Test.YtgpcgndmdkgbdaaTold
import Derived.Test.YtgpcgndmdkgbdaaRows
import Derived.WalkKit
import Derived.ProofKit
import Derived.OpenShut
import Derived.ShutString
import Derived.ChangeOld
import Derived.Below
import Derived.Test.YtgpcgndmdkgbdaaGa
/- No disk: what each call answers. -/
namespace Go.Proofs.Ytgpcgndmdkgbdaa
open Go.RowKit Go.Shelf

theorem made_nil {w : World} : Calls Try.prog 35 #[.pointer none] w fun e w' => e = .returned (.bool false) ∧ Below w.heap.size w w' := by
  go_enter Try.func35, Try.ntmps35
  go_wp2
  go_ret
  exact ⟨rfl, (by repeat (first | (with_reducible exact Below.refl _ _) | (with_reducible exact bl_mm) | (with_reducible refine bl_dr ?_) | (with_reducible refine bl_drN ?_ _) | (with_reducible refine bl_al ?_ _) | (with_reducible refine bl_more ?_ _ _)))⟩
theorem files_nil {w : World} : Calls Try.prog 59 #[.pointer none] w fun e w' => e = .returned (.int .i64 0) ∧ Below w.heap.size w w' := by
  go_enter Try.func59, Try.ntmps59
  go_wp2_with (first | (go_at_call 35; refine made_nil.mono ?_; rintro e w1 ⟨rfl, hb1⟩; obtain ⟨ex1, dx1, rfl⟩ := more_of hb1; clear hb1))
  go_ret
  exact ⟨rfl, (by repeat (first | (with_reducible exact Below.refl _ _) | (with_reducible exact bl_mm) | (with_reducible refine bl_dr ?_) | (with_reducible refine bl_drN ?_ _) | (with_reducible refine bl_al ?_ _) | (with_reducible refine bl_more ?_ _ _)))⟩
theorem width_nil {w : World} : Calls Try.prog 29 #[.pointer none] w fun e w' => e = .returned (.int .i64 (-1)) ∧ Below w.heap.size w w' := by
  go_enter Try.func29, Try.ntmps29
  go_wp2_with (first | (go_at_call 59; refine files_nil.mono ?_; rintro e w1 ⟨rfl, hb1⟩; obtain ⟨ex1, dx1, rfl⟩ := more_of hb1; clear hb1))
  go_ret
  exact ⟨rfl, (by repeat (first | (with_reducible exact Below.refl _ _) | (with_reducible exact bl_mm) | (with_reducible refine bl_dr ?_) | (with_reducible refine bl_drN ?_ _) | (with_reducible refine bl_al ?_ _) | (with_reducible refine bl_more ?_ _ _)))⟩
theorem told_nil_ {w : World} : Calls Try.prog 17 #[.pointer none] w fun e w' => e = .returned (.tuple #[.string ByteArray.empty, .int .i64 1]) ∧ Below w.heap.size w w' := by
  go_enter Try.func17, Try.ntmps17
  go_wp2_with (first | ((with_reducible refine wp_region_plan (id := 11) (.two [(false, 0), (false, 1), (false, 2), (false, 3), (true, 4), (true, 8)] 5 [8] (.two [] 6 [8] (.two [] 7 [8] (.eff [] 9 [4] (.fin [(false, 10), (false, 11)])) 9 [4] (.eff [] 7 [8] (.fin [(false, 10), (false, 11)]))) 9 [4] (.eff [] 6 [8] (.eff [] 7 [8] (.fin [(false, 10), (false, 11)])))) 9 [4] (.eff [] 5 [8] (.eff [] 6 [8] (.eff [] 7 [8] (.fin [(false, 10), (false, 11)]))))) ?_ ?_ ?_ ?_ ?_ ?_); kernel_rfl; kernel_rfl; kernel_rfl; kernel_rfl; (intro c a d v w h; cases d <;> exact h)) | (with_reducible refine wpPlan_eff ?_) | (with_reducible refine wpPlan_fin ?_) | (with_reducible refine wpPlan_two ?_) | (with_reducible refine wpOpPair ?_ ?_) | ((with_reducible apply wpPre_keep); rfl; intro K' hK'; go_simp; refine hK' _ _ ?_; intro f hf; clear hK' K') | ((with_reducible apply wpPre_drop); rfl; intro K' hK'; go_simp; refine hK' _ _ ?_; intro f; clear hK' K') | (with_reducible refine wpPre_nil ?_) | ((with_reducible apply wpOp_list); rfl) | (with_reducible refine heldPair ?_ ?_) | ((with_reducible refine heldH_no ?_ ?_); rfl) | (with_reducible refine heldH_yes ?_ ?_) | (with_reducible exact heldH_nil) | (unfold YAt; go_simp; done) | (go_at_call 29; refine width_nil.mono ?_; rintro e w1 ⟨rfl, hb1⟩; obtain ⟨ex1, dx1, rfl⟩ := more_of hb1; clear hb1))
  go_ret2
  exact ⟨rfl, (by repeat (first | (with_reducible exact Below.refl _ _) | (with_reducible exact bl_mm) | (with_reducible refine bl_dr ?_) | (with_reducible refine bl_drN ?_ _) | (with_reducible refine bl_al ?_ _) | (with_reducible refine bl_more ?_ _ _)))⟩
theorem load_nil {w : World} {i : Int} : Calls Try.prog 10 #[.pointer none, .int .i64 i] w fun e w' => e = .returned (.tuple #[.slice none 0 0, .int .i64 0]) ∧ Below w.heap.size w w' := by
  by_cases hi : i < 0
  · go_enter Try.func10, Try.ntmps10
    go_wp2_with (first | ((with_reducible refine wp_region_plan (id := 8) (.eff [(true, 0), (false, 1), (false, 2), (true, 5), (true, 6)] 3 [0, 5, 6] (.eff [] 4 [5, 6] (.eff [] 7 [5, 6] (.eff [] 8 [] (.fin []))))) ?_ ?_ ?_ ?_ ?_ ?_); kernel_rfl; kernel_rfl; kernel_rfl; kernel_rfl; (intro c a d v w h; cases d <;> exact h)) | ((with_reducible refine wp_region_plan (id := 9) (.fin [(false, 0), (false, 1), (false, 2), (false, 3)]) ?_ ?_ ?_ ?_ ?_ ?_); kernel_rfl; kernel_rfl; kernel_rfl; kernel_rfl; (intro c a d v w h; cases d <;> exact h)) | (with_reducible refine wpPlan_eff ?_) | (with_reducible refine wpPlan_fin ?_) | (with_reducible refine wpPlan_two ?_) | (with_reducible refine wpOpPair ?_ ?_) | ((with_reducible apply wpPre_keep); rfl; intro K' hK'; go_simp; refine hK' _ _ ?_; intro f hf; clear hK' K') | ((with_reducible apply wpPre_drop); rfl; intro K' hK'; go_simp; refine hK' _ _ ?_; intro f; clear hK' K') | (with_reducible refine wpPre_nil ?_) | ((with_reducible apply wpOp_list); rfl) | (with_reducible refine heldPair ?_ ?_) | ((with_reducible refine heldH_no ?_ ?_); rfl) | (with_reducible refine heldH_yes ?_ ?_) | (with_reducible exact heldH_nil) | (unfold YAt; go_simp; done) | (go_at_call 29; refine width_nil.mono ?_; rintro e w1 ⟨rfl, hb1⟩; obtain ⟨ex1, dx1, rfl⟩ := more_of hb1; clear hb1))
    go_ret2
    exact ⟨rfl, (by repeat (first | (with_reducible exact Below.refl _ _) | (with_reducible exact bl_mm) | (with_reducible refine bl_dr ?_) | (with_reducible refine bl_drN ?_ _) | (with_reducible refine bl_al ?_ _) | (with_reducible refine bl_more ?_ _ _)))⟩
  · have hi2 : (-1 : Int) ≤ i := by omega
    go_enter Try.func10, Try.ntmps10
    go_wp2_with (first | ((with_reducible refine wp_region_plan (id := 8) (.eff [(true, 0), (false, 1), (false, 2), (true, 5), (true, 6)] 3 [0, 5, 6] (.eff [] 4 [5, 6] (.eff [] 7 [5, 6] (.eff [] 8 [] (.fin []))))) ?_ ?_ ?_ ?_ ?_ ?_); kernel_rfl; kernel_rfl; kernel_rfl; kernel_rfl; (intro c a d v w h; cases d <;> exact h)) | ((with_reducible refine wp_region_plan (id := 9) (.fin [(false, 0), (false, 1), (false, 2), (false, 3)]) ?_ ?_ ?_ ?_ ?_ ?_); kernel_rfl; kernel_rfl; kernel_rfl; kernel_rfl; (intro c a d v w h; cases d <;> exact h)) | (with_reducible refine wpPlan_eff ?_) | (with_reducible refine wpPlan_fin ?_) | (with_reducible refine wpPlan_two ?_) | (with_reducible refine wpOpPair ?_ ?_) | ((with_reducible apply wpPre_keep); rfl; intro K' hK'; go_simp; refine hK' _ _ ?_; intro f hf; clear hK' K') | ((with_reducible apply wpPre_drop); rfl; intro K' hK'; go_simp; refine hK' _ _ ?_; intro f; clear hK' K') | (with_reducible refine wpPre_nil ?_) | ((with_reducible apply wpOp_list); rfl) | (with_reducible refine heldPair ?_ ?_) | ((with_reducible refine heldH_no ?_ ?_); rfl) | (with_reducible refine heldH_yes ?_ ?_) | (with_reducible exact heldH_nil) | (unfold YAt; go_simp; done) | (go_at_call 29; refine width_nil.mono ?_; rintro e w1 ⟨rfl, hb1⟩; obtain ⟨ex1, dx1, rfl⟩ := more_of hb1; clear hb1))
    go_ret2
    exact ⟨rfl, (by repeat (first | (with_reducible exact Below.refl _ _) | (with_reducible exact bl_mm) | (with_reducible refine bl_dr ?_) | (with_reducible refine bl_drN ?_ _) | (with_reducible refine bl_al ?_ _) | (with_reducible refine bl_more ?_ _ _)))⟩
theorem open_nil {w : World} : Calls Try.prog 18 #[.pointer none] w fun e w' => e = .returned (.tuple #[.slice none 0 0, .int .i64 1]) ∧ Below w.heap.size w w' := by
  go_enter Try.func18, Try.ntmps18
  go_wp2_with (first | (go_at_call 29; refine width_nil.mono ?_; rintro e w1 ⟨rfl, hb1⟩; obtain ⟨ex1, dx1, rfl⟩ := more_of hb1; clear hb1))
  go_ret2
  exact ⟨rfl, (by repeat (first | (with_reducible exact Below.refl _ _) | (with_reducible exact bl_mm) | (with_reducible refine bl_dr ?_) | (with_reducible refine bl_drN ?_ _) | (with_reducible refine bl_al ?_ _) | (with_reducible refine bl_more ?_ _ _)))⟩
theorem keep_nil {w : World} {i n : Int} : Calls Try.prog 21 #[.pointer none, .int .i64 i, .int .i64 n] w fun e w' => e = .returned (.int .i64 1) ∧ Below w.heap.size w w' := by
  go_enter Try.func21, Try.ntmps21
  go_wp2_with (first | ((with_reducible refine wp_region_plan (id := 11) (.eff [(false, 0), (false, 1), (true, 2), (true, 3)] 4 [2, 3] (.eff [] 5 [] (.fin []))) ?_ ?_ ?_ ?_ ?_ ?_); kernel_rfl; kernel_rfl; kernel_rfl; kernel_rfl; (intro c a d v w h; cases d <;> exact h)) | (with_reducible refine wpPlan_eff ?_) | (with_reducible refine wpPlan_fin ?_) | (with_reducible refine wpPlan_two ?_) | (with_reducible refine wpOpPair ?_ ?_) | ((with_reducible apply wpPre_keep); rfl; intro K' hK'; go_simp; refine hK' _ _ ?_; intro f hf; clear hK' K') | ((with_reducible apply wpPre_drop); rfl; intro K' hK'; go_simp; refine hK' _ _ ?_; intro f; clear hK' K') | (with_reducible refine wpPre_nil ?_) | ((with_reducible apply wpOp_list); rfl) | (with_reducible refine heldPair ?_ ?_) | ((with_reducible refine heldH_no ?_ ?_); rfl) | (with_reducible refine heldH_yes ?_ ?_) | (with_reducible exact heldH_nil) | (unfold YAt; go_simp; done) | (go_at_call 29; refine width_nil.mono ?_; rintro e w1 ⟨rfl, hb1⟩; obtain ⟨ex1, dx1, rfl⟩ := more_of hb1; clear hb1))
  go_ret
  exact ⟨rfl, (by repeat (first | (with_reducible exact Below.refl _ _) | (with_reducible exact bl_mm) | (with_reducible refine bl_dr ?_) | (with_reducible refine bl_drN ?_ _) | (with_reducible refine bl_al ?_ _) | (with_reducible refine bl_more ?_ _ _)))⟩
theorem begin_nil {w : World} {t : ByteArray} : Calls Try.prog 15 #[.pointer none, .string t] w fun e w' => e = .returned (.int .i64 1) ∧ Below w.heap.size w w' := by
  go_enter Try.func15, Try.ntmps15
  go_wp2_with (first | (go_at_call 29; refine width_nil.mono ?_; rintro e w1 ⟨rfl, hb1⟩; obtain ⟨ex1, dx1, rfl⟩ := more_of hb1; clear hb1) | (go_at_call 17; refine told_nil_.mono ?_; rintro e w2 ⟨rfl, hb2⟩; obtain ⟨ex2, dx2, rfl⟩ := more_of hb2; clear hb2))
  go_ret
  exact ⟨rfl, (by repeat (first | (with_reducible exact Below.refl _ _) | (with_reducible exact bl_mm) | (with_reducible refine bl_dr ?_) | (with_reducible refine bl_drN ?_ _) | (with_reducible refine bl_al ?_ _) | (with_reducible refine bl_more ?_ _ _)))⟩
theorem append_nil {w : World} {i k it t : Int} {v : Value} : Calls Try.prog 22 #[.pointer none, .int .i64 i, evV k it t v] w fun e w' => e = .returned (.int .i64 1) ∧ Below w.heap.size w w' := by
  unfold evV
  go_enter Try.func22, Try.ntmps22
  go_wp2_with (first | (go_at_call 29; refine width_nil.mono ?_; rintro e w1 ⟨rfl, hb1⟩; obtain ⟨ex1, dx1, rfl⟩ := more_of hb1; clear hb1))
  go_ret
  exact ⟨rfl, (by repeat (first | (with_reducible exact Below.refl _ _) | (with_reducible exact bl_mm) | (with_reducible refine bl_dr ?_) | (with_reducible refine bl_drN ?_ _) | (with_reducible refine bl_al ?_ _) | (with_reducible refine bl_more ?_ _ _)))⟩
end Go.Proofs.Ytgpcgndmdkgbdaa

/- BranchNil: no disk, and a disk of one file. -/
namespace Go.Proofs.Ytgpcgndmdkgbdaa
open Go.RowKit Go.Shelf

theorem sync_two {s : DS} (h1 : s.down = false) (h2 : 0 < s.fs.length) (h3 : s.fuse ≠ 0) : (syncR s ((0 : Nat) : Int)).2 = 0 := by
  unfold syncR doW
  rw [if_neg (by simp [h1]), if_neg (by omega), if_neg (by simp), if_neg h3]
theorem one_begin {text : ByteArray} (ht : text.size ≤ 1000) : ∃ s, beginS { fs := fs0 1, room := 5000, fuse := -1, down := false } text = (s, 0) := by
  have hl : (laidL text).length ≤ 1012 := by
    have : (laidL text).length ≤ text.size + 6 * ((text.size + 999) / 1000 + 1) := pc_size (text.size + 1) text (by omega)
    omega
  have e0 : fileB { fs := fs0 1, room := 5000, fuse := -1, down := false } 0 = [] := rfl
  unfold beginS
  rw [if_neg (by omega), show ({ fs := fs0 1, room := 5000, fuse := -1, down := false } : DS).fs.length - 1 = 0 from rfl, e0, told_nil, if_neg (by simp), if_pos rfl]
  unfold putS
  have e : appR { fs := fs0 1, room := 5000, fuse := -1, down := false } ((0 : Nat) : Int) (ofI (laidL text)) = ({ fs := [⟨ofI (laidL text), 0⟩], room := 5000 - (laidL text).length, fuse := -1, down := false }, 0) := by
    unfold appR doW
    rw [if_neg (by simp), if_neg (by simp [fs0]), if_neg (by simp only [ofI_len]; rw [if_neg (by omega)]; simp), if_neg (by simp)]
    congr 1
    show (DS.burn _).app 0 _ = _
    rw [burn_no (by simp)]
    unfold DS.app
    simp [fs0, ofI_len]
  rw [e, if_neg (by simp)]
  exact ⟨_, Prod.ext rfl (sync_two rfl (by simp) (by simp))⟩
theorem hold_then {w W w7 : World} {d : Nat} {s : DS} (hd : d = W.heap.size) (hk : Dk w7 d (fun _ => False) s) (hb : Below W.heap.size W w7) (hlt : w.heap.size < W.heap.size) (h : Below w.heap.size w W) : Hold w.heap.size w d s (fun b => b = w.heap.size) w7 :=
  ⟨⟨fun _ => False, hk, fun _ h => h.elim, fun b hb' => ⟨by have := hb.size; omega, by omega, fun h => h⟩⟩, by omega, bl_then h hb⟩
set_option maxRecDepth 8000 in
set_option maxHeartbeats 4000000 in
theorem nil_any {w : World} {k it t i : Int} {v : Value} {st : List Int} {text : ByteArray} (h : intE.Row (fun b => b < w.heap.size) w v st) : Calls Try.prog 6 #[evV k it t v, .int .i64 i, .string text] w fun e w' => e = .returned (.bool true) ∧ Below w.heap.size w w' := by
  obtain ⟨A, c, rfl, _, _⟩ := h.form
  have HR := hid h
  by_cases h1 : text.size ≤ 1000
  · by_cases h2 : st.length ≤ 200
    · have g1 : ¬ (1000 : Int) < (text.size : Int) := by omega
      have g2 : ¬ (200 : Int) < (st.length : Int) := by omega
      have hs : ({ fs := fs0 1, room := 5000, fuse := -1, down := false } : DS).Ok 5000 := ⟨by simp, by simp [DS.tot, bytes, fs0], by simp [fs0], by simp [fs0], by simp [fs0], by simp, by simp⟩
      obtain ⟨s, hse⟩ : ∃ s, ({ fs := fs0 1, room := 5000, fuse := -1, down := false } : DS) = s := ⟨_, rfl⟩
      have ho : openS ({ fs := fs0 1, room := 5000, fuse := -1, down := false } : DS) = ({ fs := fs0 1, room := 5000, fuse := -1, down := false }, [], 0) := rfl
      have hap : appB ({ fs := fs0 1, room := 5000, fuse := -1, down := false } : DS) i (k, it, t, st) = ({ fs := fs0 1, room := 5000, fuse := -1, down := false }, 2) := appB_bad (n := 0) rfl (by omega)
      obtain ⟨s2, hbg⟩ := one_begin h1
      rw [hse] at hs ho hap hbg
      have HSE := hid hse
      have HS := hid hs
      have HO := hid ho
      have HAP := hid hap
      have HBG := hid hbg
      have HTX : Hid (text.size ≤ 100000000) := hid (by omega)
      have HSL : Hid (st.length ≤ 4000000000) := hid (by omega)
      have M1 := hid trivial
      have M2 := hid trivial
      have M3 := hid trivial
      clear h h1 h2 hse hs ho hap hbg
      unfold evV
      go_enter Try.func6, Try.ntmps6
      go_upto_region 8 with (first | (go_at_call 17; refine told_nil_.mono ?_; rintro e w1 ⟨rfl, hb1⟩; obtain ⟨ex1, dx1, rfl⟩ := more_of hb1; clear hb1) | (go_at_call 10; refine load_nil.mono ?_; rintro e w2 ⟨rfl, hb2⟩; obtain ⟨ex2, dx2, rfl⟩ := more_of hb2; clear hb2) | (go_at_call 18; clear M1; refine open_nil.mono ?_; rintro e w3 ⟨rfl, hb3⟩; obtain ⟨ex3, dx3, rfl⟩ := more_of hb3; clear hb3) | (go_at_call 21; refine keep_nil.mono ?_; rintro e w4 ⟨rfl, hb4⟩; obtain ⟨ex4, dx4, rfl⟩ := more_of hb4; clear hb4) | (go_at_call 15; clear M2; refine begin_nil.mono ?_; rintro e w5 ⟨rfl, hb5⟩; obtain ⟨ex5, dx5, rfl⟩ := more_of hb5; clear hb5) | (go_at_call 22; clear M3; refine append_nil.mono ?_; rintro e w6 ⟨rfl, hb6⟩; obtain ⟨ex6, dx6, rfl⟩ := more_of hb6; clear hb6))
      go_wp2_with (first | (go_at_call 23; refine (new_any (G := fun _ => False) (n := 1) (r := 5000) (by omega) (by omega) (by omega) (by omega)).mono ?_; rintro e w7 ⟨d, rfl, hd, hdk, hb7⟩; rw [HSE.out] at hdk; have HH7 := hid (hold_then (w := w) hd hdk hb7 (by first | (simp [more_size]; done) | (simp [more_size]; omega)) (by repeat (first | (with_reducible exact Below.refl _ _) | (with_reducible exact bl_mm) | (with_reducible refine bl_dr ?_) | (with_reducible refine bl_drN ?_ _) | (with_reducible refine bl_al ?_ _) | (with_reducible refine bl_more ?_ _ _)))); obtain ⟨ex7, dx7, rfl⟩ := more_of hb7; clear hd hdk hb7) | (go_at_call 18; refine ((open_at (HH7.out.below (by repeat (first | (with_reducible exact Below.refl _ _) | (with_reducible exact bl_mm) | (with_reducible refine bl_dr ?_) | (with_reducible refine bl_drN ?_ _) | (with_reducible refine bl_al ?_ _) | (with_reducible refine bl_more ?_ _ _)))) HS.out (by omega) HO.out)).mono ?_; rintro e w8 ⟨v8, R8, rfl, hh8, _, hr8, he8⟩; have p0 : w8.cell? ⟨w.heap.size, 0, none⟩ = some (.int .i64 k) := (World.cell?_of_block (he8.block w.heap.size (by first | (simp [more_size]; done) | (simp [more_size]; omega)) (fun hx => hx.1 rfl))).trans (by go_simp); have p1 : w8.cell? ⟨w.heap.size, 1, none⟩ = some (.int .i64 it) := (World.cell?_of_block (he8.block w.heap.size (by first | (simp [more_size]; done) | (simp [more_size]; omega)) (fun hx => hx.1 rfl))).trans (by go_simp); have p2 : w8.cell? ⟨w.heap.size, 2, none⟩ = some (.int .i64 t) := (World.cell?_of_block (he8.block w.heap.size (by first | (simp [more_size]; done) | (simp [more_size]; omega)) (fun hx => hx.1 rfl))).trans (by go_simp); have p3 : w8.cell? ⟨w.heap.size, 3, none⟩ = some (.slice A st.length c) := (World.cell?_of_block (he8.block w.heap.size (by first | (simp [more_size]; done) | (simp [more_size]; omega)) (fun hx => hx.1 rfl))).trans (by go_simp); have y8 : w.heap.size < w8.heap.size := Nat.lt_of_lt_of_le (by first | (simp [more_size]; done) | (simp [more_size]; omega)) he8.size; obtain ⟨A8, c8, rfl, _, _⟩ := hr8.form; have HH8 := hid hh8; clear hh8 hr8 he8) | (go_at_call 22; refine ((HH8.out.below (by repeat (first | (with_reducible exact Below.refl _ _) | (with_reducible exact bl_mm) | (with_reducible refine bl_dr ?_) | (with_reducible refine bl_drN ?_ _) | (with_reducible refine bl_al ?_ _) | (with_reducible refine bl_more ?_ _ _)))).op HAP.out (fun G hD => bapp_any hD HS.out (by omega) (HR.out.below (bl_then HH8.out.low (by repeat (first | (with_reducible exact Below.refl _ _) | (with_reducible exact bl_mm) | (with_reducible refine bl_dr ?_) | (with_reducible refine bl_drN ?_ _) | (with_reducible refine bl_al ?_ _) | (with_reducible refine bl_more ?_ _ _))))) (fun _ hb => Nat.lt_of_lt_of_le hb (bl_then (w1 := _) HH8.out.low (by repeat (first | (with_reducible exact Below.refl _ _) | (with_reducible exact bl_mm) | (with_reducible refine bl_dr ?_) | (with_reducible refine bl_drN ?_ _) | (with_reducible refine bl_al ?_ _) | (with_reducible refine bl_more ?_ _ _)))).size) HSL.out)).mono ?_; rintro e w9 ⟨rfl, hh9, _⟩; have HH9 := hid hh9; clear hh9) | (go_at_call 15; refine ((HH9.out.below (by repeat (first | (with_reducible exact Below.refl _ _) | (with_reducible exact bl_mm) | (with_reducible refine bl_dr ?_) | (with_reducible refine bl_drN ?_ _) | (with_reducible refine bl_al ?_ _) | (with_reducible refine bl_more ?_ _ _)))).op HBG.out (fun G hD => begin_any hD HS.out (by omega) HTX.out)).mono ?_; rintro e w10 ⟨rfl, hh10, _⟩; have HH10 := hid hh10; clear hh10) | (go_at_call 8; refine lives_any.mono ?_; rintro e wl ⟨rfl, hbl⟩; obtain ⟨exl, dxl, rfl⟩ := more_of hbl; clear hbl))
      go_ret
      exact ⟨rfl, bl_then HH10.out.low (by repeat (first | (with_reducible exact Below.refl _ _) | (with_reducible exact bl_mm) | (with_reducible refine bl_dr ?_) | (with_reducible refine bl_drN ?_ _) | (with_reducible refine bl_al ?_ _) | (with_reducible refine bl_more ?_ _ _)))⟩
    · have g1 : ¬ (1000 : Int) < (text.size : Int) := by omega
      have g2 : (200 : Int) < (st.length : Int) := by omega
      clear h h1 h2
      unfold evV
      go_enter Try.func6, Try.ntmps6
      go_wp2_with (first | (go_at_call 8; refine lives_any.mono ?_; rintro e wl ⟨rfl, hbl⟩; obtain ⟨exl, dxl, rfl⟩ := more_of hbl; clear hbl))
      go_ret
      exact ⟨rfl, (by repeat (first | (with_reducible exact Below.refl _ _) | (with_reducible exact bl_mm) | (with_reducible refine bl_dr ?_) | (with_reducible refine bl_drN ?_ _) | (with_reducible refine bl_al ?_ _) | (with_reducible refine bl_more ?_ _ _)))⟩
  · have g1 : (1000 : Int) < (text.size : Int) := by omega
    clear h h1
    unfold evV
    go_enter Try.func6, Try.ntmps6
    go_wp2_with (first | (go_at_call 8; refine lives_any.mono ?_; rintro e wl ⟨rfl, hbl⟩; obtain ⟨exl, dxl, rfl⟩ := more_of hbl; clear hbl))
    go_ret
    exact ⟨rfl, (by repeat (first | (with_reducible exact Below.refl _ _) | (with_reducible exact bl_mm) | (with_reducible refine bl_dr ?_) | (with_reducible refine bl_drN ?_ _) | (with_reducible refine bl_al ?_ _) | (with_reducible refine bl_more ?_ _ _)))⟩
theorem nil_ev {w : World} {cs : Array Value} {e : Ev} {i : Int} {text : ByteArray} (h : evE.rd (fun _ => True) w e cs.toList) : Calls Try.prog 6 #[.agg cs, .int .i64 i, .string text] w fun e w' => e = .returned (.bool true) ∧ Below w.heap.size w w' := by
  obtain ⟨l, hl⟩ : ∃ l, cs.toList = l := ⟨_, rfl⟩
  rw [hl] at h
  obtain ⟨c1, c2, rfl, h1, c3, c4, rfl, h2, c5, c6, rfl, h3, v, rfl, hv⟩ := h
  have e1 : c1 = [.int .i64 e.1] := h1
  have e2 : c3 = [.int .i64 e.2.1] := h2
  have e3 : c5 = [.int .i64 e.2.2.1] := h3
  subst e1; subst e2; subst e3
  have hcs : cs = #[.int .i64 e.1, .int .i64 e.2.1, .int .i64 e.2.2.1, v] := by
    apply Array.toList_inj.1
    rw [hl]
    rfl
  subst hcs
  exact nil_any (hv.bound.mono (fun _ h _ => h.2))
end Go.Proofs.Ytgpcgndmdkgbdaa

/- 'argosylaw.BranchNil' holds: 'Rows.BranchNilSaid', for every input, with no further condition. -/
namespace Go.Proofs.Ytgpcgndmdkgbdaa.branchNil
open Go.ChangeShapes Go.WideShapes Go.ChangeAt Go.RowKit
open Go.ChangeMaps (open_string shut_string)

theorem own : ownKnob Try.prog.godebug = none := by kernel_rfl
theorem laidOut : laidOutB Try.prog = true := by kernel_rfl

set_option maxRecDepth 100000 in
theorem lifted (os : Os) (started : os.Started) (H : Type) (enc : TypeId × Value → H) :
    ReturnsInHanded {} Try.checked os 6 .any (Rows.branchNilSpec.pre6 enc Try.prog Try.f6 Rows.branchNilRow.domain false) (Rows.branchNilSpec.post enc Try.prog Try.f6 false true false false) := by
  refine returnsInHanded_of_change (C := Try.checked) own started (by kernel_rfl) Try.func6
    (ChangeSpec.witness6 (enc := enc) (C := Try.checked) false ⟨#[], #[.agg #[.int .i64 0, .int .i64 0, .int .i64 0, .slice none 0 0], .int .i64 0, .string ByteArray.empty], []⟩ 8 (by kernel_rfl) (by kernel_rfl) (by kernel_rfl) (by kernel_rfl)) ?_
  intro W base args ds gs before hval0 hW _ _
  have hval : ∀ (j : Nat) t v, Try.f6.params[j]? = some t → args[j]? = some v → Value.okWide Try.prog W .any base t v := hval0
  have hW' := hW
  obtain ⟨p, q, hA0, hV, rfl, _, _⟩ := hW
  have hA : DataW.TrodAll enc Try.prog W 0 (fun _ => true) true Try.f6.params.toList args.toList ds p := hA0
  rw [Try.params6] at hA hval
  obtain ⟨v0, vs0, d0, ds0, p0, q0, hargs, rfl, rfl, h0, r_0⟩ := trodAll_cons hA
  obtain ⟨v1, vs1, d1, ds1, p1, q1, rfl, rfl, rfl, h1, r_1⟩ := trodAll_cons r_0
  obtain ⟨v2, vs2, d2, ds2, p2, q2, rfl, rfl, rfl, h2, r_2⟩ := trodAll_cons r_1
  obtain ⟨rfl, rfl, rfl⟩ := trodAll_nil r_2
  obtain rfl : args = #[v0, v1, v2] := by cases args; simp_all
  obtain ⟨rfl, rfl⟩ := trodVars_none hV
  obtain ⟨c0, rfl, _⟩ := okWide_struct Try.underlying52 (hval 0 52 v0 rfl rfl)
  have k0 := h0
  have lt0 : ∀ x ∈ p0, x.block < W.heap.size := by obtain ⟨m, hm⟩ := k0; exact DataW.trod_lt m _ _ _ hm
  obtain ⟨x0, g0, r0⟩ := Opens.agg ev_op h0
  obtain ⟨a1, rfl, rfl, rfl, w1⟩ := open_int Try.underlying3 (hval 1 3 v1 rfl rfl) h1
  obtain ⟨a2, rfl, rfl, rfl, w2⟩ := open_string Try.underlying9 (hval 2 9 v2 rfl rfl) h2
  clear hA0 hval0
  refine (nil_ev r0).mono fun e W' ⟨he, bel⟩ => ?_
  subst he
  exact ⟨_, rfl, _, _, _, [], _, [], hW', trodAll_mk1 (shut_bool Try.underlying4 _), (trodAll_cons_mk (Below.trod laidOut (by kernel_rfl) (of_decide_eq_true (by kernel_rfl)) k0 bel lt0) (trodAll_cons_mk (shut_int Try.underlying3 w1) (trodAll_cons_mk (shut_string Try.underlying9 w2) trodAll_mk0))), rfl, bel.frame _, fun h => by cases h⟩

theorem over : Rows.branchNilRow.holds Try.pinned (OpenSpec.ofChange Rows.branchNilSpec) :=
  OpenClaim.holds_of_wide 6 Try.f6 rfl rfl rfl rfl rfl rfl rfl ⟨rfl, rfl, rfl, rfl, rfl⟩ rfl rfl rfl rfl rfl (by kernel_rfl) Try.func6 (by kernel_rfl)
    (of_decide_eq_true (by kernel_rfl)) (by unfold Func.isWrapper; first | (rw [if_pos (by decide +kernel)]; kernel_rfl) | (rw [if_neg (by decide +kernel)]; exact ⟨rfl, rfl⟩))
    (fun os started H enc _ => lifted os started H enc)
end Go.Proofs.Ytgpcgndmdkgbdaa.branchNil
namespace Go.Proofs.Ytgpcgndmdkgbdaa
theorem branchNil_proved : Rows.BranchNilSaid := branchNil.over
#print axioms branchNil_proved
end Go.Proofs.Ytgpcgndmdkgbdaa
