/- What the document's calls do: what is done. -/
import Derived.Test.YtnobbehoojgfcaaDkK
namespace Go.Proofs.Ytnobbehoojgfcaa
open Go.RowKit

theorem bs_take (l : List UInt8) (n : Nat) : (bs l).extract 0 n = bs (l.take n) := by
  apply ByteArray.ext
  rw [ByteArray.data_extract]
  simp [bs]
theorem keep_eq {s : DS} {i : Nat} (hi : i < s.fs.length) (n : Nat) : s.keep i n = { s with room := s.room + ((s.fs[i].b.length : Int) - n), fs := s.fs.set i ⟨s.fs[i].b.take n, n⟩ } := by unfold DS.keep; simp [hi]
set_option maxHeartbeats 1000000 in
theorem rsync_done {w : World} {r gF : Nat} {s : DS} {i : Nat} {C : Int}  (h : Rk w r gF s) (hs : s.Ok C) (hC : C ≤ 1000000000) (hdn : s.down = false) (hi : i < s.fs.length) (hf : s.fuse ≠ 0)  :
    Calls Try.prog 27 #[.pointer (some ⟨r, 0, none⟩), .int .i64 i] w fun e w' => e = .returned (.int .i64 0) ∧ Rk w' r gF (s.burn.sync i) ∧ Ext (fun b => b = r ∨ b = gF) w w' := by
  have h1 := h.down
  have h2 := h.room
  have h3 := h.f
  obtain ⟨h4, h5⟩ := h.files i hi
  obtain ⟨l1, l2⟩ := h.lt
  have n1 : (r = gF) = False := by simp only [eq_iff_iff, iff_false]; exact h.ne
  have n2 : (gF = r) = False := by simp only [eq_iff_iff, iff_false]; exact h.ne.symm
  rw [hdn] at h1
  have i1 : (i : Int) < (s.fs.length : Int) := by omega
  have i2 : (0 : Int) ≤ (i : Int) := by omega
  have hlen := hs.len (List.getElem_mem hi)
  have hrc := hs.roomC
  have hr0 := hs.room
  skip
  have HR := hid h
  have HI := hid hi
  have HS := hid hs
  have HDN := hid hdn
  have HF := hid hf
  clear h hdn hs hf hlen hrc hr0 hC
  go_enter Try.func27, Try.ntmps27
  go_wp2_with (first | ((with_reducible refine wp_region_plan (id := 7) (.eff [(false, 0), (false, 1), (false, 2), (false, 3), (false, 4), (false, 5), (false, 6), (false, 7), (false, 8), (false, 9), (false, 10), (false, 11), (false, 12), (false, 13), (false, 14), (false, 15)] 16 [] (.fin [])) ?_ ?_ ?_ ?_ ?_ ?_); kernel_rfl; kernel_rfl; kernel_rfl; kernel_rfl; (intro c a d v w h; cases d <;> exact h)) | (with_reducible refine wpPlan_eff ?_) | (with_reducible refine wpPlan_fin ?_) | (with_reducible refine wpPlan_two ?_) | (with_reducible refine wpOpPair ?_ ?_) | ((with_reducible apply wpPre_keep); rfl; intro K' hK'; go_simp; refine hK' _ _ ?_; intro f hf; clear hK' K') | ((with_reducible apply wpPre_drop); rfl; intro K' hK'; go_simp; refine hK' _ _ ?_; intro f; clear hK' K') | (with_reducible refine wpPre_nil ?_) | ((with_reducible apply wpOp_list); rfl) | (with_reducible refine heldPair ?_ ?_) | ((with_reducible refine heldH_no ?_ ?_); rfl) | (with_reducible refine heldH_yes ?_ ?_) | (with_reducible exact heldH_nil) | (unfold YAt; go_simp; done) | (go_at_call 44; refine (rhas_yes (HR.out.below (by repeat (first | (with_reducible exact Below.refl _ _) | (with_reducible exact bl_mm) | (with_reducible refine bl_dr ?_) | (with_reducible refine bl_drN ?_ _) | (with_reducible refine bl_al ?_ _) | (with_reducible refine bl_more ?_ _ _)))) i HI.out).mono ?_; rintro e w1 ⟨rfl, hb1⟩; obtain ⟨ex, dx, rfl⟩ := more_of hb1; clear hb1) | (go_at_call 45; refine (rburn_any (HR.out.below (by repeat (first | (with_reducible exact Below.refl _ _) | (with_reducible exact bl_mm) | (with_reducible refine bl_dr ?_) | (with_reducible refine bl_drN ?_ _) | (with_reducible refine bl_al ?_ _) | (with_reducible refine bl_more ?_ _ _)))) HS.out HDN.out HF.out).mono ?_; rintro e w3 ⟨rfl, f', hf', hq, he⟩; have g0 : w3.cell? ⟨r, 0, none⟩ = some (.slice (some ⟨gF, 0, none⟩) s.fs.length s.fs.length) := hq.f; have g1 : w3.cell? ⟨r, 1, none⟩ = some (.int .i64 s.room) := hq.room; have g2 : w3.cell? ⟨gF, i * 2, none⟩ = some (.string (bs (s.fs[i]'hi).b)) := (hq.files i HI.out).1; have g3 : w3.cell? ⟨gF, i * 2 + 1, none⟩ = some (.int .i64 (s.fs[i]'hi).synced) := (hq.files i HI.out).2; have g4 := (hq.frz 1).1; have g5 := (hq.frz (i * 2)).2; have g6 := (hq.frz (i * 2 + 1)).2; obtain ⟨g7, g8⟩ := hq.lt; have HQ := hid hq; have HE := hid he; have HF' := hid hf'; clear hq he hf'))
  go_ret
  refine ⟨rfl, ?_, (Ext.trans (S := fun b => b = r ∨ b = gF) (by repeat (first | (with_reducible exact Ext.refl _ _) | (with_reducible refine ex_dr ?_) | (with_reducible refine ex_drN ?_ _) | (with_reducible refine ex_al ?_ _) | (with_reducible refine ex_more ?_ _ _) | (with_reducible refine Ext.set ?_ _ _ _ (by first | exact rfl | exact .inl rfl | exact .inr rfl)))) HE.out (fun _ _ h => .inl h)).trans ((by repeat (first | (with_reducible exact Ext.refl _ _) | (with_reducible refine ex_dr ?_) | (with_reducible refine ex_drN ?_ _) | (with_reducible refine ex_al ?_ _) | (with_reducible refine ex_more ?_ _ _) | (with_reducible refine Ext.set ?_ _ _ _ (by first | exact rfl | exact .inl rfl | exact .inr rfl)))) : Ext (fun b => b = r ∨ b = gF) _ _) (fun _ _ h => h)⟩
  rw [HF'.out, sync_eq (s := { s with fuse := f' }) HI.out]
  exact (HQ.out.setSync i HI.out (s.fs[i]'hi).b.length).below (by repeat (first | (with_reducible exact Below.refl _ _) | (with_reducible exact bl_mm) | (with_reducible refine bl_dr ?_) | (with_reducible refine bl_drN ?_ _) | (with_reducible refine bl_al ?_ _) | (with_reducible refine bl_more ?_ _ _)))
theorem Rk.setFile {w : World} {r gF : Nat} {s : DS} (h : Rk w r gF s) (i : Nat) (hi : i < s.fs.length) (l : List UInt8) (n : Nat) : Rk ((w.setCell ⟨gF, i * 2, none⟩ (.string (bs l))).setCell ⟨gF, i * 2 + 1, none⟩ (.int .i64 (n : Int))) r gF { s with fs := s.fs.set i ⟨l, n⟩ } := by
  have h1 := (h.setStr i hi l).setSync i (by simpa using hi) n
  simp only [List.set_set, List.getElem_set_self] at h1
  exact h1
set_option maxHeartbeats 1000000 in
theorem rcut_done {w : World} {r gF : Nat} {s : DS} {i : Nat} {C : Int} {n : Nat} (h : Rk w r gF s) (hs : s.Ok C) (hC : C ≤ 1000000000) (hdn : s.down = false) (hi : i < s.fs.length) (hf : s.fuse ≠ 0) (hhigh : n ≤ s.fs[i].b.length) :
    Calls Try.prog 28 #[.pointer (some ⟨r, 0, none⟩), .int .i64 i, .int .i64 n] w fun e w' => e = .returned (.int .i64 0) ∧ Rk w' r gF (s.burn.keep i n) ∧ Ext (fun b => b = r ∨ b = gF) w w' := by
  have h1 := h.down
  have h2 := h.room
  have h3 := h.f
  obtain ⟨h4, h5⟩ := h.files i hi
  obtain ⟨l1, l2⟩ := h.lt
  have n1 : (r = gF) = False := by simp only [eq_iff_iff, iff_false]; exact h.ne
  have n2 : (gF = r) = False := by simp only [eq_iff_iff, iff_false]; exact h.ne.symm
  rw [hdn] at h1
  have i1 : (i : Int) < (s.fs.length : Int) := by omega
  have i2 : (0 : Int) ≤ (i : Int) := by omega
  have hlen := hs.len (List.getElem_mem hi)
  have hrc := hs.roomC
  have hr0 := hs.room
  (have j1 : ¬ (s.fs[i].b.length : Int) < (n : Int) := (by omega); have j2 : IntKind.i64.wrap (s.room + (s.fs[i].b.length : Int)) = s.room + (s.fs[i].b.length : Int) := IntWalk.i64_in _ (by omega); have j3 : IntKind.i64.wrap (s.room + (s.fs[i].b.length : Int) - (n : Int)) = s.room + ((s.fs[i].b.length : Int) - (n : Int)) := (by rw [IntWalk.i64_in _ (by omega)]; omega); have j4 := bs_take s.fs[i].b n; have j5 : (0 : Int) ≤ (n : Int) := (by omega); have j6 : (n : Int) ≤ (s.fs[i].b.length : Int) := (by omega); have j7 : decide ((n : Int) < 0) = false := (by simp); have j8 : decide (s.fs[i].b.length < n) = false := (by simpa using hhigh); have j9 : ¬ s.fs[i].b.length < n := (by omega))
  have HR := hid h
  have HI := hid hi
  have HS := hid hs
  have HDN := hid hdn
  have HF := hid hf
  clear h hdn hs hf hlen hrc hr0 hC
  go_enter Try.func28, Try.ntmps28
  go_wp2_with (first | ((with_reducible refine wp_region_plan (id := 7) (.eff [(false, 0), (false, 1), (false, 2), (false, 3), (false, 4), (false, 5), (false, 6), (false, 7), (false, 8), (false, 9), (false, 10), (false, 11), (false, 12), (false, 13), (false, 14), (false, 15), (false, 16), (false, 17), (false, 18)] 19 [] (.fin [])) ?_ ?_ ?_ ?_ ?_ ?_); kernel_rfl; kernel_rfl; kernel_rfl; kernel_rfl; (intro c a d v w h; cases d <;> exact h)) | ((with_reducible refine wp_region_plan (id := 8) (.eff [(false, 0), (false, 1), (false, 2), (false, 3), (false, 4), (false, 5), (false, 6), (false, 7), (false, 8), (false, 9), (false, 10), (false, 11), (false, 12), (false, 13), (false, 14), (false, 15), (false, 16), (false, 17)] 18 [] (.fin [])) ?_ ?_ ?_ ?_ ?_ ?_); kernel_rfl; kernel_rfl; kernel_rfl; kernel_rfl; (intro c a d v w h; cases d <;> exact h)) | (with_reducible refine wpPlan_eff ?_) | (with_reducible refine wpPlan_fin ?_) | (with_reducible refine wpPlan_two ?_) | (with_reducible refine wpOpPair ?_ ?_) | ((with_reducible apply wpPre_keep); rfl; intro K' hK'; go_simp; refine hK' _ _ ?_; intro f hf; clear hK' K') | ((with_reducible apply wpPre_drop); rfl; intro K' hK'; go_simp; refine hK' _ _ ?_; intro f; clear hK' K') | (with_reducible refine wpPre_nil ?_) | ((with_reducible apply wpOp_list); rfl) | (with_reducible refine heldPair ?_ ?_) | ((with_reducible refine heldH_no ?_ ?_); rfl) | (with_reducible refine heldH_yes ?_ ?_) | (with_reducible exact heldH_nil) | (unfold YAt; go_simp; done) | (go_at_call 44; refine (rhas_yes (HR.out.below (by repeat (first | (with_reducible exact Below.refl _ _) | (with_reducible exact bl_mm) | (with_reducible refine bl_dr ?_) | (with_reducible refine bl_drN ?_ _) | (with_reducible refine bl_al ?_ _) | (with_reducible refine bl_more ?_ _ _)))) i HI.out).mono ?_; rintro e w1 ⟨rfl, hb1⟩; obtain ⟨ex, dx, rfl⟩ := more_of hb1; clear hb1) | (go_at_call 45; refine (rburn_any (HR.out.below (by repeat (first | (with_reducible exact Below.refl _ _) | (with_reducible exact bl_mm) | (with_reducible refine bl_dr ?_) | (with_reducible refine bl_drN ?_ _) | (with_reducible refine bl_al ?_ _) | (with_reducible refine bl_more ?_ _ _)))) HS.out HDN.out HF.out).mono ?_; rintro e w3 ⟨rfl, f', hf', hq, he⟩; have g0 : w3.cell? ⟨r, 0, none⟩ = some (.slice (some ⟨gF, 0, none⟩) s.fs.length s.fs.length) := hq.f; have g1 : w3.cell? ⟨r, 1, none⟩ = some (.int .i64 s.room) := hq.room; have g2 : w3.cell? ⟨gF, i * 2, none⟩ = some (.string (bs (s.fs[i]'hi).b)) := (hq.files i HI.out).1; have g3 : w3.cell? ⟨gF, i * 2 + 1, none⟩ = some (.int .i64 (s.fs[i]'hi).synced) := (hq.files i HI.out).2; have g4 := (hq.frz 1).1; have g5 := (hq.frz (i * 2)).2; have g6 := (hq.frz (i * 2 + 1)).2; obtain ⟨g7, g8⟩ := hq.lt; have HQ := hid hq; have HE := hid he; have HF' := hid hf'; clear hq he hf'))
  go_ret
  refine ⟨rfl, ?_, (Ext.trans (S := fun b => b = r ∨ b = gF) (by repeat (first | (with_reducible exact Ext.refl _ _) | (with_reducible refine ex_dr ?_) | (with_reducible refine ex_drN ?_ _) | (with_reducible refine ex_al ?_ _) | (with_reducible refine ex_more ?_ _ _) | (with_reducible refine Ext.set ?_ _ _ _ (by first | exact rfl | exact .inl rfl | exact .inr rfl)))) HE.out (fun _ _ h => .inl h)).trans ((by repeat (first | (with_reducible exact Ext.refl _ _) | (with_reducible refine ex_dr ?_) | (with_reducible refine ex_drN ?_ _) | (with_reducible refine ex_al ?_ _) | (with_reducible refine ex_more ?_ _ _) | (with_reducible refine Ext.set ?_ _ _ _ (by first | exact rfl | exact .inl rfl | exact .inr rfl)))) : Ext (fun b => b = r ∨ b = gF) _ _) (fun _ _ h => h)⟩
  rw [HF'.out, keep_eq (s := { s with fuse := f' }) HI.out]
  exact ((HQ.out.setRoom (s.room + (((s.fs[i]'hi).b.length : Int) - (n : Int)))).setFile i HI.out ((s.fs[i]'hi).b.take n) n).below (by repeat (first | (with_reducible exact Below.refl _ _) | (with_reducible exact bl_mm) | (with_reducible refine bl_dr ?_) | (with_reducible refine bl_drN ?_ _) | (with_reducible refine bl_al ?_ _) | (with_reducible refine bl_more ?_ _ _)))
set_option maxHeartbeats 1000000 in
theorem rapp_done {w : World} {r gF : Nat} {s : DS} {i : Nat} {C : Int} {l : List UInt8} (h : Rk w r gF s) (hs : s.Ok C) (hC : C ≤ 1000000000) (hdn : s.down = false) (hi : i < s.fs.length) (hf : s.fuse ≠ 0) (hfit : (l.length : Int) ≤ s.room) :
    Calls Try.prog 32 #[.pointer (some ⟨r, 0, none⟩), .int .i64 i, .string (bs l)] w fun e w' => e = .returned (.int .i64 0) ∧ Rk w' r gF (s.burn.app i l) ∧ Ext (fun b => b = r ∨ b = gF) w w' := by
  have h1 := h.down
  have h2 := h.room
  have h3 := h.f
  obtain ⟨h4, h5⟩ := h.files i hi
  obtain ⟨l1, l2⟩ := h.lt
  have n1 : (r = gF) = False := by simp only [eq_iff_iff, iff_false]; exact h.ne
  have n2 : (gF = r) = False := by simp only [eq_iff_iff, iff_false]; exact h.ne.symm
  rw [hdn] at h1
  have i1 : (i : Int) < (s.fs.length : Int) := by omega
  have i2 : (0 : Int) ≤ (i : Int) := by omega
  have hlen := hs.len (List.getElem_mem hi)
  have hrc := hs.roomC
  have hr0 := hs.room
  (have j1 : ¬ s.room < (l.length : Int) := (by omega); have j2 : IntKind.i64.wrap (s.room - (l.length : Int)) = s.room - (l.length : Int) := IntWalk.i64_in _ (by omega); have j3 : decide (s.room < (l.length : Int)) = false := (by simpa using hfit); have j4 : ∀ W, (Op.stringOp .add (bs s.fs[i].b) (bs l)).run Try.prog W = .ok (.string (bs (s.fs[i].b ++ l))) W := fun W => (by rw [run_string_add_sum W _ _ (by rw [bs_size, bs_size]; omega), bs_append]))
  have HR := hid h
  have HI := hid hi
  have HS := hid hs
  have HDN := hid hdn
  have HF := hid hf
  clear h hdn hs hf hlen hrc hr0 hC
  go_enter Try.func32, Try.ntmps32
  go_wp2_with (first | ((with_reducible refine wp_region_plan (id := 9) (.eff [(false, 0), (false, 1), (false, 2), (false, 3), (false, 4), (false, 5), (false, 6), (false, 7), (false, 8), (false, 9), (false, 10), (false, 11), (false, 12), (false, 13), (false, 14), (false, 15), (false, 16)] 17 [] (.fin [])) ?_ ?_ ?_ ?_ ?_ ?_); kernel_rfl; kernel_rfl; kernel_rfl; kernel_rfl; (intro c a d v w h; cases d <;> exact h)) | (with_reducible refine wpPlan_eff ?_) | (with_reducible refine wpPlan_fin ?_) | (with_reducible refine wpPlan_two ?_) | (with_reducible refine wpOpPair ?_ ?_) | ((with_reducible apply wpPre_keep); rfl; intro K' hK'; go_simp; refine hK' _ _ ?_; intro f hf; clear hK' K') | ((with_reducible apply wpPre_drop); rfl; intro K' hK'; go_simp; refine hK' _ _ ?_; intro f; clear hK' K') | (with_reducible refine wpPre_nil ?_) | ((with_reducible apply wpOp_list); rfl) | (with_reducible refine heldPair ?_ ?_) | ((with_reducible refine heldH_no ?_ ?_); rfl) | (with_reducible refine heldH_yes ?_ ?_) | (with_reducible exact heldH_nil) | (unfold YAt; go_simp; done) | (go_at_call 44; refine (rhas_yes (HR.out.below (by repeat (first | (with_reducible exact Below.refl _ _) | (with_reducible exact bl_mm) | (with_reducible refine bl_dr ?_) | (with_reducible refine bl_drN ?_ _) | (with_reducible refine bl_al ?_ _) | (with_reducible refine bl_more ?_ _ _)))) i HI.out).mono ?_; rintro e w1 ⟨rfl, hb1⟩; obtain ⟨ex, dx, rfl⟩ := more_of hb1; clear hb1) | (go_at_call 45; refine (rburn_any (HR.out.below (by repeat (first | (with_reducible exact Below.refl _ _) | (with_reducible exact bl_mm) | (with_reducible refine bl_dr ?_) | (with_reducible refine bl_drN ?_ _) | (with_reducible refine bl_al ?_ _) | (with_reducible refine bl_more ?_ _ _)))) HS.out HDN.out HF.out).mono ?_; rintro e w3 ⟨rfl, f', hf', hq, he⟩; have g0 : w3.cell? ⟨r, 0, none⟩ = some (.slice (some ⟨gF, 0, none⟩) s.fs.length s.fs.length) := hq.f; have g1 : w3.cell? ⟨r, 1, none⟩ = some (.int .i64 s.room) := hq.room; have g2 : w3.cell? ⟨gF, i * 2, none⟩ = some (.string (bs (s.fs[i]'hi).b)) := (hq.files i HI.out).1; have g3 : w3.cell? ⟨gF, i * 2 + 1, none⟩ = some (.int .i64 (s.fs[i]'hi).synced) := (hq.files i HI.out).2; have g4 := (hq.frz 1).1; have g5 := (hq.frz (i * 2)).2; have g6 := (hq.frz (i * 2 + 1)).2; obtain ⟨g7, g8⟩ := hq.lt; have HQ := hid hq; have HE := hid he; have HF' := hid hf'; clear hq he hf'))
  go_ret
  refine ⟨rfl, ?_, (Ext.trans (S := fun b => b = r ∨ b = gF) (by repeat (first | (with_reducible exact Ext.refl _ _) | (with_reducible refine ex_dr ?_) | (with_reducible refine ex_drN ?_ _) | (with_reducible refine ex_al ?_ _) | (with_reducible refine ex_more ?_ _ _) | (with_reducible refine Ext.set ?_ _ _ _ (by first | exact rfl | exact .inl rfl | exact .inr rfl)))) HE.out (fun _ _ h => .inl h)).trans ((by repeat (first | (with_reducible exact Ext.refl _ _) | (with_reducible refine ex_dr ?_) | (with_reducible refine ex_drN ?_ _) | (with_reducible refine ex_al ?_ _) | (with_reducible refine ex_more ?_ _ _) | (with_reducible refine Ext.set ?_ _ _ _ (by first | exact rfl | exact .inl rfl | exact .inr rfl)))) : Ext (fun b => b = r ∨ b = gF) _ _) (fun _ _ h => h)⟩
  rw [HF'.out, app_eq (s := { s with fuse := f' }) HI.out]
  exact ((HQ.out.setStr i HI.out ((s.fs[i]'hi).b ++ l)).setRoom (s.room - (l.length : Int))).below (by repeat (first | (with_reducible exact Below.refl _ _) | (with_reducible exact bl_mm) | (with_reducible refine bl_dr ?_) | (with_reducible refine bl_drN ?_ _) | (with_reducible refine bl_al ?_ _) | (with_reducible refine bl_more ?_ _ _)))
end Go.Proofs.Ytnobbehoojgfcaa
