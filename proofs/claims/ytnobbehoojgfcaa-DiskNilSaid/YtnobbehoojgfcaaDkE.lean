/- What a disk's calls do: what is done. -/
import Derived.Test.YtnobbehoojgfcaaDkD
namespace Go.Proofs.Ytnobbehoojgfcaa
open Go.RowKit

def DS.burn (s : DS) : DS := if 0 < s.fuse then { s with fuse := s.fuse - 1 } else s
def DS.sync (s : DS) (i : Nat) : DS := { s with fs := s.fs.set i ⟨(s.fs.getD i ⟨[], 0⟩).b, (s.fs.getD i ⟨[], 0⟩).b.length⟩ }
def DS.app (s : DS) (i : Nat) (l : List UInt8) : DS := { s with fs := s.fs.set i ⟨(s.fs.getD i ⟨[], 0⟩).b ++ l, (s.fs.getD i ⟨[], 0⟩).synced⟩, room := s.room - l.length }
theorem Dk.setSync {w : World} {d : Nat} {G : Nat → Prop} {s : DS} (h : Dk w d G s) (hn : s.fs.length ≤ 65) (i : Nat) (hi : i < s.fs.length) (k : Nat) :
    Dk (w.setCell ⟨d, i * 2 + 1, none⟩ (.int .i64 (k : Int))) d G { s with fs := s.fs.set i ⟨s.fs[i].b, k⟩ } := by
  obtain ⟨g, ⟨v, h1, h2, h3, h4⟩, hput⟩ := h.take i hi
  have hE : Ext (fun b => b = d) w (w.setCell ⟨d, i * 2 + 1, none⟩ (.int .i64 (k : Int))) := (by repeat (first | (with_reducible exact Ext.refl _ _) | (with_reducible refine ex_dr ?_) | (with_reducible refine ex_drN ?_ _) | (with_reducible refine ex_al ?_ _) | (with_reducible refine ex_more ?_ _ _) | (with_reducible refine Ext.set ?_ _ _ _ (by first | exact rfl | exact .inl rfl | exact .inr rfl))))
  refine hput _ _ g _ _ _ _ (fun _ h _ => h) (hE.mono (fun _ _ h => .inl h)) (fun o ho h1 h2 => cell_off (fun e => h2 e.symm)) (blk_set h.blk) ((cell_off (by omega)).trans h.n) ((cell_off (by omega)).trans h.room) ((cell_off (by omega)).trans h.fuse) ((cell_off (by omega)).trans h.down) ?_ (.inl rfl) hn
  refine ⟨v, (cell_off (by omega)).trans h1, World.cell?_setCell_same (h := h2) .., ?_, h4.imp id (fun h => ⟨h.1, by simpa using h.2⟩)⟩
  by_cases hc : capOf v = 0
  · exact h3.empty hc
  · refine h3.step (fun cur hcur => ?_) (fun b hb _ => hb.elim)
    have hne : g ≠ d := fun e => hc (spine_not_d h.blk (e ▸ h3))
    rw [Below.heap_setCell _ _ _ _ hne]; exact hcur
theorem sync_eq {s : DS} {i : Nat} (hi : i < s.fs.length) : s.sync i = { s with fs := s.fs.set i ⟨s.fs[i].b, s.fs[i].b.length⟩ } := by unfold DS.sync; simp [hi]

theorem burn_yes {s : DS} (h : 0 < s.fuse) : s.burn = { s with fuse := s.fuse - 1 } := if_pos h
theorem burn_no {s : DS} (h : s.fuse < 0) : s.burn = s := if_neg (by omega)

set_option maxHeartbeats 1000000 in
theorem sync_burn {w : World} {d : Nat} {G : Nat → Prop} {s : DS} {i : Nat} {C : Int}  (h : Dk w d G s) (hs : s.Ok C) (hC : C ≤ 1000000000000) (hdn : s.down = false) (hi : i < s.fs.length) (hf : 0 < s.fuse)  :
    Calls Try.prog 22 #[.pointer (some ⟨d, 0, none⟩), .int .i64 i] w fun e w' => e = .returned (.int .i64 0) ∧ Dk w' d G (s.burn.sync i) ∧ Ext (fun b => b = d) w w' := by
  have h1 := h.down
  have h2 := h.room
  have k3 := h.fuse
  have f1 := h.frz 132
  have f2 := h.frz (i * 2 + 1)
  obtain ⟨g, ⟨v, c1, c2, h3, h4⟩, _⟩ := h.take i hi
  obtain ⟨A, c, rfl, h5, h6⟩ := h3.form
  have hd := h.lt
  rw [hdn] at h1
  have hn : 1 ≤ s.fs.length := by omega
  have hm : True := trivial
  have i1 : (0 : Int) ≤ (i : Int) := by omega
  have i2 : (i : Int) < 65 := by have := hs.n2; omega
  have j1 : (s.fuse == 0) = false := by simp; omega
  have j3 : 0 < s.fuse := hf
  have j2 : IntKind.i64.wrap (s.fuse - 1) = s.fuse - 1 := IntWalk.i64_in _ (by have := hs.fuse1; have := hs.fuse2; omega)
  obtain ⟨x0, x1, x2, x3, x4, x5, x6, x7, x8, x9, x10, x11, x12, x13, x14, x15⟩ := offs hi hs.n2
  have HD := hid h
  have HN := hid hn
  have HI := hid hi
  have HN65 := hid hs.n2
  have HO := hid hs
  have HC := hid hC
  have HM := hid hm
  have HF := hid hf
  clear h hn hdn h3 h4 h5 h6 hf hs hC hm
  have HO2 : Hid (0 < s.fuse → DS.Ok { s with fuse := s.fuse - 1 } C) := hid (fun hp => ⟨HO.out.room, HO.out.tot, HO.out.n1, HO.out.n2, HO.out.sync, by show -1 ≤ s.fuse - 1; omega, by have := HO.out.fuse2; show s.fuse - 1 ≤ _; omega⟩)
  go_enter Try.func22, Try.ntmps22
  go_wp2_with (first | (go_at_call 38; go_in) | (go_at_call 35; refine (made_any (HD.out.below (by repeat (first | (with_reducible exact Below.refl _ _) | (with_reducible exact bl_mm) | (with_reducible refine bl_dr ?_) | (with_reducible refine bl_drN ?_ _) | (with_reducible refine bl_al ?_ _) | (with_reducible refine bl_more ?_ _ _)))) HN.out).mono ?_; rintro e w1 ⟨rfl, hb1⟩; obtain ⟨ex, dx, rfl⟩ := more_of hb1; clear hb1) | (go_at_call 33; refine (has_yes (HD.out.below (by repeat (first | (with_reducible exact Below.refl _ _) | (with_reducible exact bl_mm) | (with_reducible refine bl_dr ?_) | (with_reducible refine bl_drN ?_ _) | (with_reducible refine bl_al ?_ _) | (with_reducible refine bl_more ?_ _ _)))) i HI.out).mono ?_; rintro e w1 ⟨rfl, hb1⟩; obtain ⟨ex, dx, rfl⟩ := more_of hb1; clear hb1) | (go_at_call 40; go_in) | (go_at_call 41; go_in))
  go_ret
  exact ⟨rfl, by rw [burn_yes HF.out, sync_eq (s := { s with fuse := s.fuse - 1 }) HI.out]; exact ((HD.out.setFuse HN65.out (s.fuse - 1)).setSync HN65.out i HI.out _).below (by repeat (first | (with_reducible exact Below.refl _ _) | (with_reducible exact bl_mm) | (with_reducible refine bl_dr ?_) | (with_reducible refine bl_drN ?_ _) | (with_reducible refine bl_al ?_ _) | (with_reducible refine bl_more ?_ _ _))), (by repeat (first | (with_reducible exact Ext.refl _ _) | (with_reducible refine ex_dr ?_) | (with_reducible refine ex_drN ?_ _) | (with_reducible refine ex_al ?_ _) | (with_reducible refine ex_more ?_ _ _) | (with_reducible refine Ext.set ?_ _ _ _ (by first | exact rfl | exact .inl rfl | exact .inr rfl))))⟩
set_option maxHeartbeats 1000000 in
theorem sync_bare {w : World} {d : Nat} {G : Nat → Prop} {s : DS} {i : Nat} {C : Int}  (h : Dk w d G s) (hs : s.Ok C) (hC : C ≤ 1000000000000) (hdn : s.down = false) (hi : i < s.fs.length) (hf : s.fuse < 0)  :
    Calls Try.prog 22 #[.pointer (some ⟨d, 0, none⟩), .int .i64 i] w fun e w' => e = .returned (.int .i64 0) ∧ Dk w' d G (s.burn.sync i) ∧ Ext (fun b => b = d) w w' := by
  have h1 := h.down
  have h2 := h.room
  have k3 := h.fuse
  have f1 := h.frz 132
  have f2 := h.frz (i * 2 + 1)
  obtain ⟨g, ⟨v, c1, c2, h3, h4⟩, _⟩ := h.take i hi
  obtain ⟨A, c, rfl, h5, h6⟩ := h3.form
  have hd := h.lt
  rw [hdn] at h1
  have hn : 1 ≤ s.fs.length := by omega
  have hm : True := trivial
  have i1 : (0 : Int) ≤ (i : Int) := by omega
  have i2 : (i : Int) < 65 := by have := hs.n2; omega
  have j1 : (s.fuse == 0) = false := by simp; omega
  have j3 : s.fuse < 0 := hf
  have j2 : IntKind.i64.wrap (s.fuse - 1) = s.fuse - 1 := IntWalk.i64_in _ (by have := hs.fuse1; have := hs.fuse2; omega)
  obtain ⟨x0, x1, x2, x3, x4, x5, x6, x7, x8, x9, x10, x11, x12, x13, x14, x15⟩ := offs hi hs.n2
  have HD := hid h
  have HN := hid hn
  have HI := hid hi
  have HN65 := hid hs.n2
  have HO := hid hs
  have HC := hid hC
  have HM := hid hm
  have HF := hid hf
  clear h hn hdn h3 h4 h5 h6 hf hs hC hm
  have HO2 : Hid (0 < s.fuse → DS.Ok { s with fuse := s.fuse - 1 } C) := hid (fun hp => ⟨HO.out.room, HO.out.tot, HO.out.n1, HO.out.n2, HO.out.sync, by show -1 ≤ s.fuse - 1; omega, by have := HO.out.fuse2; show s.fuse - 1 ≤ _; omega⟩)
  go_enter Try.func22, Try.ntmps22
  go_wp2_with (first | (go_at_call 38; go_in) | (go_at_call 35; refine (made_any (HD.out.below (by repeat (first | (with_reducible exact Below.refl _ _) | (with_reducible exact bl_mm) | (with_reducible refine bl_dr ?_) | (with_reducible refine bl_drN ?_ _) | (with_reducible refine bl_al ?_ _) | (with_reducible refine bl_more ?_ _ _)))) HN.out).mono ?_; rintro e w1 ⟨rfl, hb1⟩; obtain ⟨ex, dx, rfl⟩ := more_of hb1; clear hb1) | (go_at_call 33; refine (has_yes (HD.out.below (by repeat (first | (with_reducible exact Below.refl _ _) | (with_reducible exact bl_mm) | (with_reducible refine bl_dr ?_) | (with_reducible refine bl_drN ?_ _) | (with_reducible refine bl_al ?_ _) | (with_reducible refine bl_more ?_ _ _)))) i HI.out).mono ?_; rintro e w1 ⟨rfl, hb1⟩; obtain ⟨ex, dx, rfl⟩ := more_of hb1; clear hb1) | (go_at_call 40; go_in) | (go_at_call 41; go_in))
  go_ret
  exact ⟨rfl, by rw [burn_no HF.out, sync_eq HI.out]; exact (HD.out.setSync HN65.out i HI.out _).below (by repeat (first | (with_reducible exact Below.refl _ _) | (with_reducible exact bl_mm) | (with_reducible refine bl_dr ?_) | (with_reducible refine bl_drN ?_ _) | (with_reducible refine bl_al ?_ _) | (with_reducible refine bl_more ?_ _ _))), (by repeat (first | (with_reducible exact Ext.refl _ _) | (with_reducible refine ex_dr ?_) | (with_reducible refine ex_drN ?_ _) | (with_reducible refine ex_al ?_ _) | (with_reducible refine ex_more ?_ _ _) | (with_reducible refine Ext.set ?_ _ _ _ (by first | exact rfl | exact .inl rfl | exact .inr rfl))))⟩
set_option maxHeartbeats 1000000 in
theorem cut_burn {w : World} {d : Nat} {G : Nat → Prop} {s : DS} {i : Nat} {C : Int} {n : Nat} (h : Dk w d G s) (hs : s.Ok C) (hC : C ≤ 1000000000000) (hdn : s.down = false) (hi : i < s.fs.length) (hf : 0 < s.fuse) (hhigh : ¬ (s.fs[i].b.length : Int) < (n : Int)) :
    Calls Try.prog 21 #[.pointer (some ⟨d, 0, none⟩), .int .i64 i, .int .i64 n] w fun e w' => e = .returned (.int .i64 0) ∧ Dk w' d G (s.burn.keep i n) ∧ Ext (fun b => b = d) w w' := by
  have h1 := h.down
  have h2 := h.room
  have k3 := h.fuse
  have f1 := h.frz 132
  have f2 := h.frz (i * 2 + 1)
  obtain ⟨g, ⟨v, c1, c2, h3, h4⟩, _⟩ := h.take i hi
  obtain ⟨A, c, rfl, h5, h6⟩ := h3.form
  have hd := h.lt
  rw [hdn] at h1
  have hn : 1 ≤ s.fs.length := by omega
  have hm : n ≤ s.fs[i].b.length := by omega
  have i1 : (0 : Int) ≤ (i : Int) := by omega
  have i2 : (i : Int) < 65 := by have := hs.n2; omega
  have j1 : (s.fuse == 0) = false := by simp; omega
  have j3 : 0 < s.fuse := hf
  have j2 : IntKind.i64.wrap (s.fuse - 1) = s.fuse - 1 := IntWalk.i64_in _ (by have := hs.fuse1; have := hs.fuse2; omega)
  obtain ⟨x0, x1, x2, x3, x4, x5, x6, x7, x8, x9, x10, x11, x12, x13, x14, x15⟩ := offs hi hs.n2
  have HD := hid h
  have HN := hid hn
  have HI := hid hi
  have HN65 := hid hs.n2
  have HO := hid hs
  have HC := hid hC
  have HM := hid hm
  have HF := hid hf
  clear h hn hdn h3 h4 h5 h6 hf hs hC hm
  have HO2 : Hid (0 < s.fuse → DS.Ok { s with fuse := s.fuse - 1 } C) := hid (fun hp => ⟨HO.out.room, HO.out.tot, HO.out.n1, HO.out.n2, HO.out.sync, by show -1 ≤ s.fuse - 1; omega, by have := HO.out.fuse2; show s.fuse - 1 ≤ _; omega⟩)
  go_enter Try.func21, Try.ntmps21
  go_wp2_with (first | ((with_reducible refine wp_region_plan (id := 1) (.fin [(false, 0), (false, 1), (false, 2), (false, 3), (false, 4), (false, 5), (false, 6), (false, 7), (false, 8), (false, 9), (false, 10)]) ?_ ?_ ?_ ?_ ?_ ?_); kernel_rfl; kernel_rfl; kernel_rfl; kernel_rfl; (intro c a d v w h; cases d <;> exact h)) | (with_reducible refine wpPlan_eff ?_) | (with_reducible refine wpPlan_fin ?_) | (with_reducible refine wpPlan_two ?_) | (with_reducible refine wpOpPair ?_ ?_) | ((with_reducible apply wpPre_keep); rfl; intro K' hK'; go_simp; refine hK' _ _ ?_; intro f hf; clear hK' K') | ((with_reducible apply wpPre_drop); rfl; intro K' hK'; go_simp; refine hK' _ _ ?_; intro f; clear hK' K') | (with_reducible refine wpPre_nil ?_) | ((with_reducible apply wpOp_list); rfl) | (with_reducible refine heldPair ?_ ?_) | ((with_reducible refine heldH_no ?_ ?_); rfl) | (with_reducible refine heldH_yes ?_ ?_) | (with_reducible exact heldH_nil) | (unfold YAt; go_simp; done) | (go_at_call 38; go_in) | (go_at_call 35; refine (made_any (HD.out.below (by repeat (first | (with_reducible exact Below.refl _ _) | (with_reducible exact bl_mm) | (with_reducible refine bl_dr ?_) | (with_reducible refine bl_drN ?_ _) | (with_reducible refine bl_al ?_ _) | (with_reducible refine bl_more ?_ _ _)))) HN.out).mono ?_; rintro e w1 ⟨rfl, hb1⟩; obtain ⟨ex, dx, rfl⟩ := more_of hb1; clear hb1) | (go_at_call 33; refine (has_yes (HD.out.below (by repeat (first | (with_reducible exact Below.refl _ _) | (with_reducible exact bl_mm) | (with_reducible refine bl_dr ?_) | (with_reducible refine bl_drN ?_ _) | (with_reducible refine bl_al ?_ _) | (with_reducible refine bl_more ?_ _ _)))) i HI.out).mono ?_; rintro e w1 ⟨rfl, hb1⟩; obtain ⟨ex, dx, rfl⟩ := more_of hb1; clear hb1) | (go_at_call 37; go_in) | (go_at_call 39; go_in) | (go_at_call 36; refine (keep_any (C := C) ((HD.out.setFuse HN65.out (s.fuse - 1)).below (by repeat (first | (with_reducible exact Below.refl _ _) | (with_reducible exact bl_mm) | (with_reducible refine bl_dr ?_) | (with_reducible refine bl_drN ?_ _) | (with_reducible refine bl_al ?_ _) | (with_reducible refine bl_more ?_ _ _)))) (HO2.out HF.out) HC.out i HI.out n HM.out).mono ?_; rintro e w3 ⟨rfl, hq, he⟩; have HQ := hid hq; have HE := hid he; clear hq he))
  go_ret
  exact ⟨rfl, by rw [burn_yes HF.out]; exact HQ.out, Ext.trans (by repeat (first | (with_reducible exact Ext.refl _ _) | (with_reducible refine ex_dr ?_) | (with_reducible refine ex_drN ?_ _) | (with_reducible refine ex_al ?_ _) | (with_reducible refine ex_more ?_ _ _) | (with_reducible refine Ext.set ?_ _ _ _ (by first | exact rfl | exact .inl rfl | exact .inr rfl)))) HE.out (fun _ _ h => h)⟩
set_option maxHeartbeats 1000000 in
theorem cut_bare {w : World} {d : Nat} {G : Nat → Prop} {s : DS} {i : Nat} {C : Int} {n : Nat} (h : Dk w d G s) (hs : s.Ok C) (hC : C ≤ 1000000000000) (hdn : s.down = false) (hi : i < s.fs.length) (hf : s.fuse < 0) (hhigh : ¬ (s.fs[i].b.length : Int) < (n : Int)) :
    Calls Try.prog 21 #[.pointer (some ⟨d, 0, none⟩), .int .i64 i, .int .i64 n] w fun e w' => e = .returned (.int .i64 0) ∧ Dk w' d G (s.burn.keep i n) ∧ Ext (fun b => b = d) w w' := by
  have h1 := h.down
  have h2 := h.room
  have k3 := h.fuse
  have f1 := h.frz 132
  have f2 := h.frz (i * 2 + 1)
  obtain ⟨g, ⟨v, c1, c2, h3, h4⟩, _⟩ := h.take i hi
  obtain ⟨A, c, rfl, h5, h6⟩ := h3.form
  have hd := h.lt
  rw [hdn] at h1
  have hn : 1 ≤ s.fs.length := by omega
  have hm : n ≤ s.fs[i].b.length := by omega
  have i1 : (0 : Int) ≤ (i : Int) := by omega
  have i2 : (i : Int) < 65 := by have := hs.n2; omega
  have j1 : (s.fuse == 0) = false := by simp; omega
  have j3 : s.fuse < 0 := hf
  have j2 : IntKind.i64.wrap (s.fuse - 1) = s.fuse - 1 := IntWalk.i64_in _ (by have := hs.fuse1; have := hs.fuse2; omega)
  obtain ⟨x0, x1, x2, x3, x4, x5, x6, x7, x8, x9, x10, x11, x12, x13, x14, x15⟩ := offs hi hs.n2
  have HD := hid h
  have HN := hid hn
  have HI := hid hi
  have HN65 := hid hs.n2
  have HO := hid hs
  have HC := hid hC
  have HM := hid hm
  have HF := hid hf
  clear h hn hdn h3 h4 h5 h6 hf hs hC hm
  have HO2 : Hid (0 < s.fuse → DS.Ok { s with fuse := s.fuse - 1 } C) := hid (fun hp => ⟨HO.out.room, HO.out.tot, HO.out.n1, HO.out.n2, HO.out.sync, by show -1 ≤ s.fuse - 1; omega, by have := HO.out.fuse2; show s.fuse - 1 ≤ _; omega⟩)
  go_enter Try.func21, Try.ntmps21
  go_wp2_with (first | ((with_reducible refine wp_region_plan (id := 1) (.fin [(false, 0), (false, 1), (false, 2), (false, 3), (false, 4), (false, 5), (false, 6), (false, 7), (false, 8), (false, 9), (false, 10)]) ?_ ?_ ?_ ?_ ?_ ?_); kernel_rfl; kernel_rfl; kernel_rfl; kernel_rfl; (intro c a d v w h; cases d <;> exact h)) | (with_reducible refine wpPlan_eff ?_) | (with_reducible refine wpPlan_fin ?_) | (with_reducible refine wpPlan_two ?_) | (with_reducible refine wpOpPair ?_ ?_) | ((with_reducible apply wpPre_keep); rfl; intro K' hK'; go_simp; refine hK' _ _ ?_; intro f hf; clear hK' K') | ((with_reducible apply wpPre_drop); rfl; intro K' hK'; go_simp; refine hK' _ _ ?_; intro f; clear hK' K') | (with_reducible refine wpPre_nil ?_) | ((with_reducible apply wpOp_list); rfl) | (with_reducible refine heldPair ?_ ?_) | ((with_reducible refine heldH_no ?_ ?_); rfl) | (with_reducible refine heldH_yes ?_ ?_) | (with_reducible exact heldH_nil) | (unfold YAt; go_simp; done) | (go_at_call 38; go_in) | (go_at_call 35; refine (made_any (HD.out.below (by repeat (first | (with_reducible exact Below.refl _ _) | (with_reducible exact bl_mm) | (with_reducible refine bl_dr ?_) | (with_reducible refine bl_drN ?_ _) | (with_reducible refine bl_al ?_ _) | (with_reducible refine bl_more ?_ _ _)))) HN.out).mono ?_; rintro e w1 ⟨rfl, hb1⟩; obtain ⟨ex, dx, rfl⟩ := more_of hb1; clear hb1) | (go_at_call 33; refine (has_yes (HD.out.below (by repeat (first | (with_reducible exact Below.refl _ _) | (with_reducible exact bl_mm) | (with_reducible refine bl_dr ?_) | (with_reducible refine bl_drN ?_ _) | (with_reducible refine bl_al ?_ _) | (with_reducible refine bl_more ?_ _ _)))) i HI.out).mono ?_; rintro e w1 ⟨rfl, hb1⟩; obtain ⟨ex, dx, rfl⟩ := more_of hb1; clear hb1) | (go_at_call 37; go_in) | (go_at_call 39; go_in) | (go_at_call 36; refine (keep_any (C := C) (HD.out.below (by repeat (first | (with_reducible exact Below.refl _ _) | (with_reducible exact bl_mm) | (with_reducible refine bl_dr ?_) | (with_reducible refine bl_drN ?_ _) | (with_reducible refine bl_al ?_ _) | (with_reducible refine bl_more ?_ _ _)))) HO.out HC.out i HI.out n HM.out).mono ?_; rintro e w3 ⟨rfl, hq, he⟩; have HQ := hid hq; have HE := hid he; clear hq he))
  go_ret
  exact ⟨rfl, by rw [burn_no HF.out]; exact HQ.out, Ext.trans (by repeat (first | (with_reducible exact Ext.refl _ _) | (with_reducible refine ex_dr ?_) | (with_reducible refine ex_drN ?_ _) | (with_reducible refine ex_al ?_ _) | (with_reducible refine ex_more ?_ _ _) | (with_reducible refine Ext.set ?_ _ _ _ (by first | exact rfl | exact .inl rfl | exact .inr rfl)))) HE.out (fun _ _ h => h)⟩
end Go.Proofs.Ytnobbehoojgfcaa
