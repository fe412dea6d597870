/- What the document's calls do. -/
import Derived.Test.YtnobbehoojgfcaaDkJ
namespace Go.Proofs.Ytnobbehoojgfcaa
open Go.RowKit

theorem rburn_any {w : World} {r gF : Nat} {s : DS} {C : Int} (h : Rk w r gF s) (hs : s.Ok C) (hdn : s.down = false) (hf : s.fuse ≠ 0) :
    Calls Try.prog 45 #[.pointer (some ⟨r, 0, none⟩)] w fun e w' => e = .returned (.bool false) ∧ ∃ f', s.burn = { s with fuse := f' } ∧ Rk w' r gF { s with fuse := f' } ∧ Ext (fun b => b = r) w w' := by
  by_cases h0 : 0 < s.fuse
  · refine (rburn_burn h hs hdn h0).mono ?_
    rintro e w' ⟨h1, h2, h3⟩
    rw [burn_yes h0] at h2
    exact ⟨h1, _, burn_yes h0, h2, h3⟩
  · have h1 : s.fuse < 0 := by omega
    refine (rburn_bare h hs hdn h1).mono ?_
    rintro e w' ⟨h2, h3, h4⟩
    rw [burn_no h1] at h3
    exact ⟨h2, s.fuse, burn_no h1, h3, h4⟩
set_option maxHeartbeats 1000000 in
theorem rhas_yes {w : World} {r gF : Nat} {s : DS} (h : Rk w r gF s) (i : Nat) (hi : i < s.fs.length) : Calls Try.prog 44 #[.pointer (some ⟨r, 0, none⟩), .int .i64 i] w fun e w' => e = .returned (.bool true) ∧ Below w.heap.size w w' := by
  have h1 := h.f
  have i1 : (i : Int) < (s.fs.length : Int) := by omega
  have i2 : (0 : Int) ≤ (i : Int) := by omega
  clear h hi
  go_enter Try.func44, Try.ntmps44
  go_wp2
  go_ret
  exact ⟨rfl, (by repeat (first | (with_reducible exact Below.refl _ _) | (with_reducible exact bl_mm) | (with_reducible refine bl_dr ?_) | (with_reducible refine bl_drN ?_ _) | (with_reducible refine bl_al ?_ _) | (with_reducible refine bl_more ?_ _ _)))⟩
set_option maxHeartbeats 1000000 in
theorem rhas_no {w : World} {r gF : Nat} {s : DS} (h : Rk w r gF s) (i : Int) (hi : i < 0 ∨ s.fs.length ≤ i) : Calls Try.prog 44 #[.pointer (some ⟨r, 0, none⟩), .int .i64 i] w fun e w' => e = .returned (.bool false) ∧ Below w.heap.size w w' := by
  have h1 := h.f
  clear h
  rcases hi with hi | hi
  · have i2 : ¬ (0 : Int) ≤ i := by omega
    go_enter Try.func44, Try.ntmps44
    go_wp2
    go_ret
    exact ⟨rfl, (by repeat (first | (with_reducible exact Below.refl _ _) | (with_reducible exact bl_mm) | (with_reducible refine bl_dr ?_) | (with_reducible refine bl_drN ?_ _) | (with_reducible refine bl_al ?_ _) | (with_reducible refine bl_more ?_ _ _)))⟩
  · have i2 : (0 : Int) ≤ i := by omega
    have i1 : decide (i < (s.fs.length : Int)) = false := by simp; omega
    clear hi
    go_enter Try.func44, Try.ntmps44
    go_wp2
    go_ret
    exact ⟨rfl, (by repeat (first | (with_reducible exact Below.refl _ _) | (with_reducible exact bl_mm) | (with_reducible refine bl_dr ?_) | (with_reducible refine bl_drN ?_ _) | (with_reducible refine bl_al ?_ _) | (with_reducible refine bl_more ?_ _ _)))⟩

/-- A call that writes: what becomes of the disk, and the answer. -/
def doW (s : DS) (i : Int) (may : Nat → Int) (act : DS → Nat → DS) : DS × Int :=
  if s.down = true then (s, 9) else if i < 0 ∨ (s.fs.length : Int) ≤ i then (s, 2) else if may i.toNat ≠ 0 then (s, may i.toNat) else if s.fuse = 0 then ({ s with down := true }, 9) else (act s.burn i.toNat, 0)
def appR (s : DS) (i : Int) (l : List UInt8) : DS × Int := doW s i (fun _ => if s.room < (l.length : Int) then 8 else 0) (fun s i => s.app i l)
def syncR (s : DS) (i : Int) : DS × Int := doW s i (fun _ => 0) (fun s i => s.sync i)
def cutR (s : DS) (i n : Int) : DS × Int := doW s i (fun k => if n < 0 ∨ ((s.fs.getD k ⟨[], 0⟩).b.length : Int) < n then 2 else 0) (fun s k => s.keep k n.toNat)
/-- Its ways. -/
inductive Way (s : DS) (i : Int) (may : Nat → Int) (act : DS → Nat → DS) : DS × Int → Prop
  | down (h : s.down = true) : Way s i may act (s, 9)
  | none (h : s.down = false) (hi : i < 0 ∨ (s.fs.length : Int) ≤ i) : Way s i may act (s, 2)
  | may (k : Nat) (h : s.down = false) (hk : i = k) (hi : k < s.fs.length) (hm : may k ≠ 0) : Way s i may act (s, may k)
  | off (k : Nat) (h : s.down = false) (hk : i = k) (hi : k < s.fs.length) (hm : may k = 0) (hf : s.fuse = 0) : Way s i may act ({ s with down := true }, 9)
  | done (k : Nat) (h : s.down = false) (hk : i = k) (hi : k < s.fs.length) (hm : may k = 0) (hf : s.fuse ≠ 0) : Way s i may act (act s.burn k, 0)
theorem doW_way (s : DS) (i : Int) (may : Nat → Int) (act : DS → Nat → DS) : Way s i may act (doW s i may act) := by
  unfold doW
  by_cases h1 : s.down = true
  · rw [if_pos h1]; exact .down h1
  · rw [if_neg h1]
    have h1' : s.down = false := by simpa using h1
    by_cases h2 : i < 0 ∨ (s.fs.length : Int) ≤ i
    · rw [if_pos h2]; exact .none h1' h2
    · rw [if_neg h2]
      obtain ⟨k, rfl⟩ : ∃ k : Nat, i = k := ⟨i.toNat, by omega⟩
      have hk : k < s.fs.length := by omega
      simp only [Int.toNat_natCast]
      by_cases h3 : may k ≠ 0
      · rw [if_pos h3]; exact .may k h1' rfl hk h3
      · rw [if_neg h3]
        have h3' : may k = 0 := by simpa using h3
        by_cases h4 : s.fuse = 0
        · rw [if_pos h4]; exact .off k h1' rfl hk h3' h4
        · rw [if_neg h4]; exact .done k h1' rfl hk h3' h4

set_option maxHeartbeats 1000000 in
theorem rapp_down {w : World} {r gF : Nat} {s : DS} {i : Int} {l : List UInt8} (h : Rk w r gF s) (hdn : s.down = true) :
    Calls Try.prog 32 #[.pointer (some ⟨r, 0, none⟩), .int .i64 i, .string (bs l)] w fun e w' => e = .returned (.int .i64 9) ∧ Below w.heap.size w w' := by
  have h1 := h.down
  rw [hdn] at h1
  clear h hdn
  go_enter Try.func32, Try.ntmps32
  go_wp2_with (first | ((with_reducible refine wp_region_plan (id := 9) (.eff [(false, 0), (false, 1), (false, 2), (false, 3), (false, 4), (false, 5), (false, 6), (false, 7), (false, 8), (false, 9), (false, 10), (false, 11), (false, 12), (false, 13), (false, 14), (false, 15), (false, 16)] 17 [] (.fin [])) ?_ ?_ ?_ ?_ ?_ ?_); kernel_rfl; kernel_rfl; kernel_rfl; kernel_rfl; (intro c a d v w h; cases d <;> exact h)) | (with_reducible refine wpPlan_eff ?_) | (with_reducible refine wpPlan_fin ?_) | (with_reducible refine wpPlan_two ?_) | (with_reducible refine wpOpPair ?_ ?_) | ((with_reducible apply wpPre_keep); rfl; intro K' hK'; go_simp; refine hK' _ _ ?_; intro f hf; clear hK' K') | ((with_reducible apply wpPre_drop); rfl; intro K' hK'; go_simp; refine hK' _ _ ?_; intro f; clear hK' K') | (with_reducible refine wpPre_nil ?_) | ((with_reducible apply wpOp_list); rfl) | (with_reducible refine heldPair ?_ ?_) | ((with_reducible refine heldH_no ?_ ?_); rfl) | (with_reducible refine heldH_yes ?_ ?_) | (with_reducible exact heldH_nil) | (unfold YAt; go_simp; done))
  go_ret
  exact ⟨rfl, (by repeat (first | (with_reducible exact Below.refl _ _) | (with_reducible exact bl_mm) | (with_reducible refine bl_dr ?_) | (with_reducible refine bl_drN ?_ _) | (with_reducible refine bl_al ?_ _) | (with_reducible refine bl_more ?_ _ _)))⟩
set_option maxHeartbeats 1000000 in
theorem rsync_down {w : World} {r gF : Nat} {s : DS} {i : Int} (h : Rk w r gF s) (hdn : s.down = true) :
    Calls Try.prog 27 #[.pointer (some ⟨r, 0, none⟩), .int .i64 i] w fun e w' => e = .returned (.int .i64 9) ∧ Below w.heap.size w w' := by
  have h1 := h.down
  rw [hdn] at h1
  clear h hdn
  go_enter Try.func27, Try.ntmps27
  go_wp2_with (first | ((with_reducible refine wp_region_plan (id := 7) (.eff [(false, 0), (false, 1), (false, 2), (false, 3), (false, 4), (false, 5), (false, 6), (false, 7), (false, 8), (false, 9), (false, 10), (false, 11), (false, 12), (false, 13), (false, 14), (false, 15)] 16 [] (.fin [])) ?_ ?_ ?_ ?_ ?_ ?_); kernel_rfl; kernel_rfl; kernel_rfl; kernel_rfl; (intro c a d v w h; cases d <;> exact h)) | (with_reducible refine wpPlan_eff ?_) | (with_reducible refine wpPlan_fin ?_) | (with_reducible refine wpPlan_two ?_) | (with_reducible refine wpOpPair ?_ ?_) | ((with_reducible apply wpPre_keep); rfl; intro K' hK'; go_simp; refine hK' _ _ ?_; intro f hf; clear hK' K') | ((with_reducible apply wpPre_drop); rfl; intro K' hK'; go_simp; refine hK' _ _ ?_; intro f; clear hK' K') | (with_reducible refine wpPre_nil ?_) | ((with_reducible apply wpOp_list); rfl) | (with_reducible refine heldPair ?_ ?_) | ((with_reducible refine heldH_no ?_ ?_); rfl) | (with_reducible refine heldH_yes ?_ ?_) | (with_reducible exact heldH_nil) | (unfold YAt; go_simp; done))
  go_ret
  exact ⟨rfl, (by repeat (first | (with_reducible exact Below.refl _ _) | (with_reducible exact bl_mm) | (with_reducible refine bl_dr ?_) | (with_reducible refine bl_drN ?_ _) | (with_reducible refine bl_al ?_ _) | (with_reducible refine bl_more ?_ _ _)))⟩
set_option maxHeartbeats 1000000 in
theorem rcut_down {w : World} {r gF : Nat} {s : DS} {i n : Int} (h : Rk w r gF s) (hdn : s.down = true) :
    Calls Try.prog 28 #[.pointer (some ⟨r, 0, none⟩), .int .i64 i, .int .i64 n] w fun e w' => e = .returned (.int .i64 9) ∧ Below w.heap.size w w' := by
  have h1 := h.down
  rw [hdn] at h1
  clear h hdn
  go_enter Try.func28, Try.ntmps28
  go_wp2_with (first | ((with_reducible refine wp_region_plan (id := 7) (.eff [(false, 0), (false, 1), (false, 2), (false, 3), (false, 4), (false, 5), (false, 6), (false, 7), (false, 8), (false, 9), (false, 10), (false, 11), (false, 12), (false, 13), (false, 14), (false, 15), (false, 16), (false, 17), (false, 18)] 19 [] (.fin [])) ?_ ?_ ?_ ?_ ?_ ?_); kernel_rfl; kernel_rfl; kernel_rfl; kernel_rfl; (intro c a d v w h; cases d <;> exact h)) | ((with_reducible refine wp_region_plan (id := 8) (.eff [(false, 0), (false, 1), (false, 2), (false, 3), (false, 4), (false, 5), (false, 6), (false, 7), (false, 8), (false, 9), (false, 10), (false, 11), (false, 12), (false, 13), (false, 14), (false, 15), (false, 16), (false, 17)] 18 [] (.fin [])) ?_ ?_ ?_ ?_ ?_ ?_); kernel_rfl; kernel_rfl; kernel_rfl; kernel_rfl; (intro c a d v w h; cases d <;> exact h)) | (with_reducible refine wpPlan_eff ?_) | (with_reducible refine wpPlan_fin ?_) | (with_reducible refine wpPlan_two ?_) | (with_reducible refine wpOpPair ?_ ?_) | ((with_reducible apply wpPre_keep); rfl; intro K' hK'; go_simp; refine hK' _ _ ?_; intro f hf; clear hK' K') | ((with_reducible apply wpPre_drop); rfl; intro K' hK'; go_simp; refine hK' _ _ ?_; intro f; clear hK' K') | (with_reducible refine wpPre_nil ?_) | ((with_reducible apply wpOp_list); rfl) | (with_reducible refine heldPair ?_ ?_) | ((with_reducible refine heldH_no ?_ ?_); rfl) | (with_reducible refine heldH_yes ?_ ?_) | (with_reducible exact heldH_nil) | (unfold YAt; go_simp; done))
  go_ret
  exact ⟨rfl, (by repeat (first | (with_reducible exact Below.refl _ _) | (with_reducible exact bl_mm) | (with_reducible refine bl_dr ?_) | (with_reducible refine bl_drN ?_ _) | (with_reducible refine bl_al ?_ _) | (with_reducible refine bl_more ?_ _ _)))⟩
set_option maxHeartbeats 1000000 in
theorem rapp_none {w : World} {r gF : Nat} {s : DS} {i : Int} {l : List UInt8} (h : Rk w r gF s) (hdn : s.down = false) (hi : i < 0 ∨ s.fs.length ≤ i) :
    Calls Try.prog 32 #[.pointer (some ⟨r, 0, none⟩), .int .i64 i, .string (bs l)] w fun e w' => e = .returned (.int .i64 2) ∧ Below w.heap.size w w' := by
  have h1 := h.down
  rw [hdn] at h1
  have HR := hid h
  have HI := hid hi
  clear h hdn hi
  go_enter Try.func32, Try.ntmps32
  go_wp2_with (first | ((with_reducible refine wp_region_plan (id := 9) (.eff [(false, 0), (false, 1), (false, 2), (false, 3), (false, 4), (false, 5), (false, 6), (false, 7), (false, 8), (false, 9), (false, 10), (false, 11), (false, 12), (false, 13), (false, 14), (false, 15), (false, 16)] 17 [] (.fin [])) ?_ ?_ ?_ ?_ ?_ ?_); kernel_rfl; kernel_rfl; kernel_rfl; kernel_rfl; (intro c a d v w h; cases d <;> exact h)) | (with_reducible refine wpPlan_eff ?_) | (with_reducible refine wpPlan_fin ?_) | (with_reducible refine wpPlan_two ?_) | (with_reducible refine wpOpPair ?_ ?_) | ((with_reducible apply wpPre_keep); rfl; intro K' hK'; go_simp; refine hK' _ _ ?_; intro f hf; clear hK' K') | ((with_reducible apply wpPre_drop); rfl; intro K' hK'; go_simp; refine hK' _ _ ?_; intro f; clear hK' K') | (with_reducible refine wpPre_nil ?_) | ((with_reducible apply wpOp_list); rfl) | (with_reducible refine heldPair ?_ ?_) | ((with_reducible refine heldH_no ?_ ?_); rfl) | (with_reducible refine heldH_yes ?_ ?_) | (with_reducible exact heldH_nil) | (unfold YAt; go_simp; done) | (go_at_call 44; refine (rhas_no (HR.out.below (by repeat (first | (with_reducible exact Below.refl _ _) | (with_reducible exact bl_mm) | (with_reducible refine bl_dr ?_) | (with_reducible refine bl_drN ?_ _) | (with_reducible refine bl_al ?_ _) | (with_reducible refine bl_more ?_ _ _)))) _ HI.out).mono ?_; rintro e w1 ⟨rfl, hb1⟩; obtain ⟨ex, dx, rfl⟩ := more_of hb1; clear hb1))
  go_ret
  exact ⟨rfl, (by repeat (first | (with_reducible exact Below.refl _ _) | (with_reducible exact bl_mm) | (with_reducible refine bl_dr ?_) | (with_reducible refine bl_drN ?_ _) | (with_reducible refine bl_al ?_ _) | (with_reducible refine bl_more ?_ _ _)))⟩
set_option maxHeartbeats 1000000 in
theorem rsync_none {w : World} {r gF : Nat} {s : DS} {i : Int} (h : Rk w r gF s) (hdn : s.down = false) (hi : i < 0 ∨ s.fs.length ≤ i) :
    Calls Try.prog 27 #[.pointer (some ⟨r, 0, none⟩), .int .i64 i] w fun e w' => e = .returned (.int .i64 2) ∧ Below w.heap.size w w' := by
  have h1 := h.down
  rw [hdn] at h1
  have HR := hid h
  have HI := hid hi
  clear h hdn hi
  go_enter Try.func27, Try.ntmps27
  go_wp2_with (first | ((with_reducible refine wp_region_plan (id := 7) (.eff [(false, 0), (false, 1), (false, 2), (false, 3), (false, 4), (false, 5), (false, 6), (false, 7), (false, 8), (false, 9), (false, 10), (false, 11), (false, 12), (false, 13), (false, 14), (false, 15)] 16 [] (.fin [])) ?_ ?_ ?_ ?_ ?_ ?_); kernel_rfl; kernel_rfl; kernel_rfl; kernel_rfl; (intro c a d v w h; cases d <;> exact h)) | (with_reducible refine wpPlan_eff ?_) | (with_reducible refine wpPlan_fin ?_) | (with_reducible refine wpPlan_two ?_) | (with_reducible refine wpOpPair ?_ ?_) | ((with_reducible apply wpPre_keep); rfl; intro K' hK'; go_simp; refine hK' _ _ ?_; intro f hf; clear hK' K') | ((with_reducible apply wpPre_drop); rfl; intro K' hK'; go_simp; refine hK' _ _ ?_; intro f; clear hK' K') | (with_reducible refine wpPre_nil ?_) | ((with_reducible apply wpOp_list); rfl) | (with_reducible refine heldPair ?_ ?_) | ((with_reducible refine heldH_no ?_ ?_); rfl) | (with_reducible refine heldH_yes ?_ ?_) | (with_reducible exact heldH_nil) | (unfold YAt; go_simp; done) | (go_at_call 44; refine (rhas_no (HR.out.below (by repeat (first | (with_reducible exact Below.refl _ _) | (with_reducible exact bl_mm) | (with_reducible refine bl_dr ?_) | (with_reducible refine bl_drN ?_ _) | (with_reducible refine bl_al ?_ _) | (with_reducible refine bl_more ?_ _ _)))) _ HI.out).mono ?_; rintro e w1 ⟨rfl, hb1⟩; obtain ⟨ex, dx, rfl⟩ := more_of hb1; clear hb1))
  go_ret
  exact ⟨rfl, (by repeat (first | (with_reducible exact Below.refl _ _) | (with_reducible exact bl_mm) | (with_reducible refine bl_dr ?_) | (with_reducible refine bl_drN ?_ _) | (with_reducible refine bl_al ?_ _) | (with_reducible refine bl_more ?_ _ _)))⟩
set_option maxHeartbeats 1000000 in
theorem rcut_none {w : World} {r gF : Nat} {s : DS} {i n : Int} (h : Rk w r gF s) (hdn : s.down = false) (hi : i < 0 ∨ s.fs.length ≤ i) :
    Calls Try.prog 28 #[.pointer (some ⟨r, 0, none⟩), .int .i64 i, .int .i64 n] w fun e w' => e = .returned (.int .i64 2) ∧ Below w.heap.size w w' := by
  have h1 := h.down
  rw [hdn] at h1
  have HR := hid h
  have HI := hid hi
  clear h hdn hi
  go_enter Try.func28, Try.ntmps28
  go_wp2_with (first | ((with_reducible refine wp_region_plan (id := 7) (.eff [(false, 0), (false, 1), (false, 2), (false, 3), (false, 4), (false, 5), (false, 6), (false, 7), (false, 8), (false, 9), (false, 10), (false, 11), (false, 12), (false, 13), (false, 14), (false, 15), (false, 16), (false, 17), (false, 18)] 19 [] (.fin [])) ?_ ?_ ?_ ?_ ?_ ?_); kernel_rfl; kernel_rfl; kernel_rfl; kernel_rfl; (intro c a d v w h; cases d <;> exact h)) | ((with_reducible refine wp_region_plan (id := 8) (.eff [(false, 0), (false, 1), (false, 2), (false, 3), (false, 4), (false, 5), (false, 6), (false, 7), (false, 8), (false, 9), (false, 10), (false, 11), (false, 12), (false, 13), (false, 14), (false, 15), (false, 16), (false, 17)] 18 [] (.fin [])) ?_ ?_ ?_ ?_ ?_ ?_); kernel_rfl; kernel_rfl; kernel_rfl; kernel_rfl; (intro c a d v w h; cases d <;> exact h)) | (with_reducible refine wpPlan_eff ?_) | (with_reducible refine wpPlan_fin ?_) | (with_reducible refine wpPlan_two ?_) | (with_reducible refine wpOpPair ?_ ?_) | ((with_reducible apply wpPre_keep); rfl; intro K' hK'; go_simp; refine hK' _ _ ?_; intro f hf; clear hK' K') | ((with_reducible apply wpPre_drop); rfl; intro K' hK'; go_simp; refine hK' _ _ ?_; intro f; clear hK' K') | (with_reducible refine wpPre_nil ?_) | ((with_reducible apply wpOp_list); rfl) | (with_reducible refine heldPair ?_ ?_) | ((with_reducible refine heldH_no ?_ ?_); rfl) | (with_reducible refine heldH_yes ?_ ?_) | (with_reducible exact heldH_nil) | (unfold YAt; go_simp; done) | (go_at_call 44; refine (rhas_no (HR.out.below (by repeat (first | (with_reducible exact Below.refl _ _) | (with_reducible exact bl_mm) | (with_reducible refine bl_dr ?_) | (with_reducible refine bl_drN ?_ _) | (with_reducible refine bl_al ?_ _) | (with_reducible refine bl_more ?_ _ _)))) _ HI.out).mono ?_; rintro e w1 ⟨rfl, hb1⟩; obtain ⟨ex, dx, rfl⟩ := more_of hb1; clear hb1))
  go_ret
  exact ⟨rfl, (by repeat (first | (with_reducible exact Below.refl _ _) | (with_reducible exact bl_mm) | (with_reducible refine bl_dr ?_) | (with_reducible refine bl_drN ?_ _) | (with_reducible refine bl_al ?_ _) | (with_reducible refine bl_more ?_ _ _)))⟩
set_option maxHeartbeats 1000000 in
theorem rapp_full {w : World} {r gF : Nat} {s : DS} {i : Nat} {l : List UInt8} (h : Rk w r gF s) (hdn : s.down = false) (hi : i < s.fs.length) (hfull : s.room < (l.length : Int)) :
    Calls Try.prog 32 #[.pointer (some ⟨r, 0, none⟩), .int .i64 i, .string (bs l)] w fun e w' => e = .returned (.int .i64 8) ∧ Below w.heap.size w w' := by
  have h1 := h.down
  have h2 := h.room
  have h3 := h.f
  obtain ⟨h4, h5⟩ := h.files i hi
  obtain ⟨l1, l2⟩ := h.lt
  rw [hdn] at h1
  have i1 : (i : Int) < (s.fs.length : Int) := by omega
  have i2 : (0 : Int) ≤ (i : Int) := by omega
  have HR := hid h
  have HI := hid hi
  clear h hdn
  go_enter Try.func32, Try.ntmps32
  go_wp2_with (first | ((with_reducible refine wp_region_plan (id := 9) (.eff [(false, 0), (false, 1), (false, 2), (false, 3), (false, 4), (false, 5), (false, 6), (false, 7), (false, 8), (false, 9), (false, 10), (false, 11), (false, 12), (false, 13), (false, 14), (false, 15), (false, 16)] 17 [] (.fin [])) ?_ ?_ ?_ ?_ ?_ ?_); kernel_rfl; kernel_rfl; kernel_rfl; kernel_rfl; (intro c a d v w h; cases d <;> exact h)) | (with_reducible refine wpPlan_eff ?_) | (with_reducible refine wpPlan_fin ?_) | (with_reducible refine wpPlan_two ?_) | (with_reducible refine wpOpPair ?_ ?_) | ((with_reducible apply wpPre_keep); rfl; intro K' hK'; go_simp; refine hK' _ _ ?_; intro f hf; clear hK' K') | ((with_reducible apply wpPre_drop); rfl; intro K' hK'; go_simp; refine hK' _ _ ?_; intro f; clear hK' K') | (with_reducible refine wpPre_nil ?_) | ((with_reducible apply wpOp_list); rfl) | (with_reducible refine heldPair ?_ ?_) | ((with_reducible refine heldH_no ?_ ?_); rfl) | (with_reducible refine heldH_yes ?_ ?_) | (with_reducible exact heldH_nil) | (unfold YAt; go_simp; done) | (go_at_call 44; refine (rhas_yes (HR.out.below (by repeat (first | (with_reducible exact Below.refl _ _) | (with_reducible exact bl_mm) | (with_reducible refine bl_dr ?_) | (with_reducible refine bl_drN ?_ _) | (with_reducible refine bl_al ?_ _) | (with_reducible refine bl_more ?_ _ _)))) i HI.out).mono ?_; rintro e w1 ⟨rfl, hb1⟩; obtain ⟨ex, dx, rfl⟩ := more_of hb1; clear hb1))
  go_ret
  exact ⟨rfl, (by repeat (first | (with_reducible exact Below.refl _ _) | (with_reducible exact bl_mm) | (with_reducible refine bl_dr ?_) | (with_reducible refine bl_drN ?_ _) | (with_reducible refine bl_al ?_ _) | (with_reducible refine bl_more ?_ _ _)))⟩
set_option maxHeartbeats 1000000 in
theorem rcut_low {w : World} {r gF : Nat} {s : DS} {i : Nat} {n : Int} (h : Rk w r gF s) (hdn : s.down = false) (hi : i < s.fs.length) (hlow : n < 0) :
    Calls Try.prog 28 #[.pointer (some ⟨r, 0, none⟩), .int .i64 i, .int .i64 n] w fun e w' => e = .returned (.int .i64 2) ∧ Below w.heap.size w w' := by
  have h1 := h.down
  have h2 := h.room
  have h3 := h.f
  obtain ⟨h4, h5⟩ := h.files i hi
  obtain ⟨l1, l2⟩ := h.lt
  rw [hdn] at h1
  have i1 : (i : Int) < (s.fs.length : Int) := by omega
  have i2 : (0 : Int) ≤ (i : Int) := by omega
  have HR := hid h
  have HI := hid hi
  clear h hdn
  go_enter Try.func28, Try.ntmps28
  go_wp2_with (first | ((with_reducible refine wp_region_plan (id := 7) (.eff [(false, 0), (false, 1), (false, 2), (false, 3), (false, 4), (false, 5), (false, 6), (false, 7), (false, 8), (false, 9), (false, 10), (false, 11), (false, 12), (false, 13), (false, 14), (false, 15), (false, 16), (false, 17), (false, 18)] 19 [] (.fin [])) ?_ ?_ ?_ ?_ ?_ ?_); kernel_rfl; kernel_rfl; kernel_rfl; kernel_rfl; (intro c a d v w h; cases d <;> exact h)) | ((with_reducible refine wp_region_plan (id := 8) (.eff [(false, 0), (false, 1), (false, 2), (false, 3), (false, 4), (false, 5), (false, 6), (false, 7), (false, 8), (false, 9), (false, 10), (false, 11), (false, 12), (false, 13), (false, 14), (false, 15), (false, 16), (false, 17)] 18 [] (.fin [])) ?_ ?_ ?_ ?_ ?_ ?_); kernel_rfl; kernel_rfl; kernel_rfl; kernel_rfl; (intro c a d v w h; cases d <;> exact h)) | (with_reducible refine wpPlan_eff ?_) | (with_reducible refine wpPlan_fin ?_) | (with_reducible refine wpPlan_two ?_) | (with_reducible refine wpOpPair ?_ ?_) | ((with_reducible apply wpPre_keep); rfl; intro K' hK'; go_simp; refine hK' _ _ ?_; intro f hf; clear hK' K') | ((with_reducible apply wpPre_drop); rfl; intro K' hK'; go_simp; refine hK' _ _ ?_; intro f; clear hK' K') | (with_reducible refine wpPre_nil ?_) | ((with_reducible apply wpOp_list); rfl) | (with_reducible refine heldPair ?_ ?_) | ((with_reducible refine heldH_no ?_ ?_); rfl) | (with_reducible refine heldH_yes ?_ ?_) | (with_reducible exact heldH_nil) | (unfold YAt; go_simp; done) | (go_at_call 44; refine (rhas_yes (HR.out.below (by repeat (first | (with_reducible exact Below.refl _ _) | (with_reducible exact bl_mm) | (with_reducible refine bl_dr ?_) | (with_reducible refine bl_drN ?_ _) | (with_reducible refine bl_al ?_ _) | (with_reducible refine bl_more ?_ _ _)))) i HI.out).mono ?_; rintro e w1 ⟨rfl, hb1⟩; obtain ⟨ex, dx, rfl⟩ := more_of hb1; clear hb1))
  go_ret
  exact ⟨rfl, (by repeat (first | (with_reducible exact Below.refl _ _) | (with_reducible exact bl_mm) | (with_reducible refine bl_dr ?_) | (with_reducible refine bl_drN ?_ _) | (with_reducible refine bl_al ?_ _) | (with_reducible refine bl_more ?_ _ _)))⟩
set_option maxHeartbeats 1000000 in
theorem rcut_high {w : World} {r gF : Nat} {s : DS} {i : Nat} {n : Int} (h : Rk w r gF s) (hdn : s.down = false) (hi : i < s.fs.length) (hlow : ¬ n < 0) (hhigh : (s.fs[i].b.length : Int) < n) :
    Calls Try.prog 28 #[.pointer (some ⟨r, 0, none⟩), .int .i64 i, .int .i64 n] w fun e w' => e = .returned (.int .i64 2) ∧ Below w.heap.size w w' := by
  have h1 := h.down
  have h2 := h.room
  have h3 := h.f
  obtain ⟨h4, h5⟩ := h.files i hi
  obtain ⟨l1, l2⟩ := h.lt
  rw [hdn] at h1
  have i1 : (i : Int) < (s.fs.length : Int) := by omega
  have i2 : (0 : Int) ≤ (i : Int) := by omega
  have HR := hid h
  have HI := hid hi
  clear h hdn
  go_enter Try.func28, Try.ntmps28
  go_wp2_with (first | ((with_reducible refine wp_region_plan (id := 7) (.eff [(false, 0), (false, 1), (false, 2), (false, 3), (false, 4), (false, 5), (false, 6), (false, 7), (false, 8), (false, 9), (false, 10), (false, 11), (false, 12), (false, 13), (false, 14), (false, 15), (false, 16), (false, 17), (false, 18)] 19 [] (.fin [])) ?_ ?_ ?_ ?_ ?_ ?_); kernel_rfl; kernel_rfl; kernel_rfl; kernel_rfl; (intro c a d v w h; cases d <;> exact h)) | ((with_reducible refine wp_region_plan (id := 8) (.eff [(false, 0), (false, 1), (false, 2), (false, 3), (false, 4), (false, 5), (false, 6), (false, 7), (false, 8), (false, 9), (false, 10), (false, 11), (false, 12), (false, 13), (false, 14), (false, 15), (false, 16), (false, 17)] 18 [] (.fin [])) ?_ ?_ ?_ ?_ ?_ ?_); kernel_rfl; kernel_rfl; kernel_rfl; kernel_rfl; (intro c a d v w h; cases d <;> exact h)) | (with_reducible refine wpPlan_eff ?_) | (with_reducible refine wpPlan_fin ?_) | (with_reducible refine wpPlan_two ?_) | (with_reducible refine wpOpPair ?_ ?_) | ((with_reducible apply wpPre_keep); rfl; intro K' hK'; go_simp; refine hK' _ _ ?_; intro f hf; clear hK' K') | ((with_reducible apply wpPre_drop); rfl; intro K' hK'; go_simp; refine hK' _ _ ?_; intro f; clear hK' K') | (with_reducible refine wpPre_nil ?_) | ((with_reducible apply wpOp_list); rfl) | (with_reducible refine heldPair ?_ ?_) | ((with_reducible refine heldH_no ?_ ?_); rfl) | (with_reducible refine heldH_yes ?_ ?_) | (with_reducible exact heldH_nil) | (unfold YAt; go_simp; done) | (go_at_call 44; refine (rhas_yes (HR.out.below (by repeat (first | (with_reducible exact Below.refl _ _) | (with_reducible exact bl_mm) | (with_reducible refine bl_dr ?_) | (with_reducible refine bl_drN ?_ _) | (with_reducible refine bl_al ?_ _) | (with_reducible refine bl_more ?_ _ _)))) i HI.out).mono ?_; rintro e w1 ⟨rfl, hb1⟩; obtain ⟨ex, dx, rfl⟩ := more_of hb1; clear hb1))
  go_ret
  exact ⟨rfl, (by repeat (first | (with_reducible exact Below.refl _ _) | (with_reducible exact bl_mm) | (with_reducible refine bl_dr ?_) | (with_reducible refine bl_drN ?_ _) | (with_reducible refine bl_al ?_ _) | (with_reducible refine bl_more ?_ _ _)))⟩
set_option maxHeartbeats 1000000 in
theorem rapp_off {w : World} {r gF : Nat} {s : DS} {i : Nat} {C : Int} {l : List UInt8} (h : Rk w r gF s) (hs : s.Ok C) (hdn : s.down = false) (hi : i < s.fs.length) (hf : s.fuse = 0) (hfits : ¬ s.room < (l.length : Int)) :
    Calls Try.prog 32 #[.pointer (some ⟨r, 0, none⟩), .int .i64 i, .string (bs l)] w fun e w' => e = .returned (.int .i64 9) ∧ Rk w' r gF { s with down := true } ∧ Ext (fun b => b = r ∨ b = gF) w w' := by
  have h1 := h.down
  have h2 := h.room
  have h3 := h.f
  obtain ⟨h4, h5⟩ := h.files i hi
  obtain ⟨l1, l2⟩ := h.lt
  rw [hdn] at h1
  have i1 : (i : Int) < (s.fs.length : Int) := by omega
  have i2 : (0 : Int) ≤ (i : Int) := by omega
  have HR := hid h
  have HI := hid hi
  have HS := hid hs
  have HDN := hid hdn
  have HF := hid hf
  clear h hdn hs hf
  go_enter Try.func32, Try.ntmps32
  go_wp2_with (first | ((with_reducible refine wp_region_plan (id := 9) (.eff [(false, 0), (false, 1), (false, 2), (false, 3), (false, 4), (false, 5), (false, 6), (false, 7), (false, 8), (false, 9), (false, 10), (false, 11), (false, 12), (false, 13), (false, 14), (false, 15), (false, 16)] 17 [] (.fin [])) ?_ ?_ ?_ ?_ ?_ ?_); kernel_rfl; kernel_rfl; kernel_rfl; kernel_rfl; (intro c a d v w h; cases d <;> exact h)) | (with_reducible refine wpPlan_eff ?_) | (with_reducible refine wpPlan_fin ?_) | (with_reducible refine wpPlan_two ?_) | (with_reducible refine wpOpPair ?_ ?_) | ((with_reducible apply wpPre_keep); rfl; intro K' hK'; go_simp; refine hK' _ _ ?_; intro f hf; clear hK' K') | ((with_reducible apply wpPre_drop); rfl; intro K' hK'; go_simp; refine hK' _ _ ?_; intro f; clear hK' K') | (with_reducible refine wpPre_nil ?_) | ((with_reducible apply wpOp_list); rfl) | (with_reducible refine heldPair ?_ ?_) | ((with_reducible refine heldH_no ?_ ?_); rfl) | (with_reducible refine heldH_yes ?_ ?_) | (with_reducible exact heldH_nil) | (unfold YAt; go_simp; done) | (go_at_call 44; refine (rhas_yes (HR.out.below (by repeat (first | (with_reducible exact Below.refl _ _) | (with_reducible exact bl_mm) | (with_reducible refine bl_dr ?_) | (with_reducible refine bl_drN ?_ _) | (with_reducible refine bl_al ?_ _) | (with_reducible refine bl_more ?_ _ _)))) i HI.out).mono ?_; rintro e w1 ⟨rfl, hb1⟩; obtain ⟨ex, dx, rfl⟩ := more_of hb1; clear hb1) | (go_at_call 45; refine (rburn_off (HR.out.below (by repeat (first | (with_reducible exact Below.refl _ _) | (with_reducible exact bl_mm) | (with_reducible refine bl_dr ?_) | (with_reducible refine bl_drN ?_ _) | (with_reducible refine bl_al ?_ _) | (with_reducible refine bl_more ?_ _ _)))) HS.out HDN.out HF.out).mono ?_; rintro e w1 ⟨rfl, hq, he⟩; have HQ := hid hq; have HE := hid he; clear hq he))
  go_ret
  exact ⟨rfl, HQ.out.below (by repeat (first | (with_reducible exact Below.refl _ _) | (with_reducible exact bl_mm) | (with_reducible refine bl_dr ?_) | (with_reducible refine bl_drN ?_ _) | (with_reducible refine bl_al ?_ _) | (with_reducible refine bl_more ?_ _ _))), (Ext.trans (S := fun b => b = r ∨ b = gF) (by repeat (first | (with_reducible exact Ext.refl _ _) | (with_reducible refine ex_dr ?_) | (with_reducible refine ex_drN ?_ _) | (with_reducible refine ex_al ?_ _) | (with_reducible refine ex_more ?_ _ _) | (with_reducible refine Ext.set ?_ _ _ _ (by first | exact rfl | exact .inl rfl | exact .inr rfl)))) HE.out (fun _ _ h => .inl h)).trans ((by repeat (first | (with_reducible exact Ext.refl _ _) | (with_reducible refine ex_dr ?_) | (with_reducible refine ex_drN ?_ _) | (with_reducible refine ex_al ?_ _) | (with_reducible refine ex_more ?_ _ _) | (with_reducible refine Ext.set ?_ _ _ _ (by first | exact rfl | exact .inl rfl | exact .inr rfl)))) : Ext (fun b => b = r ∨ b = gF) _ _) (fun _ _ h => h)⟩
set_option maxHeartbeats 1000000 in
theorem rsync_off {w : World} {r gF : Nat} {s : DS} {i : Nat} {C : Int}  (h : Rk w r gF s) (hs : s.Ok C) (hdn : s.down = false) (hi : i < s.fs.length) (hf : s.fuse = 0)  :
    Calls Try.prog 27 #[.pointer (some ⟨r, 0, none⟩), .int .i64 i] w fun e w' => e = .returned (.int .i64 9) ∧ Rk w' r gF { s with down := true } ∧ Ext (fun b => b = r ∨ b = gF) w w' := by
  have h1 := h.down
  have h2 := h.room
  have h3 := h.f
  obtain ⟨h4, h5⟩ := h.files i hi
  obtain ⟨l1, l2⟩ := h.lt
  rw [hdn] at h1
  have i1 : (i : Int) < (s.fs.length : Int) := by omega
  have i2 : (0 : Int) ≤ (i : Int) := by omega
  have HR := hid h
  have HI := hid hi
  have HS := hid hs
  have HDN := hid hdn
  have HF := hid hf
  clear h hdn hs hf
  go_enter Try.func27, Try.ntmps27
  go_wp2_with (first | ((with_reducible refine wp_region_plan (id := 7) (.eff [(false, 0), (false, 1), (false, 2), (false, 3), (false, 4), (false, 5), (false, 6), (false, 7), (false, 8), (false, 9), (false, 10), (false, 11), (false, 12), (false, 13), (false, 14), (false, 15)] 16 [] (.fin [])) ?_ ?_ ?_ ?_ ?_ ?_); kernel_rfl; kernel_rfl; kernel_rfl; kernel_rfl; (intro c a d v w h; cases d <;> exact h)) | (with_reducible refine wpPlan_eff ?_) | (with_reducible refine wpPlan_fin ?_) | (with_reducible refine wpPlan_two ?_) | (with_reducible refine wpOpPair ?_ ?_) | ((with_reducible apply wpPre_keep); rfl; intro K' hK'; go_simp; refine hK' _ _ ?_; intro f hf; clear hK' K') | ((with_reducible apply wpPre_drop); rfl; intro K' hK'; go_simp; refine hK' _ _ ?_; intro f; clear hK' K') | (with_reducible refine wpPre_nil ?_) | ((with_reducible apply wpOp_list); rfl) | (with_reducible refine heldPair ?_ ?_) | ((with_reducible refine heldH_no ?_ ?_); rfl) | (with_reducible refine heldH_yes ?_ ?_) | (with_reducible exact heldH_nil) | (unfold YAt; go_simp; done) | (go_at_call 44; refine (rhas_yes (HR.out.below (by repeat (first | (with_reducible exact Below.refl _ _) | (with_reducible exact bl_mm) | (with_reducible refine bl_dr ?_) | (with_reducible refine bl_drN ?_ _) | (with_reducible refine bl_al ?_ _) | (with_reducible refine bl_more ?_ _ _)))) i HI.out).mono ?_; rintro e w1 ⟨rfl, hb1⟩; obtain ⟨ex, dx, rfl⟩ := more_of hb1; clear hb1) | (go_at_call 45; refine (rburn_off (HR.out.below (by repeat (first | (with_reducible exact Below.refl _ _) | (with_reducible exact bl_mm) | (with_reducible refine bl_dr ?_) | (with_reducible refine bl_drN ?_ _) | (with_reducible refine bl_al ?_ _) | (with_reducible refine bl_more ?_ _ _)))) HS.out HDN.out HF.out).mono ?_; rintro e w1 ⟨rfl, hq, he⟩; have HQ := hid hq; have HE := hid he; clear hq he))
  go_ret
  exact ⟨rfl, HQ.out.below (by repeat (first | (with_reducible exact Below.refl _ _) | (with_reducible exact bl_mm) | (with_reducible refine bl_dr ?_) | (with_reducible refine bl_drN ?_ _) | (with_reducible refine bl_al ?_ _) | (with_reducible refine bl_more ?_ _ _))), (Ext.trans (S := fun b => b = r ∨ b = gF) (by repeat (first | (with_reducible exact Ext.refl _ _) | (with_reducible refine ex_dr ?_) | (with_reducible refine ex_drN ?_ _) | (with_reducible refine ex_al ?_ _) | (with_reducible refine ex_more ?_ _ _) | (with_reducible refine Ext.set ?_ _ _ _ (by first | exact rfl | exact .inl rfl | exact .inr rfl)))) HE.out (fun _ _ h => .inl h)).trans ((by repeat (first | (with_reducible exact Ext.refl _ _) | (with_reducible refine ex_dr ?_) | (with_reducible refine ex_drN ?_ _) | (with_reducible refine ex_al ?_ _) | (with_reducible refine ex_more ?_ _ _) | (with_reducible refine Ext.set ?_ _ _ _ (by first | exact rfl | exact .inl rfl | exact .inr rfl)))) : Ext (fun b => b = r ∨ b = gF) _ _) (fun _ _ h => h)⟩
set_option maxHeartbeats 1000000 in
theorem rcut_off {w : World} {r gF : Nat} {s : DS} {i : Nat} {C : Int} {n : Nat} (h : Rk w r gF s) (hs : s.Ok C) (hdn : s.down = false) (hi : i < s.fs.length) (hf : s.fuse = 0) (hlow : ¬ (n : Int) < 0) (hhigh : ¬ (s.fs[i].b.length : Int) < (n : Int)) :
    Calls Try.prog 28 #[.pointer (some ⟨r, 0, none⟩), .int .i64 i, .int .i64 n] w fun e w' => e = .returned (.int .i64 9) ∧ Rk w' r gF { s with down := true } ∧ Ext (fun b => b = r ∨ b = gF) w w' := by
  have h1 := h.down
  have h2 := h.room
  have h3 := h.f
  obtain ⟨h4, h5⟩ := h.files i hi
  obtain ⟨l1, l2⟩ := h.lt
  rw [hdn] at h1
  have i1 : (i : Int) < (s.fs.length : Int) := by omega
  have i2 : (0 : Int) ≤ (i : Int) := by omega
  have HR := hid h
  have HI := hid hi
  have HS := hid hs
  have HDN := hid hdn
  have HF := hid hf
  clear h hdn hs hf
  go_enter Try.func28, Try.ntmps28
  go_wp2_with (first | ((with_reducible refine wp_region_plan (id := 7) (.eff [(false, 0), (false, 1), (false, 2), (false, 3), (false, 4), (false, 5), (false, 6), (false, 7), (false, 8), (false, 9), (false, 10), (false, 11), (false, 12), (false, 13), (false, 14), (false, 15), (false, 16), (false, 17), (false, 18)] 19 [] (.fin [])) ?_ ?_ ?_ ?_ ?_ ?_); kernel_rfl; kernel_rfl; kernel_rfl; kernel_rfl; (intro c a d v w h; cases d <;> exact h)) | ((with_reducible refine wp_region_plan (id := 8) (.eff [(false, 0), (false, 1), (false, 2), (false, 3), (false, 4), (false, 5), (false, 6), (false, 7), (false, 8), (false, 9), (false, 10), (false, 11), (false, 12), (false, 13), (false, 14), (false, 15), (false, 16), (false, 17)] 18 [] (.fin [])) ?_ ?_ ?_ ?_ ?_ ?_); kernel_rfl; kernel_rfl; kernel_rfl; kernel_rfl; (intro c a d v w h; cases d <;> exact h)) | (with_reducible refine wpPlan_eff ?_) | (with_reducible refine wpPlan_fin ?_) | (with_reducible refine wpPlan_two ?_) | (with_reducible refine wpOpPair ?_ ?_) | ((with_reducible apply wpPre_keep); rfl; intro K' hK'; go_simp; refine hK' _ _ ?_; intro f hf; clear hK' K') | ((with_reducible apply wpPre_drop); rfl; intro K' hK'; go_simp; refine hK' _ _ ?_; intro f; clear hK' K') | (with_reducible refine wpPre_nil ?_) | ((with_reducible apply wpOp_list); rfl) | (with_reducible refine heldPair ?_ ?_) | ((with_reducible refine heldH_no ?_ ?_); rfl) | (with_reducible refine heldH_yes ?_ ?_) | (with_reducible exact heldH_nil) | (unfold YAt; go_simp; done) | (go_at_call 44; refine (rhas_yes (HR.out.below (by repeat (first | (with_reducible exact Below.refl _ _) | (with_reducible exact bl_mm) | (with_reducible refine bl_dr ?_) | (with_reducible refine bl_drN ?_ _) | (with_reducible refine bl_al ?_ _) | (with_reducible refine bl_more ?_ _ _)))) i HI.out).mono ?_; rintro e w1 ⟨rfl, hb1⟩; obtain ⟨ex, dx, rfl⟩ := more_of hb1; clear hb1) | (go_at_call 45; refine (rburn_off (HR.out.below (by repeat (first | (with_reducible exact Below.refl _ _) | (with_reducible exact bl_mm) | (with_reducible refine bl_dr ?_) | (with_reducible refine bl_drN ?_ _) | (with_reducible refine bl_al ?_ _) | (with_reducible refine bl_more ?_ _ _)))) HS.out HDN.out HF.out).mono ?_; rintro e w1 ⟨rfl, hq, he⟩; have HQ := hid hq; have HE := hid he; clear hq he))
  go_ret
  exact ⟨rfl, HQ.out.below (by repeat (first | (with_reducible exact Below.refl _ _) | (with_reducible exact bl_mm) | (with_reducible refine bl_dr ?_) | (with_reducible refine bl_drN ?_ _) | (with_reducible refine bl_al ?_ _) | (with_reducible refine bl_more ?_ _ _))), (Ext.trans (S := fun b => b = r ∨ b = gF) (by repeat (first | (with_reducible exact Ext.refl _ _) | (with_reducible refine ex_dr ?_) | (with_reducible refine ex_drN ?_ _) | (with_reducible refine ex_al ?_ _) | (with_reducible refine ex_more ?_ _ _) | (with_reducible refine Ext.set ?_ _ _ _ (by first | exact rfl | exact .inl rfl | exact .inr rfl)))) HE.out (fun _ _ h => .inl h)).trans ((by repeat (first | (with_reducible exact Ext.refl _ _) | (with_reducible refine ex_dr ?_) | (with_reducible refine ex_drN ?_ _) | (with_reducible refine ex_al ?_ _) | (with_reducible refine ex_more ?_ _ _) | (with_reducible refine Ext.set ?_ _ _ _ (by first | exact rfl | exact .inl rfl | exact .inr rfl)))) : Ext (fun b => b = r ∨ b = gF) _ _) (fun _ _ h => h)⟩
end Go.Proofs.Ytnobbehoojgfcaa
