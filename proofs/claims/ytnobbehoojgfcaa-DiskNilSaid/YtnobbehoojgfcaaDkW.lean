/- Calls, one behind the other. -/
import Derived.Test.YtnobbehoojgfcaaDkV
namespace Go.Proofs.Ytnobbehoojgfcaa
open Go.RowKit

theorem step_any {w0 w : World} {d r gF : Nat} {s : DS} {C : Int} {a : ActD} {B D : Option Addr} {cb cd : Nat} (h : Two w0 w d r gF s s) (hs : s.Ok C) (hC : C ≤ 1000000000) (hv : u8E.Row (fun b => b < w0.heap.size) w (.slice B a.b.length cb) a.b) (hkp : intE.Row (fun b => b < w0.heap.size) w (.slice D a.keep.length cd) a.keep) (hok : okA a) :
    Calls Try.prog 12 #[.pointer (some ⟨d, 0, none⟩), .pointer (some ⟨r, 0, none⟩), actV a (.slice B a.b.length cb) (.slice D a.keep.length cd)] w (Stepped w0 d r gF (stepS a s)) := by
  unfold stepS
  by_cases h1 : a.kind = 1
  · rw [if_pos h1]; exact step_sync h hs hC h1
  · rw [if_neg h1]
    by_cases h2 : a.kind = 2
    · rw [if_pos h2]; exact step_cut h hs hC h2
    · rw [if_neg h2]
      by_cases h3 : a.kind = 3
      · rw [if_pos h3]; exact step_arm h hs hC h3
      · rw [if_neg h3]
        by_cases h4 : a.kind = 4
        · rw [if_pos h4]; exact step_crash h hs hC h4 hkp
        · rw [if_neg h4]
          by_cases h5 : a.kind = 5
          · rw [if_pos h5]; exact step_grow h hs hC h5
          · rw [if_neg h5]
            by_cases h6 : a.kind = 6
            · rw [if_pos h6]; exact step_copy h hs hC h6
            · rw [if_neg h6]; exact step_app h hs hC hv hok.1 h1 h2 h3 h4 h5 h6
theorem stepS_ok {s : DS} {C : Int} {a : ActD} (h : s.Ok C) (hok : okA a) : (stepS a s).Ok (C + 1048576) := by
  have h0 : C ≤ C + 1048576 := by omega
  unfold stepS
  by_cases h1 : a.kind = 1
  · rw [if_pos h1]; exact (sync_ok h _).mono h0
  · rw [if_neg h1]
    by_cases h2 : a.kind = 2
    · rw [if_pos h2]; exact (cut_ok h _ _).mono h0
    · rw [if_neg h2]
      by_cases h3 : a.kind = 3
      · rw [if_pos h3]; exact (arm_ok h hok.2.2).mono h0
      · rw [if_neg h3]
        by_cases h4 : a.kind = 4
        · rw [if_pos h4]; exact (crashS_ok h _).mono h0
        · rw [if_neg h4]
          by_cases h5 : a.kind = 5
          · rw [if_pos h5]; exact grow_ok h _
          · rw [if_neg h5]
            by_cases h6 : a.kind = 6
            · rw [if_pos h6]; exact h.mono h0
            · rw [if_neg h6]; exact (app_ok h _ _).mono h0
theorem few_yes {K : Nat → Prop} {w : World} {v : Value} {xs : List ActD} (h : actE.Row K w v xs) (hf : fewB xs = true) :
    Calls Try.prog 8 #[v] w fun e w' => e = .returned (.bool true) ∧ Below w.heap.size w w' := (few_any h).mono fun _ _ ⟨h1, h2⟩ => ⟨by rw [h1, hf], h2⟩
theorem few_no {K : Nat → Prop} {w : World} {v : Value} {xs : List ActD} (h : actE.Row K w v xs) (hf : fewB xs = false) :
    Calls Try.prog 8 #[v] w fun e w' => e = .returned (.bool false) ∧ Below w.heap.size w w' := (few_any h).mono fun _ _ ⟨h1, h2⟩ => ⟨by rw [h1, hf], h2⟩
theorem few_len {xs : List ActD} (h : fewB xs = true) : xs.length ≤ 200 := by simp [fewB] at h; exact h.1
theorem few_ok {xs : List ActD} (h : fewB xs = true) (hn : ∀ x ∈ xs, x.n ≤ 9223372036854775807) (i : Nat) (hi : i < xs.length) : okA xs[i] := by
  simp only [fewB, Bool.and_eq_true, List.all_eq_true, decide_eq_true_eq] at h
  have := h.2 _ (List.getElem_mem hi)
  exact ⟨this.1, this.2, hn _ (List.getElem_mem hi)⟩
theorem new_okS {n : Nat} {r : Int} (h1 : 1 ≤ n) (h2 : n ≤ 65) (h3 : 0 ≤ r) (h4 : r ≤ 1048576) : DS.Ok { fs := fs0 n, room := r, fuse := -1, down := false } 1048576 := by
  have hl : (fs0 n).length = n := by simp [fs0]
  refine ⟨h3, ?_, by show 1 ≤ (fs0 n).length; omega, by show (fs0 n).length ≤ 65; omega, fun f hf => ?_, by show (-1 : Int) ≤ -1; omega, by show (-1 : Int) ≤ _; omega⟩
  · show r + (bytes (fs0 n) : Int) ≤ _
    rw [bytes0]; omega
  · rw [List.eq_of_mem_replicate hf]; exact Nat.le_refl _
/-- Two disks, both new. -/
theorem Two.new {w w1 w2 : World} {d r gF : Nat} {s : DS} (hd : d = w.heap.size) (hk : Dk w1 d (fun _ => False) s) (hb : Below w.heap.size w w1) (hr : w1.heap.size ≤ r) (hg : w1.heap.size ≤ gF) (hR : Rk w2 r gF s) (hb2 : Below w1.heap.size w1 w2) : Two w w2 d r gF s s := by
  have := hb.size
  exact ⟨(hk.below hb2).mono (fun b hb _ => hb.elim), hR, hb.trans (hb2.mono hb.size), by omega, by omega, by omega⟩

theorem Two.bw0 {w0 w : World} {d r gF : Nat} {s t : DS} (h : Two w0 w d r gF s t) : Below w0.heap.size w0 w := h.bw
set_option maxRecDepth 8000 in
set_option maxHeartbeats 4000000 in
theorem plays_any {w : World} {n r0 : Int} {v : Value} {xs : List ActD} (h : actE.Row (fun _ => True) w v xs) (hnb : ∀ x ∈ xs, x.n ≤ 9223372036854775807) :
    Calls Try.prog 3 #[.int .i64 n, .int .i64 r0, v] w fun e w' => e = .returned (.bool true) ∧ Below w.heap.size w w' := by
  obtain ⟨A, c, rfl, _, _⟩ := h.form
  have HX := hid h
  have HNB := hid hnb
  clear h hnb
  cases hf : fewB xs with
  | false =>
    have HF := hid hf
    clear hf
    go_enter Try.func3, Try.ntmps3
    go_wp2_with (first | (go_at_call 8; refine (few_no (HX.out.below (by repeat (first | (with_reducible exact Below.refl _ _) | (with_reducible exact bl_mm) | (with_reducible refine bl_dr ?_) | (with_reducible refine bl_drN ?_ _) | (with_reducible refine bl_al ?_ _) | (with_reducible refine bl_more ?_ _ _)))) HF.out).mono ?_; rintro e w2 ⟨rfl, hb1⟩; obtain ⟨ex, dx, rfl⟩ := more_of hb1; clear hb1) | (go_at_call 9; refine (lives_any _).mono ?_; rintro e w2 ⟨rfl, hb1⟩; obtain ⟨ex, dx, rfl⟩ := more_of hb1; clear hb1))
    go_ret
    exact ⟨rfl, (by repeat (first | (with_reducible exact Below.refl _ _) | (with_reducible exact bl_mm) | (with_reducible refine bl_dr ?_) | (with_reducible refine bl_drN ?_ _) | (with_reducible refine bl_al ?_ _) | (with_reducible refine bl_more ?_ _ _)))⟩
  | true =>
    have HF := hid hf
    have hlen := few_len hf
    clear hf
    by_cases hbad : n < 1 ∨ 65 < n ∨ r0 < 0 ∨ 1048576 < r0
    · have HBAD := hid hbad
      clear hbad
      go_enter Try.func3, Try.ntmps3
      go_wp2_with (first | (go_at_call 8; refine (few_yes (HX.out.below (by repeat (first | (with_reducible exact Below.refl _ _) | (with_reducible exact bl_mm) | (with_reducible refine bl_dr ?_) | (with_reducible refine bl_drN ?_ _) | (with_reducible refine bl_al ?_ _) | (with_reducible refine bl_more ?_ _ _)))) HF.out).mono ?_; rintro e w2 ⟨rfl, hb1⟩; obtain ⟨ex0, dx0, rfl⟩ := more_of hb1; clear hb1) | (go_at_call 10; refine (new_bad HBAD.out).mono ?_; rintro e w2 ⟨rfl, hb1⟩; obtain ⟨ex, dx, rfl⟩ := more_of hb1; clear hb1) | (go_at_call 11; refine (rnew_bad HBAD.out).mono ?_; rintro e w2 ⟨rfl, hb1⟩; obtain ⟨ex, dx, rfl⟩ := more_of hb1; clear hb1) | (go_at_call 9; refine (lives_any _).mono ?_; rintro e w2 ⟨rfl, hb1⟩; obtain ⟨ex, dx, rfl⟩ := more_of hb1; clear hb1))
      go_ret
      exact ⟨rfl, (by repeat (first | (with_reducible exact Below.refl _ _) | (with_reducible exact bl_mm) | (with_reducible refine bl_dr ?_) | (with_reducible refine bl_drN ?_ _) | (with_reducible refine bl_al ?_ _) | (with_reducible refine bl_more ?_ _ _)))⟩
    · obtain ⟨m, rfl⟩ : ∃ m : Nat, n = m := ⟨n.toNat, by omega⟩
      have H1 := hid (show 1 ≤ m by omega)
      have H2 := hid (show m ≤ 65 by omega)
      have H3 := hid (show 0 ≤ r0 by omega)
      have H4 := hid (show r0 ≤ 1048576 by omega)
      clear hbad
      go_enter Try.func3, Try.ntmps3
      go_wp2_with (first | (go_at_call 8; refine (few_yes (HX.out.below (by repeat (first | (with_reducible exact Below.refl _ _) | (with_reducible exact bl_mm) | (with_reducible refine bl_dr ?_) | (with_reducible refine bl_drN ?_ _) | (with_reducible refine bl_al ?_ _) | (with_reducible refine bl_more ?_ _ _)))) HF.out).mono ?_; rintro e w2 ⟨rfl, hb1⟩; obtain ⟨ex0, dx0, rfl⟩ := more_of hb1; clear hb1) | (go_at_call 10; refine (new_any (G := fun _ => False) H1.out H2.out H3.out H4.out).mono ?_; rintro e w1 ⟨d, rfl, hd, hq, hb1⟩; have HQ := hid (And.intro hd (And.intro hq hb1)); clear hd hq hb1) | (go_at_call 11; refine (rnew_any H1.out H2.out H3.out H4.out).mono ?_; rintro e w2 ⟨r, gF, rfl, hr, hg, hR, hb2⟩; have HT := hid (Two.new HQ.out.1 HQ.out.2.1 HQ.out.2.2 hr hg hR hb2); clear hr hg hR hb2))
      obtain ⟨wz, hz⟩ : ∃ wz, wz = more w ex0 dx0 := ⟨_, rfl⟩
      have HBW : Hid (Below w.heap.size w wz) := by rw [hz]; exact hid (more_below _ _ _)
      have HT0 := HT.out
      rw [← hz] at HT0
      have hok0 := new_okS H1.out H2.out H3.out H4.out
      clear HT hz HQ
      go_loopg [11] xs.length (fun k i wr => ∃ (j : Nat) (s : DS), j + k = xs.length ∧ i = .int .i64 j ∧ Two wz wr d r gF s s ∧ s.Ok (1048576 * ((j : Int) + 1)))
      case atStart => exact ⟨0, _, by omega, rfl, HT0, hok0⟩
      case round =>
        obtain ⟨j, s, hj, rfl, ht, hs⟩ := hrel
        have HT := hid ht
        have HS := hid hs
        have HC := hid (show 1048576 * ((j : Int) + 1) ≤ 1000000000 by omega)
        have HC2 := hid (show 1048576 * ((j : Int) + 1) + 1048576 ≤ 1000000000 by omega)
        have HJ := hid hj
        clear HT0 hok0 hs
        by_cases hlt : j < xs.length
        · obtain ⟨bb, off, B, cb, D, cd, rfl, hbl, _, hv, hk, hc⟩ := Row_act HX.out j hlt
          have e0 : wr.cell? ⟨bb, off + j * 5, none⟩ = some (.int .i64 (xs[j]'hlt).kind) := cell_kept ht.bw0 (cell_kept HBW.out (hc 0 _ rfl))
          have e1 : wr.cell? ⟨bb, off + j * 5 + 1, none⟩ = some (.int .i64 (xs[j]'hlt).i) := cell_kept ht.bw0 (cell_kept HBW.out (hc 1 _ rfl))
          have e2 : wr.cell? ⟨bb, off + j * 5 + 2, none⟩ = some (.int .i64 (xs[j]'hlt).n) := cell_kept ht.bw0 (cell_kept HBW.out (hc 2 _ rfl))
          have e3 : wr.cell? ⟨bb, off + j * 5 + 3, none⟩ = some (.slice B (xs[j]'hlt).b.length cb) := cell_kept ht.bw0 (cell_kept HBW.out (hc 3 _ rfl))
          have e4 : wr.cell? ⟨bb, off + j * 5 + 4, none⟩ = some (.slice D (xs[j]'hlt).keep.length cd) := cell_kept ht.bw0 (cell_kept HBW.out (hc 4 _ rfl))
          have HV := hid ((((hv.bound).below HBW.out).below ht.bw0).mono (K' := fun b => b < wz.heap.size) (fun b hb _ => Nat.lt_of_lt_of_le hb.2 HBW.out.size))
          have HKP := hid ((((hk.bound).below HBW.out).below ht.bw0).mono (K' := fun b => b < wz.heap.size) (fun b hb _ => Nat.lt_of_lt_of_le hb.2 HBW.out.size))
          have HOKA := hid (few_ok HF.out HNB.out j hlt)
          clear hc hv hk
          have HS2 := hid (stepS_ok HS.out HOKA.out)
          have i1 : (j : Int) < (xs.length : Int) := by omega
          have i3 : (0 : Int) ≤ (j : Int) := by omega
          have w1' : IntKind.i64.wrap ((j : Int) + 1) = ((j + 1 : Nat) : Int) := by rw [IntWalk.i64_in _ (by omega)]; rfl
          clear ht hj
          cases hm : ((j : Int) % 8 == 7) with
          | true =>
            go_wp2_with (first | (go_at_call 12; refine (step_any (a := xs[j]'hlt) HT.out HS.out HC.out HV.out HKP.out HOKA.out).mono ?_; rintro e w2 ⟨rfl, h2⟩; have HT2 := hid h2; clear h2) | (go_at_call 13; refine (alike_any (HT2.out.below (by repeat (first | (with_reducible exact Below.refl _ _) | (with_reducible exact bl_mm) | (with_reducible refine bl_dr ?_) | (with_reducible refine bl_drN ?_ _) | (with_reducible refine bl_al ?_ _) | (with_reducible refine bl_more ?_ _ _)))).dk (HT2.out.below (by repeat (first | (with_reducible exact Below.refl _ _) | (with_reducible exact bl_mm) | (with_reducible refine bl_dr ?_) | (with_reducible refine bl_drN ?_ _) | (with_reducible refine bl_al ?_ _) | (with_reducible refine bl_more ?_ _ _)))).rk HS2.out HC2.out).mono ?_; rintro e w3 ⟨rfl, hb1⟩; obtain ⟨ex, dx, rfl⟩ := more_of hb1; clear hb1))
            go_roundg (xs.length - (j + 1))
            case measure => have := HJ.out; omega
            case rel => exact ⟨j + 1, _, by have := HJ.out; omega, rfl, HT2.out.below (by repeat (first | (with_reducible exact Below.refl _ _) | (with_reducible exact bl_mm) | (with_reducible refine bl_dr ?_) | (with_reducible refine bl_drN ?_ _) | (with_reducible refine bl_al ?_ _) | (with_reducible refine bl_more ?_ _ _))), HS2.out.mono (by omega)⟩
          | false =>
            go_wp2_with (first | (go_at_call 12; refine (step_any (a := xs[j]'hlt) HT.out HS.out HC.out HV.out HKP.out HOKA.out).mono ?_; rintro e w2 ⟨rfl, h2⟩; have HT2 := hid h2; clear h2))
            go_roundg (xs.length - (j + 1))
            case measure => have := HJ.out; omega
            case rel => exact ⟨j + 1, _, by have := HJ.out; omega, rfl, HT2.out.below (by repeat (first | (with_reducible exact Below.refl _ _) | (with_reducible exact bl_mm) | (with_reducible refine bl_dr ?_) | (with_reducible refine bl_drN ?_ _) | (with_reducible refine bl_al ?_ _) | (with_reducible refine bl_more ?_ _ _))), HS2.out.mono (by omega)⟩
        · obtain rfl : j = xs.length := by omega
          have i1 : ¬ (xs.length : Int) < xs.length := by omega
          clear hj ht
          go_wp2_with (first | (go_at_call 13; refine (alike_any (HT.out.below (by repeat (first | (with_reducible exact Below.refl _ _) | (with_reducible exact bl_mm) | (with_reducible refine bl_dr ?_) | (with_reducible refine bl_drN ?_ _) | (with_reducible refine bl_al ?_ _) | (with_reducible refine bl_more ?_ _ _)))).dk (HT.out.below (by repeat (first | (with_reducible exact Below.refl _ _) | (with_reducible exact bl_mm) | (with_reducible refine bl_dr ?_) | (with_reducible refine bl_drN ?_ _) | (with_reducible refine bl_al ?_ _) | (with_reducible refine bl_more ?_ _ _)))).rk HS.out HC.out).mono ?_; rintro e w3 ⟨rfl, hb1⟩; obtain ⟨ex, dx, rfl⟩ := more_of hb1; clear hb1) | (go_at_call 9; refine (lives_any _).mono ?_; rintro e w2 ⟨rfl, hb1⟩; obtain ⟨ex, dx, rfl⟩ := more_of hb1; clear hb1))
          go_ret
          exact ⟨rfl, HBW.out.trans ((HT.out.below (by repeat (first | (with_reducible exact Below.refl _ _) | (with_reducible exact bl_mm) | (with_reducible refine bl_dr ?_) | (with_reducible refine bl_drN ?_ _) | (with_reducible refine bl_al ?_ _) | (with_reducible refine bl_more ?_ _ _)))).bw.mono HBW.out.size)⟩
end Go.Proofs.Ytnobbehoojgfcaa
