/- Are both pools alike? -/
import Derived.Test.YtlfdnjomjheioaaPLd
namespace Go.Proofs.Ytlfdnjomjheioaa
open Go.RowKit

def fewB (l : List PAct) : Bool := decide (l.length ≤ 300) && l.all (fun a => decide (a.j.stamp.length ≤ 100))
theorem Row_act {K : Nat → Prop} {w : World} {A : Option Addr} {n c : Nat} {xs : List PAct} (h : pactE.Row K w (.slice A n c) xs) (i : Nat) (hi : i < xs.length) :
    ∃ b off B cb, A = some ⟨b, off, none⟩ ∧ b < w.heap.size ∧ K b ∧ intE.Row K w (.slice B xs[i].j.stamp.length cb) xs[i].j.stamp ∧ (w.cell? ⟨b, off + i * 9, none⟩ = some (.int .i64 xs[i].kind) ∧ w.cell? ⟨b, off + i * 9 + 1, none⟩ = some (.int .i64 xs[i].w) ∧ w.cell? ⟨b, off + i * 9 + 2, none⟩ = some (.int .i64 xs[i].n)) ∧
      ∀ j u, (jobCells xs[i].j (.slice B xs[i].j.stamp.length cb))[j]? = some u → w.cell? ⟨b, off + i * 9 + 3 + j, none⟩ = some u := by
  obtain ⟨b, off, cs, rfl, hb, hl, ⟨c1, _, rfl, rfl, ⟨c2, _, rfl, rfl, ⟨c3, c4, rfl, rfl, hrd⟩⟩⟩, hc⟩ := h.get i hi
  obtain ⟨v, rfl, hv⟩ := jobE_open hrd
  obtain ⟨B, cb, rfl, _⟩ := hv.form
  refine ⟨b, off, B, cb, rfl, hl, hb, hv, ⟨hc 0 _ rfl, hc 1 _ rfl, hc 2 _ rfl⟩, fun j u hj => ?_⟩
  have := hc (3 + j) u (by
    rw [← hj]
    simp only [List.cons_append, List.nil_append]
    rw [show 3 + j = j + 1 + 1 + 1 from by omega]
    simp only [List.getElem?_cons_succ])
  rwa [← Nat.add_assoc] at this

set_option maxHeartbeats 1000000 in
theorem few_any {K : Nat → Prop} {w : World} {v : Value} {xs : List PAct} (h : pactE.Row K w v xs) :
    Calls Try.prog 7 #[v] w fun e w' => e = .returned (.bool (fewB xs)) ∧ Below w.heap.size w w' := by
  obtain ⟨A, c, rfl, h1, h2⟩ := h.form
  have HR := hid h
  clear h h1 h2
  by_cases hl : 300 < xs.length
  · have i0 : (300 : Int) < (xs.length : Int) := by omega
    go_enter Try.func7, Try.ntmps7
    go_wp2
    go_ret
    refine ⟨?_, (by repeat (first | (with_reducible exact Below.refl _ _) | (with_reducible exact bl_mm) | (with_reducible refine bl_dr ?_) | (with_reducible refine bl_drN ?_ _) | (with_reducible refine bl_al ?_ _) | (with_reducible refine bl_more ?_ _ _)))⟩
    have : fewB xs = false := by
      simp only [fewB, Bool.and_eq_false_iff]
      left
      simp; omega
    rw [this]; rfl
  · have i0 : ¬ (300 : Int) < (xs.length : Int) := by omega
    have HL := hid hl
    go_enter Try.func7, Try.ntmps7
    go_wp2
    go_loopg [3] xs.length (fun k i wr => ∃ j : Nat, j + k = xs.length ∧ i = .int .i64 j ∧ (∀ x ∈ xs.take j, x.j.stamp.length ≤ 100) ∧ wr = w)
    case atStart => exact ⟨0, by omega, rfl, by simp, rfl⟩
    case round =>
      obtain ⟨j, hj, rfl, hno, rfl⟩ := hrel
      have HN := hid hno
      have HJ := hid hj
      clear hno
      by_cases hlt : j < xs.length
      · obtain ⟨bb, off, B, cb, rfl, hbl, _, hv, _, hc⟩ := Row_act HR.out j hlt
        have e5 : wr.cell? ⟨bb, off + j * 9 + 3 + 5, none⟩ = some (.slice B xs[j].j.stamp.length cb) := hc 5 _ rfl
        clear hc hv hj
        have i1 : (j : Int) < (xs.length : Int) := by omega
        have i3 : (0 : Int) ≤ (j : Int) := by omega
        have w1' : IntKind.i64.wrap ((j : Int) + 1) = ((j + 1 : Nat) : Int) := by rw [IntWalk.i64_in _ (by omega)]; rfl
        by_cases hs : 100 < xs[j].j.stamp.length
        · have i4 : (100 : Int) < (xs[j].j.stamp.length : Int) := by omega
          go_wp2
          go_ret
          refine ⟨?_, (by repeat (first | (with_reducible exact Below.refl _ _) | (with_reducible exact bl_mm) | (with_reducible refine bl_dr ?_) | (with_reducible refine bl_drN ?_ _) | (with_reducible refine bl_al ?_ _) | (with_reducible refine bl_more ?_ _ _)))⟩
          have : fewB xs = false := by
            simp only [fewB, Bool.and_eq_false_iff]
            right
            rw [List.all_eq_false]
            exact ⟨xs[j], List.getElem_mem hlt, by simp; omega⟩
          rw [this]; rfl
        · have i4 : ¬ (100 : Int) < (xs[j].j.stamp.length : Int) := by omega
          go_wp2
          go_roundg (xs.length - (j + 1))
          case measure => have := HJ.out; omega
          case rel =>
            refine ⟨j + 1, by have := HJ.out; omega, rfl, fun x hx => ?_, rfl⟩
            rw [List.take_succ_eq_append_getElem hlt] at hx
            rcases List.mem_append.1 hx with h | h
            · exact HN.out x h
            · rw [List.mem_singleton.1 h]; omega
      · obtain rfl : j = xs.length := by omega
        have i1 : ¬ (xs.length : Int) < xs.length := by omega
        clear hj
        go_wp2
        go_ret
        refine ⟨?_, (by repeat (first | (with_reducible exact Below.refl _ _) | (with_reducible exact bl_mm) | (with_reducible refine bl_dr ?_) | (with_reducible refine bl_drN ?_ _) | (with_reducible refine bl_al ?_ _) | (with_reducible refine bl_more ?_ _ _)))⟩
        have : fewB xs = true := by
          simp only [fewB, Bool.and_eq_true, decide_eq_true_eq, List.all_eq_true]
          exact ⟨by have := HL.out; omega, fun x hx => HN.out x (by rw [List.take_length]; exact hx)⟩
        rw [this]; rfl

theorem all_refl {K K' : Nat → Prop} {w : World} {v v' : Value} {xs : List Job} (h : jobE.Row K w v xs) (h' : jobE.Row K' w v' xs) :
    Calls Try.prog 38 #[v, v'] w fun e w' => e = .returned (.bool true) ∧ Below w.heap.size w w' := (same_all h h').mono fun _ _ ⟨h1, h2⟩ => ⟨by rw [h1]; simp, h2⟩
set_option maxHeartbeats 1000000 in
theorem rheld_noB {N : Nat} {w : World} {K : Nat → Prop} {r : Nat} {s : List Wk} {b1 b2 b3 : Nat} (h : Rp N w K r s b1 b2 b3) (i : Nat) (hi : i < s.length) (hj : s[i].h.isSome = false) :
    Calls Try.prog 37 #[.pointer (some ⟨r, 0, none⟩), .int .i64 i] w fun e w' => e = .returned (.tuple #[jobV job0 (.slice none 0 0), .int .i64 6]) ∧ Below w.heap.size w w' := by
  obtain ⟨c1, c2, c3⟩ := h.cells
  have a1 := h.has_ i hi
  rw [hj] at a1
  obtain ⟨l1, l2, l3, l4⟩ := h.lt
  have n2 := h.n2
  have i2 : (i : Int) < (s.length : Int) := by omega
  have i3 : (0 : Int) ≤ (i : Int) := by omega
  have HP := hid h
  have HI := hid (And.intro hi trivial)
  clear h n2 hj
  go_enter Try.func37, Try.ntmps37
  go_wp2_with (first | (go_at_call 49; refine (ris_yes (HP.out.below (by repeat (first | (with_reducible exact Below.refl _ _) | (with_reducible exact bl_mm) | (with_reducible refine bl_dr ?_) | (with_reducible refine bl_drN ?_ _) | (with_reducible refine bl_al ?_ _) | (with_reducible refine bl_more ?_ _ _)))) i HI.out.1).mono ?_; rintro e w1 ⟨rfl, hb1⟩; obtain ⟨ex, dx, rfl⟩ := more_of hb1; clear hb1))
  refine bodyPost_ret (v := .tuple #[jobV job0 (.slice none 0 0), .int .i64 6]) (by simp [results, Try.results37, job0, go_sem]) rfl ⟨rfl, (by repeat (first | (with_reducible exact Below.refl _ _) | (with_reducible exact bl_mm) | (with_reducible refine bl_dr ?_) | (with_reducible refine bl_drN ?_ _) | (with_reducible refine bl_al ?_ _) | (with_reducible refine bl_more ?_ _ _)))⟩
set_option maxRecDepth 8000 in
set_option maxHeartbeats 2000000 in
theorem alike_any {w0 w : World} {p r b1 b2 b3 : Nat} {s : List Wk} {ad : Nat → Ad} (h : Two w0 w p s ad r s b1 b2 b3) :
    Calls Try.prog 18 #[.pointer (some ⟨p, 0, none⟩), .pointer (some ⟨r, 0, none⟩)] w fun e w' => e = .returned (.bool true) ∧ Below w.heap.size w w' := by
  obtain ⟨c1, c2, c3⟩ := h.rp.cells
  have n2 := h.rp.n2
  obtain ⟨l1, l2, _, _⟩ := h.rp.lt
  have HT := hid h
  have M1 := hid trivial
  clear h
  go_enter Try.func18, Try.ntmps18
  go_wp2_with (first | ((with_reducible refine wp_region_plan (id := 6) (.eff [(false, 0), (false, 1)] 2 [] (.eff [(false, 3), (false, 4), (false, 5), (false, 6), (false, 7), (false, 8), (false, 9), (false, 10), (false, 11), (true, 13), (true, 14), (true, 15), (true, 16), (true, 17), (true, 18), (true, 19)] 12 [13, 14, 15, 16, 17, 18, 19] (.eff [] 20 [] (.fin [(false, 21), (false, 22)])))) ?_ ?_ ?_ ?_ ?_ ?_); kernel_rfl; kernel_rfl; kernel_rfl; kernel_rfl; (intro c a d v w h; cases d <;> exact h)) | (with_reducible refine wpPlan_eff ?_) | (with_reducible refine wpPlan_fin ?_) | (with_reducible refine wpPlan_two ?_) | (with_reducible refine wpOpPair ?_ ?_) | ((with_reducible apply wpPre_keep); rfl; intro K' hK'; go_simp; refine hK' _ _ ?_; intro f hf; clear hK' K') | ((with_reducible apply wpPre_drop); rfl; intro K' hK'; go_simp; refine hK' _ _ ?_; intro f; clear hK' K') | (with_reducible refine wpPre_nil ?_) | ((with_reducible apply wpOp_list); rfl) | (with_reducible refine heldPair ?_ ?_) | ((with_reducible refine heldH_no ?_ ?_); rfl) | (with_reducible refine heldH_yes ?_ ?_) | (with_reducible exact heldH_nil) | (unfold YAt; go_simp; done))
  go_loopg [5] s.length (fun k i wr => ∃ j : Nat, j + k = s.length ∧ i = .int .i64 j ∧ Below w.heap.size w wr)
  case atStart => exact ⟨0, by omega, rfl, (by repeat (first | (with_reducible exact Below.refl _ _) | (with_reducible exact bl_mm) | (with_reducible refine bl_dr ?_) | (with_reducible refine bl_drN ?_ _) | (with_reducible refine bl_al ?_ _) | (with_reducible refine bl_more ?_ _ _)))⟩
  case round =>
    obtain ⟨j, hj, rfl, hb⟩ := hrel
    obtain ⟨ex0, dx0, rfl⟩ := more_of hb
    clear hb
    have HJ := hid hj
    by_cases hlt : j < s.length
    · have i1 : (j : Int) < (s.length : Int) := by omega
      have i3 : (0 : Int) ≤ (j : Int) := by omega
      have w1' : IntKind.i64.wrap ((j : Int) + 1) = ((j + 1 : Nat) : Int) := by rw [IntWalk.i64_in _ (by omega)]; rfl
      have HI := hid (And.intro hlt trivial)
      obtain ⟨Aw, cw, hrw, e1⟩ := HT.out.rp.row j hlt
      have HRW := hid hrw
      clear hrw hj n2
      cases hh : s[j].h with
      | none =>
        have HJB := hid hh
        have HJS := hid (show s[j].h.isSome = false by rw [hh]; rfl)
        clear hh
        go_wp2_with (first | ((with_reducible refine wp_region_plan (id := 6) (.eff [(false, 0), (false, 1)] 2 [] (.eff [(false, 3), (false, 4), (false, 5), (false, 6), (false, 7), (false, 8), (false, 9), (false, 10), (false, 11), (true, 13), (true, 14), (true, 15), (true, 16), (true, 17), (true, 18), (true, 19)] 12 [13, 14, 15, 16, 17, 18, 19] (.eff [] 20 [] (.fin [(false, 21), (false, 22)])))) ?_ ?_ ?_ ?_ ?_ ?_); kernel_rfl; kernel_rfl; kernel_rfl; kernel_rfl; (intro c a d v w h; cases d <;> exact h)) | (with_reducible refine wpPlan_eff ?_) | (with_reducible refine wpPlan_fin ?_) | (with_reducible refine wpPlan_two ?_) | (with_reducible refine wpOpPair ?_ ?_) | ((with_reducible apply wpPre_keep); rfl; intro K' hK'; go_simp; refine hK' _ _ ?_; intro f hf; clear hK' K') | ((with_reducible apply wpPre_drop); rfl; intro K' hK'; go_simp; refine hK' _ _ ?_; intro f; clear hK' K') | (with_reducible refine wpPre_nil ?_) | ((with_reducible apply wpOp_list); rfl) | (with_reducible refine heldPair ?_ ?_) | ((with_reducible refine heldH_no ?_ ?_); rfl) | (with_reducible refine heldH_yes ?_ ?_) | (with_reducible exact heldH_nil) | (unfold YAt; go_simp; done) | (go_at_call 12; refine (pheld_no (HT.out.below (by repeat (first | (with_reducible exact Below.refl _ _) | (with_reducible exact bl_mm) | (with_reducible refine bl_dr ?_) | (with_reducible refine bl_drN ?_ _) | (with_reducible refine bl_al ?_ _) | (with_reducible refine bl_more ?_ _ _)))).pl j HI.out.1 HJB.out).mono ?_; rintro e w1 ⟨rfl, hb1⟩; obtain ⟨ex, dx, rfl⟩ := more_of hb1; clear hb1) | (go_at_call 37; refine (rheld_noB (HT.out.below (by repeat (first | (with_reducible exact Below.refl _ _) | (with_reducible exact bl_mm) | (with_reducible refine bl_dr ?_) | (with_reducible refine bl_drN ?_ _) | (with_reducible refine bl_al ?_ _) | (with_reducible refine bl_more ?_ _ _)))).rp j HI.out.1 HJS.out).mono ?_; rintro e w1 ⟨rfl, hb2⟩; obtain ⟨ex2, dx2, rfl⟩ := more_of hb2; clear hb2) | (go_at_call 13; refine (same_refl (j := job0) (Enc.Row.nil _ (fun _ => True) _) (Enc.Row.nil _ (fun _ => True) _)).mono ?_; rintro e w1 ⟨rfl, hb3⟩; obtain ⟨ex3, dx3, rfl⟩ := more_of hb3; clear hb3) | (go_at_call 21; refine (plist_any (HT.out.below (by repeat (first | (with_reducible exact Below.refl _ _) | (with_reducible exact bl_mm) | (with_reducible refine bl_dr ?_) | (with_reducible refine bl_drN ?_ _) | (with_reducible refine bl_al ?_ _) | (with_reducible refine bl_more ?_ _ _)))).pl j HI.out.1).mono ?_; rintro e w1 ⟨v4, rfl, hr4, hb4⟩; obtain ⟨A4, c4, rfl, _, _⟩ := hr4.form; have HR4 := hid hr4; obtain ⟨ex4, dx4, rfl⟩ := more_of hb4; clear hb4 hr4) | (go_at_call 38; refine (all_refl (HR4.out.below (by repeat (first | (with_reducible exact Below.refl _ _) | (with_reducible exact bl_mm) | (with_reducible refine bl_dr ?_) | (with_reducible refine bl_drN ?_ _) | (with_reducible refine bl_al ?_ _) | (with_reducible refine bl_more ?_ _ _)))) (HRW.out.below (by repeat (first | (with_reducible exact Below.refl _ _) | (with_reducible exact bl_mm) | (with_reducible refine bl_dr ?_) | (with_reducible refine bl_drN ?_ _) | (with_reducible refine bl_al ?_ _) | (with_reducible refine bl_more ?_ _ _))))).mono ?_; rintro e w1 ⟨rfl, hb5⟩; obtain ⟨ex5, dx5, rfl⟩ := more_of hb5; clear hb5))
        all_goals
          go_roundg (s.length - (j + 1))
          case measure => have := HJ.out; omega
          case rel => exact ⟨j + 1, by have := HJ.out; omega, rfl, (by repeat (first | (with_reducible exact Below.refl _ _) | (with_reducible exact bl_mm) | (with_reducible refine bl_dr ?_) | (with_reducible refine bl_drN ?_ _) | (with_reducible refine bl_al ?_ _) | (with_reducible refine bl_more ?_ _ _)))⟩
      | some jb =>
        have HJB := hid hh
        clear hh
        go_wp2_with (first | ((with_reducible refine wp_region_plan (id := 6) (.eff [(false, 0), (false, 1)] 2 [] (.eff [(false, 3), (false, 4), (false, 5), (false, 6), (false, 7), (false, 8), (false, 9), (false, 10), (false, 11), (true, 13), (true, 14), (true, 15), (true, 16), (true, 17), (true, 18), (true, 19)] 12 [13, 14, 15, 16, 17, 18, 19] (.eff [] 20 [] (.fin [(false, 21), (false, 22)])))) ?_ ?_ ?_ ?_ ?_ ?_); kernel_rfl; kernel_rfl; kernel_rfl; kernel_rfl; (intro c a d v w h; cases d <;> exact h)) | (with_reducible refine wpPlan_eff ?_) | (with_reducible refine wpPlan_fin ?_) | (with_reducible refine wpPlan_two ?_) | (with_reducible refine wpOpPair ?_ ?_) | ((with_reducible apply wpPre_keep); rfl; intro K' hK'; go_simp; refine hK' _ _ ?_; intro f hf; clear hK' K') | ((with_reducible apply wpPre_drop); rfl; intro K' hK'; go_simp; refine hK' _ _ ?_; intro f; clear hK' K') | (with_reducible refine wpPre_nil ?_) | ((with_reducible apply wpOp_list); rfl) | (with_reducible refine heldPair ?_ ?_) | ((with_reducible refine heldH_no ?_ ?_); rfl) | (with_reducible refine heldH_yes ?_ ?_) | (with_reducible exact heldH_nil) | (unfold YAt; go_simp; done) | (go_at_call 12; refine (pheld_yes (HT.out.below (by repeat (first | (with_reducible exact Below.refl _ _) | (with_reducible exact bl_mm) | (with_reducible refine bl_dr ?_) | (with_reducible refine bl_drN ?_ _) | (with_reducible refine bl_al ?_ _) | (with_reducible refine bl_more ?_ _ _)))).pl j HI.out.1 jb HJB.out).mono ?_; rintro e w1 ⟨v1, rfl, hr1, hb1⟩; obtain ⟨A1, c1, rfl, _, _⟩ := hr1.form; have HR1 := hid hr1; obtain ⟨ex, dx, rfl⟩ := more_of hb1; clear hb1 hr1) | (go_at_call 37; refine (rheld_yes (HT.out.below (by repeat (first | (with_reducible exact Below.refl _ _) | (with_reducible exact bl_mm) | (with_reducible refine bl_dr ?_) | (with_reducible refine bl_drN ?_ _) | (with_reducible refine bl_al ?_ _) | (with_reducible refine bl_more ?_ _ _)))).rp j HI.out.1 HJB.out).mono ?_; rintro e w1 ⟨v2, rfl, hr2, hb2⟩; obtain ⟨A2, c2, rfl, _, _⟩ := hr2.form; have HR2 := hid hr2; obtain ⟨ex2, dx2, rfl⟩ := more_of hb2; clear hb2 hr2) | (go_at_call 13; refine (same_refl (j := jb) (HR1.out.below (by repeat (first | (with_reducible exact Below.refl _ _) | (with_reducible exact bl_mm) | (with_reducible refine bl_dr ?_) | (with_reducible refine bl_drN ?_ _) | (with_reducible refine bl_al ?_ _) | (with_reducible refine bl_more ?_ _ _)))) (HR2.out.below (by repeat (first | (with_reducible exact Below.refl _ _) | (with_reducible exact bl_mm) | (with_reducible refine bl_dr ?_) | (with_reducible refine bl_drN ?_ _) | (with_reducible refine bl_al ?_ _) | (with_reducible refine bl_more ?_ _ _))))).mono ?_; rintro e w1 ⟨rfl, hb3⟩; obtain ⟨ex3, dx3, rfl⟩ := more_of hb3; clear hb3) | (go_at_call 21; refine (plist_any (HT.out.below (by repeat (first | (with_reducible exact Below.refl _ _) | (with_reducible exact bl_mm) | (with_reducible refine bl_dr ?_) | (with_reducible refine bl_drN ?_ _) | (with_reducible refine bl_al ?_ _) | (with_reducible refine bl_more ?_ _ _)))).pl j HI.out.1).mono ?_; rintro e w1 ⟨v4, rfl, hr4, hb4⟩; obtain ⟨A4, c4, rfl, _, _⟩ := hr4.form; have HR4 := hid hr4; obtain ⟨ex4, dx4, rfl⟩ := more_of hb4; clear hb4 hr4) | (go_at_call 38; refine (all_refl (HR4.out.below (by repeat (first | (with_reducible exact Below.refl _ _) | (with_reducible exact bl_mm) | (with_reducible refine bl_dr ?_) | (with_reducible refine bl_drN ?_ _) | (with_reducible refine bl_al ?_ _) | (with_reducible refine bl_more ?_ _ _)))) (HRW.out.below (by repeat (first | (with_reducible exact Below.refl _ _) | (with_reducible exact bl_mm) | (with_reducible refine bl_dr ?_) | (with_reducible refine bl_drN ?_ _) | (with_reducible refine bl_al ?_ _) | (with_reducible refine bl_more ?_ _ _))))).mono ?_; rintro e w1 ⟨rfl, hb5⟩; obtain ⟨ex5, dx5, rfl⟩ := more_of hb5; clear hb5))
        all_goals
          go_roundg (s.length - (j + 1))
          case measure => have := HJ.out; omega
          case rel => exact ⟨j + 1, by have := HJ.out; omega, rfl, (by repeat (first | (with_reducible exact Below.refl _ _) | (with_reducible exact bl_mm) | (with_reducible refine bl_dr ?_) | (with_reducible refine bl_drN ?_ _) | (with_reducible refine bl_al ?_ _) | (with_reducible refine bl_more ?_ _ _)))⟩
    · obtain rfl : j = s.length := by omega
      have i1 : ¬ (s.length : Int) < s.length := by omega
      clear hj
      go_wp2_with (first | ((with_reducible refine wp_region_plan (id := 6) (.eff [(false, 0), (false, 1)] 2 [] (.eff [(false, 3), (false, 4), (false, 5), (false, 6), (false, 7), (false, 8), (false, 9), (false, 10), (false, 11), (true, 13), (true, 14), (true, 15), (true, 16), (true, 17), (true, 18), (true, 19)] 12 [13, 14, 15, 16, 17, 18, 19] (.eff [] 20 [] (.fin [(false, 21), (false, 22)])))) ?_ ?_ ?_ ?_ ?_ ?_); kernel_rfl; kernel_rfl; kernel_rfl; kernel_rfl; (intro c a d v w h; cases d <;> exact h)) | (with_reducible refine wpPlan_eff ?_) | (with_reducible refine wpPlan_fin ?_) | (with_reducible refine wpPlan_two ?_) | (with_reducible refine wpOpPair ?_ ?_) | ((with_reducible apply wpPre_keep); rfl; intro K' hK'; go_simp; refine hK' _ _ ?_; intro f hf; clear hK' K') | ((with_reducible apply wpPre_drop); rfl; intro K' hK'; go_simp; refine hK' _ _ ?_; intro f; clear hK' K') | (with_reducible refine wpPre_nil ?_) | ((with_reducible apply wpOp_list); rfl) | (with_reducible refine heldPair ?_ ?_) | ((with_reducible refine heldH_no ?_ ?_); rfl) | (with_reducible refine heldH_yes ?_ ?_) | (with_reducible exact heldH_nil) | (unfold YAt; go_simp; done) | (go_at_call 10; refine (plen_any (HT.out.below (by repeat (first | (with_reducible exact Below.refl _ _) | (with_reducible exact bl_mm) | (with_reducible refine bl_dr ?_) | (with_reducible refine bl_drN ?_ _) | (with_reducible refine bl_al ?_ _) | (with_reducible refine bl_more ?_ _ _)))).pl).mono ?_; rintro e w1 ⟨rfl, hb6⟩; obtain ⟨ex6, dx6, rfl⟩ := more_of hb6; clear hb6) | (go_at_call 39; refine (rlen_any (HT.out.below (by repeat (first | (with_reducible exact Below.refl _ _) | (with_reducible exact bl_mm) | (with_reducible refine bl_dr ?_) | (with_reducible refine bl_drN ?_ _) | (with_reducible refine bl_al ?_ _) | (with_reducible refine bl_more ?_ _ _)))).rp HT.out.few).mono ?_; rintro e w1 ⟨rfl, hb7⟩; obtain ⟨ex7, dx7, rfl⟩ := more_of hb7; clear hb7) | (clear M1; go_at_call 21; refine (plist_none (HT.out.below (by repeat (first | (with_reducible exact Below.refl _ _) | (with_reducible exact bl_mm) | (with_reducible refine bl_dr ?_) | (with_reducible refine bl_drN ?_ _) | (with_reducible refine bl_al ?_ _) | (with_reducible refine bl_more ?_ _ _)))).pl (-1) (by simp)).mono ?_; rintro e w1 ⟨rfl, hb8⟩; obtain ⟨ex8, dx8, rfl⟩ := more_of hb8; clear hb8) | (go_at_call 21; refine (plist_none (HT.out.below (by repeat (first | (with_reducible exact Below.refl _ _) | (with_reducible exact bl_mm) | (with_reducible refine bl_dr ?_) | (with_reducible refine bl_drN ?_ _) | (with_reducible refine bl_al ?_ _) | (with_reducible refine bl_more ?_ _ _)))).pl s.length (by simp)).mono ?_; rintro e w1 ⟨rfl, hb8⟩; obtain ⟨ex8, dx8, rfl⟩ := more_of hb8; clear hb8))
      go_ret
      exact ⟨rfl, (by repeat (first | (with_reducible exact Below.refl _ _) | (with_reducible exact bl_mm) | (with_reducible refine bl_dr ?_) | (with_reducible refine bl_drN ?_ _) | (with_reducible refine bl_al ?_ _) | (with_reducible refine bl_more ?_ _ _)))⟩
end Go.Proofs.Ytlfdnjomjheioaa
