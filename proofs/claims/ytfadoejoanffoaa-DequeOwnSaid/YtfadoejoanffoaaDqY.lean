/- Whatever is done. -/
import Derived.Test.YtfadoejoanffoaaDqX
namespace Go.Proofs.Ytfadoejoanffoaa
open Go.RowKit

theorem few_yes {K : Nat → Prop} {w : World} {v : Value} {xs : List Acts} (h : actE.Row K w v xs) (hf : fewB xs = true) :
    Calls Try.prog 14 #[v] w fun e w' => e = .returned (.bool true) ∧ Below w.heap.size w w' := (few_any h).mono fun _ _ ⟨h1, h2⟩ => ⟨by rw [h1, hf], h2⟩
theorem few_no {K : Nat → Prop} {w : World} {v : Value} {xs : List Acts} (h : actE.Row K w v xs) (hf : fewB xs = false) :
    Calls Try.prog 14 #[v] w fun e w' => e = .returned (.bool false) ∧ Below w.heap.size w w' := (few_any h).mono fun _ _ ⟨h1, h2⟩ => ⟨by rw [h1, hf], h2⟩
theorem few_len {xs : List Acts} (h : fewB xs = true) : xs.length ≤ 400 := by simp [fewB] at h; exact h.1
theorem few_stamp {xs : List Acts} (h : fewB xs = true) (i : Nat) (hi : i < xs.length) : xs[i].j.stamp.length ≤ 100 := by
  simp only [fewB, Bool.and_eq_true, List.all_eq_true, decide_eq_true_eq] at h
  exact h.2 _ (List.getElem_mem hi)
theorem all_refl {K K' : Nat → Prop} {w : World} {v v' : Value} {xs : List Job} (h : jobE.Row K w v xs) (h' : jobE.Row K' w v' xs) :
    Calls Try.prog 16 #[v, v'] w fun e w' => e = .returned (.bool true) ∧ Below w.heap.size w w' := (same_all h h').mono fun _ _ ⟨h1, h2⟩ => ⟨by rw [h1]; simp, h2⟩

set_option maxRecDepth 8000 in
set_option maxHeartbeats 4000000 in
theorem plays_any {w : World} {v : Value} {xs : List Acts} (h : actE.Row (fun _ => True) w v xs) :
    Calls Try.prog 4 #[v] w fun e w' => e = .returned (.bool true) ∧ Below w.heap.size w w' := by
  obtain ⟨A, c, rfl, h1, h2⟩ := h.form
  have HX := hid h
  clear h h1 h2
  cases hf : fewB xs with
  | false =>
    have HF := hid hf
    clear hf
    go_enter Try.func4, Try.ntmps4
    go_wp2_with (first | (go_at_call 7; refine (st_new _).mono ?_; rintro e w1 ⟨d, rfl, hq⟩; have HD := hid hq; have HS1 := hid hq.bw; clear hq) | (go_at_call 8; refine (lives_any _).mono ?_; rintro e w2 ⟨rfl, hb1⟩; obtain ⟨ex, dx, rfl⟩ := more_of hb1; clear hb1) | (go_at_call 14; refine (few_no ((HX.out.below HS1.out).below (by repeat (first | (with_reducible exact Below.refl _ _) | (with_reducible refine bl_dr ?_) | (with_reducible refine bl_drN ?_ _) | (with_reducible refine bl_al ?_ _) | (with_reducible refine bl_more ?_ _ _)))) HF.out).mono ?_; rintro e w2 ⟨rfl, hb1⟩; obtain ⟨ex, dx, rfl⟩ := more_of hb1; clear hb1))
    go_ret
    exact ⟨rfl, (HD.out.below (by repeat (first | (with_reducible exact Below.refl _ _) | (with_reducible refine bl_dr ?_) | (with_reducible refine bl_drN ?_ _) | (with_reducible refine bl_al ?_ _) | (with_reducible refine bl_more ?_ _ _)))).bw⟩
  | true =>
    have HF := hid hf
    have hlen := few_len hf
    clear hf
    go_enter Try.func4, Try.ntmps4
    go_wp2_with (first | (go_at_call 7; refine (st_new _).mono ?_; rintro e w1 ⟨d, rfl, hq⟩; have HD := hid hq; have HS1 := hid hq.bw; clear hq) | (go_at_call 8; refine (lives_any _).mono ?_; rintro e w2 ⟨rfl, hb1⟩; obtain ⟨ex, dx, rfl⟩ := more_of hb1; clear hb1) | (go_at_call 14; refine (few_yes ((HX.out.below HS1.out).below (by repeat (first | (with_reducible exact Below.refl _ _) | (with_reducible refine bl_dr ?_) | (with_reducible refine bl_drN ?_ _) | (with_reducible refine bl_al ?_ _) | (with_reducible refine bl_more ?_ _ _)))) HF.out).mono ?_; rintro e w2 ⟨rfl, hb1⟩; obtain ⟨ex, dx, rfl⟩ := more_of hb1; clear hb1))
    go_loopg [4, 5] xs.length (fun k r i wr => ∃ (j g : Nat) (l : List Job), j + k = xs.length ∧ i = .int .i64 j ∧ Two w wr d g r l)
    case atStart => exact ⟨0, _, [], by omega, rfl, HD.out.below (by repeat (first | (with_reducible exact Below.refl _ _) | (with_reducible refine bl_dr ?_) | (with_reducible refine bl_drN ?_ _) | (with_reducible refine bl_al ?_ _) | (with_reducible refine bl_more ?_ _ _))), Enc.Row.nil _ _ _⟩
    case round =>
      obtain ⟨j, g, l, hj, rfl, ht⟩ := hrel
      obtain ⟨A2, c2, rfl, _, _⟩ := ht.row.form
      have HT := hid ht
      have HJ := hid hj
      clear HD HS1
      by_cases hlt : j < xs.length
      · obtain ⟨bb, off, B, cb, rfl, hbl, _, hv, hk, hc⟩ := Row_act HX.out j hlt
        have e0 : wr.cell? ⟨bb, off + j * 7, none⟩ = some (.int .i64 xs[j].kind) := cell_kept ht.st.bw hk
        have e1 : wr.cell? ⟨bb, off + j * 7 + 1, none⟩ = some (.int .i64 xs[j].j.item) := cell_kept ht.st.bw (hc 0 _ rfl)
        have e2 : wr.cell? ⟨bb, off + j * 7 + 2, none⟩ = some (.bool xs[j].j.undo) := cell_kept ht.st.bw (hc 1 _ rfl)
        have e3 : wr.cell? ⟨bb, off + j * 7 + 3, none⟩ = some (.int .i64 xs[j].j.try_) := cell_kept ht.st.bw (hc 2 _ rfl)
        have e4 : wr.cell? ⟨bb, off + j * 7 + 4, none⟩ = some (.bool xs[j].j.begun) := cell_kept ht.st.bw (hc 3 _ rfl)
        have e5 : wr.cell? ⟨bb, off + j * 7 + 5, none⟩ = some (.int .i64 xs[j].j.token) := cell_kept ht.st.bw (hc 4 _ rfl)
        have e6 : wr.cell? ⟨bb, off + j * 7 + 6, none⟩ = some (.slice B xs[j].j.stamp.length cb) := cell_kept ht.st.bw (hc 5 _ rfl)
        have HV := hid (((hv.bound).below ht.st.bw).mono (K' := fun b => b < w.heap.size) (fun b hb _ => hb.2))
        clear hc hv hk ht hj
        have i1 : (j : Int) < (xs.length : Int) := by omega
        have i3 : (0 : Int) ≤ (j : Int) := by omega
        have w1' : IntKind.i64.wrap ((j : Int) + 1) = ((j + 1 : Nat) : Int) := by rw [IntWalk.i64_in _ (by omega)]; rfl
        cases hm : ((j : Int) % 6 == 5) with
        | true =>
          go_wp2_with (first | (go_at_call 15; refine (step_any (a := xs[j]) HT.out HV.out (few_stamp HF.out j hlt)).mono ?_; rintro e w2 ⟨g', rv', rfl, h2⟩; obtain ⟨A3, c3, rfl, _, _⟩ := h2.row.form; have HT2 := hid h2; clear h2) | (go_at_call 13; refine (len_any (HT2.out.st.below (by repeat (first | (with_reducible exact Below.refl _ _) | (with_reducible refine bl_dr ?_) | (with_reducible refine bl_drN ?_ _) | (with_reducible refine bl_al ?_ _) | (with_reducible refine bl_more ?_ _ _)))).dq).mono ?_; rintro e w3 ⟨rfl, hb1⟩; obtain ⟨ex, dx, rfl⟩ := more_of hb1; clear hb1) | (go_at_call 17; refine (list_any (HT2.out.st.below (by repeat (first | (with_reducible exact Below.refl _ _) | (with_reducible refine bl_dr ?_) | (with_reducible refine bl_drN ?_ _) | (with_reducible refine bl_al ?_ _) | (with_reducible refine bl_more ?_ _ _)))).dq).mono ?_; rintro e w3 ⟨v3, rfl, hr, hb1⟩; obtain ⟨Av3, cv3, rfl, _, _⟩ := hr.form; obtain ⟨ex3, dx3, rfl⟩ := more_of hb1; clear hb1; have HL := hid hr; clear hr) | (go_at_call 16; refine (all_refl (HL.out.below (by repeat (first | (with_reducible exact Below.refl _ _) | (with_reducible refine bl_dr ?_) | (with_reducible refine bl_drN ?_ _) | (with_reducible refine bl_al ?_ _) | (with_reducible refine bl_more ?_ _ _)))) (HT2.out.row.below (by repeat (first | (with_reducible exact Below.refl _ _) | (with_reducible refine bl_dr ?_) | (with_reducible refine bl_drN ?_ _) | (with_reducible refine bl_al ?_ _) | (with_reducible refine bl_more ?_ _ _))))).mono ?_; rintro e w3 ⟨rfl, hb1⟩; obtain ⟨ex4, dx4, rfl⟩ := more_of hb1; clear hb1))
          go_roundg (xs.length - (j + 1))
          case measure => have := HJ.out; omega
          case rel => exact ⟨j + 1, _, _, by have := HJ.out; omega, rfl, HT2.out.below (by repeat (first | (with_reducible exact Below.refl _ _) | (with_reducible refine bl_dr ?_) | (with_reducible refine bl_drN ?_ _) | (with_reducible refine bl_al ?_ _) | (with_reducible refine bl_more ?_ _ _)))⟩
        | false =>
          go_wp2_with (first | (go_at_call 15; refine (step_any (a := xs[j]) HT.out HV.out (few_stamp HF.out j hlt)).mono ?_; rintro e w2 ⟨g', rv', rfl, h2⟩; obtain ⟨A3, c3, rfl, _, _⟩ := h2.row.form; have HT2 := hid h2; clear h2) | (go_at_call 13; refine (len_any (HT2.out.st.below (by repeat (first | (with_reducible exact Below.refl _ _) | (with_reducible refine bl_dr ?_) | (with_reducible refine bl_drN ?_ _) | (with_reducible refine bl_al ?_ _) | (with_reducible refine bl_more ?_ _ _)))).dq).mono ?_; rintro e w3 ⟨rfl, hb1⟩; obtain ⟨ex, dx, rfl⟩ := more_of hb1; clear hb1))
          go_roundg (xs.length - (j + 1))
          case measure => have := HJ.out; omega
          case rel => exact ⟨j + 1, _, _, by have := HJ.out; omega, rfl, HT2.out.below (by repeat (first | (with_reducible exact Below.refl _ _) | (with_reducible refine bl_dr ?_) | (with_reducible refine bl_drN ?_ _) | (with_reducible refine bl_al ?_ _) | (with_reducible refine bl_more ?_ _ _)))⟩
      · obtain rfl : j = xs.length := by omega
        have i1 : ¬ (xs.length : Int) < xs.length := by omega
        clear hj ht
        go_wp2_with (first | (go_at_call 17; refine (list_any (HT.out.st.below (by repeat (first | (with_reducible exact Below.refl _ _) | (with_reducible refine bl_dr ?_) | (with_reducible refine bl_drN ?_ _) | (with_reducible refine bl_al ?_ _) | (with_reducible refine bl_more ?_ _ _)))).dq).mono ?_; rintro e w3 ⟨v3, rfl, hr, hb1⟩; obtain ⟨Av3, cv3, rfl, _, _⟩ := hr.form; obtain ⟨ex3, dx3, rfl⟩ := more_of hb1; clear hb1; have HL := hid hr; clear hr) | (go_at_call 16; refine (all_refl (HL.out.below (by repeat (first | (with_reducible exact Below.refl _ _) | (with_reducible refine bl_dr ?_) | (with_reducible refine bl_drN ?_ _) | (with_reducible refine bl_al ?_ _) | (with_reducible refine bl_more ?_ _ _)))) (HT.out.row.below (by repeat (first | (with_reducible exact Below.refl _ _) | (with_reducible refine bl_dr ?_) | (with_reducible refine bl_drN ?_ _) | (with_reducible refine bl_al ?_ _) | (with_reducible refine bl_more ?_ _ _))))).mono ?_; rintro e w3 ⟨rfl, hb1⟩; obtain ⟨ex4, dx4, rfl⟩ := more_of hb1; clear hb1) | (go_at_call 8; refine (lives_any _).mono ?_; rintro e w2 ⟨rfl, hb1⟩; obtain ⟨ex, dx, rfl⟩ := more_of hb1; clear hb1))
        go_ret
        exact ⟨rfl, (HT.out.below (by repeat (first | (with_reducible exact Below.refl _ _) | (with_reducible refine bl_dr ?_) | (with_reducible refine bl_drN ?_ _) | (with_reducible refine bl_al ?_ _) | (with_reducible refine bl_more ?_ _ _)))).st.bw⟩
end Go.Proofs.Ytfadoejoanffoaa
