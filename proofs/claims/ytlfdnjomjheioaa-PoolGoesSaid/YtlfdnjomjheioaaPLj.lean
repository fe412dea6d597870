/- PoolHolds. -/
import Derived.Test.YtlfdnjomjheioaaPLi
import Derived.Deep.Cut
namespace Go.Proofs.Ytlfdnjomjheioaa
open Go.RowKit

set_option maxRecDepth 8000 in
set_option maxHeartbeats 4000000 in
theorem holds_any {w : World} {wv a b : Int} {v : Value} {xs : List PAct} (h : pactE.Row (fun _ => True) w v xs) (hw : (Lit.int .u8 wv).wf = true) :
    Calls Try.prog 4 #[v, .int .u8 wv, .int .i64 a, .int .i64 b] w fun e w' => e = .returned (.bool true) ∧ Below w.heap.size w w' := by
  obtain ⟨A, c, rfl, h1, h2⟩ := h.form
  have hw0 : 0 ≤ wv ∧ wv ≤ 255 := by simp only [Lit.wf, Bool.and_eq_true, decide_eq_true_eq] at hw; exact hw
  have HX := hid h
  clear h h1 h2 hw
  cases hf : fewB xs with
  | false =>
    have HF := hid hf
    clear hf hw0
    go_enter Try.func4, Try.ntmps4
    go_wp2_with (first | (go_at_call 8; refine (lives_any _).mono ?_; rintro e w2 ⟨rfl, hb1⟩; obtain ⟨ex, dx, rfl⟩ := more_of hb1; clear hb1) | (go_at_call 7; refine (few_no (HX.out.below (by repeat (first | (with_reducible exact Below.refl _ _) | (with_reducible exact bl_mm) | (with_reducible refine bl_dr ?_) | (with_reducible refine bl_drN ?_ _) | (with_reducible refine bl_al ?_ _) | (with_reducible refine bl_more ?_ _ _)))) HF.out).mono ?_; rintro e w2 ⟨rfl, hb1⟩; obtain ⟨ex, dx, rfl⟩ := more_of hb1; clear hb1))
    go_ret
    exact ⟨rfl, (by repeat (first | (with_reducible exact Below.refl _ _) | (with_reducible exact bl_mm) | (with_reducible refine bl_dr ?_) | (with_reducible refine bl_drN ?_ _) | (with_reducible refine bl_al ?_ _) | (with_reducible refine bl_more ?_ _ _)))⟩
  | true =>
    have HF := hid hf
    have M1 := hid trivial
    have M2 := hid trivial
    obtain ⟨k, hk⟩ : ∃ k : Nat, wv.tmod 3 = k := ⟨(wv % 3).toNat, by rw [Int.tmod_eq_emod_of_nonneg hw0.1]; omega⟩
    have hk3 : k < 3 := by rw [Int.tmod_eq_emod_of_nonneg hw0.1] at hk; omega
    have y1 : IntKind.i64.wrap wv = wv := IntWalk.i64_in _ (by omega)
    have y2 : wv.tmod 3 = (k : Int) := hk
    clear hf hk
    go_enter Try.func4, Try.ntmps4
    go_upto_region 8 with (first | (go_at_call 7; refine (few_yes (HX.out.below (by repeat (first | (with_reducible exact Below.refl _ _) | (with_reducible exact bl_mm) | (with_reducible refine bl_dr ?_) | (with_reducible refine bl_drN ?_ _) | (with_reducible refine bl_al ?_ _) | (with_reducible refine bl_more ?_ _ _)))) HF.out).mono ?_; rintro e w2 ⟨rfl, hb1⟩; obtain ⟨ex, dx, rfl⟩ := more_of hb1; clear hb1) | (go_at_call 9; refine (begun_any (w0 := w) HX.out (by repeat (first | (with_reducible exact Below.refl _ _) | (with_reducible exact bl_mm) | (with_reducible refine bl_dr ?_) | (with_reducible refine bl_drN ?_ _) | (with_reducible refine bl_al ?_ _) | (with_reducible refine bl_more ?_ _ _))) HF.out).mono ?_; rintro e w1 ⟨p, s, F, ad, rfl, hps, hs3⟩; have HP := hid (Ps.low (w := w) (by repeat (first | (with_reducible exact Below.refl _ _) | (with_reducible exact bl_mm) | (with_reducible refine bl_dr ?_) | (with_reducible refine bl_drN ?_ _) | (with_reducible refine bl_al ?_ _) | (with_reducible refine bl_more ?_ _ _))) hps); have HS3 := hid hs3; clear hps hs3) | (clear M1; go_at_call 10; refine (plen_any (HP.out.below (by repeat (first | (with_reducible exact Below.refl _ _) | (with_reducible exact bl_mm) | (with_reducible refine bl_dr ?_) | (with_reducible refine bl_drN ?_ _) | (with_reducible refine bl_al ?_ _) | (with_reducible refine bl_more ?_ _ _)))).pl).mono ?_; rintro e w1 ⟨rfl, hb6⟩; obtain ⟨ex6, dx6, rfl⟩ := more_of hb6; clear hb6))
    clear y1 y2 hw0
    have hks : k < s.length := by rw [HS3.out]; exact hk3
    have HKS := hid (And.intro hks trivial)
    rcases takeM_spec s k hks a with ⟨s', j, v, htk, hh, hc, hl⟩ | ⟨htk, hc⟩
    · have HTK := hid htk
      have HTA := hid (takeM_again (by omega) hh b)
      have HCN := hid hc
      clear htk hh hc hl hks hk3
      go_wp2_with (first | (clear M2; go_at_call 11; refine (take_to (HP.out.below (by repeat (first | (with_reducible exact Below.refl _ _) | (with_reducible exact bl_mm) | (with_reducible refine bl_dr ?_) | (with_reducible refine bl_drN ?_ _) | (with_reducible refine bl_al ?_ _) | (with_reducible refine bl_more ?_ _ _)))).pl _ _ HTK.out).mono ?_; rintro e w4 ⟨F4, ad4, v4, rfl, hp4, hr4, hs4⟩; obtain ⟨A4, c4, rfl, _, _⟩ := hr4.form; have HP4 := hid ((HP.out.below (by repeat (first | (with_reducible exact Below.refl _ _) | (with_reducible exact bl_mm) | (with_reducible refine bl_dr ?_) | (with_reducible refine bl_drN ?_ _) | (with_reducible refine bl_al ?_ _) | (with_reducible refine bl_more ?_ _ _)))).step hp4 hs4); have HR4 := hid (hr4.mono (K' := fun b => ¬ Blk s' p ad4 b) (fun b hb _ => hb.2)); clear hp4 hs4 hr4) | (go_at_call 11; refine (take_to (HP4.out.below (by repeat (first | (with_reducible exact Below.refl _ _) | (with_reducible exact bl_mm) | (with_reducible refine bl_dr ?_) | (with_reducible refine bl_drN ?_ _) | (with_reducible refine bl_al ?_ _) | (with_reducible refine bl_more ?_ _ _)))).pl _ _ HTA.out).mono ?_; rintro e w5 ⟨F5, ad5, v5, rfl, hp5, hr5, hs5⟩; obtain ⟨A5, c5, rfl, _, _⟩ := hr5.form; have HP5 := hid ((HP4.out.below (by repeat (first | (with_reducible exact Below.refl _ _) | (with_reducible exact bl_mm) | (with_reducible refine bl_dr ?_) | (with_reducible refine bl_drN ?_ _) | (with_reducible refine bl_al ?_ _) | (with_reducible refine bl_more ?_ _ _)))).step hp5 hs5); have hx4 := (HR4.out.below (bl_al (Below.refl _ _) _)).ext hs5.ext (fun b hb _ e => hb e); obtain ⟨x1, z1⟩ := oldCells hs5.ext (b := w4.heap.size) (fun e => by have := HP4.out.pl.blt _ e; omega) (alloc_blk rfl); have HX4 := hid hx4; have HX5 := hid hr5; clear hp5 hs5 hr5 hx4) | (go_at_call 13; refine (same_refl (HX4.out.below (by repeat (first | (with_reducible exact Below.refl _ _) | (with_reducible exact bl_mm) | (with_reducible refine bl_dr ?_) | (with_reducible refine bl_drN ?_ _) | (with_reducible refine bl_al ?_ _) | (with_reducible refine bl_more ?_ _ _)))) (HX5.out.below (by repeat (first | (with_reducible exact Below.refl _ _) | (with_reducible exact bl_mm) | (with_reducible refine bl_dr ?_) | (with_reducible refine bl_drN ?_ _) | (with_reducible refine bl_al ?_ _) | (with_reducible refine bl_more ?_ _ _))))).mono ?_; rintro e w6 ⟨rfl, hb3⟩; obtain ⟨ex3, dx3, rfl⟩ := more_of hb3; clear hb3) | (go_at_call 10; refine (len_to (HP5.out.below (by repeat (first | (with_reducible exact Below.refl _ _) | (with_reducible exact bl_mm) | (with_reducible refine bl_dr ?_) | (with_reducible refine bl_drN ?_ _) | (with_reducible refine bl_al ?_ _) | (with_reducible refine bl_more ?_ _ _)))).pl HCN.out).mono ?_; rintro e w7 ⟨rfl, hb6⟩; obtain ⟨ex7, dx7, rfl⟩ := more_of hb6; clear hb6) | (go_at_call 8; refine (lives_any _).mono ?_; rintro e w2 ⟨rfl, hb1⟩; obtain ⟨ex, dx, rfl⟩ := more_of hb1; clear hb1))
      go_ret
      exact ⟨rfl, (HP5.out.below (by repeat (first | (with_reducible exact Below.refl _ _) | (with_reducible exact bl_mm) | (with_reducible refine bl_dr ?_) | (with_reducible refine bl_drN ?_ _) | (with_reducible refine bl_al ?_ _) | (with_reducible refine bl_more ?_ _ _)))).bw⟩
    · have HTK := hid htk
      have hc0 : (cnt s : Int) = 0 := by omega
      clear htk hks hk3 hc
      go_wp2_with (first | (go_at_call 11; refine (take_to (HP.out.below (by repeat (first | (with_reducible exact Below.refl _ _) | (with_reducible exact bl_mm) | (with_reducible refine bl_dr ?_) | (with_reducible refine bl_drN ?_ _) | (with_reducible refine bl_al ?_ _) | (with_reducible refine bl_more ?_ _ _)))).pl _ _ HTK.out).mono ?_; rintro e w4 ⟨F4, ad4, v4, rfl, hp4, hr4, hs4⟩; obtain ⟨A4, c4, rfl, _, _⟩ := hr4.form; have HP4 := hid ((HP.out.below (by repeat (first | (with_reducible exact Below.refl _ _) | (with_reducible exact bl_mm) | (with_reducible refine bl_dr ?_) | (with_reducible refine bl_drN ?_ _) | (with_reducible refine bl_al ?_ _) | (with_reducible refine bl_more ?_ _ _)))).step hp4 hs4); clear hp4 hs4 hr4) | (go_at_call 8; refine (lives_any _).mono ?_; rintro e w2 ⟨rfl, hb1⟩; obtain ⟨ex, dx, rfl⟩ := more_of hb1; clear hb1))
      go_ret
      exact ⟨rfl, (HP4.out.below (by repeat (first | (with_reducible exact Below.refl _ _) | (with_reducible exact bl_mm) | (with_reducible refine bl_dr ?_) | (with_reducible refine bl_drN ?_ _) | (with_reducible refine bl_al ?_ _) | (with_reducible refine bl_more ?_ _ _)))).bw⟩
end Go.Proofs.Ytlfdnjomjheioaa
