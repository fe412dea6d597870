/- PoolGoes. -/
import Derived.Test.YtlfdnjomjheioaaPLj
namespace Go.Proofs.Ytlfdnjomjheioaa
open Go.RowKit

abbrev u8E : Enc Int := Enc.int .u8
theorem Row_u8 {K : Nat → Prop} {w : World} {A : Option Addr} {n c : Nat} {xs : List Int} (h : u8E.Row K w (.slice A n c) xs) (i : Nat) (hi : i < xs.length) : ∃ b off, A = some ⟨b, off, none⟩ ∧ b < w.heap.size ∧ w.cell? ⟨b, off + i, none⟩ = some (.int .u8 xs[i]) := by
  obtain ⟨b, off, cs, rfl, _, hl, hrd, hc⟩ := h.get i hi
  have hrd : cs = [.int .u8 xs[i]] := hrd
  subst hrd
  have := hc 0 _ rfl
  have e : off + i * u8E.sz + 0 = off + i := by show off + i * 1 + 0 = off + i; omega
  rw [e] at this
  exact ⟨b, off, rfl, hl, this⟩
theorem Row_i64 {K : Nat → Prop} {w : World} {A : Option Addr} {n c : Nat} {xs : List Int} (h : intE.Row K w (.slice A n c) xs) (i : Nat) (hi : i < xs.length) : ∃ b off, A = some ⟨b, off, none⟩ ∧ b < w.heap.size ∧ w.cell? ⟨b, off + i, none⟩ = some (.int .i64 xs[i]) := by
  obtain ⟨b, off, cs, rfl, _, hl, hrd, hc⟩ := h.get i hi
  have hrd : cs = [.int .i64 xs[i]] := hrd
  subst hrd
  have := hc 0 _ rfl
  have e : off + i * intE.sz + 0 = off + i := by show off + i * 1 + 0 = off + i; omega
  rw [e] at this
  exact ⟨b, off, rfl, hl, this⟩
def HoldsAt (s : List Wk) (i : Nat) (j : Job) : Prop := ∃ h : i < s.length, s[i].h = some j
theorem Holds.at_ {s : List Wk} {i : Nat} {j : Job} (h : Holds s i j) : HoldsAt s i j := by
  unfold Holds at h
  cases hs : s[i]? with
  | none => rw [hs] at h; cases h
  | some k =>
    obtain ⟨hi, e⟩ := get_some hs
    rw [hs] at h
    exact ⟨hi, by rw [e]; exact h⟩
theorem Holds.pos {s : List Wk} {i : Nat} {j : Job} (h : Holds s i j) : 0 < cnt s := by
  obtain ⟨hi, _⟩ := h.at_
  obtain ⟨_, _, h2, _⟩ := doneM_held hi h
  omega
set_option maxRecDepth 8000 in
set_option maxHeartbeats 8000000 in
theorem goes_any {w : World} {v vw vp : Value} {xs : List PAct} {ws ps : List Int} (h : pactE.Row (fun _ => True) w v xs) (hw : u8E.Row (fun _ => True) w vw ws) (hwf : ∀ x ∈ ws, (Lit.int .u8 x).wf = true) (hp : intE.Row (fun _ => True) w vp ps) :
    Calls Try.prog 3 #[v, vw, vp] w fun e w' => e = .returned (.bool true) ∧ Below w.heap.size w w' := by
  obtain ⟨A, c, rfl, h1, h2⟩ := h.form
  obtain ⟨Aw, cw, rfl, _, _⟩ := hw.form
  obtain ⟨Ap, cp, rfl, _, _⟩ := hp.form
  have HX := hid h
  have HWR := hid hw
  have HPR := hid hp
  have HWF := hid hwf
  clear h h1 h2 hw hp hwf
  cases hf : fewB xs with
  | false =>
    have HF := hid hf
    clear hf
    go_enter Try.func3, Try.ntmps3
    go_wp2_with (first | (go_at_call 8; refine (lives_any _).mono ?_; rintro e w2 ⟨rfl, hb1⟩; obtain ⟨ex, dx, rfl⟩ := more_of hb1; clear hb1) | (go_at_call 7; refine (few_no (HX.out.below (by repeat (first | (with_reducible exact Below.refl _ _) | (with_reducible exact bl_mm) | (with_reducible refine bl_dr ?_) | (with_reducible refine bl_drN ?_ _) | (with_reducible refine bl_al ?_ _) | (with_reducible refine bl_more ?_ _ _)))) HF.out).mono ?_; rintro e w2 ⟨rfl, hb1⟩; obtain ⟨ex, dx, rfl⟩ := more_of hb1; clear hb1))
    go_ret
    exact ⟨rfl, (by repeat (first | (with_reducible exact Below.refl _ _) | (with_reducible exact bl_mm) | (with_reducible refine bl_dr ?_) | (with_reducible refine bl_drN ?_ _) | (with_reducible refine bl_al ?_ _) | (with_reducible refine bl_more ?_ _ _)))⟩
  | true =>
    have HF := hid hf
    clear hf
    by_cases hpl : 500 < ps.length
    · have i0 : (500 : Int) < (ps.length : Int) := by omega
      clear hpl
      go_enter Try.func3, Try.ntmps3
      go_wp2_with (first | (go_at_call 8; refine (lives_any _).mono ?_; rintro e w2 ⟨rfl, hb1⟩; obtain ⟨ex, dx, rfl⟩ := more_of hb1; clear hb1) | (go_at_call 7; refine (few_yes (HX.out.below (by repeat (first | (with_reducible exact Below.refl _ _) | (with_reducible exact bl_mm) | (with_reducible refine bl_dr ?_) | (with_reducible refine bl_drN ?_ _) | (with_reducible refine bl_al ?_ _) | (with_reducible refine bl_more ?_ _ _)))) HF.out).mono ?_; rintro e w2 ⟨rfl, hb1⟩; obtain ⟨ex, dx, rfl⟩ := more_of hb1; clear hb1))
      go_ret
      exact ⟨rfl, (by repeat (first | (with_reducible exact Below.refl _ _) | (with_reducible exact bl_mm) | (with_reducible refine bl_dr ?_) | (with_reducible refine bl_drN ?_ _) | (with_reducible refine bl_al ?_ _) | (with_reducible refine bl_more ?_ _ _)))⟩
    · have i0 : ¬ (500 : Int) < (ps.length : Int) := by omega
      clear hpl
      go_enter Try.func3, Try.ntmps3
      go_wp2_with (first | (go_at_call 7; refine (few_yes (HX.out.below (by repeat (first | (with_reducible exact Below.refl _ _) | (with_reducible exact bl_mm) | (with_reducible refine bl_dr ?_) | (with_reducible refine bl_drN ?_ _) | (with_reducible refine bl_al ?_ _) | (with_reducible refine bl_more ?_ _ _)))) HF.out).mono ?_; rintro e w2 ⟨rfl, hb1⟩; obtain ⟨ex, dx, rfl⟩ := more_of hb1; clear hb1) | (go_at_call 9; refine (begun_any (w0 := w) HX.out (by repeat (first | (with_reducible exact Below.refl _ _) | (with_reducible exact bl_mm) | (with_reducible refine bl_dr ?_) | (with_reducible refine bl_drN ?_ _) | (with_reducible refine bl_al ?_ _) | (with_reducible refine bl_more ?_ _ _))) HF.out).mono ?_; rintro e w1 ⟨p, s, F, ad, rfl, hps, hs3⟩; have HP := hid (Ps.low (w := w) (by repeat (first | (with_reducible exact Below.refl _ _) | (with_reducible exact bl_mm) | (with_reducible refine bl_dr ?_) | (with_reducible refine bl_drN ?_ _) | (with_reducible refine bl_al ?_ _) | (with_reducible refine bl_more ?_ _ _))) hps); have HS3 := hid hs3; obtain ⟨nn, hnn⟩ : ∃ nn, cnt s = nn := ⟨_, rfl⟩; have HNN := hid hnn; clear hps hs3 hnn) | (go_at_call 10; refine (len_to (HP.out.below (by repeat (first | (with_reducible exact Below.refl _ _) | (with_reducible exact bl_mm) | (with_reducible refine bl_dr ?_) | (with_reducible refine bl_drN ?_ _) | (with_reducible refine bl_al ?_ _) | (with_reducible refine bl_more ?_ _ _)))).pl HNN.out).mono ?_; rintro e w1 ⟨rfl, hb6⟩; obtain ⟨ex6, dx6, rfl⟩ := more_of hb6; clear hb6))
      have HNB := hid (show nn ≤ 387 by have h1 := cnt_le HP.out.pl s.length (Nat.le_refl _); rw [List.take_length, HNN.out] at h1; have := HS3.out; omega)
      go_loopg [9] nn (fun k i wr => ∃ (m : Nat) (s : List Wk) (F : Nat → Prop) (ad : Nat → Ad), m + k = nn ∧ i = .int .i64 m ∧ Ps w wr p s F ad ∧ m + cnt s = nn ∧ s.length = 3)
      case atStart => exact ⟨0, s, F, ad, by omega, rfl, HP.out.below (by repeat (first | (with_reducible exact Below.refl _ _) | (with_reducible exact bl_mm) | (with_reducible refine bl_dr ?_) | (with_reducible refine bl_drN ?_ _) | (with_reducible refine bl_al ?_ _) | (with_reducible refine bl_more ?_ _ _))), by rw [HNN.out]; omega, HS3.out⟩
      case round =>
        clear HP HS3 HNN
        obtain ⟨m, s, F, ad, hmk, rfl, hps, hcs, hs3⟩ := hrel
        have HP := hid hps
        have HS3 := hid hs3
        have HM := hid hcs
        have HMK := hid hmk
        have hbw := hps.bw
        clear hps hs3
        by_cases hlt : m < nn
        · have i1 : (m : Int) < (nn : Int) := by omega
          have i3 : (0 : Int) ≤ (m : Int) := by omega
          by_cases h1 : m < ws.length
          · obtain ⟨b1, o1, rfl, hl1, hc1⟩ := Row_u8 HWR.out m h1
            have e1 : wr.cell? ⟨b1, o1 + m, none⟩ = some (.int .u8 ws[m]) := cell_kept hbw hc1
            have j1 : (m : Int) < (ws.length : Int) := by omega
            have hwv : 0 ≤ ws[m] ∧ ws[m] ≤ 255 := by have := HWF.out ws[m] (List.getElem_mem h1); simp only [Lit.wf, Bool.and_eq_true, decide_eq_true_eq] at this; exact this
            obtain ⟨wv, hwe⟩ : ∃ wv, ws[m] = wv := ⟨_, rfl⟩
            rw [hwe] at e1 hwv
            have y1 : IntKind.i64.wrap wv = wv := IntWalk.i64_in _ (by omega)
            obtain ⟨k, hk⟩ : ∃ k : Nat, wv.tmod 3 = k := ⟨(wv % 3).toNat, by rw [Int.tmod_eq_emod_of_nonneg hwv.1]; omega⟩
            have hk3 : k < 3 := by rw [Int.tmod_eq_emod_of_nonneg hwv.1] at hk; omega
            have HK3 := hid hk3
            clear hwe hwv hc1 hl1 hmk hcs hbw hk3
            by_cases h2 : m < ps.length
            · obtain ⟨b2, o2, rfl, hl2, hc2⟩ := Row_i64 HPR.out m h2
              have e2 : wr.cell? ⟨b2, o2 + m, none⟩ = some (.int .i64 ps[m]) := cell_kept HP.out.bw hc2
              have j2 : (m : Int) < (ps.length : Int) := by omega
              obtain ⟨pv, hpe⟩ : ∃ pv, ps[m] = pv := ⟨_, rfl⟩
              rw [hpe] at e2
              clear hpe hc2 hl2
              have hk3 := HK3.out
              have hks : k < s.length := by rw [HS3.out]; omega
              rcases takeM_spec s k hks pv with ⟨s', j, v, htk, hh, hc, hl⟩ | ⟨htk, hc⟩
              · obtain ⟨s2, hdn, hc2, hl2⟩ := doneM_held (by omega) hh
                obtain ⟨hi', hj'⟩ := hh.at_
                obtain ⟨c2, hcc⟩ : ∃ c2, cnt s2 = c2 := ⟨_, rfl⟩
                have HTK : Hid (takeM s (k : Int) pv = (s', j, v, 0)) := hid htk
                have HDN : Hid (doneM s' (k : Int) = (s2, 0)) := hid hdn
                have HH1 := hid (And.intro hi' trivial)
                have HH2 := hid hj'
                have HC2 := hid hcc
                have HL2 := hid (hl2.trans (hl.trans HS3.out))
                have hm := HM.out
                have hnb := HNB.out
                have y5 : IntKind.i64.wrap ((nn : Int) - (m : Int)) = (c2 : Int) + 1 := by rw [IntWalk.i64_in _ (by omega)]; omega
                have y6 : IntKind.i64.wrap ((c2 : Int) + 1 - 1) = (c2 : Int) := by rw [IntWalk.i64_in _ (by omega)]; omega
                have y7 : IntKind.i64.wrap (c2 : Int) = (c2 : Int) := IntWalk.i64_in _ (by omega)
                have w1' : IntKind.i64.wrap ((m : Int) + 1) = ((m + 1 : Nat) : Int) := by rw [IntWalk.i64_in _ (by omega)]; rfl
                have HC := hid (show m + 1 + c2 = nn by omega)
                clear htk hh hc hl hdn hc2 hl2 hj' hcc hm hnb hks
                go_wp2_with (first | (go_at_call 11; refine (take_to (HP.out.below (by repeat (first | (with_reducible exact Below.refl _ _) | (with_reducible exact bl_mm) | (with_reducible refine bl_dr ?_) | (with_reducible refine bl_drN ?_ _) | (with_reducible refine bl_al ?_ _) | (with_reducible refine bl_more ?_ _ _)))).pl _ _ HTK.out).mono ?_; rintro e w4 ⟨F4, ad4, v4, rfl, hp4, hr4, hs4⟩; obtain ⟨A4, c4, rfl, _, _⟩ := hr4.form; have HP4 := hid ((HP.out.below (by repeat (first | (with_reducible exact Below.refl _ _) | (with_reducible exact bl_mm) | (with_reducible refine bl_dr ?_) | (with_reducible refine bl_drN ?_ _) | (with_reducible refine bl_al ?_ _) | (with_reducible refine bl_more ?_ _ _)))).step hp4 hs4); have HR4 := hid hr4; clear hp4 hs4 hr4) | (go_at_call 12; refine (pheld_yes (HP4.out.below (by repeat (first | (with_reducible exact Below.refl _ _) | (with_reducible exact bl_mm) | (with_reducible refine bl_dr ?_) | (with_reducible refine bl_drN ?_ _) | (with_reducible refine bl_al ?_ _) | (with_reducible refine bl_more ?_ _ _)))).pl _ HH1.out.1 j HH2.out).mono ?_; rintro e w5 ⟨v5, rfl, hr5, hb5⟩; obtain ⟨A5, c5, rfl, _, _⟩ := hr5.form; have HR5 := hid hr5; obtain ⟨ex5, dx5, rfl⟩ := more_of hb5; clear hb5 hr5) | (go_at_call 13; refine (same_refl (HR4.out.below (by repeat (first | (with_reducible exact Below.refl _ _) | (with_reducible exact bl_mm) | (with_reducible refine bl_dr ?_) | (with_reducible refine bl_drN ?_ _) | (with_reducible refine bl_al ?_ _) | (with_reducible refine bl_more ?_ _ _)))) (HR5.out.below (by repeat (first | (with_reducible exact Below.refl _ _) | (with_reducible exact bl_mm) | (with_reducible refine bl_dr ?_) | (with_reducible refine bl_drN ?_ _) | (with_reducible refine bl_al ?_ _) | (with_reducible refine bl_more ?_ _ _))))).mono ?_; rintro e w6 ⟨rfl, hb3⟩; obtain ⟨ex3, dx3, rfl⟩ := more_of hb3; clear hb3) | (go_at_call 14; refine (done_to (HP4.out.below (by repeat (first | (with_reducible exact Below.refl _ _) | (with_reducible exact bl_mm) | (with_reducible refine bl_dr ?_) | (with_reducible refine bl_drN ?_ _) | (with_reducible refine bl_al ?_ _) | (with_reducible refine bl_more ?_ _ _)))).pl _ HDN.out).mono ?_; rintro e w7 ⟨rfl, F7, ad7, hp7, hs7⟩; have HP7 := hid ((HP4.out.below (by repeat (first | (with_reducible exact Below.refl _ _) | (with_reducible exact bl_mm) | (with_reducible refine bl_dr ?_) | (with_reducible refine bl_drN ?_ _) | (with_reducible refine bl_al ?_ _) | (with_reducible refine bl_more ?_ _ _)))).step hp7 hs7); clear hp7 hs7) | (go_at_call 10; refine (len_to (HP7.out.below (by repeat (first | (with_reducible exact Below.refl _ _) | (with_reducible exact bl_mm) | (with_reducible refine bl_dr ?_) | (with_reducible refine bl_drN ?_ _) | (with_reducible refine bl_al ?_ _) | (with_reducible refine bl_more ?_ _ _)))).pl HC2.out).mono ?_; rintro e w8 ⟨rfl, hb6⟩; obtain ⟨ex8, dx8, rfl⟩ := more_of hb6; clear hb6))
                go_roundg (nn - (m + 1))
                case measure => have := HC.out; have := HMK.out; omega
                case rel => exact ⟨m + 1, s2, _, _, by have := HC.out; omega, rfl, HP7.out.below (by repeat (first | (with_reducible exact Below.refl _ _) | (with_reducible exact bl_mm) | (with_reducible refine bl_dr ?_) | (with_reducible refine bl_drN ?_ _) | (with_reducible refine bl_al ?_ _) | (with_reducible refine bl_more ?_ _ _))), by rw [HC2.out]; have := HC.out; omega, HL2.out⟩
              · have hm := HM.out
                omega
            · have j2 : ¬ (m : Int) < (ps.length : Int) := by omega
              have hk3 := HK3.out
              have hks : k < s.length := by rw [HS3.out]; omega
              rcases takeM_spec s k hks (m : Int) with ⟨s', j, v, htk, hh, hc, hl⟩ | ⟨htk, hc⟩
              · obtain ⟨s2, hdn, hc2, hl2⟩ := doneM_held (by omega) hh
                obtain ⟨hi', hj'⟩ := hh.at_
                obtain ⟨c2, hcc⟩ : ∃ c2, cnt s2 = c2 := ⟨_, rfl⟩
                have HTK : Hid (takeM s (k : Int) (m : Int) = (s', j, v, 0)) := hid htk
                have HDN : Hid (doneM s' (k : Int) = (s2, 0)) := hid hdn
                have HH1 := hid (And.intro hi' trivial)
                have HH2 := hid hj'
                have HC2 := hid hcc
                have HL2 := hid (hl2.trans (hl.trans HS3.out))
                have hm := HM.out
                have hnb := HNB.out
                have y5 : IntKind.i64.wrap ((nn : Int) - (m : Int)) = (c2 : Int) + 1 := by rw [IntWalk.i64_in _ (by omega)]; omega
                have y6 : IntKind.i64.wrap ((c2 : Int) + 1 - 1) = (c2 : Int) := by rw [IntWalk.i64_in _ (by omega)]; omega
                have y7 : IntKind.i64.wrap (c2 : Int) = (c2 : Int) := IntWalk.i64_in _ (by omega)
                have w1' : IntKind.i64.wrap ((m : Int) + 1) = ((m + 1 : Nat) : Int) := by rw [IntWalk.i64_in _ (by omega)]; rfl
                have HC := hid (show m + 1 + c2 = nn by omega)
                clear htk hh hc hl hdn hc2 hl2 hj' hcc hm hnb hks
                go_wp2_with (first | (go_at_call 11; refine (take_to (HP.out.below (by repeat (first | (with_reducible exact Below.refl _ _) | (with_reducible exact bl_mm) | (with_reducible refine bl_dr ?_) | (with_reducible refine bl_drN ?_ _) | (with_reducible refine bl_al ?_ _) | (with_reducible refine bl_more ?_ _ _)))).pl _ _ HTK.out).mono ?_; rintro e w4 ⟨F4, ad4, v4, rfl, hp4, hr4, hs4⟩; obtain ⟨A4, c4, rfl, _, _⟩ := hr4.form; have HP4 := hid ((HP.out.below (by repeat (first | (with_reducible exact Below.refl _ _) | (with_reducible exact bl_mm) | (with_reducible refine bl_dr ?_) | (with_reducible refine bl_drN ?_ _) | (with_reducible refine bl_al ?_ _) | (with_reducible refine bl_more ?_ _ _)))).step hp4 hs4); have HR4 := hid hr4; clear hp4 hs4 hr4) | (go_at_call 12; refine (pheld_yes (HP4.out.below (by repeat (first | (with_reducible exact Below.refl _ _) | (with_reducible exact bl_mm) | (with_reducible refine bl_dr ?_) | (with_reducible refine bl_drN ?_ _) | (with_reducible refine bl_al ?_ _) | (with_reducible refine bl_more ?_ _ _)))).pl _ HH1.out.1 j HH2.out).mono ?_; rintro e w5 ⟨v5, rfl, hr5, hb5⟩; obtain ⟨A5, c5, rfl, _, _⟩ := hr5.form; have HR5 := hid hr5; obtain ⟨ex5, dx5, rfl⟩ := more_of hb5; clear hb5 hr5) | (go_at_call 13; refine (same_refl (HR4.out.below (by repeat (first | (with_reducible exact Below.refl _ _) | (with_reducible exact bl_mm) | (with_reducible refine bl_dr ?_) | (with_reducible refine bl_drN ?_ _) | (with_reducible refine bl_al ?_ _) | (with_reducible refine bl_more ?_ _ _)))) (HR5.out.below (by repeat (first | (with_reducible exact Below.refl _ _) | (with_reducible exact bl_mm) | (with_reducible refine bl_dr ?_) | (with_reducible refine bl_drN ?_ _) | (with_reducible refine bl_al ?_ _) | (with_reducible refine bl_more ?_ _ _))))).mono ?_; rintro e w6 ⟨rfl, hb3⟩; obtain ⟨ex3, dx3, rfl⟩ := more_of hb3; clear hb3) | (go_at_call 14; refine (done_to (HP4.out.below (by repeat (first | (with_reducible exact Below.refl _ _) | (with_reducible exact bl_mm) | (with_reducible refine bl_dr ?_) | (with_reducible refine bl_drN ?_ _) | (with_reducible refine bl_al ?_ _) | (with_reducible refine bl_more ?_ _ _)))).pl _ HDN.out).mono ?_; rintro e w7 ⟨rfl, F7, ad7, hp7, hs7⟩; have HP7 := hid ((HP4.out.below (by repeat (first | (with_reducible exact Below.refl _ _) | (with_reducible exact bl_mm) | (with_reducible refine bl_dr ?_) | (with_reducible refine bl_drN ?_ _) | (with_reducible refine bl_al ?_ _) | (with_reducible refine bl_more ?_ _ _)))).step hp7 hs7); clear hp7 hs7) | (go_at_call 10; refine (len_to (HP7.out.below (by repeat (first | (with_reducible exact Below.refl _ _) | (with_reducible exact bl_mm) | (with_reducible refine bl_dr ?_) | (with_reducible refine bl_drN ?_ _) | (with_reducible refine bl_al ?_ _) | (with_reducible refine bl_more ?_ _ _)))).pl HC2.out).mono ?_; rintro e w8 ⟨rfl, hb6⟩; obtain ⟨ex8, dx8, rfl⟩ := more_of hb6; clear hb6))
                go_roundg (nn - (m + 1))
                case measure => have := HC.out; have := HMK.out; omega
                case rel => exact ⟨m + 1, s2, _, _, by have := HC.out; omega, rfl, HP7.out.below (by repeat (first | (with_reducible exact Below.refl _ _) | (with_reducible exact bl_mm) | (with_reducible refine bl_dr ?_) | (with_reducible refine bl_drN ?_ _) | (with_reducible refine bl_al ?_ _) | (with_reducible refine bl_more ?_ _ _))), by rw [HC2.out]; have := HC.out; omega, HL2.out⟩
              · have hm := HM.out
                omega
          · have j1 : ¬ (m : Int) < (ws.length : Int) := by omega
            clear hmk hcs
            by_cases h2 : m < ps.length
            · obtain ⟨b2, o2, rfl, hl2, hc2⟩ := Row_i64 HPR.out m h2
              have e2 : wr.cell? ⟨b2, o2 + m, none⟩ = some (.int .i64 ps[m]) := cell_kept hbw hc2
              have j2 : (m : Int) < (ps.length : Int) := by omega
              obtain ⟨pv, hpe⟩ : ∃ pv, ps[m] = pv := ⟨_, rfl⟩
              rw [hpe] at e2
              clear hpe hc2 hl2 hbw
              have hks : 0 < s.length := by rw [HS3.out]; omega
              rcases takeM_spec s 0 hks pv with ⟨s', j, v, htk, hh, hc, hl⟩ | ⟨htk, hc⟩
              · obtain ⟨s2, hdn, hc2, hl2⟩ := doneM_held (by omega) hh
                obtain ⟨hi', hj'⟩ := hh.at_
                obtain ⟨c2, hcc⟩ : ∃ c2, cnt s2 = c2 := ⟨_, rfl⟩
                have HTK : Hid (takeM s (0 : Int) pv = (s', j, v, 0)) := hid htk
                have HDN : Hid (doneM s' (0 : Int) = (s2, 0)) := hid hdn
                have HH1 := hid (And.intro hi' trivial)
                have HH2 := hid hj'
                have HC2 := hid hcc
                have HL2 := hid (hl2.trans (hl.trans HS3.out))
                have hm := HM.out
                have hnb := HNB.out
                have y5 : IntKind.i64.wrap ((nn : Int) - (m : Int)) = (c2 : Int) + 1 := by rw [IntWalk.i64_in _ (by omega)]; omega
                have y6 : IntKind.i64.wrap ((c2 : Int) + 1 - 1) = (c2 : Int) := by rw [IntWalk.i64_in _ (by omega)]; omega
                have y7 : IntKind.i64.wrap (c2 : Int) = (c2 : Int) := IntWalk.i64_in _ (by omega)
                have w1' : IntKind.i64.wrap ((m : Int) + 1) = ((m + 1 : Nat) : Int) := by rw [IntWalk.i64_in _ (by omega)]; rfl
                have HC := hid (show m + 1 + c2 = nn by omega)
                clear htk hh hc hl hdn hc2 hl2 hj' hcc hm hnb hks
                go_wp2_with (first | (go_at_call 11; refine (take_to (HP.out.below (by repeat (first | (with_reducible exact Below.refl _ _) | (with_reducible exact bl_mm) | (with_reducible refine bl_dr ?_) | (with_reducible refine bl_drN ?_ _) | (with_reducible refine bl_al ?_ _) | (with_reducible refine bl_more ?_ _ _)))).pl _ _ HTK.out).mono ?_; rintro e w4 ⟨F4, ad4, v4, rfl, hp4, hr4, hs4⟩; obtain ⟨A4, c4, rfl, _, _⟩ := hr4.form; have HP4 := hid ((HP.out.below (by repeat (first | (with_reducible exact Below.refl _ _) | (with_reducible exact bl_mm) | (with_reducible refine bl_dr ?_) | (with_reducible refine bl_drN ?_ _) | (with_reducible refine bl_al ?_ _) | (with_reducible refine bl_more ?_ _ _)))).step hp4 hs4); have HR4 := hid hr4; clear hp4 hs4 hr4) | (go_at_call 12; refine (pheld_yes (HP4.out.below (by repeat (first | (with_reducible exact Below.refl _ _) | (with_reducible exact bl_mm) | (with_reducible refine bl_dr ?_) | (with_reducible refine bl_drN ?_ _) | (with_reducible refine bl_al ?_ _) | (with_reducible refine bl_more ?_ _ _)))).pl _ HH1.out.1 j HH2.out).mono ?_; rintro e w5 ⟨v5, rfl, hr5, hb5⟩; obtain ⟨A5, c5, rfl, _, _⟩ := hr5.form; have HR5 := hid hr5; obtain ⟨ex5, dx5, rfl⟩ := more_of hb5; clear hb5 hr5) | (go_at_call 13; refine (same_refl (HR4.out.below (by repeat (first | (with_reducible exact Below.refl _ _) | (with_reducible exact bl_mm) | (with_reducible refine bl_dr ?_) | (with_reducible refine bl_drN ?_ _) | (with_reducible refine bl_al ?_ _) | (with_reducible refine bl_more ?_ _ _)))) (HR5.out.below (by repeat (first | (with_reducible exact Below.refl _ _) | (with_reducible exact bl_mm) | (with_reducible refine bl_dr ?_) | (with_reducible refine bl_drN ?_ _) | (with_reducible refine bl_al ?_ _) | (with_reducible refine bl_more ?_ _ _))))).mono ?_; rintro e w6 ⟨rfl, hb3⟩; obtain ⟨ex3, dx3, rfl⟩ := more_of hb3; clear hb3) | (go_at_call 14; refine (done_to (HP4.out.below (by repeat (first | (with_reducible exact Below.refl _ _) | (with_reducible exact bl_mm) | (with_reducible refine bl_dr ?_) | (with_reducible refine bl_drN ?_ _) | (with_reducible refine bl_al ?_ _) | (with_reducible refine bl_more ?_ _ _)))).pl _ HDN.out).mono ?_; rintro e w7 ⟨rfl, F7, ad7, hp7, hs7⟩; have HP7 := hid ((HP4.out.below (by repeat (first | (with_reducible exact Below.refl _ _) | (with_reducible exact bl_mm) | (with_reducible refine bl_dr ?_) | (with_reducible refine bl_drN ?_ _) | (with_reducible refine bl_al ?_ _) | (with_reducible refine bl_more ?_ _ _)))).step hp7 hs7); clear hp7 hs7) | (go_at_call 10; refine (len_to (HP7.out.below (by repeat (first | (with_reducible exact Below.refl _ _) | (with_reducible exact bl_mm) | (with_reducible refine bl_dr ?_) | (with_reducible refine bl_drN ?_ _) | (with_reducible refine bl_al ?_ _) | (with_reducible refine bl_more ?_ _ _)))).pl HC2.out).mono ?_; rintro e w8 ⟨rfl, hb6⟩; obtain ⟨ex8, dx8, rfl⟩ := more_of hb6; clear hb6))
                go_roundg (nn - (m + 1))
                case measure => have := HC.out; have := HMK.out; omega
                case rel => exact ⟨m + 1, s2, _, _, by have := HC.out; omega, rfl, HP7.out.below (by repeat (first | (with_reducible exact Below.refl _ _) | (with_reducible exact bl_mm) | (with_reducible refine bl_dr ?_) | (with_reducible refine bl_drN ?_ _) | (with_reducible refine bl_al ?_ _) | (with_reducible refine bl_more ?_ _ _))), by rw [HC2.out]; have := HC.out; omega, HL2.out⟩
              · have hm := HM.out
                omega
            · have j2 : ¬ (m : Int) < (ps.length : Int) := by omega
              clear hbw
              have hks : 0 < s.length := by rw [HS3.out]; omega
              rcases takeM_spec s 0 hks (m : Int) with ⟨s', j, v, htk, hh, hc, hl⟩ | ⟨htk, hc⟩
              · obtain ⟨s2, hdn, hc2, hl2⟩ := doneM_held (by omega) hh
                obtain ⟨hi', hj'⟩ := hh.at_
                obtain ⟨c2, hcc⟩ : ∃ c2, cnt s2 = c2 := ⟨_, rfl⟩
                have HTK : Hid (takeM s (0 : Int) (m : Int) = (s', j, v, 0)) := hid htk
                have HDN : Hid (doneM s' (0 : Int) = (s2, 0)) := hid hdn
                have HH1 := hid (And.intro hi' trivial)
                have HH2 := hid hj'
                have HC2 := hid hcc
                have HL2 := hid (hl2.trans (hl.trans HS3.out))
                have hm := HM.out
                have hnb := HNB.out
                have y5 : IntKind.i64.wrap ((nn : Int) - (m : Int)) = (c2 : Int) + 1 := by rw [IntWalk.i64_in _ (by omega)]; omega
                have y6 : IntKind.i64.wrap ((c2 : Int) + 1 - 1) = (c2 : Int) := by rw [IntWalk.i64_in _ (by omega)]; omega
                have y7 : IntKind.i64.wrap (c2 : Int) = (c2 : Int) := IntWalk.i64_in _ (by omega)
                have w1' : IntKind.i64.wrap ((m : Int) + 1) = ((m + 1 : Nat) : Int) := by rw [IntWalk.i64_in _ (by omega)]; rfl
                have HC := hid (show m + 1 + c2 = nn by omega)
                clear htk hh hc hl hdn hc2 hl2 hj' hcc hm hnb hks
                go_wp2_with (first | (go_at_call 11; refine (take_to (HP.out.below (by repeat (first | (with_reducible exact Below.refl _ _) | (with_reducible exact bl_mm) | (with_reducible refine bl_dr ?_) | (with_reducible refine bl_drN ?_ _) | (with_reducible refine bl_al ?_ _) | (with_reducible refine bl_more ?_ _ _)))).pl _ _ HTK.out).mono ?_; rintro e w4 ⟨F4, ad4, v4, rfl, hp4, hr4, hs4⟩; obtain ⟨A4, c4, rfl, _, _⟩ := hr4.form; have HP4 := hid ((HP.out.below (by repeat (first | (with_reducible exact Below.refl _ _) | (with_reducible exact bl_mm) | (with_reducible refine bl_dr ?_) | (with_reducible refine bl_drN ?_ _) | (with_reducible refine bl_al ?_ _) | (with_reducible refine bl_more ?_ _ _)))).step hp4 hs4); have HR4 := hid hr4; clear hp4 hs4 hr4) | (go_at_call 12; refine (pheld_yes (HP4.out.below (by repeat (first | (with_reducible exact Below.refl _ _) | (with_reducible exact bl_mm) | (with_reducible refine bl_dr ?_) | (with_reducible refine bl_drN ?_ _) | (with_reducible refine bl_al ?_ _) | (with_reducible refine bl_more ?_ _ _)))).pl _ HH1.out.1 j HH2.out).mono ?_; rintro e w5 ⟨v5, rfl, hr5, hb5⟩; obtain ⟨A5, c5, rfl, _, _⟩ := hr5.form; have HR5 := hid hr5; obtain ⟨ex5, dx5, rfl⟩ := more_of hb5; clear hb5 hr5) | (go_at_call 13; refine (same_refl (HR4.out.below (by repeat (first | (with_reducible exact Below.refl _ _) | (with_reducible exact bl_mm) | (with_reducible refine bl_dr ?_) | (with_reducible refine bl_drN ?_ _) | (with_reducible refine bl_al ?_ _) | (with_reducible refine bl_more ?_ _ _)))) (HR5.out.below (by repeat (first | (with_reducible exact Below.refl _ _) | (with_reducible exact bl_mm) | (with_reducible refine bl_dr ?_) | (with_reducible refine bl_drN ?_ _) | (with_reducible refine bl_al ?_ _) | (with_reducible refine bl_more ?_ _ _))))).mono ?_; rintro e w6 ⟨rfl, hb3⟩; obtain ⟨ex3, dx3, rfl⟩ := more_of hb3; clear hb3) | (go_at_call 14; refine (done_to (HP4.out.below (by repeat (first | (with_reducible exact Below.refl _ _) | (with_reducible exact bl_mm) | (with_reducible refine bl_dr ?_) | (with_reducible refine bl_drN ?_ _) | (with_reducible refine bl_al ?_ _) | (with_reducible refine bl_more ?_ _ _)))).pl _ HDN.out).mono ?_; rintro e w7 ⟨rfl, F7, ad7, hp7, hs7⟩; have HP7 := hid ((HP4.out.below (by repeat (first | (with_reducible exact Below.refl _ _) | (with_reducible exact bl_mm) | (with_reducible refine bl_dr ?_) | (with_reducible refine bl_drN ?_ _) | (with_reducible refine bl_al ?_ _) | (with_reducible refine bl_more ?_ _ _)))).step hp7 hs7); clear hp7 hs7) | (go_at_call 10; refine (len_to (HP7.out.below (by repeat (first | (with_reducible exact Below.refl _ _) | (with_reducible exact bl_mm) | (with_reducible refine bl_dr ?_) | (with_reducible refine bl_drN ?_ _) | (with_reducible refine bl_al ?_ _) | (with_reducible refine bl_more ?_ _ _)))).pl HC2.out).mono ?_; rintro e w8 ⟨rfl, hb6⟩; obtain ⟨ex8, dx8, rfl⟩ := more_of hb6; clear hb6))
                go_roundg (nn - (m + 1))
                case measure => have := HC.out; have := HMK.out; omega
                case rel => exact ⟨m + 1, s2, _, _, by have := HC.out; omega, rfl, HP7.out.below (by repeat (first | (with_reducible exact Below.refl _ _) | (with_reducible exact bl_mm) | (with_reducible refine bl_dr ?_) | (with_reducible refine bl_drN ?_ _) | (with_reducible refine bl_al ?_ _) | (with_reducible refine bl_more ?_ _ _))), by rw [HC2.out]; have := HC.out; omega, HL2.out⟩
              · have hm := HM.out
                omega
        · obtain rfl : m = nn := by omega
          have i1 : ¬ (m : Int) < (m : Int) := by omega
          have hc0 : cnt s = 0 := by omega
          have hks : 1 < s.length := by rw [HS3.out]; omega
          rcases takeM_spec s 1 hks m with ⟨s', j, v, htk, hh, hc, hl⟩ | ⟨htk, hc⟩
          · have := hh.pos
            omega
          · have HTK : Hid (takeM s 1 (m : Int) = (s, job0, 0, 6)) := hid htk
            have HC0 := hid hc0
            clear htk hc hks hc0 hmk hcs hbw
            go_wp2_with (first | (go_at_call 11; refine (take_to (HP.out.below (by repeat (first | (with_reducible exact Below.refl _ _) | (with_reducible exact bl_mm) | (with_reducible refine bl_dr ?_) | (with_reducible refine bl_drN ?_ _) | (with_reducible refine bl_al ?_ _) | (with_reducible refine bl_more ?_ _ _)))).pl _ _ HTK.out).mono ?_; rintro e w4 ⟨F4, ad4, v4, rfl, hp4, hr4, hs4⟩; obtain ⟨A4, c4, rfl, _, _⟩ := hr4.form; have HP4 := hid ((HP.out.below (by repeat (first | (with_reducible exact Below.refl _ _) | (with_reducible exact bl_mm) | (with_reducible refine bl_dr ?_) | (with_reducible refine bl_drN ?_ _) | (with_reducible refine bl_al ?_ _) | (with_reducible refine bl_more ?_ _ _)))).step hp4 hs4); have HR4 := hid hr4; clear hp4 hs4 hr4) | (go_at_call 10; refine (len_to (HP4.out.below (by repeat (first | (with_reducible exact Below.refl _ _) | (with_reducible exact bl_mm) | (with_reducible refine bl_dr ?_) | (with_reducible refine bl_drN ?_ _) | (with_reducible refine bl_al ?_ _) | (with_reducible refine bl_more ?_ _ _)))).pl HC0.out).mono ?_; rintro e w8 ⟨rfl, hb6⟩; obtain ⟨ex8, dx8, rfl⟩ := more_of hb6; clear hb6) | (go_at_call 8; refine (lives_any _).mono ?_; rintro e w2 ⟨rfl, hb1⟩; obtain ⟨ex, dx, rfl⟩ := more_of hb1; clear hb1))
            go_ret
            exact ⟨rfl, (HP4.out.below (by repeat (first | (with_reducible exact Below.refl _ _) | (with_reducible exact bl_mm) | (with_reducible refine bl_dr ?_) | (with_reducible refine bl_drN ?_ _) | (with_reducible refine bl_al ?_ _) | (with_reducible refine bl_more ?_ _ _)))).bw⟩
theorem u8s_op : Opens (Enc.slice u8E) 23 (fun xs => ∀ x ∈ xs, (Lit.int .u8 x).wf = true) := Opens.slice Try.underlying23 (Opens.int Try.underlying5) (by kernel_rfl) (by decide)
end Go.Proofs.Ytlfdnjomjheioaa
