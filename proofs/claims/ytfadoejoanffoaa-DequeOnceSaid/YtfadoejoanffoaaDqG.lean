/- Each once. -/
import Derived.Test.YtfadoejoanffoaaDqF
namespace Go.Proofs.Ytfadoejoanffoaa
open Go.RowKit

def jobs (a m : Nat) : List Job := (List.range' a m).map (fun k : Nat => jobI (k : Int))
theorem jobs_length (a m : Nat) : (jobs a m).length = m := by simp [jobs]
theorem jobs_snoc (a m : Nat) : jobs a (m + 1) = jobs a m ++ [jobI (a + m : Nat)] := by simp [jobs, List.range'_concat]
theorem jobs_cons (a m : Nat) : jobs a (m + 1) = jobI a :: jobs (a + 1) m := by simp [jobs, List.range'_succ]
theorem pop_r {w0 w : World} {d g a m : Nat} {lo : Int} (h : St w0 w d g (jobs a (m + 1))) (hlo : lo = (a : Int) + m) :
    Calls Try.prog 12 #[.pointer (some ⟨d, 0, none⟩)] w fun e w' => ∃ g' A c, e = .returned (.tuple #[jobV (jobI lo) (.slice A 0 c), .int .i64 0]) ∧ St w0 w' d g' (jobs a m) := by
  rw [jobs_snoc] at h
  have hlo' : lo = ((a + m : Nat) : Int) := by omega
  subst hlo'
  refine (st_pop h).mono ?_
  rintro e w' ⟨g', v', rfl, hr, hq, _⟩
  obtain ⟨A, c, rfl, _, _⟩ := hr.form
  exact ⟨g', A, c, rfl, hq⟩
theorem steal_r {w0 w : World} {d g a m : Nat} (h : St w0 w d g (jobs a (m + 1))) :
    Calls Try.prog 11 #[.pointer (some ⟨d, 0, none⟩)] w fun e w' => ∃ g' A c, e = .returned (.tuple #[jobV (jobI (a : Nat)) (.slice A 0 c), .int .i64 0]) ∧ St w0 w' d g' (jobs (a + 1) m) := by
  rw [jobs_cons] at h
  refine (st_steal h).mono ?_
  rintro e w' ⟨g', v', rfl, hr, hq, _⟩
  obtain ⟨A, c, rfl, _, _⟩ := hr.form
  exact ⟨g', A, c, rfl, hq⟩
theorem push_r {w0 w : World} {d g m : Nat} (h : St w0 w d g (jobs 0 m)) (hm : m < 128) :
    Calls Try.prog 9 #[.pointer (some ⟨d, 0, none⟩), jobV (jobI (m : Nat)) (.slice none 0 0)] w fun e w' => ∃ g', e = .returned (.int .i64 0) ∧ St w0 w' d g' (jobs 0 (m + 1)) := by
  refine (st_push (j := jobI (m : Nat)) h (Enc.Row.nil _ _ _) (ok_jobI _) (by rw [jobs_length]; exact hm)).mono ?_
  rintro e w' ⟨g', rfl, hq, _⟩
  rw [jobs_snoc, Nat.zero_add]
  exact ⟨g', rfl, hq⟩
abbrev u8E : Enc Int := Enc.int .u8
theorem Row_u8 {K : Nat → Prop} {w : World} {A : Option Addr} {n c : Nat} {xs : List Int} (h : u8E.Row K w (.slice A n c) xs) (hx : xs ≠ []) :
    ∃ b off, A = some ⟨b, off, none⟩ ∧ b < w.heap.size ∧ ∀ i (hi : i < xs.length), w.cell? ⟨b, off + i, none⟩ = some (.int .u8 xs[i]) := by
  obtain ⟨A', c', he, _, _, h3⟩ := h
  obtain ⟨rfl, _, _⟩ := Value.slice.inj he
  obtain ⟨b, off, rfl, hb, hl, ha⟩ := h3 hx
  refine ⟨b, off, rfl, hl, fun i hi => ?_⟩
  obtain ⟨cs, rfl, h2⟩ := ha i hi
  have := h2 0 _ rfl
  simpa [Enc.int, Enc.scalar] using this

set_option maxRecDepth 8000 in
set_option maxHeartbeats 4000000 in
theorem once_any {K : Nat → Prop} {w : World} {n : Int} {v : Value} {xs : List Int} (h : u8E.Row K w v xs) :
    Calls Try.prog 3 #[.int .i64 n, v] w fun e w' => e = .returned (.bool true) ∧ Below w.heap.size w w' := by
  obtain ⟨A, c, rfl, h1, h2⟩ := h.form
  have HX := hid h
  clear h h1 h2
  by_cases hn : n < 0 ∨ 128 < n
  · rcases hn with hn | hn
    · go_enter Try.func3, Try.ntmps3
      go_wp2_with (first | (go_at_call 7; refine (st_new _).mono ?_; rintro e w1 ⟨d, rfl, hq⟩; have HD := hid hq; clear hq) | (go_at_call 8; refine (lives_any _).mono ?_; rintro e w2 ⟨rfl, hb1⟩; obtain ⟨ex, dx, rfl⟩ := more_of hb1; clear hb1))
      go_ret
      exact ⟨rfl, (HD.out.below (by repeat (first | (with_reducible exact Below.refl _ _) | (with_reducible refine bl_dr ?_) | (with_reducible refine bl_drN ?_ _) | (with_reducible refine bl_al ?_ _) | (with_reducible refine bl_more ?_ _ _)))).bw⟩
    · have hn' : ¬ n < 0 := by omega
      go_enter Try.func3, Try.ntmps3
      go_wp2_with (first | (go_at_call 7; refine (st_new _).mono ?_; rintro e w1 ⟨d, rfl, hq⟩; have HD := hid hq; clear hq) | (go_at_call 8; refine (lives_any _).mono ?_; rintro e w2 ⟨rfl, hb1⟩; obtain ⟨ex, dx, rfl⟩ := more_of hb1; clear hb1))
      go_ret
      exact ⟨rfl, (HD.out.below (by repeat (first | (with_reducible exact Below.refl _ _) | (with_reducible refine bl_dr ?_) | (with_reducible refine bl_drN ?_ _) | (with_reducible refine bl_al ?_ _) | (with_reducible refine bl_more ?_ _ _)))).bw⟩
  · obtain ⟨m, rfl⟩ : ∃ m : Nat, n = m := ⟨n.toNat, by omega⟩
    have hm : m ≤ 128 := by omega
    have n1 : ¬ (m : Int) < 0 := by omega
    have n2 : ¬ (128 : Int) < (m : Int) := by omega
    clear hn
    go_enter Try.func3, Try.ntmps3
    go_wp2_with (first | (go_at_call 7; refine (st_new _).mono ?_; rintro e w1 ⟨d, rfl, hq⟩; have HD := hid hq; clear hq) | (go_at_call 8; refine (lives_any _).mono ?_; rintro e w2 ⟨rfl, hb1⟩; obtain ⟨ex, dx, rfl⟩ := more_of hb1; clear hb1))
    go_loopg [6] m (fun k i wr => ∃ j g : Nat, j + k = m ∧ i = .int .i64 j ∧ St w wr d g (jobs 0 j))
    case atStart => exact ⟨0, d, by omega, rfl, HD.out⟩
    case round =>
      obtain ⟨j, g, hj, rfl, hq⟩ := hrel
      clear HD
      have HD := hid hq
      clear hq
      by_cases hlt : j < m
      · have i1 : (j : Int) < (m : Int) := by omega
        have i2 : IntKind.i64.wrap ((j : Int) + 1) = ((j + 1 : Nat) : Int) := by rw [IntWalk.i64_in _ (by omega)]; rfl
        go_wp2_with (first | (go_at_call 10; refine (job_any _ _).mono ?_; rintro e w2 ⟨rfl, hb1⟩; obtain ⟨ex, dx, rfl⟩ := more_of hb1; clear hb1) | (go_at_call 9; refine (push_r (HD.out.below (by repeat (first | (with_reducible exact Below.refl _ _) | (with_reducible refine bl_dr ?_) | (with_reducible refine bl_drN ?_ _) | (with_reducible refine bl_al ?_ _) | (with_reducible refine bl_more ?_ _ _)))) (by omega)).mono ?_; rintro e w2 ⟨g', rfl, hq⟩; clear HD; have HD := hid hq; clear hq))
        go_roundg (m - (j + 1))
        case measure => omega
        case rel => exact ⟨j + 1, _, by omega, rfl, HD.out⟩
      · obtain rfl : j = m := by omega
        have i1 : ¬ (j : Int) < (j : Int) := by omega
        clear hj
        by_cases hf : j = 128
        · have i2 : ((j : Int) == 128) = true := by simp [hf]
          have w1 : IntKind.i64.wrap ((j : Int) - 1) = (j : Int) - 1 := IntWalk.i64_in _ (by omega)
          have HM := hid hf
          clear hf
          go_wp2_with (first | (go_at_call 10; refine (job_any _ _).mono ?_; rintro e w2 ⟨rfl, hb1⟩; obtain ⟨ex, dx, rfl⟩ := more_of hb1; clear hb1) | (go_at_call 9; refine (push_full (j := jobI 0) (v := .slice none 0 0) (HD.out.below (by repeat (first | (with_reducible exact Below.refl _ _) | (with_reducible refine bl_dr ?_) | (with_reducible refine bl_drN ?_ _) | (with_reducible refine bl_al ?_ _) | (with_reducible refine bl_more ?_ _ _)))).dq (by rw [jobs_length, HM.out])).mono ?_; rintro e w2 ⟨rfl, hb1⟩; obtain ⟨ex, dx, rfl⟩ := more_of hb1; clear hb1))
          go_loopg [7, 8, 9] j (fun k low high i wr => ∃ a q g : Nat, q + k = j ∧ a + k ≤ j ∧ i = .int .i64 q ∧ high = .int .i64 a ∧ low = .int .i64 ((a : Int) + k - 1) ∧ St w wr d g (jobs a k))
          case atStart => exact ⟨0, 0, _, by omega, by omega, rfl, rfl, by simp, HD.out.below (by repeat (first | (with_reducible exact Below.refl _ _) | (with_reducible refine bl_dr ?_) | (with_reducible refine bl_drN ?_ _) | (with_reducible refine bl_al ?_ _) | (with_reducible refine bl_more ?_ _ _)))⟩
          case round =>
            obtain ⟨a, q, g, hq1, hq2, rfl, rfl, rfl, hq⟩ := hrel
            clear HD
            have HD := hid hq
            have HX2 := hid (HX.out.below hq.bw)
            clear hq
            cases gk with
            | zero =>
              obtain rfl : q = j := by omega
              have i1 : ¬ (q : Int) < (q : Int) := by omega
              have HD : Hid (St w wr d g []) := HD
              clear hq1 hq2
              go_wp2_with (first | (go_at_call 12; refine (pop_none (HD.out.below (by repeat (first | (with_reducible exact Below.refl _ _) | (with_reducible refine bl_dr ?_) | (with_reducible refine bl_drN ?_ _) | (with_reducible refine bl_al ?_ _) | (with_reducible refine bl_more ?_ _ _)))).dq).mono ?_; rintro e w2 ⟨rfl, hb1⟩; obtain ⟨ex, dx, rfl⟩ := more_of hb1; clear hb1) | (go_at_call 11; refine (steal_none (HD.out.below (by repeat (first | (with_reducible exact Below.refl _ _) | (with_reducible refine bl_dr ?_) | (with_reducible refine bl_drN ?_ _) | (with_reducible refine bl_al ?_ _) | (with_reducible refine bl_more ?_ _ _)))).dq).mono ?_; rintro e w2 ⟨rfl, hb1⟩; obtain ⟨ex, dx, rfl⟩ := more_of hb1; clear hb1) | (go_at_call 13; refine (len_any (HD.out.below (by repeat (first | (with_reducible exact Below.refl _ _) | (with_reducible refine bl_dr ?_) | (with_reducible refine bl_drN ?_ _) | (with_reducible refine bl_al ?_ _) | (with_reducible refine bl_more ?_ _ _)))).dq).mono ?_; rintro e w2 ⟨rfl, hb1⟩; obtain ⟨ex, dx, rfl⟩ := more_of hb1; clear hb1) | (go_at_call 8; refine (lives_any _).mono ?_; rintro e w2 ⟨rfl, hb1⟩; obtain ⟨ex, dx, rfl⟩ := more_of hb1; clear hb1))
              go_ret
              exact ⟨rfl, (HD.out.below (by repeat (first | (with_reducible exact Below.refl _ _) | (with_reducible refine bl_dr ?_) | (with_reducible refine bl_drN ?_ _) | (with_reducible refine bl_al ?_ _) | (with_reducible refine bl_more ?_ _ _)))).bw⟩
            | succ p =>
              have i1 : (q : Int) < (j : Int) := by omega
              have i2 : IntKind.i64.wrap ((q : Int) + 1) = ((q + 1 : Nat) : Int) := by rw [IntWalk.i64_in _ (by omega)]; rfl
              have i3 : IntKind.i64.wrap ((a : Int) + 1) = ((a + 1 : Nat) : Int) := by rw [IntWalk.i64_in _ (by omega)]; rfl
              obtain ⟨lo, hlo⟩ : ∃ lo : Int, lo = (a : Int) + p := ⟨_, rfl⟩
              have i4 : (a : Int) + ((p + 1 : Nat) : Int) - 1 = lo := by omega
              have i5 : IntKind.i64.wrap (lo - 1) = (a : Int) + (p : Int) - 1 := by rw [IntWalk.i64_in _ (by omega)]; omega
              rw [i4]
              have HL := hid hlo
              have HQ := hid (And.intro hq1 hq2)
              clear i4 hlo hq1 hq2
              by_cases hx : q < xs.length
              · obtain ⟨b, off, rfl, hbl, hc⟩ := Row_u8 HX2.out (fun h => by subst h; simp at hx)
                have c1 : wr.cell? ⟨b, off + q, none⟩ = some (.int .u8 xs[q]) := hc q hx
                clear hc
                have x1 : (q : Int) < (xs.length : Int) := by omega
                have x2 : (0 : Int) ≤ (q : Int) := by omega
                go_wp2_with (first | (go_at_call 12; refine (pop_r (HD.out.below (by repeat (first | (with_reducible exact Below.refl _ _) | (with_reducible refine bl_dr ?_) | (with_reducible refine bl_drN ?_ _) | (with_reducible refine bl_al ?_ _) | (with_reducible refine bl_more ?_ _ _)))) HL.out).mono ?_; rintro e w2 ⟨g', Av, cv, rfl, hq⟩; clear HD; have HD := hid hq; clear hq) | (go_at_call 11; refine (steal_r (HD.out.below (by repeat (first | (with_reducible exact Below.refl _ _) | (with_reducible refine bl_dr ?_) | (with_reducible refine bl_drN ?_ _) | (with_reducible refine bl_al ?_ _) | (with_reducible refine bl_more ?_ _ _))))).mono ?_; rintro e w2 ⟨g', Av, cv, rfl, hq⟩; clear HD; have HD := hid hq; clear hq))
                all_goals (
                  go_roundg p
                  case measure => omega
                  case rel =>
                    obtain ⟨k1, k2⟩ := HQ.out
                    first
                    | exact ⟨a, q + 1, _, by omega, by omega, rfl, rfl, rfl, HD.out.below (by repeat (first | (with_reducible exact Below.refl _ _) | (with_reducible refine bl_dr ?_) | (with_reducible refine bl_drN ?_ _) | (with_reducible refine bl_al ?_ _) | (with_reducible refine bl_more ?_ _ _)))⟩
                    | exact ⟨a + 1, q + 1, _, by omega, by omega, rfl, rfl, by rw [HL.out]; congr 1; omega, HD.out.below (by repeat (first | (with_reducible exact Below.refl _ _) | (with_reducible refine bl_dr ?_) | (with_reducible refine bl_drN ?_ _) | (with_reducible refine bl_al ?_ _) | (with_reducible refine bl_more ?_ _ _)))⟩)
              · have x1 : ¬ (q : Int) < (xs.length : Int) := by omega
                go_wp2_with (first | (go_at_call 12; refine (pop_r (HD.out.below (by repeat (first | (with_reducible exact Below.refl _ _) | (with_reducible refine bl_dr ?_) | (with_reducible refine bl_drN ?_ _) | (with_reducible refine bl_al ?_ _) | (with_reducible refine bl_more ?_ _ _)))) HL.out).mono ?_; rintro e w2 ⟨g', Av, cv, rfl, hq⟩; clear HD; have HD := hid hq; clear hq) | (go_at_call 11; refine (steal_r (HD.out.below (by repeat (first | (with_reducible exact Below.refl _ _) | (with_reducible refine bl_dr ?_) | (with_reducible refine bl_drN ?_ _) | (with_reducible refine bl_al ?_ _) | (with_reducible refine bl_more ?_ _ _))))).mono ?_; rintro e w2 ⟨g', Av, cv, rfl, hq⟩; clear HD; have HD := hid hq; clear hq))
                all_goals (
                  go_roundg p
                  case measure => omega
                  case rel =>
                    obtain ⟨k1, k2⟩ := HQ.out
                    first
                    | exact ⟨a, q + 1, _, by omega, by omega, rfl, rfl, rfl, HD.out.below (by repeat (first | (with_reducible exact Below.refl _ _) | (with_reducible refine bl_dr ?_) | (with_reducible refine bl_drN ?_ _) | (with_reducible refine bl_al ?_ _) | (with_reducible refine bl_more ?_ _ _)))⟩
                    | exact ⟨a + 1, q + 1, _, by omega, by omega, rfl, rfl, by rw [HL.out]; congr 1; omega, HD.out.below (by repeat (first | (with_reducible exact Below.refl _ _) | (with_reducible refine bl_dr ?_) | (with_reducible refine bl_drN ?_ _) | (with_reducible refine bl_al ?_ _) | (with_reducible refine bl_more ?_ _ _)))⟩)
        · have i2 : ((j : Int) == 128) = false := by simp; omega
          have w1 : IntKind.i64.wrap ((j : Int) - 1) = (j : Int) - 1 := IntWalk.i64_in _ (by omega)
          clear hf
          go_wp2_with (first | (go_at_call 10; refine (job_any _ _).mono ?_; rintro e w2 ⟨rfl, hb1⟩; obtain ⟨ex, dx, rfl⟩ := more_of hb1; clear hb1))
          go_loopg [7, 8, 9] j (fun k low high i wr => ∃ a q g : Nat, q + k = j ∧ a + k ≤ j ∧ i = .int .i64 q ∧ high = .int .i64 a ∧ low = .int .i64 ((a : Int) + k - 1) ∧ St w wr d g (jobs a k))
          case atStart => exact ⟨0, 0, _, by omega, by omega, rfl, rfl, by simp, HD.out.below (by repeat (first | (with_reducible exact Below.refl _ _) | (with_reducible refine bl_dr ?_) | (with_reducible refine bl_drN ?_ _) | (with_reducible refine bl_al ?_ _) | (with_reducible refine bl_more ?_ _ _)))⟩
          case round =>
            obtain ⟨a, q, g, hq1, hq2, rfl, rfl, rfl, hq⟩ := hrel
            clear HD
            have HD := hid hq
            have HX2 := hid (HX.out.below hq.bw)
            clear hq
            cases gk with
            | zero =>
              obtain rfl : q = j := by omega
              have i1 : ¬ (q : Int) < (q : Int) := by omega
              have HD : Hid (St w wr d g []) := HD
              clear hq1 hq2
              go_wp2_with (first | (go_at_call 12; refine (pop_none (HD.out.below (by repeat (first | (with_reducible exact Below.refl _ _) | (with_reducible refine bl_dr ?_) | (with_reducible refine bl_drN ?_ _) | (with_reducible refine bl_al ?_ _) | (with_reducible refine bl_more ?_ _ _)))).dq).mono ?_; rintro e w2 ⟨rfl, hb1⟩; obtain ⟨ex, dx, rfl⟩ := more_of hb1; clear hb1) | (go_at_call 11; refine (steal_none (HD.out.below (by repeat (first | (with_reducible exact Below.refl _ _) | (with_reducible refine bl_dr ?_) | (with_reducible refine bl_drN ?_ _) | (with_reducible refine bl_al ?_ _) | (with_reducible refine bl_more ?_ _ _)))).dq).mono ?_; rintro e w2 ⟨rfl, hb1⟩; obtain ⟨ex, dx, rfl⟩ := more_of hb1; clear hb1) | (go_at_call 13; refine (len_any (HD.out.below (by repeat (first | (with_reducible exact Below.refl _ _) | (with_reducible refine bl_dr ?_) | (with_reducible refine bl_drN ?_ _) | (with_reducible refine bl_al ?_ _) | (with_reducible refine bl_more ?_ _ _)))).dq).mono ?_; rintro e w2 ⟨rfl, hb1⟩; obtain ⟨ex, dx, rfl⟩ := more_of hb1; clear hb1) | (go_at_call 8; refine (lives_any _).mono ?_; rintro e w2 ⟨rfl, hb1⟩; obtain ⟨ex, dx, rfl⟩ := more_of hb1; clear hb1))
              go_ret
              exact ⟨rfl, (HD.out.below (by repeat (first | (with_reducible exact Below.refl _ _) | (with_reducible refine bl_dr ?_) | (with_reducible refine bl_drN ?_ _) | (with_reducible refine bl_al ?_ _) | (with_reducible refine bl_more ?_ _ _)))).bw⟩
            | succ p =>
              have i1 : (q : Int) < (j : Int) := by omega
              have i2 : IntKind.i64.wrap ((q : Int) + 1) = ((q + 1 : Nat) : Int) := by rw [IntWalk.i64_in _ (by omega)]; rfl
              have i3 : IntKind.i64.wrap ((a : Int) + 1) = ((a + 1 : Nat) : Int) := by rw [IntWalk.i64_in _ (by omega)]; rfl
              obtain ⟨lo, hlo⟩ : ∃ lo : Int, lo = (a : Int) + p := ⟨_, rfl⟩
              have i4 : (a : Int) + ((p + 1 : Nat) : Int) - 1 = lo := by omega
              have i5 : IntKind.i64.wrap (lo - 1) = (a : Int) + (p : Int) - 1 := by rw [IntWalk.i64_in _ (by omega)]; omega
              rw [i4]
              have HL := hid hlo
              have HQ := hid (And.intro hq1 hq2)
              clear i4 hlo hq1 hq2
              by_cases hx : q < xs.length
              · obtain ⟨b, off, rfl, hbl, hc⟩ := Row_u8 HX2.out (fun h => by subst h; simp at hx)
                have c1 : wr.cell? ⟨b, off + q, none⟩ = some (.int .u8 xs[q]) := hc q hx
                clear hc
                have x1 : (q : Int) < (xs.length : Int) := by omega
                have x2 : (0 : Int) ≤ (q : Int) := by omega
                go_wp2_with (first | (go_at_call 12; refine (pop_r (HD.out.below (by repeat (first | (with_reducible exact Below.refl _ _) | (with_reducible refine bl_dr ?_) | (with_reducible refine bl_drN ?_ _) | (with_reducible refine bl_al ?_ _) | (with_reducible refine bl_more ?_ _ _)))) HL.out).mono ?_; rintro e w2 ⟨g', Av, cv, rfl, hq⟩; clear HD; have HD := hid hq; clear hq) | (go_at_call 11; refine (steal_r (HD.out.below (by repeat (first | (with_reducible exact Below.refl _ _) | (with_reducible refine bl_dr ?_) | (with_reducible refine bl_drN ?_ _) | (with_reducible refine bl_al ?_ _) | (with_reducible refine bl_more ?_ _ _))))).mono ?_; rintro e w2 ⟨g', Av, cv, rfl, hq⟩; clear HD; have HD := hid hq; clear hq))
                all_goals (
                  go_roundg p
                  case measure => omega
                  case rel =>
                    obtain ⟨k1, k2⟩ := HQ.out
                    first
                    | exact ⟨a, q + 1, _, by omega, by omega, rfl, rfl, rfl, HD.out.below (by repeat (first | (with_reducible exact Below.refl _ _) | (with_reducible refine bl_dr ?_) | (with_reducible refine bl_drN ?_ _) | (with_reducible refine bl_al ?_ _) | (with_reducible refine bl_more ?_ _ _)))⟩
                    | exact ⟨a + 1, q + 1, _, by omega, by omega, rfl, rfl, by rw [HL.out]; congr 1; omega, HD.out.below (by repeat (first | (with_reducible exact Below.refl _ _) | (with_reducible refine bl_dr ?_) | (with_reducible refine bl_drN ?_ _) | (with_reducible refine bl_al ?_ _) | (with_reducible refine bl_more ?_ _ _)))⟩)
              · have x1 : ¬ (q : Int) < (xs.length : Int) := by omega
                go_wp2_with (first | (go_at_call 12; refine (pop_r (HD.out.below (by repeat (first | (with_reducible exact Below.refl _ _) | (with_reducible refine bl_dr ?_) | (with_reducible refine bl_drN ?_ _) | (with_reducible refine bl_al ?_ _) | (with_reducible refine bl_more ?_ _ _)))) HL.out).mono ?_; rintro e w2 ⟨g', Av, cv, rfl, hq⟩; clear HD; have HD := hid hq; clear hq) | (go_at_call 11; refine (steal_r (HD.out.below (by repeat (first | (with_reducible exact Below.refl _ _) | (with_reducible refine bl_dr ?_) | (with_reducible refine bl_drN ?_ _) | (with_reducible refine bl_al ?_ _) | (with_reducible refine bl_more ?_ _ _))))).mono ?_; rintro e w2 ⟨g', Av, cv, rfl, hq⟩; clear HD; have HD := hid hq; clear hq))
                all_goals (
                  go_roundg p
                  case measure => omega
                  case rel =>
                    obtain ⟨k1, k2⟩ := HQ.out
                    first
                    | exact ⟨a, q + 1, _, by omega, by omega, rfl, rfl, rfl, HD.out.below (by repeat (first | (with_reducible exact Below.refl _ _) | (with_reducible refine bl_dr ?_) | (with_reducible refine bl_drN ?_ _) | (with_reducible refine bl_al ?_ _) | (with_reducible refine bl_more ?_ _ _)))⟩
                    | exact ⟨a + 1, q + 1, _, by omega, by omega, rfl, rfl, by rw [HL.out]; congr 1; omega, HD.out.below (by repeat (first | (with_reducible exact Below.refl _ _) | (with_reducible refine bl_dr ?_) | (with_reducible refine bl_drN ?_ _) | (with_reducible refine bl_al ?_ _) | (with_reducible refine bl_more ?_ _ _)))⟩)
end Go.Proofs.Ytfadoejoanffoaa
