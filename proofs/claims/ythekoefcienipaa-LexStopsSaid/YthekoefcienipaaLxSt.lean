/- LexStops, walked. -/
import Derived.Test.YthekoefcienipaaLxStB
namespace Go.Proofs.Ythekoefcienipaa
open Go.RowKit

set_option maxHeartbeats 1000000 in
theorem stops_any {w : World} {s : ByteArray} : Calls Try.prog 8 #[.string s] w fun e w' => e = .returned (.bool true) ∧ Below w.heap.size w w' := by
  have Mlives := hid trivial
  by_cases h5 : (5000 : Int) < s.size
  · go_enter Try.func8, Try.ntmps8
    go_wp2_with (first | (go_at_call 9; clear Mlives; refine lives_any.mono ?_; rintro e w4 ⟨rfl, hb4⟩; obtain ⟨ey4, dx4, rfl⟩ := more_of hb4; clear hb4))
    go_ret
    exact ⟨rfl, (by repeat (first | (with_reducible exact Below.refl _ _) | (with_reducible exact bl_mm) | (with_reducible refine bl_dr ?_) | (with_reducible refine bl_drN ?_ _) | (with_reducible refine bl_al ?_ _) | (with_reducible refine bl_more ?_ _ _)))⟩
  · have HZ : Hid (s.size ≤ 65536) := hid (by omega)
    have Mlex1 := hid trivial
    rcases stops_law s with ⟨he, ha⟩ | ⟨b, E, hd, hE, hb, hp, hq⟩
    · obtain ⟨l, hl⟩ : ∃ l, dR s = (l, (s.size : Int), 0) := ⟨(dR s).1, by rw [← he, ← ha]⟩
      have HD := hid hl
      clear he ha hl
      go_enter Try.func8, Try.ntmps8
      go_wp2_with (first | (go_at_call 10; clear Mlex1; refine (lexd_any HZ.out).mono ?_; rintro e w1 ⟨v1, rfl, hr1, hb1⟩; rw [HD.out] at hr1 ⊢; obtain ⟨A1, c1, rfl, _, _⟩ := hr1.form; clear hr1; obtain ⟨ey1, dy1, rfl⟩ := more_of hb1; clear hb1))
      go_wp2_with (first | (go_at_call 9; clear Mlives; refine lives_any.mono ?_; rintro e w4 ⟨rfl, hb4⟩; obtain ⟨ey4, dx4, rfl⟩ := more_of hb4; clear hb4))
      go_ret
      exact ⟨rfl, (by repeat (first | (with_reducible exact Below.refl _ _) | (with_reducible exact bl_mm) | (with_reducible refine bl_dr ?_) | (with_reducible refine bl_drN ?_ _) | (with_reducible refine bl_al ?_ _) | (with_reducible refine bl_more ?_ _ _)))⟩
    · have Mlex2 := hid trivial
      have Mlex3 := hid trivial
      have HD := hid hd
      have HQ := hid hq
      obtain ⟨l2, n2, hP⟩ : ∃ l2 n2, dR (s.extract 0 b) = (l2, n2, 0) := ⟨(dR (s.extract 0 b)).1, (dR (s.extract 0 b)).2.1, by rw [← hp]⟩
      have HP := hid hP
      have HZ2 : Hid ((s.extract 0 b).size ≤ 65536) := hid (by rw [size_ext (Nat.le_of_lt hb)]; have := HZ.out; omega)
      have HZ3 : Hid ((s.extract b s.size).size ≤ 65536) := hid (by rw [size_ext (Nat.le_refl _)]; have := HZ.out; omega)
      have hE0 : (E == 0) = false := by simpa using hE
      have hE1 : (E != 0) = true := by simpa using hE
      have hb0 : (0 : Int) ≤ b := by omega
      have hb1 : (b : Int) < s.size := by omega
      have hb2 : (b : Int) ≤ s.size := by omega
      clear hd hq hp hP hE hb
      go_enter Try.func8, Try.ntmps8
      go_wp2_with (first | (go_at_call 10; clear Mlex1; refine (lexd_any HZ.out).mono ?_; rintro e w1 ⟨v1, rfl, hr1, hb1⟩; rw [HD.out] at hr1 ⊢; obtain ⟨A1, c1, rfl, _, _⟩ := hr1.form; clear hr1; obtain ⟨ey1, dy1, rfl⟩ := more_of hb1; clear hb1))
      go_wp2_with (first | (go_at_call 10; clear Mlex2; refine (lexd_any HZ2.out).mono ?_; rintro e w2 ⟨v2, rfl, hr2, hb2⟩; rw [HP.out]; clear hr2; obtain ⟨ey2, dy2, rfl⟩ := more_of hb2; clear hb2))
      go_wp2_with (first | (go_at_call 10; clear Mlex3; refine (lexd_any HZ3.out).mono ?_; rintro e w3 ⟨v3, rfl, hr3, hb3⟩; rw [HQ.out]; clear hr3; obtain ⟨ey3, dy3, rfl⟩ := more_of hb3; clear hb3))
      go_wp2_with (first | (go_at_call 9; clear Mlives; refine lives_any.mono ?_; rintro e w4 ⟨rfl, hb4⟩; obtain ⟨ey4, dx4, rfl⟩ := more_of hb4; clear hb4))
      go_ret
      exact ⟨rfl, (by repeat (first | (with_reducible exact Below.refl _ _) | (with_reducible exact bl_mm) | (with_reducible refine bl_dr ?_) | (with_reducible refine bl_drN ?_ _) | (with_reducible refine bl_al ?_ _) | (with_reducible refine bl_more ?_ _ _)))⟩
end Go.Proofs.Ythekoefcienipaa
