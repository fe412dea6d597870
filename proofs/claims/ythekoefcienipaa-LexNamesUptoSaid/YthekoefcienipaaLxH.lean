/- A code point taken. -/
import Derived.Test.YthekoefcienipaaLxG
namespace Go.Proofs.Ythekoefcienipaa
open Go.RowKit

def takeS (s : ByteArray) (m : LS) (a : Nat) (r : Int) : LS :=
  if m.remark = true then { m with remark := decide (r ≠ 10) } else if namedB m r = true then (if m.begun < 0 then { m with begun := a } else m)
  else if shutOK m a = true then markS s (shutS s m a) a r else shutS s m a
def takeP (m : LS) (a : Nat) (r : Int) : Int := if m.remark = true then a else if namedB m r = true then a else if shutOK m a = true then a else m.begun
def takeE (m : LS) (a : Nat) (r : Int) : Int := if m.remark = true then 0 else if namedB m r = true then 0 else if shutOK m a = true then markE r else 5
theorem named_cls {m : LS} {r : Int} (h : namedB m r = false) : cls r ≠ 1 := by
  intro e
  unfold namedB at h
  rw [e] at h
  simp at h
theorem shutS_few {s : ByteArray} {m : LS} {a n : Nat} (h : m.out.length ≤ n) : (shutS s m a).out.length ≤ n + 1 := by
  unfold shutS
  split
  · omega
  · simp; omega
set_option maxHeartbeats 4000000 in
theorem take_any {w : World} {x g : Nat} {s : ByteArray} {m : LS} {a : Nat} {r : Int} (h : LxS w x g s m) (hr : okR r) (hb : m.begun ≤ a) (ha : a < s.size) (hz : s.size ≤ 65536) (hf : m.out.length ≤ 65535) :
    Calls Try.prog 22 #[.pointer (some ⟨x, 0, none⟩), .int .i64 a, .int .i32 r] w fun e w' => ∃ g', e = .returned (.tuple #[.int .i64 (takeP m a r), .int .i64 (takeE m a r)]) ∧ LxS w' x g' s (takeS s m a r) ∧ Up x g w g' w' := by
  have HX := hid h
  have HR := hid hr
  have HBA := hid hb
  have HAS := hid ha
  have HZ := hid hz
  have HF := hid hf
  obtain ⟨v, hb1, _⟩ := h.at_
  have h2 : w.cell? ⟨x, 2, none⟩ = some (.bool m.remark) := cell_blk hb1 2
  have f2 : w.frozen? ⟨x, 2, none⟩ = false := frz_blk hb1 2
  have h3 : w.cell? ⟨x, 3, none⟩ = some (.int .i64 m.begun) := cell_blk hb1 3
  have f3 : w.frozen? ⟨x, 3, none⟩ = false := frz_blk hb1 3
  have hx := h.lt
  clear hb1 h hr hb ha hz hf
  cases hm : m.remark with
  | true =>
    rw [hm] at h2
    have HM := hid hm
    clear hm
    by_cases hn : r = 10
    · subst hn
      go_enter Try.func22, Try.ntmps22
      go_wp2
      go_ret2
      have hu : Up x g w g (w.setCell ⟨x, 2, none⟩ (.bool false)) := ⟨Ext.setCell _ _ _ (.inl rfl), .inl rfl⟩
      refine ⟨g, by unfold takeP takeE; rw [if_pos HM.out, if_pos HM.out]; rfl, ?_, hu⟩
      unfold takeS
      rw [if_pos HM.out]
      exact HX.out.setRemark false
    · have hn' : (r == 10) = false := by simpa using hn
      have HN := hid hn
      go_enter Try.func22, Try.ntmps22
      go_wp2
      go_ret2
      have hv : (r != 10) = true := by have := HN.out; simpa using this
      rw [hv]
      have hu : Up x g w g (w.setCell ⟨x, 2, none⟩ (.bool true)) := ⟨Ext.setCell _ _ _ (.inl rfl), .inl rfl⟩
      refine ⟨g, by unfold takeP takeE; rw [if_pos HM.out, if_pos HM.out]; rfl, ?_, hu⟩
      unfold takeS
      rw [if_pos HM.out, show decide (r ≠ 10) = true from decide_eq_true HN.out]
      exact HX.out.setRemark true
  | false =>
    rw [hm] at h2
    have HM := hid (show ¬ m.remark = true by rw [hm]; decide)
    clear hm
    cases hnb : namedB m r with
    | true =>
      have HNB := hid hnb
      clear hnb
      by_cases hg : m.begun < 0
      · have HG := hid hg
        go_enter Try.func22, Try.ntmps22
        go_wp2_with (first | (go_at_call 31; refine (named_any (HX.out.below (by repeat (first | (with_reducible exact Below.refl _ _) | (with_reducible exact bl_mm) | (with_reducible refine bl_dr ?_) | (with_reducible refine bl_drN ?_ _) | (with_reducible refine bl_al ?_ _) | (with_reducible refine bl_more ?_ _ _)))) HR.out).mono ?_; rintro e w1 ⟨rfl, hb1⟩; rw [HNB.out]; obtain ⟨ex, dx, rfl⟩ := more_of hb1; clear hb1))
        go_ret2
        have hu : Up x g w g (w.setCell ⟨x, 3, none⟩ (.int .i64 a)) := ⟨Ext.setCell _ _ _ (.inl rfl), .inl rfl⟩
        refine ⟨g, by unfold takeP takeE; rw [if_neg HM.out, if_neg HM.out, if_pos HNB.out, if_pos HNB.out]; rfl, ?_, hu.trans (Up.of_below (bl_more (Below.refl _ _) _ _))⟩
        unfold takeS
        rw [if_neg HM.out, if_pos HNB.out, if_pos HG.out]
        exact (HX.out.setBegun a).below (bl_more (Below.refl _ _) _ _)
      · have HG := hid hg
        go_enter Try.func22, Try.ntmps22
        go_wp2_with (first | (go_at_call 31; refine (named_any (HX.out.below (by repeat (first | (with_reducible exact Below.refl _ _) | (with_reducible exact bl_mm) | (with_reducible refine bl_dr ?_) | (with_reducible refine bl_drN ?_ _) | (with_reducible refine bl_al ?_ _) | (with_reducible refine bl_more ?_ _ _)))) HR.out).mono ?_; rintro e w1 ⟨rfl, hb1⟩; rw [HNB.out]; obtain ⟨ex, dx, rfl⟩ := more_of hb1; clear hb1))
        go_ret2
        refine ⟨g, by unfold takeP takeE; rw [if_neg HM.out, if_neg HM.out, if_pos HNB.out, if_pos HNB.out]; rfl, ?_, Up.of_below (by repeat (first | (with_reducible exact Below.refl _ _) | (with_reducible exact bl_mm) | (with_reducible refine bl_dr ?_) | (with_reducible refine bl_drN ?_ _) | (with_reducible refine bl_al ?_ _) | (with_reducible refine bl_more ?_ _ _)))⟩
        unfold takeS
        rw [if_neg HM.out, if_pos HNB.out, if_neg (show ¬ m.begun < 0 from Int.not_lt.2 HG.out)]
        exact HX.out.below (by repeat (first | (with_reducible exact Below.refl _ _) | (with_reducible exact bl_mm) | (with_reducible refine bl_dr ?_) | (with_reducible refine bl_drN ?_ _) | (with_reducible refine bl_al ?_ _) | (with_reducible refine bl_more ?_ _ _)))
    | false =>
      have HNB := hid hnb
      have HCL := hid (named_cls hnb)
      clear hnb
      cases hso : shutOK m a with
      | true =>
        have HSO := hid hso
        clear hso
        go_enter Try.func22, Try.ntmps22
        go_wp2_with (first | (go_at_call 31; refine (named_any (HX.out.below (by repeat (first | (with_reducible exact Below.refl _ _) | (with_reducible exact bl_mm) | (with_reducible refine bl_dr ?_) | (with_reducible refine bl_drN ?_ _) | (with_reducible refine bl_al ?_ _) | (with_reducible refine bl_more ?_ _ _)))) HR.out).mono ?_; rintro e w1 ⟨rfl, hb1⟩; rw [HNB.out]; obtain ⟨ex, dx, rfl⟩ := more_of hb1; clear hb1) | (go_at_call 23; refine (shut_any (HX.out.below (by repeat (first | (with_reducible exact Below.refl _ _) | (with_reducible exact bl_mm) | (with_reducible refine bl_dr ?_) | (with_reducible refine bl_drN ?_ _) | (with_reducible refine bl_al ?_ _) | (with_reducible refine bl_more ?_ _ _)))) HBA.out (Nat.le_of_lt HAS.out) HZ.out (by have := HF.out; omega)).mono ?_; rintro e w2 ⟨g2, rfl, hl2, hu2⟩; rw [HSO.out]; have HL2 := hid hl2; have HU2 := hid hu2; clear hl2 hu2) | (go_at_call 32; refine (mark_any (HL2.out.below (by repeat (first | (with_reducible exact Below.refl _ _) | (with_reducible exact bl_mm) | (with_reducible refine bl_dr ?_) | (with_reducible refine bl_drN ?_ _) | (with_reducible refine bl_al ?_ _) | (with_reducible refine bl_more ?_ _ _)))) HR.out HCL.out HAS.out HZ.out (shutS_few HF.out)).mono ?_; rintro e w3 ⟨g3, rfl, hl3, hu3⟩; have HL3 := hid hl3; have HU3 := hid hu3; clear hl3 hu3))
        go_ret2
        have hN : ¬ namedB m r = true := by rw [HNB.out]; decide
        refine ⟨g3, by unfold takeP takeE; rw [if_neg HM.out, if_neg HM.out, if_neg hN, if_neg hN, if_pos HSO.out, if_pos HSO.out]; rfl, ?_, ((Up.of_below (bl_more (Below.refl _ _) _ _)).trans HU2.out).trans HU3.out⟩
        unfold takeS
        rw [if_neg HM.out, if_neg hN, if_pos HSO.out]
        exact HL3.out
      | false =>
        have HSO := hid hso
        clear hso
        go_enter Try.func22, Try.ntmps22
        go_wp2_with (first | (go_at_call 31; refine (named_any (HX.out.below (by repeat (first | (with_reducible exact Below.refl _ _) | (with_reducible exact bl_mm) | (with_reducible refine bl_dr ?_) | (with_reducible refine bl_drN ?_ _) | (with_reducible refine bl_al ?_ _) | (with_reducible refine bl_more ?_ _ _)))) HR.out).mono ?_; rintro e w1 ⟨rfl, hb1⟩; rw [HNB.out]; obtain ⟨ex, dx, rfl⟩ := more_of hb1; clear hb1) | (go_at_call 23; refine (shut_any (HX.out.below (by repeat (first | (with_reducible exact Below.refl _ _) | (with_reducible exact bl_mm) | (with_reducible refine bl_dr ?_) | (with_reducible refine bl_drN ?_ _) | (with_reducible refine bl_al ?_ _) | (with_reducible refine bl_more ?_ _ _)))) HBA.out (Nat.le_of_lt HAS.out) HZ.out (by have := HF.out; omega)).mono ?_; rintro e w2 ⟨g2, rfl, hl2, hu2⟩; rw [HSO.out]; have HL2 := hid hl2; have HU2 := hid hu2; clear hl2 hu2) | (go_at_call 32; refine (mark_any (HL2.out.below (by repeat (first | (with_reducible exact Below.refl _ _) | (with_reducible exact bl_mm) | (with_reducible refine bl_dr ?_) | (with_reducible refine bl_drN ?_ _) | (with_reducible refine bl_al ?_ _) | (with_reducible refine bl_more ?_ _ _)))) HR.out HCL.out HAS.out HZ.out (shutS_few HF.out)).mono ?_; rintro e w3 ⟨g3, rfl, hl3, hu3⟩; have HL3 := hid hl3; have HU3 := hid hu3; clear hl3 hu3))
        go_ret2
        have hN : ¬ namedB m r = true := by rw [HNB.out]; decide
        have hS : ¬ shutOK m a = true := by rw [HSO.out]; decide
        refine ⟨g2, by unfold takeP takeE; rw [if_neg HM.out, if_neg HM.out, if_neg hN, if_neg hN, if_neg hS, if_neg hS]; rfl, ?_, (Up.of_below (bl_more (Below.refl _ _) _ _)).trans HU2.out⟩
        unfold takeS
        rw [if_neg HM.out, if_neg hN, if_neg hS]
        exact HL2.out
end Go.Proofs.Ythekoefcienipaa
