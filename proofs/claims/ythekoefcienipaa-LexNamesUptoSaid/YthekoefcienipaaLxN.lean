/- Name. -/
import Derived.Test.YthekoefcienipaaLxM
import Derived.Test.YthekoefcienipaaLxV
namespace Go.Proofs.Ythekoefcienipaa
open Go.RowKit

/-- From p on: letters, and digits but at the beginning. -/
def nmL (s : ByteArray) (p : Nat) : Bool :=
  if _h : p < s.size then (if cls (Utf8.decode s p).1 = 1 ∨ (cls (Utf8.decode s p).1 = 2 ∧ p ≠ 0) then nmL s (p + max 1 (Utf8.decode s p).2) else false) else true
termination_by s.size - p
decreasing_by omega
theorem nmL_end {s : ByteArray} {p : Nat} (h : ¬ p < s.size) : nmL s p = true := by rw [nmL, dif_neg h]
theorem nmL_next {s : ByteArray} {p : Nat} (h : p < s.size) (hc : cls (Utf8.decode s p).1 = 1 ∨ (cls (Utf8.decode s p).1 = 2 ∧ p ≠ 0)) : nmL s p = nmL s (p + (Utf8.decode s p).2) := by
  rw [nmL, dif_pos h, if_pos hc, Nat.max_eq_right (width_pos s p)]
theorem nmL_no {s : ByteArray} {p : Nat} (h : p < s.size) (hc : ¬ (cls (Utf8.decode s p).1 = 1 ∨ (cls (Utf8.decode s p).1 = 2 ∧ p ≠ 0))) : nmL s p = false := by
  rw [nmL, dif_pos h, if_neg hc]
def nameB (s : ByteArray) : Bool := decide (s.size ≠ 0) && decide (s.size ≤ 24) && (badAt s 0).isNone && nmL s 0
theorem emp_t {s : ByteArray} (h : s.size = 0) : (s.toList == []) = true := by
  have : s = ByteArray.empty := by
    apply ByteArray.ext
    apply Array.ext'
    exact List.eq_nil_of_length_eq_zero h
  rw [this]; simp
theorem emp_f {s : ByteArray} (h : s.size ≠ 0) : (s.toList == []) = false := by
  rw [beq_eq_false_iff_ne]
  intro e
  rw [ByteArray.toList_eq] at e
  have : s.data.toList.length = 0 := by rw [e]; rfl
  exact h this
set_option maxHeartbeats 4000000 in
theorem name_any {w : World} {s : ByteArray} : Calls Try.prog 13 #[.string s] w fun e w' => e = .returned (.bool (nameB s)) ∧ Below w.heap.size w w' := by
  by_cases h0 : s.size = 0
  · have e : nameB s = false := by unfold nameB; rw [decide_eq_false (by omega)]; rfl
    have hs := emp_t h0
    rw [e]
    clear e h0
    go_enter Try.func13, Try.ntmps13
    go_wp2
    go_ret
    exact ⟨rfl, (by repeat (first | (with_reducible exact Below.refl _ _) | (with_reducible exact bl_mm) | (with_reducible refine bl_dr ?_) | (with_reducible refine bl_drN ?_ _) | (with_reducible refine bl_al ?_ _) | (with_reducible refine bl_more ?_ _ _)))⟩
  by_cases h24 : (24 : Int) < s.size
  · have e : nameB s = false := by unfold nameB; rw [decide_eq_false (show ¬ s.size ≤ 24 by omega)]; simp
    have hs := emp_f h0
    rw [e]
    clear e h0
    go_enter Try.func13, Try.ntmps13
    go_wp2
    go_ret
    exact ⟨rfl, (by repeat (first | (with_reducible exact Below.refl _ _) | (with_reducible exact bl_mm) | (with_reducible refine bl_dr ?_) | (with_reducible refine bl_drN ?_ _) | (with_reducible refine bl_al ?_ _) | (with_reducible refine bl_more ?_ _ _)))⟩
  have hs := emp_f h0
  cases hba : badAt s 0 with
  | some i =>
    have e : nameB s = false := by unfold nameB; rw [hba]; simp
    have HBA : Hid (badI (badAt s 0) = (i : Int)) := hid (by rw [hba]; rfl)
    have hi0 : (0 : Int) ≤ i := by omega
    rw [e]
    clear e h0 hba
    go_enter Try.func13, Try.ntmps13
    go_wp2_with (first | (go_at_call 21; refine bad_any.mono ?_; rintro e w1 ⟨rfl, hb1⟩; rw [HBA.out]; have HB1 := hid hb1; clear hb1))
    go_ret
    exact ⟨rfl, HB1.out⟩
  | none =>
    have e : nameB s = nmL s 0 := by unfold nameB; rw [hba, decide_eq_true h0, decide_eq_true (show s.size ≤ 24 by omega)]; rfl
    have HBA : Hid (badI (badAt s 0) = (-1 : Int)) := hid (by rw [hba]; rfl)
    have HE := hid e
    clear e h0 hba
    go_enter Try.func13, Try.ntmps13
    go_wp2_with (first | (go_at_call 21; refine bad_any.mono ?_; rintro e w1 ⟨rfl, hb1⟩; rw [HBA.out]; have HB1 := hid hb1; clear hb1))
    go_loopg [] (s.size + 1) (fun k wr => ∃ (p : Nat) (e : Array Obj) (d : Nat), p + k = s.size + 1 ∧ nmL s 0 = nmL s p ∧ wr = more (w1.alloc (.stringIter s p)) e d)
    case atStart =>
      obtain ⟨e, d, h⟩ := more_of (show Below (w1.alloc (.stringIter s 0)).heap.size (w1.alloc (.stringIter s 0)) (w1.iter s 0) from Below.refl _ _)
      exact ⟨0, e, d, by omega, rfl, h⟩
    case round =>
      obtain ⟨p, e, d, hk, hb, rfl⟩ := hrel
      have HB := hid hb
      have HK := hid hk
      clear hb
      by_cases hp : p < s.size
      · have hnx := fun ty => next_any (P := Try.prog) w1 s p e d hp ty
        have HW := hid (width_pos s p)
        have HWL := hid (width_le hp)
        have HPP := hid (And.intro hp trivial)
        have HOK := hid (decode_ok s p)
        have h31 : (0 : Int) ≤ ((Utf8.decode s p).1 : Int) := by omega
        have h32 : ((Utf8.decode s p).1 : Int) ≤ 1114111 := HOK.out.2.1
        obtain ⟨c, hcl⟩ : ∃ c, cls (Utf8.decode s p).1 = c := ⟨_, rfl⟩
        have HCL := hid hcl
        have hp0 : (0 : Int) ≤ p := by omega
        clear hk hp hcl
        by_cases hc1 : c = 1
        · subst hc1
          go_wp2_with (first | (go_at_call 21; refine bad_any.mono ?_; rintro e w1 ⟨rfl, hb1⟩; rw [HBA.out]; have HB1 := hid hb1; clear hb1) | (go_at_call 28; refine (class_any HOK.out).mono ?_; rintro e w2 ⟨rfl, hb2⟩; obtain ⟨ex2, dx2, rfl⟩ := more_of hb2; clear hb2; rw [HCL.out]))
          go_roundg (s.size + 1 - (p + (Utf8.decode s p).2))
          case measure => have := HK.out; have := HW.out; have := HWL.out; omega
          case rel =>
            obtain ⟨e3, d3, h3⟩ := more_of (show Below (w1.alloc (.stringIter s (p + (Utf8.decode s p).2))).heap.size (w1.alloc (.stringIter s (p + (Utf8.decode s p).2))) (more (more (w1.alloc (.stringIter s (p + (Utf8.decode s p).2))) e d) ex2 dx2) from (by repeat (first | (with_reducible exact Below.refl _ _) | (with_reducible exact bl_mm) | (with_reducible refine bl_dr ?_) | (with_reducible refine bl_drN ?_ _) | (with_reducible refine bl_al ?_ _) | (with_reducible refine bl_more ?_ _ _))))
            exact ⟨p + (Utf8.decode s p).2, e3, d3, by have := HWL.out; omega, by rw [HB.out]; exact nmL_next HPP.out.1 (.inl HCL.out), h3⟩
        · have hb1 : (c != 1) = true := by simpa using hc1
          by_cases hc2 : c = 2 ∧ p ≠ 0
          · obtain ⟨rfl, hpz⟩ := hc2
            have hz : ((p : Int) == 0) = false := by rw [beq_eq_false_iff_ne]; omega
            have HPZ := hid hpz
            clear hc1 hpz
            go_wp2_with (first | (go_at_call 21; refine bad_any.mono ?_; rintro e w1 ⟨rfl, hb1⟩; rw [HBA.out]; have HB1 := hid hb1; clear hb1) | (go_at_call 28; refine (class_any HOK.out).mono ?_; rintro e w2 ⟨rfl, hb2⟩; obtain ⟨ex2, dx2, rfl⟩ := more_of hb2; clear hb2; rw [HCL.out]))
            go_roundg (s.size + 1 - (p + (Utf8.decode s p).2))
            case measure => have := HK.out; have := HW.out; have := HWL.out; omega
            case rel =>
              obtain ⟨e3, d3, h3⟩ := more_of (show Below (w1.alloc (.stringIter s (p + (Utf8.decode s p).2))).heap.size (w1.alloc (.stringIter s (p + (Utf8.decode s p).2))) (more (more (w1.alloc (.stringIter s (p + (Utf8.decode s p).2))) e d) ex2 dx2) from (by repeat (first | (with_reducible exact Below.refl _ _) | (with_reducible exact bl_mm) | (with_reducible refine bl_dr ?_) | (with_reducible refine bl_drN ?_ _) | (with_reducible refine bl_al ?_ _) | (with_reducible refine bl_more ?_ _ _))))
              exact ⟨p + (Utf8.decode s p).2, e3, d3, by have := HWL.out; omega, by rw [HB.out]; exact nmL_next HPP.out.1 (.inr ⟨HCL.out, HPZ.out⟩), h3⟩
          · have HNO : Hid (nmL s p = false) := hid (nmL_no HPP.out.1 (by rw [HCL.out]; omega))
            by_cases hc22 : c = 2
            · have hz : ((p : Int) == 0) = true := by rw [beq_iff_eq]; omega
              have hb2 : (c != 2) = false := by simpa using hc22
              clear hc1 hc2 hc22
              go_wp2_with (first | (go_at_call 21; refine bad_any.mono ?_; rintro e w1 ⟨rfl, hb1⟩; rw [HBA.out]; have HB1 := hid hb1; clear hb1) | (go_at_call 28; refine (class_any HOK.out).mono ?_; rintro e w2 ⟨rfl, hb2⟩; obtain ⟨ex2, dx2, rfl⟩ := more_of hb2; clear hb2; rw [HCL.out]))
              go_ret
              exact ⟨by rw [HE.out, HB.out, HNO.out]; rfl, HB1.out.trans ((show Below w1.heap.size w1 _ from (by repeat (first | (with_reducible exact Below.refl _ _) | (with_reducible exact bl_mm) | (with_reducible refine bl_dr ?_) | (with_reducible refine bl_drN ?_ _) | (with_reducible refine bl_al ?_ _) | (with_reducible refine bl_more ?_ _ _)))).mono HB1.out.size)⟩
            · have hb2 : (c != 2) = true := by simpa using hc22
              clear hc1 hc2 hc22
              go_wp2_with (first | (go_at_call 21; refine bad_any.mono ?_; rintro e w1 ⟨rfl, hb1⟩; rw [HBA.out]; have HB1 := hid hb1; clear hb1) | (go_at_call 28; refine (class_any HOK.out).mono ?_; rintro e w2 ⟨rfl, hb2⟩; obtain ⟨ex2, dx2, rfl⟩ := more_of hb2; clear hb2; rw [HCL.out]))
              go_ret
              exact ⟨by rw [HE.out, HB.out, HNO.out]; rfl, HB1.out.trans ((show Below w1.heap.size w1 _ from (by repeat (first | (with_reducible exact Below.refl _ _) | (with_reducible exact bl_mm) | (with_reducible refine bl_dr ?_) | (with_reducible refine bl_drN ?_ _) | (with_reducible refine bl_al ?_ _) | (with_reducible refine bl_more ?_ _ _)))).mono HB1.out.size)⟩
      · have hnx := fun ty => next_end (P := Try.prog) w1 s p e d hp ty
        have HPP := hid (And.intro hp trivial)
        clear hk hp
        go_wp2_with (first | (go_at_call 21; refine bad_any.mono ?_; rintro e w1 ⟨rfl, hb1⟩; rw [HBA.out]; have HB1 := hid hb1; clear hb1))
        go_ret
        exact ⟨by rw [HE.out, HB.out, nmL_end HPP.out.1]; rfl, HB1.out.trans ((show Below w1.heap.size w1 _ from (by repeat (first | (with_reducible exact Below.refl _ _) | (with_reducible exact bl_mm) | (with_reducible refine bl_dr ?_) | (with_reducible refine bl_drN ?_ _) | (with_reducible refine bl_al ?_ _) | (with_reducible refine bl_more ?_ _ _)))).mono HB1.out.size)⟩
theorem nmL_run {s : ByteArray} {p : Nat} (hp : p ≠ 0) (hle : p ≤ s.size) (hb : badAt s p = none) : nmL s p = decide (runE s p = s.size) := by
  induction hk : s.size - p using Nat.strongRecOn generalizing p with
  | _ n ih =>
    by_cases hps : p < s.size
    · have hbd : bad s p = false := by
        cases hbd : bad s p with
        | true => rw [badAt_here hps hbd] at hb; cases hb
        | false => rfl
      have hw := width_pos s p
      have hwl := width_le hps
      rw [badAt_next hps hbd] at hb
      cases hn : namC (Utf8.decode s p).1 with
      | true =>
        have hc : cls (Utf8.decode s p).1 = 1 ∨ (cls (Utf8.decode s p).1 = 2 ∧ p ≠ 0) := by
          unfold namC at hn
          rw [Bool.or_eq_true, decide_eq_true_eq, decide_eq_true_eq] at hn
          exact hn.imp id (fun h => ⟨h, hp⟩)
        rw [nmL_next hps hc, runE_next hps hbd hn]
        exact ih _ (by omega) (by omega) hwl hb rfl
      | false =>
        have hc : ¬ (cls (Utf8.decode s p).1 = 1 ∨ (cls (Utf8.decode s p).1 = 2 ∧ p ≠ 0)) := by
          unfold namC at hn
          rw [Bool.or_eq_false_iff, decide_eq_false_iff_not, decide_eq_false_iff_not] at hn
          exact fun h => h.elim hn.1 (fun h => hn.2 h.1)
        rw [nmL_no hps hc, runE_no hn, decide_eq_false (by omega)]
    · rw [nmL_end hps, runE_end hps, decide_eq_true (by omega)]
theorem run_good {s : ByteArray} {p : Nat} (hle : p ≤ s.size) (h : runE s p = s.size) : badAt s p = none := by
  induction hk : s.size - p using Nat.strongRecOn generalizing p with
  | _ n ih =>
    by_cases hps : p < s.size
    · cases hbd : bad s p with
      | true => rw [runE_bad hbd] at h; omega
      | false =>
        have hw := width_pos s p
        have hwl := width_le hps
        rw [badAt_next hps hbd]
        cases hn : namC (Utf8.decode s p).1 with
        | true => exact ih _ (by omega) hwl (by rw [← runE_next hps hbd hn]; exact h) rfl
        | false => rw [runE_no hn] at h; omega
    · exact badAt_end hps
/-- The document's name. -/
def nameD (s : ByteArray) : Bool := decide (s.size ≠ 0) && decide (s.size ≤ 24) && decide (runE s 0 = s.size) && decide (cls (ptR s 0) = 1)
theorem name_eq (s : ByteArray) : nameB s = nameD s := by
  unfold nameB nameD
  by_cases h0 : s.size = 0
  · rw [decide_eq_false (by omega)]; rfl
  · have hps : 0 < s.size := by omega
    rw [Bool.and_assoc, Bool.and_assoc (decide (s.size ≠ 0) && decide (s.size ≤ 24))]
    congr 1
    cases hbd : bad s 0 with
    | true =>
      rw [badAt_here hps hbd, runE_bad hbd, decide_eq_false (by omega)]
      rfl
    | false =>
      have hw := width_pos s 0
      have hwl := width_le hps
      have hpt : ptR s 0 = ((Utf8.decode s 0).1 : Int) := by unfold ptR; rw [if_neg (by rw [hbd]; decide)]
      rw [hpt]
      by_cases hc1 : cls (Utf8.decode s 0).1 = 1
      · rw [decide_eq_true hc1, Bool.and_true, nmL_next hps (.inl hc1), runE_next hps hbd (by unfold namC; rw [hc1]; rfl), badAt_next hps hbd]
        by_cases hb : badAt s (0 + (Utf8.decode s 0).2) = none
        · rw [nmL_run (by omega) hwl hb, hb]; rfl
        · rw [decide_eq_false (fun h => hb (run_good hwl h))]
          cases he : badAt s (0 + (Utf8.decode s 0).2) with
          | none => exact absurd he hb
          | some i => rfl
      · rw [decide_eq_false hc1, Bool.and_false, nmL_no hps (fun h => h.elim hc1 (fun h => h.2 rfl)), Bool.and_false]
set_option maxHeartbeats 4000000 in
theorem dname_any {w : World} {s : ByteArray} : Calls Try.prog 14 #[.string s] w fun e w' => e = .returned (.bool (nameD s)) ∧ Below w.heap.size w w' := by
  by_cases h0 : s.size = 0
  · have e : nameD s = false := by unfold nameD; rw [decide_eq_false (show ¬ s.size ≠ 0 by omega)]; rfl
    have hs := emp_t h0
    rw [e]
    clear e h0
    go_enter Try.func14, Try.ntmps14
    go_wp2
    go_ret
    exact ⟨rfl, (by repeat (first | (with_reducible exact Below.refl _ _) | (with_reducible exact bl_mm) | (with_reducible refine bl_dr ?_) | (with_reducible refine bl_drN ?_ _) | (with_reducible refine bl_al ?_ _) | (with_reducible refine bl_more ?_ _ _)))⟩
  by_cases h24 : (24 : Int) < s.size
  · have e : nameD s = false := by unfold nameD; rw [decide_eq_false (show ¬ s.size ≤ 24 by omega)]; simp
    have hs := emp_f h0
    rw [e]
    clear e h0
    go_enter Try.func14, Try.ntmps14
    go_wp2
    go_ret
    exact ⟨rfl, (by repeat (first | (with_reducible exact Below.refl _ _) | (with_reducible exact bl_mm) | (with_reducible refine bl_dr ?_) | (with_reducible refine bl_drN ?_ _) | (with_reducible refine bl_al ?_ _) | (with_reducible refine bl_more ?_ _ _)))⟩
  have hs := emp_f h0
  have HZ : Hid (s.size ≤ 65536) := hid (by omega)
  have HP : Hid (0 < s.size) := hid (by omega)
  have e : nameD s = (decide (runE s 0 = s.size) && decide (cls (ptR s 0) = 1)) := by unfold nameD; rw [decide_eq_true h0, decide_eq_true (show s.size ≤ 24 by omega)]; rfl
  rw [e]
  clear e h0
  by_cases hr : runE s 0 = s.size
  · have hr' : ((runE s 0 : Int) != (s.size : Int)) = false := by simp [hr]
    rw [decide_eq_true hr, Bool.true_and]
    clear hr
    go_enter Try.func14, Try.ntmps14
    go_wp2_with (first | (go_at_call 26; refine (run_any (a := 0) (Nat.zero_le _) HZ.out).mono ?_; rintro e w1 ⟨rfl, hb1⟩; obtain ⟨ex1, dx1, rfl⟩ := more_of hb1; clear hb1) | (go_at_call 24; refine (point_any (a := 0) HP.out HZ.out).mono ?_; rintro e w2 ⟨rfl, hb2⟩; obtain ⟨ex2, dx2, rfl⟩ := more_of hb2; clear hb2) | (go_at_call 25; refine (rclass_any (pt_ok s 0)).mono ?_; rintro e w3 ⟨rfl, hb3⟩; obtain ⟨ex3, dx3, rfl⟩ := more_of hb3; clear hb3))
    go_ret
    refine ⟨?_, (by repeat (first | (with_reducible exact Below.refl _ _) | (with_reducible exact bl_mm) | (with_reducible refine bl_dr ?_) | (with_reducible refine bl_drN ?_ _) | (with_reducible refine bl_al ?_ _) | (with_reducible refine bl_more ?_ _ _)))⟩
    by_cases hc : cls (ptR s 0) = 1
    · rw [hc]; rfl
    · rw [decide_eq_false hc]
      exact congrArg (fun b => Ending.returned (.bool b)) (beq_eq_false_iff_ne.2 hc)
  · have hr' : ((runE s 0 : Int) != (s.size : Int)) = true := by simp; omega
    rw [decide_eq_false hr, Bool.false_and]
    clear hr
    go_enter Try.func14, Try.ntmps14
    go_wp2_with (first | (go_at_call 26; refine (run_any (a := 0) (Nat.zero_le _) HZ.out).mono ?_; rintro e w1 ⟨rfl, hb1⟩; obtain ⟨ex1, dx1, rfl⟩ := more_of hb1; clear hb1))
    go_ret
    exact ⟨rfl, (by repeat (first | (with_reducible exact Below.refl _ _) | (with_reducible exact bl_mm) | (with_reducible refine bl_dr ?_) | (with_reducible refine bl_drN ?_ _) | (with_reducible refine bl_al ?_ _) | (with_reducible refine bl_more ?_ _ _)))⟩
end Go.Proofs.Ythekoefcienipaa
