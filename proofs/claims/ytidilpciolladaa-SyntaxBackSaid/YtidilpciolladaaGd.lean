/- Name. -/
import Derived.Test.YtidilpciolladaaGb
import Derived.Test.YtidilpciolladaaGc
/- Name. -/
namespace Go.Proofs.Ytidilpciolladaa
open Go.RowKit

/-- From p on: letters, and digits but at the beginning. -/
def nmL (s : ByteArray) (p : Nat) : Bool :=
  if _h : p < s.size then (if cls (Utf8.decode s p).1 = 1 ∨ (cls (Utf8.decode s p).1 = 2 ∧ p ≠ 0) then nmL s (p + max 1 (Utf8.decode s p).2) else false) else true
termination_by s.size - p
decreasing_by omega
theorem nmL_end {s : ByteArray} {p : Nat} (h : ¬ p < s.size) : nmL s p = true := by rw [nmL, dif_neg h]
theorem nmL_next {s : ByteArray} {p : Nat} (h : p < s.size) (hc : cls (Utf8.decode s p).1 = 1 ∨ (cls (Utf8.decode s p).1 = 2 ∧ p ≠ 0)) : nmL s p = nmL s (p + (Utf8.decode s p).2) := by
  rw [nmL, dif_pos h, if_pos hc, Nat.max_eq_right (width_pos s p)]
theorem nmL_no {s : ByteArray} {p : Nat} (h : p < s.size) (hc : ¬ (cls (Utf8.decode s p).1 = 1 ∨ (cls (Utf8.decode s p).1 = 2 ∧ p ≠ 0))) : nmL s p = false := by
  rw [nmL, dif_pos h, if_neg hc]
def nameB (s : ByteArray) : Bool := decide (s.size ≠ 0) && decide (s.size ≤ 24) && (badAt s 0).isNone && nmL s 0
theorem emp_t {s : ByteArray} (h : s.size = 0) : (s.toList == []) = true := by
  have : s = ByteArray.empty := by
    apply ByteArray.ext
    apply Array.ext'
    exact List.eq_nil_of_length_eq_zero h
  rw [this]; simp
theorem emp_f {s : ByteArray} (h : s.size ≠ 0) : (s.toList == []) = false := by
  rw [beq_eq_false_iff_ne]
  intro e
  rw [ByteArray.toList_eq] at e
  have : s.data.toList.length = 0 := by rw [e]; rfl
  exact h this
set_option maxRecDepth 20000 in
set_option maxHeartbeats 4000000 in
theorem name_any {w : World} {s : ByteArray} : Calls Try.prog 56 #[.string s] w fun e w' => e = .returned (.bool (nameB s)) ∧ Below w.heap.size w w' := by
  by_cases h0 : s.size = 0
  · have e : nameB s = false := by unfold nameB; rw [decide_eq_false (by omega)]; rfl
    have hs := emp_t h0
    rw [e]
    clear e h0
    go_enter Try.func56, Try.ntmps56
    go_wp2
    go_ret
    exact ⟨rfl, (by repeat (first | (with_reducible exact Below.refl _ _) | (with_reducible exact bl_mm) | (with_reducible refine bl_dr ?_) | (with_reducible refine bl_drN ?_ _) | (with_reducible refine bl_al ?_ _) | (with_reducible refine bl_more ?_ _ _)))⟩
  by_cases h24 : (24 : Int) < s.size
  · have e : nameB s = false := by unfold nameB; rw [decide_eq_false (show ¬ s.size ≤ 24 by omega)]; simp
    have hs := emp_f h0
    rw [e]
    clear e h0
    go_enter Try.func56, Try.ntmps56
    go_wp2
    go_ret
    exact ⟨rfl, (by repeat (first | (with_reducible exact Below.refl _ _) | (with_reducible exact bl_mm) | (with_reducible refine bl_dr ?_) | (with_reducible refine bl_drN ?_ _) | (with_reducible refine bl_al ?_ _) | (with_reducible refine bl_more ?_ _ _)))⟩
  have hs := emp_f h0
  cases hba : badAt s 0 with
  | some i =>
    have e : nameB s = false := by unfold nameB; rw [hba]; simp
    have HBA : Hid (badI (badAt s 0) = (i : Int)) := hid (by rw [hba]; rfl)
    have hi0 : (0 : Int) ≤ i := by omega
    rw [e]
    clear e h0 hba
    go_enter Try.func56, Try.ntmps56
    go_wp2_with (first | (go_at_call 38; refine bad_any.mono ?_; rintro e w1 ⟨rfl, hb1⟩; rw [HBA.out]; have HB1 := hid hb1; clear hb1))
    go_ret
    exact ⟨rfl, HB1.out⟩
  | none =>
    have e : nameB s = nmL s 0 := by unfold nameB; rw [hba, decide_eq_true h0, decide_eq_true (show s.size ≤ 24 by omega)]; rfl
    have HBA : Hid (badI (badAt s 0) = (-1 : Int)) := hid (by rw [hba]; rfl)
    have HE := hid e
    clear e h0 hba
    go_enter Try.func56, Try.ntmps56
    go_wp2_with (first | (go_at_call 38; refine bad_any.mono ?_; rintro e w1 ⟨rfl, hb1⟩; rw [HBA.out]; have HB1 := hid hb1; clear hb1))
    go_loopg [] (s.size + 1) (fun k wr => ∃ (p : Nat) (e : Array Obj) (d : Nat), p + k = s.size + 1 ∧ nmL s 0 = nmL s p ∧ wr = more (w1.alloc (.stringIter s p)) e d)
    case atStart =>
      obtain ⟨e, d, h⟩ := more_of (show Below (w1.alloc (.stringIter s 0)).heap.size (w1.alloc (.stringIter s 0)) (w1.iter s 0) from Below.refl _ _)
      exact ⟨0, e, d, by omega, rfl, h⟩
    case round =>
      obtain ⟨p, e, d, hk, hb, rfl⟩ := hrel
      have HB := hid hb
      have HK := hid hk
      clear hb
      by_cases hp : p < s.size
      · have hnx := fun ty => next_any (P := Try.prog) w1 s p e d hp ty
        have HW := hid (width_pos s p)
        have HWL := hid (width_le hp)
        have HPP := hid (And.intro hp trivial)
        have HOK := hid (decode_ok s p)
        have h31 : (0 : Int) ≤ ((Utf8.decode s p).1 : Int) := by omega
        have h32 : ((Utf8.decode s p).1 : Int) ≤ 1114111 := HOK.out.2.1
        obtain ⟨c, hcl⟩ : ∃ c, cls (Utf8.decode s p).1 = c := ⟨_, rfl⟩
        have HCL := hid hcl
        have hp0 : (0 : Int) ≤ p := by omega
        clear hk hp hcl
        by_cases hc1 : c = 1
        · subst hc1
          go_wp2_with (first | (go_at_call 38; refine bad_any.mono ?_; rintro e w1 ⟨rfl, hb1⟩; rw [HBA.out]; have HB1 := hid hb1; clear hb1) | (go_at_call 77; refine (class_any HOK.out).mono ?_; rintro e w2 ⟨rfl, hb2⟩; obtain ⟨ex2, dx2, rfl⟩ := more_of hb2; clear hb2; rw [HCL.out]))
          go_roundg (s.size + 1 - (p + (Utf8.decode s p).2))
          case measure => have := HK.out; have := HW.out; have := HWL.out; omega
          case rel =>
            obtain ⟨e3, d3, h3⟩ := more_of (show Below (w1.alloc (.stringIter s (p + (Utf8.decode s p).2))).heap.size (w1.alloc (.stringIter s (p + (Utf8.decode s p).2))) (more (more (w1.alloc (.stringIter s (p + (Utf8.decode s p).2))) e d) ex2 dx2) from (by repeat (first | (with_reducible exact Below.refl _ _) | (with_reducible exact bl_mm) | (with_reducible refine bl_dr ?_) | (with_reducible refine bl_drN ?_ _) | (with_reducible refine bl_al ?_ _) | (with_reducible refine bl_more ?_ _ _))))
            exact ⟨p + (Utf8.decode s p).2, e3, d3, by have := HWL.out; omega, by rw [HB.out]; exact nmL_next HPP.out.1 (.inl HCL.out), h3⟩
        · have hb1 : (c != 1) = true := by simpa using hc1
          by_cases hc2 : c = 2 ∧ p ≠ 0
          · obtain ⟨rfl, hpz⟩ := hc2
            have hz : ((p : Int) == 0) = false := by rw [beq_eq_false_iff_ne]; omega
            have HPZ := hid hpz
            clear hc1 hpz
            go_wp2_with (first | (go_at_call 38; refine bad_any.mono ?_; rintro e w1 ⟨rfl, hb1⟩; rw [HBA.out]; have HB1 := hid hb1; clear hb1) | (go_at_call 77; refine (class_any HOK.out).mono ?_; rintro e w2 ⟨rfl, hb2⟩; obtain ⟨ex2, dx2, rfl⟩ := more_of hb2; clear hb2; rw [HCL.out]))
            go_roundg (s.size + 1 - (p + (Utf8.decode s p).2))
            case measure => have := HK.out; have := HW.out; have := HWL.out; omega
            case rel =>
              obtain ⟨e3, d3, h3⟩ := more_of (show Below (w1.alloc (.stringIter s (p + (Utf8.decode s p).2))).heap.size (w1.alloc (.stringIter s (p + (Utf8.decode s p).2))) (more (more (w1.alloc (.stringIter s (p + (Utf8.decode s p).2))) e d) ex2 dx2) from (by repeat (first | (with_reducible exact Below.refl _ _) | (with_reducible exact bl_mm) | (with_reducible refine bl_dr ?_) | (with_reducible refine bl_drN ?_ _) | (with_reducible refine bl_al ?_ _) | (with_reducible refine bl_more ?_ _ _))))
              exact ⟨p + (Utf8.decode s p).2, e3, d3, by have := HWL.out; omega, by rw [HB.out]; exact nmL_next HPP.out.1 (.inr ⟨HCL.out, HPZ.out⟩), h3⟩
          · have HNO : Hid (nmL s p = false) := hid (nmL_no HPP.out.1 (by rw [HCL.out]; omega))
            by_cases hc22 : c = 2
            · have hz : ((p : Int) == 0) = true := by rw [beq_iff_eq]; omega
              have hb2 : (c != 2) = false := by simpa using hc22
              clear hc1 hc2 hc22
              go_wp2_with (first | (go_at_call 38; refine bad_any.mono ?_; rintro e w1 ⟨rfl, hb1⟩; rw [HBA.out]; have HB1 := hid hb1; clear hb1) | (go_at_call 77; refine (class_any HOK.out).mono ?_; rintro e w2 ⟨rfl, hb2⟩; obtain ⟨ex2, dx2, rfl⟩ := more_of hb2; clear hb2; rw [HCL.out]))
              go_ret
              exact ⟨by rw [HE.out, HB.out, HNO.out]; rfl, HB1.out.trans ((show Below w1.heap.size w1 _ from (by repeat (first | (with_reducible exact Below.refl _ _) | (with_reducible exact bl_mm) | (with_reducible refine bl_dr ?_) | (with_reducible refine bl_drN ?_ _) | (with_reducible refine bl_al ?_ _) | (with_reducible refine bl_more ?_ _ _)))).mono HB1.out.size)⟩
            · have hb2 : (c != 2) = true := by simpa using hc22
              clear hc1 hc2 hc22
              go_wp2_with (first | (go_at_call 38; refine bad_any.mono ?_; rintro e w1 ⟨rfl, hb1⟩; rw [HBA.out]; have HB1 := hid hb1; clear hb1) | (go_at_call 77; refine (class_any HOK.out).mono ?_; rintro e w2 ⟨rfl, hb2⟩; obtain ⟨ex2, dx2, rfl⟩ := more_of hb2; clear hb2; rw [HCL.out]))
              go_ret
              exact ⟨by rw [HE.out, HB.out, HNO.out]; rfl, HB1.out.trans ((show Below w1.heap.size w1 _ from (by repeat (first | (with_reducible exact Below.refl _ _) | (with_reducible exact bl_mm) | (with_reducible refine bl_dr ?_) | (with_reducible refine bl_drN ?_ _) | (with_reducible refine bl_al ?_ _) | (with_reducible refine bl_more ?_ _ _)))).mono HB1.out.size)⟩
      · have hnx := fun ty => next_end (P := Try.prog) w1 s p e d hp ty
        have HPP := hid (And.intro hp trivial)
        clear hk hp
        go_wp2_with (first | (go_at_call 38; refine bad_any.mono ?_; rintro e w1 ⟨rfl, hb1⟩; rw [HBA.out]; have HB1 := hid hb1; clear hb1))
        go_ret
        exact ⟨by rw [HE.out, HB.out, nmL_end HPP.out.1]; rfl, HB1.out.trans ((show Below w1.heap.size w1 _ from (by repeat (first | (with_reducible exact Below.refl _ _) | (with_reducible exact bl_mm) | (with_reducible refine bl_dr ?_) | (with_reducible refine bl_drN ?_ _) | (with_reducible refine bl_al ?_ _) | (with_reducible refine bl_more ?_ _ _)))).mono HB1.out.size)⟩
theorem nmL_run {s : ByteArray} {p : Nat} (hp : p ≠ 0) (hle : p ≤ s.size) (hb : badAt s p = none) : nmL s p = decide (runE s p = s.size) := by
  induction hk : s.size - p using Nat.strongRecOn generalizing p with
  | _ n ih =>
    by_cases hps : p < s.size
    · have hbd : bad s p = false := by
        cases hbd : bad s p with
        | true => rw [badAt_here hps hbd] at hb; cases hb
        | false => rfl
      have hw := width_pos s p
      have hwl := width_le hps
      rw [badAt_next hps hbd] at hb
      cases hn : namC (Utf8.decode s p).1 with
      | true =>
        have hc : cls (Utf8.decode s p).1 = 1 ∨ (cls (Utf8.decode s p).1 = 2 ∧ p ≠ 0) := by
          unfold namC at hn
          rw [Bool.or_eq_true, decide_eq_true_eq, decide_eq_true_eq] at hn
          exact hn.imp id (fun h => ⟨h, hp⟩)
        rw [nmL_next hps hc, runE_next hps hbd hn]
        exact ih _ (by omega) (by omega) hwl hb rfl
      | false =>
        have hc : ¬ (cls (Utf8.decode s p).1 = 1 ∨ (cls (Utf8.decode s p).1 = 2 ∧ p ≠ 0)) := by
          unfold namC at hn
          rw [Bool.or_eq_false_iff, decide_eq_false_iff_not, decide_eq_false_iff_not] at hn
          exact fun h => h.elim hn.1 (fun h => hn.2 h.1)
        rw [nmL_no hps hc, runE_no hn, decide_eq_false (by omega)]
    · rw [nmL_end hps, runE_end hps, decide_eq_true (by omega)]
theorem run_good {s : ByteArray} {p : Nat} (hle : p ≤ s.size) (h : runE s p = s.size) : badAt s p = none := by
  induction hk : s.size - p using Nat.strongRecOn generalizing p with
  | _ n ih =>
    by_cases hps : p < s.size
    · cases hbd : bad s p with
      | true => rw [runE_bad hbd] at h; omega
      | false =>
        have hw := width_pos s p
        have hwl := width_le hps
        rw [badAt_next hps hbd]
        cases hn : namC (Utf8.decode s p).1 with
        | true => exact ih _ (by omega) hwl (by rw [← runE_next hps hbd hn]; exact h) rfl
        | false => rw [runE_no hn] at h; omega
    · exact badAt_end hps
/-- The document's name. -/
def nameD (s : ByteArray) : Bool := decide (s.size ≠ 0) && decide (s.size ≤ 24) && decide (runE s 0 = s.size) && decide (cls (ptR s 0) = 1)
theorem name_eq (s : ByteArray) : nameB s = nameD s := by
  unfold nameB nameD
  by_cases h0 : s.size = 0
  · rw [decide_eq_false (by omega)]; rfl
  · have hps : 0 < s.size := by omega
    rw [Bool.and_assoc, Bool.and_assoc (decide (s.size ≠ 0) && decide (s.size ≤ 24))]
    congr 1
    cases hbd : bad s 0 with
    | true =>
      rw [badAt_here hps hbd, runE_bad hbd, decide_eq_false (by omega)]
      rfl
    | false =>
      have hw := width_pos s 0
      have hwl := width_le hps
      have hpt : ptR s 0 = ((Utf8.decode s 0).1 : Int) := by unfold ptR; rw [if_neg (by rw [hbd]; decide)]
      rw [hpt]
      by_cases hc1 : cls (Utf8.decode s 0).1 = 1
      · rw [decide_eq_true hc1, Bool.and_true, nmL_next hps (.inl hc1), runE_next hps hbd (by unfold namC; rw [hc1]; rfl), badAt_next hps hbd]
        by_cases hb : badAt s (0 + (Utf8.decode s 0).2) = none
        · rw [nmL_run (by omega) hwl hb, hb]; rfl
        · rw [decide_eq_false (fun h => hb (run_good hwl h))]
          cases he : badAt s (0 + (Utf8.decode s 0).2) with
          | none => exact absurd he hb
          | some i => rfl
      · rw [decide_eq_false hc1, Bool.and_false, nmL_no hps (fun h => h.elim hc1 (fun h => h.2 rfl)), Bool.and_false]
set_option maxRecDepth 20000 in
set_option maxHeartbeats 4000000 in
theorem dname_any {w : World} {s : ByteArray} : Calls Try.prog 75 #[.string s] w fun e w' => e = .returned (.bool (nameD s)) ∧ Below w.heap.size w w' := by
  by_cases h0 : s.size = 0
  · have e : nameD s = false := by unfold nameD; rw [decide_eq_false (show ¬ s.size ≠ 0 by omega)]; rfl
    have hs := emp_t h0
    rw [e]
    clear e h0
    go_enter Try.func75, Try.ntmps75
    go_wp2
    go_ret
    exact ⟨rfl, (by repeat (first | (with_reducible exact Below.refl _ _) | (with_reducible exact bl_mm) | (with_reducible refine bl_dr ?_) | (with_reducible refine bl_drN ?_ _) | (with_reducible refine bl_al ?_ _) | (with_reducible refine bl_more ?_ _ _)))⟩
  by_cases h24 : (24 : Int) < s.size
  · have e : nameD s = false := by unfold nameD; rw [decide_eq_false (show ¬ s.size ≤ 24 by omega)]; simp
    have hs := emp_f h0
    rw [e]
    clear e h0
    go_enter Try.func75, Try.ntmps75
    go_wp2
    go_ret
    exact ⟨rfl, (by repeat (first | (with_reducible exact Below.refl _ _) | (with_reducible exact bl_mm) | (with_reducible refine bl_dr ?_) | (with_reducible refine bl_drN ?_ _) | (with_reducible refine bl_al ?_ _) | (with_reducible refine bl_more ?_ _ _)))⟩
  have hs := emp_f h0
  have HZ : Hid (s.size ≤ 65536) := hid (by omega)
  have HP : Hid (0 < s.size) := hid (by omega)
  have e : nameD s = (decide (runE s 0 = s.size) && decide (cls (ptR s 0) = 1)) := by unfold nameD; rw [decide_eq_true h0, decide_eq_true (show s.size ≤ 24 by omega)]; rfl
  rw [e]
  clear e h0
  by_cases hr : runE s 0 = s.size
  · have hr' : ((runE s 0 : Int) != (s.size : Int)) = false := by simp [hr]
    rw [decide_eq_true hr, Bool.true_and]
    clear hr
    go_enter Try.func75, Try.ntmps75
    go_wp2_with (first | (go_at_call 46; refine (run_any (a := 0) (Nat.zero_le _) HZ.out).mono ?_; rintro e w1 ⟨rfl, hb1⟩; obtain ⟨ex1, dx1, rfl⟩ := more_of hb1; clear hb1) | (go_at_call 44; refine (point_any (a := 0) HP.out HZ.out).mono ?_; rintro e w2 ⟨rfl, hb2⟩; obtain ⟨ex2, dx2, rfl⟩ := more_of hb2; clear hb2) | (go_at_call 45; refine (rclass_any (pt_ok s 0)).mono ?_; rintro e w3 ⟨rfl, hb3⟩; obtain ⟨ex3, dx3, rfl⟩ := more_of hb3; clear hb3))
    go_ret
    refine ⟨?_, (by repeat (first | (with_reducible exact Below.refl _ _) | (with_reducible exact bl_mm) | (with_reducible refine bl_dr ?_) | (with_reducible refine bl_drN ?_ _) | (with_reducible refine bl_al ?_ _) | (with_reducible refine bl_more ?_ _ _)))⟩
    by_cases hc : cls (ptR s 0) = 1
    · rw [hc]; rfl
    · rw [decide_eq_false hc]
      exact congrArg (fun b => Ending.returned (.bool b)) (beq_eq_false_iff_ne.2 hc)
  · have hr' : ((runE s 0 : Int) != (s.size : Int)) = true := by simp; omega
    rw [decide_eq_false hr, Bool.false_and]
    clear hr
    go_enter Try.func75, Try.ntmps75
    go_wp2_with (first | (go_at_call 46; refine (run_any (a := 0) (Nat.zero_le _) HZ.out).mono ?_; rintro e w1 ⟨rfl, hb1⟩; obtain ⟨ex1, dx1, rfl⟩ := more_of hb1; clear hb1))
    go_ret
    exact ⟨rfl, (by repeat (first | (with_reducible exact Below.refl _ _) | (with_reducible exact bl_mm) | (with_reducible refine bl_dr ?_) | (with_reducible refine bl_drN ?_ _) | (with_reducible refine bl_al ?_ _) | (with_reducible refine bl_more ?_ _ _)))⟩
end Go.Proofs.Ytidilpciolladaa

/- The document's Lex. -/
namespace Go.Proofs.Ytidilpciolladaa
open Go.RowKit

/-- The document's reading of a text from p on: its tokens, or the place and the number of the error. -/
def dL (s : ByteArray) (p : Nat) (rem : Bool) (out : List Tok) : List Tok ⊕ (Int × Int) :=
  if _h : p < s.size then
    if bad s p = true then .inr (p, 4)
    else
      let r : Int := (Utf8.decode s p).1
      let q := p + max 1 (Utf8.decode s p).2
      if (rem || r == 35) = true then dL s q (r != 10) out
      else if cls r = 1 then (if (runE s p : Int) - p > 24 then .inr (p, 5) else dL s (max (p + 1) (runE s p)) rem (out ++ [⟨1, s.extract p (runE s p), p⟩]))
      else if markD r = true then dL s q rem (out ++ [⟨2, s.extract p q, p⟩])
      else if cls r = 3 then dL s q rem out
      else .inr (p, 10)
  else .inl out
termination_by s.size - p
decreasing_by all_goals omega
theorem runE_gt {s : ByteArray} {p : Nat} (h : p < s.size) (hb : bad s p = false) (hc : cls (Utf8.decode s p).1 = 1) : p + 1 ≤ runE s p := by
  rw [runE_next h hb (by unfold namC; rw [hc]; rfl)]
  have h1 := runE_ge s (p + (Utf8.decode s p).2)
  have h2 := width_pos s p
  omega
/-- A row of tokens that was made from block N on. -/
structure Toks (N : Nat) (w0 w : World) (g : Nat) (v : Value) (xs : List Tok) : Prop where
  sp : tokE.Spine 48 No g w v xs
  gN : N ≤ g
  size : N ≤ w.heap.size
  low : Below N w0 w
theorem Toks.below {N : Nat} {w0 w w' : World} {g : Nat} {v : Value} {xs : List Tok} (h : Toks N w0 w g v xs) (hb : Below w.heap.size w w') : Toks N w0 w' g v xs :=
  ⟨h.sp.step (fun _ hc => (hb.block g (Array.getElem?_eq_some_iff.1 hc).1).trans hc) (fun _ hk _ => hk.elim), h.gN, Nat.le_trans h.size hb.size, h.low.trans (hb.mono h.size)⟩
theorem Toks.grown {N : Nat} {w0 w w2 : World} {g g2 : Nat} {v v2 : Value} {xs ys : List Tok} {K : Nat → Prop} (h : Toks N w0 w g v xs) (hs : tokE.Spine 48 K g2 w2 v2 ys) (hK : ∀ b, ¬ K b) (he : Ext (fun b => b = g ∧ capOf v ≠ 0) w w2) (hg : Grew g w w2 v v2 g2) : Toks N w0 w2 g2 v2 ys := by
  have h1 := h.gN
  refine ⟨hs.step (fun _ hc => hc) (fun b hb _ => (hK b hb).elim), by have := h.size; rcases hg.two with e | e <;> omega, Nat.le_trans h.size he.size, h.low.trans (he.toBelow h.size (fun x hx e => by omega))⟩
def dR (s : ByteArray) : List Tok × Int × Int := match dL s 0 false [] with | .inl l => (l, s.size, 0) | .inr (p, e) => ([], p, e)
def DLex (s : ByteArray) (w : World) (e : Ending) (w' : World) : Prop := ∃ v g, e = .returned (.tuple #[v, .int .i64 (dR s).2.1, .int .i64 (dR s).2.2]) ∧ Toks w.heap.size w w' g v (dR s).1
theorem DLex.err {s : ByteArray} {w w' : World} {p e : Int} (h : dL s 0 false [] = .inr (p, e)) (hb : Below w.heap.size w w') : DLex s w (.returned (.tuple #[.slice none 0 0, .int .i64 p, .int .i64 e])) w' := by
  have hd : dR s = ([], p, e) := by unfold dR; rw [h]
  unfold DLex
  rw [hd]
  exact ⟨.slice none 0 0, w.heap.size, rfl, Enc.Spine.nil _ _ _ _ _, Nat.le_refl _, hb.size, hb⟩
theorem DLex.done {s : ByteArray} {w w' : World} {l : List Tok} {g : Nat} {v : Value} (h : dL s 0 false [] = .inl l) (ht : Toks w.heap.size w w' g v l) : DLex s w (.returned (.tuple #[v, .int .i64 s.size, .int .i64 0])) w' := by
  have hd : dR s = (l, (s.size : Int), 0) := by unfold dR; rw [h]
  unfold DLex
  rw [hd]
  exact ⟨v, g, rfl, ht⟩
set_option maxRecDepth 20000 in
set_option maxHeartbeats 4000000 in
theorem dlex_any {w : World} {s : ByteArray} (hz : s.size ≤ 65536) : Calls Try.prog 25 #[.string s] w fun e w' => DLex s w e w' := by
  have HZ := hid hz
  have hz' : (s.size : Int) ≤ 65536 := by omega
  clear hz
  go_enter Try.func25, Try.ntmps25
  go_wp2
  go_loopg [5, 6, 7] (s.size + 1) (fun k vo va vr wr => ∃ (p g : Nat) (rem : Bool) (out : List Tok), p + k = s.size + 1 ∧ p ≤ s.size ∧ out.length ≤ p ∧ va = .int .i64 (p : Int) ∧ vr = .bool rem ∧ dL s 0 false [] = dL s p rem out ∧ Toks w.heap.size w wr g vo out)
  case atStart => exact ⟨0, w.heap.size, false, [], by omega, by omega, by simp, rfl, rfl, rfl, Enc.Spine.nil _ _ _ _ _, Nat.le_refl _, Nat.le_refl _, Below.refl _ _⟩
  case round =>
    obtain ⟨p, g, rem, out, hk, hps, hol, rfl, rfl, hd, ht⟩ := hrel
    obtain ⟨A, cp, rfl, _, _⟩ := ht.sp.form
    have HK := hid hk
    have HPS := hid hps
    have HOL := hid hol
    have HLEN := hid (show out.length + 1 ≤ 4294967296 by omega)
    have HT := hid ht
    by_cases hp : p < s.size
    · have hp1 : (p : Int) < s.size := by omega
      have hp2 : (p : Int) ≤ s.size := by omega
      have hp0 : (0 : Int) ≤ p := by omega
      have HP := hid hp
      cases hbd : bad s p with
      | true =>
        have HPR : Hid (ptR s p = 0) := hid (by unfold ptR; rw [if_pos hbd])
        have HPN : Hid (ptN s p = 0) := hid (by unfold ptN; rw [if_pos hbd])
        have HOK : Hid (okR 0) := hid (small_ok (n := 0) (by decide))
        have HCL : Hid (cls 0 = 0) := hid rfl
        have HD : Hid (dL s 0 false [] = .inr ((p : Int), 4)) := hid (by rw [hd, dL, dif_pos hp, if_pos hbd])
        clear hk hps hol ht hd hbd hp
        go_wp2_with (first | (go_at_call 44; refine (point_any HP.out HZ.out).mono ?_; rintro e w1 ⟨rfl, hb1⟩; obtain ⟨ex1, dx1, rfl⟩ := more_of hb1; clear hb1; rw [HPR.out, HPN.out]) | (go_at_call 45; refine (rclass_any HOK.out).mono ?_; rintro e w2 ⟨rfl, hb2⟩; obtain ⟨ex2, dx2, rfl⟩ := more_of hb2; clear hb2; rw [HCL.out]))
        go_ret3
        exact DLex.err HD.out (HT.out.low.trans (Below.mono (show Below wr.heap.size wr _ from (by repeat (first | (with_reducible exact Below.refl _ _) | (with_reducible exact bl_mm) | (with_reducible refine bl_dr ?_) | (with_reducible refine bl_drN ?_ _) | (with_reducible refine bl_al ?_ _) | (with_reducible refine bl_more ?_ _ _)))) HT.out.size))
      | false =>
        obtain ⟨r, hre⟩ : ∃ r : Int, ((Utf8.decode s p).1 : Int) = r := ⟨_, rfl⟩
        obtain ⟨n, hne⟩ : ∃ n, (Utf8.decode s p).2 = n := ⟨_, rfl⟩
        obtain ⟨c, hcl⟩ : ∃ c, cls r = c := ⟨_, rfl⟩
        have hw := width_pos s p
        have hwl := width_le hp
        rw [hne] at hw hwl
        have hD : dL s p rem out = (if (rem || r == 35) = true then dL s (p + n) (r != 10) out
            else if c = 1 then (if (runE s p : Int) - p > 24 then .inr (p, 5) else dL s (max (p + 1) (runE s p)) rem (out ++ [⟨1, s.extract p (runE s p), p⟩]))
            else if markD r = true then dL s (p + n) rem (out ++ [⟨2, s.extract p (p + n), p⟩])
            else if c = 3 then dL s (p + n) rem out else .inr (p, 10)) := by
          rw [dL, dif_pos hp, if_neg (by rw [hbd]; decide)]
          simp only [hre, hne, hcl, Nat.max_eq_right hw]
        have HPR : Hid (ptR s p = r) := hid (by unfold ptR; rw [if_neg (by rw [hbd]; decide), hre])
        have HPN : Hid (ptN s p = n) := hid (by unfold ptN; rw [if_neg (by rw [hbd]; decide), hne])
        have HOK : Hid (okR r) := hid (by rw [← hre]; exact decode_ok s p)
        have HCL := hid hcl
        have hgt := runE_gt hp hbd
        rw [hre, hcl] at hgt
        have hel := runE_le (s := s) hps
        obtain ⟨E, hE⟩ : ∃ E, runE s p = E := ⟨_, rfl⟩
        rw [hE] at hgt hel hD
        have HRE := hid hE
        rw [hD] at hd
        have hd0 := hid hd
        clear hd hD
        have hn0 : ((n : Int) == 0) = false := by rw [beq_eq_false_iff_ne]; clear hgt; omega
        obtain ⟨q, hq⟩ : ∃ q, p + n = q := ⟨_, rfl⟩
        rw [hq] at hwl hd0
        have hpq : p + 1 ≤ q := by clear hn0 hgt; omega
        have hq1 : (q : Int) ≤ s.size := by clear hn0 hgt; omega
        have hq2 : (p : Int) ≤ q := by clear hn0 hgt; omega
        have hpn : wrap64 ((p : Int) + n) = (q : Int) := by clear hn0 hgt; rw [wrap64]; omega
        have HWL := hid hwl
        have HPQ := hid hpq
        clear hbd hp hE hre hne hq hw hk hps hol ht hcl hwl hpq
        cases rem with
        | true =>
          have HD : Hid (dL s 0 false [] = dL s q (r != 10) out) := hid (by rw [hd0.out, Bool.true_or, if_pos rfl])
          clear hd0 hgt hel
          go_wp2_with (first | (go_at_call 44; refine (point_any HP.out HZ.out).mono ?_; rintro e w1 ⟨rfl, hb1⟩; obtain ⟨ex1, dx1, rfl⟩ := more_of hb1; clear hb1; rw [HPR.out, HPN.out]) | (go_at_call 45; refine (rclass_any HOK.out).mono ?_; rintro e w2 ⟨rfl, hb2⟩; obtain ⟨ex2, dx2, rfl⟩ := more_of hb2; clear hb2; rw [HCL.out]))
          go_roundg (s.size + 1 - q)
          case measure => have := HK.out; have := HWL.out; have := HPQ.out; omega
          case rel => exact ⟨q, g, r != 10, out, by have := HWL.out; omega, HWL.out, by have := HOL.out; have := HPQ.out; omega, by rw [hpn], rfl, HD.out, HT.out.below (by repeat (first | (with_reducible exact Below.refl _ _) | (with_reducible exact bl_mm) | (with_reducible refine bl_dr ?_) | (with_reducible refine bl_drN ?_ _) | (with_reducible refine bl_al ?_ _) | (with_reducible refine bl_more ?_ _ _)))⟩
        | false =>
          cases h35 : (r == 35) with
          | true =>
            have HD : Hid (dL s 0 false [] = dL s q (r != 10) out) := hid (by rw [hd0.out, h35, Bool.false_or, if_pos rfl])
            clear hd0 hgt hel
            go_wp2_with (first | (go_at_call 44; refine (point_any HP.out HZ.out).mono ?_; rintro e w1 ⟨rfl, hb1⟩; obtain ⟨ex1, dx1, rfl⟩ := more_of hb1; clear hb1; rw [HPR.out, HPN.out]) | (go_at_call 45; refine (rclass_any HOK.out).mono ?_; rintro e w2 ⟨rfl, hb2⟩; obtain ⟨ex2, dx2, rfl⟩ := more_of hb2; clear hb2; rw [HCL.out]))
            go_roundg (s.size + 1 - q)
            case measure => have := HK.out; have := HWL.out; have := HPQ.out; omega
            case rel => exact ⟨q, g, r != 10, out, by have := HWL.out; omega, HWL.out, by have := HOL.out; have := HPQ.out; omega, by rw [hpn], rfl, HD.out, HT.out.below (by repeat (first | (with_reducible exact Below.refl _ _) | (with_reducible exact bl_mm) | (with_reducible refine bl_dr ?_) | (with_reducible refine bl_drN ?_ _) | (with_reducible refine bl_al ?_ _) | (with_reducible refine bl_more ?_ _ _)))⟩
          | false =>
            have hd1 := hd0.out
            rw [h35, Bool.or_false, if_neg (by decide)] at hd1
            clear hd0
            by_cases hc1 : c = 1
            · subst hc1
              rw [if_pos rfl] at hd1
              have hgt := hgt rfl
              have he1 : (E : Int) ≤ s.size := by clear hpn hn0 hd1; omega
              have he2 : (p : Int) ≤ E := by clear hpn hn0 hd1; omega
              have HGT := hid hgt
              have HEL := hid hel
              by_cases hlong : (E : Int) - p > 24
              · have HD : Hid (dL s 0 false [] = .inr ((p : Int), 5)) := hid (by rw [hd1, if_pos hlong])
                have hk24 : decide ((24 : Int) < (E : Int) - p) = true := by clear hpn hn0 hd1; rw [decide_eq_true_eq]; omega
                clear hd1 hgt hel hlong
                go_wp2_with (first | (go_at_call 44; refine (point_any HP.out HZ.out).mono ?_; rintro e w1 ⟨rfl, hb1⟩; obtain ⟨ex1, dx1, rfl⟩ := more_of hb1; clear hb1; rw [HPR.out, HPN.out]) | (go_at_call 45; refine (rclass_any HOK.out).mono ?_; rintro e w2 ⟨rfl, hb2⟩; obtain ⟨ex2, dx2, rfl⟩ := more_of hb2; clear hb2; rw [HCL.out]) | (go_at_call 46; refine (run_any (Nat.le_of_lt HP.out) HZ.out).mono ?_; rintro e w3 ⟨rfl, hb3⟩; obtain ⟨ex3, dx3, rfl⟩ := more_of hb3; clear hb3; rw [HRE.out]))
                go_ret3
                exact DLex.err HD.out (HT.out.low.trans (Below.mono (show Below wr.heap.size wr _ from (by repeat (first | (with_reducible exact Below.refl _ _) | (with_reducible exact bl_mm) | (with_reducible refine bl_dr ?_) | (with_reducible refine bl_drN ?_ _) | (with_reducible refine bl_al ?_ _) | (with_reducible refine bl_more ?_ _ _)))) HT.out.size))
              · have hmx : max (p + 1) E = E := by clear hpn hn0 hd1; omega
                have HD : Hid (dL s 0 false [] = dL s E false (out ++ [⟨1, s.extract p E, p⟩])) := hid (by rw [hd1, if_neg hlong, hmx])
                have hk24 : decide ((24 : Int) < (E : Int) - p) = false := by clear hpn hn0 hd1; rw [decide_eq_false_iff_not]; omega
                clear hd1 hgt hel hlong hmx
                go_wp2_with (first | (go_at_call 44; refine (point_any HP.out HZ.out).mono ?_; rintro e w1 ⟨rfl, hb1⟩; obtain ⟨ex1, dx1, rfl⟩ := more_of hb1; clear hb1; rw [HPR.out, HPN.out]) | (go_at_call 45; refine (rclass_any HOK.out).mono ?_; rintro e w2 ⟨rfl, hb2⟩; obtain ⟨ex2, dx2, rfl⟩ := more_of hb2; clear hb2; rw [HCL.out]) | (go_at_call 46; refine (run_any (Nat.le_of_lt HP.out) HZ.out).mono ?_; rintro e w3 ⟨rfl, hb3⟩; obtain ⟨ex3, dx3, rfl⟩ := more_of hb3; clear hb3; rw [HRE.out]) | (at_builtin; refine wpList_app23 (ys := [⟨1, s.extract p E, p⟩]) (by rfl) (.tmp 50) (.tmp 57) (by rfl) (by rfl) (by rfl) (by rfl) (HT.out.below (by repeat (first | (with_reducible exact Below.refl _ _) | (with_reducible exact bl_mm) | (with_reducible refine bl_dr ?_) | (with_reducible refine bl_drN ?_ _) | (with_reducible refine bl_al ?_ _) | (with_reducible refine bl_more ?_ _ _)))).sp (by exact Enc.Src.one_blk (cs := tokCells ⟨1, s.extract p E, p⟩) (alloc_blk (by simp [more_size])) (tokE_mk _)) (fun _ h _ => h.elim) HLEN.out ?_; intro v2 w4 g2 hs2 he2 hg2; obtain ⟨A2, c2, rfl, _, _⟩ := hs2.form; have HS2 := hid hs2; have HE2 := hid he2; have HG2 := hid hg2; clear hs2 hg2 he2))
                go_roundg (s.size + 1 - E)
                case measure => have := HK.out; have := HEL.out; have := HGT.out; omega
                case rel => exact ⟨E, g2, false, out ++ [⟨1, s.extract p E, p⟩], by have := HEL.out; omega, HEL.out, by have := HOL.out; have := HGT.out; simp; omega, by rw [show (p : Int) + ((E : Int) - p) = E by clear hpn hn0; omega], rfl, HD.out, (HT.out.below (by repeat (first | (with_reducible exact Below.refl _ _) | (with_reducible exact bl_mm) | (with_reducible refine bl_dr ?_) | (with_reducible refine bl_drN ?_ _) | (with_reducible refine bl_al ?_ _) | (with_reducible refine bl_more ?_ _ _)))).grown (K := fun b => No b ∧ b < _) (by have h := HS2.out; rw [List.length_append] at h; exact h) (fun _ h => h.1) HE2.out HG2.out⟩
            · have hcb1 : (c == 1) = false := beq_eq_false_iff_ne.2 hc1
              rw [if_neg hc1] at hd1
              cases hmk : markD r with
              | true =>
                have HMK := hid hmk
                have HD : Hid (dL s 0 false [] = dL s q false (out ++ [⟨2, s.extract p q, p⟩])) := hid (by rw [hd1, hmk, if_pos rfl])
                clear hd1 hgt hel hc1 hmk
                go_wp2_with (first | (go_at_call 44; refine (point_any HP.out HZ.out).mono ?_; rintro e w1 ⟨rfl, hb1⟩; obtain ⟨ex1, dx1, rfl⟩ := more_of hb1; clear hb1; rw [HPR.out, HPN.out]) | (go_at_call 45; refine (rclass_any HOK.out).mono ?_; rintro e w2 ⟨rfl, hb2⟩; obtain ⟨ex2, dx2, rfl⟩ := more_of hb2; clear hb2; rw [HCL.out]) | (go_at_call 47; refine markD_any.mono ?_; rintro e w3 ⟨rfl, rfl⟩; rw [HMK.out]) | (at_builtin; refine wpList_app23 (ys := [⟨2, s.extract p q, p⟩]) (by rfl) (.tmp 65) (.tmp 74) (by rfl) (by rfl) (by rfl) (by rfl) (HT.out.below (by repeat (first | (with_reducible exact Below.refl _ _) | (with_reducible exact bl_mm) | (with_reducible refine bl_dr ?_) | (with_reducible refine bl_drN ?_ _) | (with_reducible refine bl_al ?_ _) | (with_reducible refine bl_more ?_ _ _)))).sp (by exact Enc.Src.one_blk (cs := tokCells ⟨2, s.extract p q, p⟩) (alloc_blk (by simp [more_size])) (tokE_mk _)) (fun _ h _ => h.elim) HLEN.out ?_; intro v2 w4 g2 hs2 he2 hg2; obtain ⟨A2, c2, rfl, _, _⟩ := hs2.form; have HS2 := hid hs2; have HE2 := hid he2; have HG2 := hid hg2; clear hs2 hg2 he2))
                go_roundg (s.size + 1 - q)
                case measure => have := HK.out; have := HWL.out; have := HPQ.out; omega
                case rel => exact ⟨q, g2, false, out ++ [⟨2, s.extract p q, p⟩], by have := HWL.out; omega, HWL.out, by have := HOL.out; have := HPQ.out; simp; omega, by rw [hpn], rfl, HD.out, (HT.out.below (by repeat (first | (with_reducible exact Below.refl _ _) | (with_reducible exact bl_mm) | (with_reducible refine bl_dr ?_) | (with_reducible refine bl_drN ?_ _) | (with_reducible refine bl_al ?_ _) | (with_reducible refine bl_more ?_ _ _)))).grown (K := fun b => No b ∧ b < _) (by have h := HS2.out; rw [List.length_append] at h; exact h) (fun _ h => h.1) HE2.out HG2.out⟩
              | false =>
                have HMK := hid hmk
                rw [hmk, if_neg (by decide)] at hd1
                by_cases hc3 : c = 3
                · subst hc3
                  have HD : Hid (dL s 0 false [] = dL s q false out) := hid (by rw [hd1, if_pos rfl])
                  clear hd1 hgt hel hc1 hmk hcb1
                  go_wp2_with (first | (go_at_call 44; refine (point_any HP.out HZ.out).mono ?_; rintro e w1 ⟨rfl, hb1⟩; obtain ⟨ex1, dx1, rfl⟩ := more_of hb1; clear hb1; rw [HPR.out, HPN.out]) | (go_at_call 45; refine (rclass_any HOK.out).mono ?_; rintro e w2 ⟨rfl, hb2⟩; obtain ⟨ex2, dx2, rfl⟩ := more_of hb2; clear hb2; rw [HCL.out]) | (go_at_call 47; refine markD_any.mono ?_; rintro e w3 ⟨rfl, rfl⟩; rw [HMK.out]))
                  go_roundg (s.size + 1 - q)
                  case measure => have := HK.out; have := HWL.out; have := HPQ.out; omega
                  case rel => exact ⟨q, g, false, out, by have := HWL.out; omega, HWL.out, by have := HOL.out; have := HPQ.out; omega, by rw [hpn], rfl, HD.out, HT.out.below (by repeat (first | (with_reducible exact Below.refl _ _) | (with_reducible exact bl_mm) | (with_reducible refine bl_dr ?_) | (with_reducible refine bl_drN ?_ _) | (with_reducible refine bl_al ?_ _) | (with_reducible refine bl_more ?_ _ _)))⟩
                · have HD : Hid (dL s 0 false [] = .inr ((p : Int), 10)) := hid (by rw [hd1, if_neg hc3])
                  have hcb3 : (c != 3) = true := by simpa using hc3
                  clear hd1 hgt hel hc1 hmk hc3
                  go_wp2_with (first | (go_at_call 44; refine (point_any HP.out HZ.out).mono ?_; rintro e w1 ⟨rfl, hb1⟩; obtain ⟨ex1, dx1, rfl⟩ := more_of hb1; clear hb1; rw [HPR.out, HPN.out]) | (go_at_call 45; refine (rclass_any HOK.out).mono ?_; rintro e w2 ⟨rfl, hb2⟩; obtain ⟨ex2, dx2, rfl⟩ := more_of hb2; clear hb2; rw [HCL.out]) | (go_at_call 47; refine markD_any.mono ?_; rintro e w3 ⟨rfl, rfl⟩; rw [HMK.out]))
                  go_ret3
                  exact DLex.err HD.out (HT.out.low.trans (Below.mono (show Below wr.heap.size wr _ from (by repeat (first | (with_reducible exact Below.refl _ _) | (with_reducible exact bl_mm) | (with_reducible refine bl_dr ?_) | (with_reducible refine bl_drN ?_ _) | (with_reducible refine bl_al ?_ _) | (with_reducible refine bl_more ?_ _ _)))) HT.out.size))
    · have hp1 : ¬ (p : Int) < s.size := by omega
      have HP := hid hp
      have HD : Hid (dL s 0 false [] = .inl out) := hid (by rw [hd, dL, dif_neg hp])
      clear hk hps hol ht hd hp
      go_wp2
      go_ret3
      exact DLex.done HD.out HT.out
end Go.Proofs.Ytidilpciolladaa

/- The program's Lex is the document's. -/
namespace Go.Proofs.Ytidilpciolladaa
open Go.RowKit

def finL (s : ByteArray) (x : LS ⊕ (Int × Int)) : List Tok × Int × Int := match x with
  | .inr (P, E) => ([], P, E)
  | .inl m => if shutOK m (endL s) = true then (match badAt s 0 with | some i => ([], i, 4) | none => ((shutS s m s.size).out, s.size, 0)) else ([], m.begun, 5)
def finD (s : ByteArray) (x : List Tok ⊕ (Int × Int)) : List Tok × Int × Int := match x with | .inl l => (l, s.size, 0) | .inr (p, e) => ([], p, e)
theorem marksL : (List.range 128).all (fun n => markR (n : Nat) == markD (n : Nat)) = true := by kernel_rfl
theorem marks128 (n : Fin 128) : markR ((n.1 : Nat) : Int) = markD ((n.1 : Nat) : Int) := by
  have := List.all_eq_true.1 marksL n.1 (List.mem_range.2 n.2)
  simpa using this
theorem mark_eq {r : Int} (h : okR r) (hc : cls r ≠ 1) : markR r = markD r := by
  have h128 : r < 128 := by
    refine Int.not_le.1 (fun h' => hc ?_)
    unfold cls
    rw [if_pos (.inl h')]
  have h0 := h.1
  have := marks128 ⟨r.toNat, by omega⟩
  have e : ((r.toNat : Nat) : Int) = r := by omega
  simpa only [e] using this
theorem markD_cls {r : Int} (h : markD r = true) : cls r = 4 := by
  unfold markD at h
  simp only [Bool.or_eq_true, beq_iff_eq] at h
  unfold cls
  rcases h with ((((h | h) | h) | h) | h) | h <;> subst h <;> rfl
theorem small_w {s : ByteArray} {p : Nat} (hb : bad s p = false) (hc : cls (Utf8.decode s p).1 ≠ 1) : (Utf8.decode s p).2 = 1 := by
  have h128 : ((Utf8.decode s p).1 : Int) < 128 := by
    refine Int.not_le.1 (fun h' => hc ?_)
    unfold cls
    rw [if_pos (.inl h')]
  have h1 := wid_dec hb
  have h2 : wid ((Utf8.decode s p).1 : Int) = 1 := by unfold wid isB; simp; omega
  omega
theorem dL_end {s : ByteArray} {p : Nat} {rem : Bool} {out : List Tok} (h : ¬ p < s.size) : dL s p rem out = .inl out := by rw [dL, dif_neg h]
theorem dL_bad {s : ByteArray} {p : Nat} {rem : Bool} {out : List Tok} (h : p < s.size) (hb : bad s p = true) : dL s p rem out = .inr (p, 4) := by rw [dL, dif_pos h, if_pos hb]
theorem dL_step {s : ByteArray} {p : Nat} {rem : Bool} {out : List Tok} (h : p < s.size) (hb : bad s p = false) :
    dL s p rem out = (if (rem || ((Utf8.decode s p).1 : Int) == 35) = true then dL s (p + (Utf8.decode s p).2) (((Utf8.decode s p).1 : Int) != 10) out
      else if cls (Utf8.decode s p).1 = 1 then (if (runE s p : Int) - p > 24 then .inr (p, 5) else dL s (runE s p) rem (out ++ [⟨1, s.extract p (runE s p), p⟩]))
      else if markD (Utf8.decode s p).1 = true then dL s (p + (Utf8.decode s p).2) rem (out ++ [⟨2, s.extract p (p + (Utf8.decode s p).2), p⟩])
      else if cls (Utf8.decode s p).1 = 3 then dL s (p + (Utf8.decode s p).2) rem out else .inr (p, 10)) := by
  rw [dL, dif_pos h, if_neg (by rw [hb]; decide)]
  simp only [Nat.max_eq_right (width_pos s p)]
  split
  · rfl
  · split
    · rename_i hc
      rw [Nat.max_eq_right (runE_gt h hb hc)]
    · rfl
theorem runL_one {s : ByteArray} {m : LS} {p : Nat} (h : p < s.size) (hb : bad s p = false) : runL s m p = if takeE m p (Utf8.decode s p).1 = 0 then runL s (takeS s m p (Utf8.decode s p).1) (p + (Utf8.decode s p).2) else .inr (takeP m p (Utf8.decode s p).1, takeE m p (Utf8.decode s p).1) := by
  by_cases he : takeE m p (Utf8.decode s p).1 = 0
  · rw [if_pos he, runL_next h hb he]
  · rw [if_neg he, runL_stop h hb he]
theorem cls35 {r : Int} (h : cls r = 1) : (r == 35) = false := by
  rw [beq_eq_false_iff_ne]
  rintro rfl
  exact absurd h (by decide)
theorem steps (s : ByteArray) : ∀ n p, s.size - p = n → p ≤ s.size → badAt s 0 = badAt s p →
    (∀ m : LS, m.begun < 0 → finL s (runL s m p) = finD s (dL s p m.remark m.out)) ∧
    (∀ (out : List Tok) (b : Nat), b ≤ p → finL s (runL s ⟨out, false, b⟩ p) = if (runE s p : Int) - b > 24 then ([], (b : Int), 5) else finD s (dL s (runE s p) false (out ++ [⟨1, s.extract b (runE s p), b⟩]))) := by
  intro n
  induction n using Nat.strongRecOn with
  | _ n ih =>
    intro p hn hp hba
    by_cases hps : p < s.size
    · cases hbd : bad s p with
      | true =>
        have hb0 : badAt s 0 = some p := by rw [hba, badAt_here hps hbd]
        have hend : endL s = p := by unfold endL; rw [hb0]
        constructor
        · intro m hm
          rw [runL_bad hps hbd, dL_bad hps hbd]
          unfold finL
          simp only [hend, hb0]
          rw [if_pos (by unfold shutOK; rw [decide_eq_true hm]; rfl)]
          rfl
        · intro out b hb
          rw [runL_bad hps hbd, runE_bad hbd, dL_bad hps hbd]
          unfold finL
          simp only [hend, hb0]
          have hs : shutOK ⟨out, false, (b : Int)⟩ p = decide ((p : Int) - b ≤ 24) := by
            unfold shutOK
            rw [decide_eq_false (show ¬ ((b : Int) < 0) by omega), Bool.false_or]
          rw [hs]
          by_cases hl : (p : Int) - b ≤ 24
          · rw [if_pos (by rw [decide_eq_true hl]), if_neg (by omega)]
            rfl
          · rw [if_neg (by rw [decide_eq_false hl]; decide), if_pos (by omega)]
      | false =>
        have hw := width_pos s p
        have hwl := width_le hps
        have hq : badAt s 0 = badAt s (p + (Utf8.decode s p).2) := by rw [hba, badAt_next hps hbd]
        have ihq := ih (s.size - (p + (Utf8.decode s p).2)) (by omega) (p + (Utf8.decode s p).2) rfl hwl hq
        have hok := decode_ok s p
        have A : ∀ m : LS, m.begun < 0 → finL s (runL s m p) = finD s (dL s p m.remark m.out) := by
          intro m hm
          rw [runL_one hps hbd, dL_step hps hbd]
          cases hrem : m.remark with
          | true =>
            rw [if_pos (by unfold takeE; rw [if_pos hrem]), Bool.true_or, if_pos rfl]
            have hts : takeS s m p (Utf8.decode s p).1 = { m with remark := decide (((Utf8.decode s p).1 : Int) ≠ 10) } := by unfold takeS; rw [if_pos hrem]
            rw [hts, ihq.1 ⟨m.out, decide (((Utf8.decode s p).1 : Int) ≠ 10), m.begun⟩ hm]
            congr 2
            simp only
            cases h10 : ((Utf8.decode s p).1 : Int) != 10 with
            | true => rw [decide_eq_true (by simpa using h10)]
            | false => rw [decide_eq_false (by simpa using h10)]
          | false =>
            have hr0 : ¬ m.remark = true := by rw [hrem]; decide
            by_cases hc1 : cls (Utf8.decode s p).1 = 1
            · have hnm : namedB m (Utf8.decode s p).1 = true := by unfold namedB; rw [decide_eq_true hc1]; rfl
              rw [if_pos (by unfold takeE; rw [if_neg hr0, if_pos hnm]), cls35 hc1, Bool.false_or, if_neg Bool.false_ne_true, if_pos hc1]
              have hts : takeS s m p (Utf8.decode s p).1 = ⟨m.out, false, (p : Int)⟩ := by unfold takeS; rw [if_neg hr0, if_pos hnm, if_pos hm, ← hrem]
              have hre := runE_next hps hbd (by unfold namC; rw [hc1]; rfl)
              rw [hts, ihq.2 _ _ (by omega), ← hre]
              by_cases hl : (runE s p : Int) - p > 24
              · rw [if_pos hl, if_pos hl]; rfl
              · rw [if_neg hl, if_neg hl]
            · have hnm : namedB m (Utf8.decode s p).1 = false := by
                unfold namedB
                rw [decide_eq_false hc1, decide_eq_false (show ¬ 0 ≤ m.begun by omega), Bool.and_false]; rfl
              have hnm' : ¬ namedB m (Utf8.decode s p).1 = true := by rw [hnm]; decide
              have hso : shutOK m p = true := by unfold shutOK; rw [decide_eq_true hm]; rfl
              have hsh : shutS s m p = m := by unfold shutS; rw [if_pos hm]
              have hte : takeE m p (Utf8.decode s p).1 = markE (Utf8.decode s p).1 := by unfold takeE; rw [if_neg hr0, if_neg hnm', if_pos hso]
              have htp : takeP m p (Utf8.decode s p).1 = p := by unfold takeP; rw [if_neg hr0, if_neg hnm', if_pos hso]
              have hts : takeS s m p (Utf8.decode s p).1 = markS s m p (Utf8.decode s p).1 := by unfold takeS; rw [if_neg hr0, if_neg hnm', if_pos hso, hsh]
              have hw1 := small_w hbd hc1
              have hmk := mark_eq hok hc1
              rw [hte, htp, hts, Bool.false_or, if_neg hc1]
              by_cases h35 : ((Utf8.decode s p).1 : Int) = 35
              · have h35' : (((Utf8.decode s p).1 : Int) == 35) = true := beq_iff_eq.2 h35
                have h10 : (((Utf8.decode s p).1 : Int) != 10) = true := by rw [h35]; rfl
                rw [if_pos (by unfold markE; rw [if_pos h35]), h35', if_pos rfl, h10]
                unfold markS
                rw [if_pos h35, ihq.1 ⟨m.out, true, m.begun⟩ hm]
              · have h35' : (((Utf8.decode s p).1 : Int) == 35) = false := beq_eq_false_iff_ne.2 h35
                rw [h35', if_neg Bool.false_ne_true]
                by_cases hc3 : cls (Utf8.decode s p).1 = 3
                · have hnd : ¬ markD (Utf8.decode s p).1 = true := fun h => by rw [markD_cls h] at hc3; exact absurd hc3 (by decide)
                  rw [if_pos (by unfold markE; rw [if_neg h35, if_pos hc3]), if_neg hnd, if_pos hc3]
                  unfold markS
                  rw [if_neg h35, if_pos hc3, ihq.1 _ hm, hrem]
                · by_cases hmd : markD (Utf8.decode s p).1 = true
                  · rw [if_pos (by unfold markE; rw [if_neg h35, if_neg hc3, hmk, if_pos hmd]), if_pos hmd]
                    unfold markS
                    rw [if_neg h35, if_neg hc3, hmk, if_pos hmd, ihq.1 ⟨m.out ++ [(⟨2, s.extract p (p + 1), (p : Int)⟩ : Tok)], m.remark, m.begun⟩ hm, hrem, hw1]
                  · rw [if_neg (by unfold markE; rw [if_neg h35, if_neg hc3, hmk, if_neg hmd]; decide), if_neg hmd, if_neg hc3]
                    unfold markE
                    rw [if_neg h35, if_neg hc3, hmk, if_neg hmd]
                    rfl
        refine ⟨A, ?_⟩
        intro out b hb
        have hb0 : ¬ ((b : Int) < 0) := by omega
        have hr0 : ¬ (false = true) := by decide
        cases hnc : namC (Utf8.decode s p).1 with
        | true =>
          have hnm : namedB ⟨out, false, (b : Int)⟩ (Utf8.decode s p).1 = true := by
            unfold namC at hnc
            unfold namedB
            rw [decide_eq_true (show (0 : Int) ≤ b by omega), Bool.and_true]
            exact hnc
          have hts : takeS s ⟨out, false, (b : Int)⟩ p (Utf8.decode s p).1 = ⟨out, false, (b : Int)⟩ := by unfold takeS; rw [if_neg hr0, if_pos hnm, if_neg hb0]
          rw [runL_one hps hbd, if_pos (by unfold takeE; rw [if_neg hr0, if_pos hnm]), hts, ihq.2 _ _ (by omega), runE_next hps hbd hnc]
        | false =>
          have hnm : ¬ namedB ⟨out, false, (b : Int)⟩ (Utf8.decode s p).1 = true := by
            unfold namC at hnc
            unfold namedB
            rw [decide_eq_true (show (0 : Int) ≤ b by omega), Bool.and_true, hnc]
            decide
          have hs : shutOK ⟨out, false, (b : Int)⟩ p = decide ((p : Int) - b ≤ 24) := by
            unfold shutOK
            rw [decide_eq_false hb0, Bool.false_or]
          rw [runE_no hnc]
          by_cases hl : (p : Int) - b ≤ 24
          · have hso : shutOK ⟨out, false, (b : Int)⟩ p = true := by rw [hs, decide_eq_true hl]
            rw [if_neg (by omega)]
            have hsh : shutS s ⟨out, false, (b : Int)⟩ p = ⟨out ++ [⟨1, s.extract b p, b⟩], false, -1⟩ := by unfold shutS; rw [if_neg hb0]; rfl
            rw [show finD s (dL s p false (out ++ [⟨1, s.extract b p, b⟩])) = _ from (A ⟨out ++ [(⟨1, s.extract b p, (b : Int)⟩ : Tok)], false, -1⟩ (show (-1 : Int) < 0 by decide)).symm]
            congr 1
            have hnm2 : ¬ namedB ⟨out ++ [⟨1, s.extract b p, (b : Int)⟩], false, -1⟩ (Utf8.decode s p).1 = true := by
              unfold namC at hnc
              unfold namedB
              intro h
              rw [Bool.or_eq_false_iff] at hnc
              rw [hnc.1, hnc.2] at h
              exact absurd h Bool.false_ne_true
            have hso2 : shutOK ⟨out ++ [⟨1, s.extract b p, (b : Int)⟩], false, -1⟩ p = true := by unfold shutOK; rfl
            have hsh2 : shutS s ⟨out ++ [⟨1, s.extract b p, (b : Int)⟩], false, -1⟩ p = ⟨out ++ [⟨1, s.extract b p, b⟩], false, -1⟩ := by unfold shutS; rw [if_pos (show (-1 : Int) < 0 by decide)]
            rw [runL_one hps hbd, runL_one hps hbd]
            have e1 : takeE ⟨out, false, (b : Int)⟩ p (Utf8.decode s p).1 = takeE ⟨out ++ [⟨1, s.extract b p, (b : Int)⟩], false, -1⟩ p (Utf8.decode s p).1 := by
              unfold takeE
              rw [if_neg hr0, if_neg hnm, if_pos hso, if_neg hr0, if_neg hnm2, if_pos hso2]
            have e2 : takeP ⟨out, false, (b : Int)⟩ p (Utf8.decode s p).1 = takeP ⟨out ++ [⟨1, s.extract b p, (b : Int)⟩], false, -1⟩ p (Utf8.decode s p).1 := by
              unfold takeP
              rw [if_neg hr0, if_neg hnm, if_pos hso, if_neg hr0, if_neg hnm2, if_pos hso2]
            have e3 : takeS s ⟨out, false, (b : Int)⟩ p (Utf8.decode s p).1 = takeS s ⟨out ++ [⟨1, s.extract b p, (b : Int)⟩], false, -1⟩ p (Utf8.decode s p).1 := by
              unfold takeS
              rw [if_neg hr0, if_neg hnm, if_pos hso, if_neg hr0, if_neg hnm2, if_pos hso2, hsh, hsh2]
            rw [e1, e2, e3]
          · have hso : ¬ shutOK ⟨out, false, (b : Int)⟩ p = true := by rw [hs, decide_eq_false hl]; decide
            rw [if_pos (by omega)]
            have hte : takeE ⟨out, false, (b : Int)⟩ p (Utf8.decode s p).1 = 5 := by unfold takeE; rw [if_neg hr0, if_neg hnm, if_neg hso]
            have htp : takeP ⟨out, false, (b : Int)⟩ p (Utf8.decode s p).1 = b := by unfold takeP; rw [if_neg hr0, if_neg hnm, if_neg hso]
            rw [runL_one hps hbd, if_neg (by rw [hte]; decide), hte, htp]
            rfl
    · have hpe : p = s.size := by omega
      have hb0 : badAt s 0 = none := by rw [hba, badAt_end hps]
      have hend : endL s = s.size := by unfold endL; rw [hb0]
      constructor
      · intro m hm
        rw [runL_end hps, dL_end hps]
        unfold finL
        simp only [hend, hb0]
        rw [if_pos (by unfold shutOK; rw [decide_eq_true hm]; rfl)]
        unfold shutS
        rw [if_pos hm]
        rfl
      · intro out b hb
        rw [runL_end hps, runE_end hps, dL_end hps]
        unfold finL
        simp only [hend, hb0]
        have hs : shutOK ⟨out, false, (b : Int)⟩ s.size = decide ((s.size : Int) - b ≤ 24) := by
          unfold shutOK
          rw [decide_eq_false (show ¬ ((b : Int) < 0) by omega), Bool.false_or]
        rw [hs]
        by_cases hl : (s.size : Int) - b ≤ 24
        · rw [if_pos (by rw [decide_eq_true hl]), if_neg (by omega)]
          unfold shutS
          rw [if_neg (show ¬ ((b : Int) < 0) by omega), hpe]
          rfl
        · rw [if_neg (by rw [decide_eq_false hl]; decide), if_pos (by omega)]
theorem lexR_eq (s : ByteArray) : lexR s = dR s := by
  have h := (steps s _ 0 rfl (Nat.zero_le _) rfl).1 m0 (by decide)
  have h1 : lexR s = finL s (runL s m0 0) := rfl
  rw [h1, h]
  rfl
end Go.Proofs.Ytidilpciolladaa

/- Tokens compared. -/
namespace Go.Proofs.Ytidilpciolladaa
open Go.RowKit

deriving instance DecidableEq for Tok
theorem tok_neq (k a k' a' : Int) (t t' : ByteArray) (W : World) : (binOp .neq 48 (.agg #[.int .i64 k, .string t, .int .i64 a]) (.agg #[.int .i64 k', .string t', .int .i64 a'])).run Try.prog W = .ok (.bool (!(k == k' && t.toList == t'.toList && a == a'))) W := by
  by_cases h1 : k = k' <;> by_cases h2 : t.toList = t'.toList <;> by_cases h3 : a = a' <;> simp [h1, h2, h3, go_sem]
theorem tok_neq_yes {x y : Tok} (h : x = y) (W : World) : (binOp .neq 48 (.agg #[.int .i64 x.kind, .string x.text, .int .i64 x.at_]) (.agg #[.int .i64 y.kind, .string y.text, .int .i64 y.at_])).run Try.prog W = .ok (.bool false) W := by
  subst h
  rw [tok_neq]
  simp
theorem tok_neq_no {x y : Tok} (h : x ≠ y) (W : World) : (binOp .neq 48 (.agg #[.int .i64 x.kind, .string x.text, .int .i64 x.at_]) (.agg #[.int .i64 y.kind, .string y.text, .int .i64 y.at_])).run Try.prog W = .ok (.bool true) W := by
  rw [tok_neq]
  have : (x.kind == y.kind && x.text.toList == y.text.toList && x.at_ == y.at_) = false := by
    obtain ⟨k, t, a⟩ := x
    obtain ⟨k', t', a'⟩ := y
    by_cases h1 : k = k'
    · by_cases h2 : t = t'
      · by_cases h3 : a = a'
        · exact absurd (by rw [h1, h2, h3]) h
        · simp [h3]
      · simp only [eqs_f h2]; simp
    · simp [h1]
  rw [this]
  rfl
/-- A token's three cells. -/
theorem row_tok {K : Nat → Prop} {w : World} {A : Option Addr} {n c : Nat} {xs : List Tok} (h : tokE.Row K w (.slice A n c) xs) (i : Nat) (hi : i < xs.length) : ∃ b off, A = some ⟨b, off, none⟩ ∧ K b ∧ b < w.heap.size ∧ w.cell? ⟨b, off + i * 3, none⟩ = some (.int .i64 (xs[i]'hi).kind) ∧ w.cell? ⟨b, off + i * 3 + 1, none⟩ = some (.string (xs[i]'hi).text) ∧ w.cell? ⟨b, off + i * 3 + 2, none⟩ = some (.int .i64 (xs[i]'hi).at_) := by
  obtain ⟨b, off, cs, e, hk, hl, h1, h2⟩ := h.get i hi
  have h1 := tokE_open h1
  subst h1
  exact ⟨b, off, e, hk, hl, h2 0 _ rfl, h2 1 _ rfl, h2 2 _ rfl⟩
def txt (t : Tok) : Int × ByteArray := (t.kind, t.text)
set_option maxRecDepth 20000 in
set_option maxHeartbeats 4000000 in
theorem texts_any {w : World} {va vb : Value} {xs ys : List Tok} {K : Nat → Prop} (ha : tokE.Row K w va xs) (hb : tokE.Row K w vb ys) (hlen : xs.length ≤ 100000) : Calls Try.prog 23 #[va, vb] w fun e w' => e = .returned (.bool (decide (xs.map txt = ys.map txt))) ∧ Below w.heap.size w w' := by
  obtain ⟨A, ca, rfl, _, _⟩ := ha.form
  obtain ⟨B, cb, rfl, _, _⟩ := hb.form
  have HA := hid ha
  have HB := hid hb
  clear ha hb
  by_cases hl : xs.length = ys.length
  · have hb0 : ((xs.length : Int) != (ys.length : Int)) = false := by simp [hl]
    have HL := hid hl
    have hlx : (xs.length : Int) ≤ 100000 := by omega
    clear hl hlen
    go_enter Try.func23, Try.ntmps23
    go_wp2_with (first | ((with_reducible refine wp_region_plan (id := 6) (.fin [(false, 0), (false, 1), (false, 2), (false, 3), (false, 4), (false, 5), (false, 6), (false, 7), (false, 8), (false, 9), (false, 10), (false, 11), (false, 12), (false, 13), (false, 14), (false, 15), (false, 16), (false, 17), (false, 18), (false, 19), (false, 20), (false, 21), (false, 22), (false, 23)]) ?_ ?_ ?_ ?_ ?_ ?_); kernel_rfl; kernel_rfl; kernel_rfl; kernel_rfl; (intro c a d v w h; cases d <;> exact h)) | (with_reducible refine wpPlan_eff ?_) | (with_reducible refine wpPlan_fin ?_) | (with_reducible refine wpPlan_two ?_) | (with_reducible refine wpOpPair ?_ ?_) | ((with_reducible apply wpPre_keep); rfl; intro K' hK'; go_simp; refine hK' _ _ ?_; intro f hf; clear hK' K') | ((with_reducible apply wpPre_drop); rfl; intro K' hK'; go_simp; refine hK' _ _ ?_; intro f; clear hK' K') | (with_reducible refine wpPre_nil ?_) | ((with_reducible apply wpOp_list); rfl) | (with_reducible refine heldPair ?_ ?_) | ((with_reducible refine heldH_no ?_ ?_); rfl) | (with_reducible refine heldH_yes ?_ ?_) | (with_reducible exact heldH_nil) | (unfold YAt; go_simp; done))
    go_loopg [5] xs.length (fun k vi wr => ∃ j : Nat, j + k = xs.length ∧ vi = .int .i64 (j : Int) ∧ (xs.take j).map txt = (ys.take j).map txt ∧ ∃ ex dx, wr = more w ex dx)
    case atStart => exact ⟨0, by omega, rfl, rfl, more_of (Below.refl _ _)⟩
    case round =>
      obtain ⟨j, hk, rfl, ht, ex, dx, rfl⟩ := hrel
      have HK := hid hk
      have HT := hid ht
      by_cases hj : j < xs.length
      · have hj2 : j < ys.length := by have := HL.out; omega
        obtain ⟨b1, o1, rfl, _, hl1, x1, x2, x3⟩ := row_tok HA.out j hj
        obtain ⟨b2, o2, rfl, _, hl2, y1, y2, y3⟩ := row_tok HB.out j hj2
        have hj0 : (0 : Int) ≤ j := by omega
        have hjx : (j : Int) < xs.length := by omega
        have hjy : (j : Int) < ys.length := by omega
        have HJ := hid (And.intro hj trivial)
        have HJ2 := hid (And.intro hj2 trivial)
        by_cases hek : xs[j].kind = ys[j].kind
        · have hq1 : (xs[j].kind != ys[j].kind) = false := by simp [hek]
          have HEK := hid hek
          by_cases het : xs[j].text = ys[j].text
          · have hq2 := eqs_t het
            have HET := hid het
            clear hk ht hek het
            go_wp2_with (first | ((with_reducible refine wp_region_plan (id := 6) (.fin [(false, 0), (false, 1), (false, 2), (false, 3), (false, 4), (false, 5), (false, 6), (false, 7), (false, 8), (false, 9), (false, 10), (false, 11), (false, 12), (false, 13), (false, 14), (false, 15), (false, 16), (false, 17), (false, 18), (false, 19), (false, 20), (false, 21), (false, 22), (false, 23)]) ?_ ?_ ?_ ?_ ?_ ?_); kernel_rfl; kernel_rfl; kernel_rfl; kernel_rfl; (intro c a d v w h; cases d <;> exact h)) | (with_reducible refine wpPlan_eff ?_) | (with_reducible refine wpPlan_fin ?_) | (with_reducible refine wpPlan_two ?_) | (with_reducible refine wpOpPair ?_ ?_) | ((with_reducible apply wpPre_keep); rfl; intro K' hK'; go_simp; refine hK' _ _ ?_; intro f hf; clear hK' K') | ((with_reducible apply wpPre_drop); rfl; intro K' hK'; go_simp; refine hK' _ _ ?_; intro f; clear hK' K') | (with_reducible refine wpPre_nil ?_) | ((with_reducible apply wpOp_list); rfl) | (with_reducible refine heldPair ?_ ?_) | ((with_reducible refine heldH_no ?_ ?_); rfl) | (with_reducible refine heldH_yes ?_ ?_) | (with_reducible exact heldH_nil) | (unfold YAt; go_simp; done))
            go_roundg (xs.length - (j + 1))
            case measure => have := HK.out; have := HJ.out.1; omega
            case rel => exact ⟨j + 1, by have := HJ.out.1; omega, rfl, by rw [List.take_succ_eq_append_getElem HJ.out.1, List.take_succ_eq_append_getElem HJ2.out.1, List.map_append, List.map_append, HT.out]; simp only [List.map_cons, List.map_nil, txt, HEK.out, HET.out], more_of (by repeat (first | (with_reducible exact Below.refl _ _) | (with_reducible exact bl_mm) | (with_reducible refine bl_dr ?_) | (with_reducible refine bl_drN ?_ _) | (with_reducible refine bl_al ?_ _) | (with_reducible refine bl_more ?_ _ _)))⟩
          · have hq2 := eqs_f het
            have HET := hid het
            clear hk ht hek het
            go_wp2_with (first | ((with_reducible refine wp_region_plan (id := 6) (.fin [(false, 0), (false, 1), (false, 2), (false, 3), (false, 4), (false, 5), (false, 6), (false, 7), (false, 8), (false, 9), (false, 10), (false, 11), (false, 12), (false, 13), (false, 14), (false, 15), (false, 16), (false, 17), (false, 18), (false, 19), (false, 20), (false, 21), (false, 22), (false, 23)]) ?_ ?_ ?_ ?_ ?_ ?_); kernel_rfl; kernel_rfl; kernel_rfl; kernel_rfl; (intro c a d v w h; cases d <;> exact h)) | (with_reducible refine wpPlan_eff ?_) | (with_reducible refine wpPlan_fin ?_) | (with_reducible refine wpPlan_two ?_) | (with_reducible refine wpOpPair ?_ ?_) | ((with_reducible apply wpPre_keep); rfl; intro K' hK'; go_simp; refine hK' _ _ ?_; intro f hf; clear hK' K') | ((with_reducible apply wpPre_drop); rfl; intro K' hK'; go_simp; refine hK' _ _ ?_; intro f; clear hK' K') | (with_reducible refine wpPre_nil ?_) | ((with_reducible apply wpOp_list); rfl) | (with_reducible refine heldPair ?_ ?_) | ((with_reducible refine heldH_no ?_ ?_); rfl) | (with_reducible refine heldH_yes ?_ ?_) | (with_reducible exact heldH_nil) | (unfold YAt; go_simp; done))
            go_ret
            exact ⟨by rw [decide_eq_false (fun h => HET.out (by have := congrArg (fun l => l[j]?) h; simp [HJ.out.1, HJ2.out.1, txt] at this; exact this.2))]; rfl, (by repeat (first | (with_reducible exact Below.refl _ _) | (with_reducible exact bl_mm) | (with_reducible refine bl_dr ?_) | (with_reducible refine bl_drN ?_ _) | (with_reducible refine bl_al ?_ _) | (with_reducible refine bl_more ?_ _ _)))⟩
        · have hq1 : (xs[j].kind != ys[j].kind) = true := by simpa using hek
          have HEK := hid hek
          clear hk ht hek
          go_wp2_with (first | ((with_reducible refine wp_region_plan (id := 6) (.fin [(false, 0), (false, 1), (false, 2), (false, 3), (false, 4), (false, 5), (false, 6), (false, 7), (false, 8), (false, 9), (false, 10), (false, 11), (false, 12), (false, 13), (false, 14), (false, 15), (false, 16), (false, 17), (false, 18), (false, 19), (false, 20), (false, 21), (false, 22), (false, 23)]) ?_ ?_ ?_ ?_ ?_ ?_); kernel_rfl; kernel_rfl; kernel_rfl; kernel_rfl; (intro c a d v w h; cases d <;> exact h)) | (with_reducible refine wpPlan_eff ?_) | (with_reducible refine wpPlan_fin ?_) | (with_reducible refine wpPlan_two ?_) | (with_reducible refine wpOpPair ?_ ?_) | ((with_reducible apply wpPre_keep); rfl; intro K' hK'; go_simp; refine hK' _ _ ?_; intro f hf; clear hK' K') | ((with_reducible apply wpPre_drop); rfl; intro K' hK'; go_simp; refine hK' _ _ ?_; intro f; clear hK' K') | (with_reducible refine wpPre_nil ?_) | ((with_reducible apply wpOp_list); rfl) | (with_reducible refine heldPair ?_ ?_) | ((with_reducible refine heldH_no ?_ ?_); rfl) | (with_reducible refine heldH_yes ?_ ?_) | (with_reducible exact heldH_nil) | (unfold YAt; go_simp; done))
          go_ret
          exact ⟨by rw [decide_eq_false (fun h => HEK.out (by have := congrArg (fun l => l[j]?) h; simp [HJ.out.1, HJ2.out.1, txt] at this; exact this.1))]; rfl, (by repeat (first | (with_reducible exact Below.refl _ _) | (with_reducible exact bl_mm) | (with_reducible refine bl_dr ?_) | (with_reducible refine bl_drN ?_ _) | (with_reducible refine bl_al ?_ _) | (with_reducible refine bl_more ?_ _ _)))⟩
      · have hje : j = xs.length := by omega
        subst hje
        clear hk ht hj
        have hnl : ¬ (xs.length : Int) < xs.length := by omega
        go_wp2_with (first | ((with_reducible refine wp_region_plan (id := 6) (.fin [(false, 0), (false, 1), (false, 2), (false, 3), (false, 4), (false, 5), (false, 6), (false, 7), (false, 8), (false, 9), (false, 10), (false, 11), (false, 12), (false, 13), (false, 14), (false, 15), (false, 16), (false, 17), (false, 18), (false, 19), (false, 20), (false, 21), (false, 22), (false, 23)]) ?_ ?_ ?_ ?_ ?_ ?_); kernel_rfl; kernel_rfl; kernel_rfl; kernel_rfl; (intro c a d v w h; cases d <;> exact h)) | (with_reducible refine wpPlan_eff ?_) | (with_reducible refine wpPlan_fin ?_) | (with_reducible refine wpPlan_two ?_) | (with_reducible refine wpOpPair ?_ ?_) | ((with_reducible apply wpPre_keep); rfl; intro K' hK'; go_simp; refine hK' _ _ ?_; intro f hf; clear hK' K') | ((with_reducible apply wpPre_drop); rfl; intro K' hK'; go_simp; refine hK' _ _ ?_; intro f; clear hK' K') | (with_reducible refine wpPre_nil ?_) | ((with_reducible apply wpOp_list); rfl) | (with_reducible refine heldPair ?_ ?_) | ((with_reducible refine heldH_no ?_ ?_); rfl) | (with_reducible refine heldH_yes ?_ ?_) | (with_reducible exact heldH_nil) | (unfold YAt; go_simp; done))
        go_ret
        refine ⟨?_, (by repeat (first | (with_reducible exact Below.refl _ _) | (with_reducible exact bl_mm) | (with_reducible refine bl_dr ?_) | (with_reducible refine bl_drN ?_ _) | (with_reducible refine bl_al ?_ _) | (with_reducible refine bl_more ?_ _ _)))⟩
        have h := HT.out
        rw [List.take_length, HL.out, List.take_length] at h
        rw [decide_eq_true h]
        rfl
  · have hb0 : ((xs.length : Int) != (ys.length : Int)) = true := by simp; omega
    have HL := hid hl
    clear hl
    go_enter Try.func23, Try.ntmps23
    go_wp2_with (first | ((with_reducible refine wp_region_plan (id := 6) (.fin [(false, 0), (false, 1), (false, 2), (false, 3), (false, 4), (false, 5), (false, 6), (false, 7), (false, 8), (false, 9), (false, 10), (false, 11), (false, 12), (false, 13), (false, 14), (false, 15), (false, 16), (false, 17), (false, 18), (false, 19), (false, 20), (false, 21), (false, 22), (false, 23)]) ?_ ?_ ?_ ?_ ?_ ?_); kernel_rfl; kernel_rfl; kernel_rfl; kernel_rfl; (intro c a d v w h; cases d <;> exact h)) | (with_reducible refine wpPlan_eff ?_) | (with_reducible refine wpPlan_fin ?_) | (with_reducible refine wpPlan_two ?_) | (with_reducible refine wpOpPair ?_ ?_) | ((with_reducible apply wpPre_keep); rfl; intro K' hK'; go_simp; refine hK' _ _ ?_; intro f hf; clear hK' K') | ((with_reducible apply wpPre_drop); rfl; intro K' hK'; go_simp; refine hK' _ _ ?_; intro f; clear hK' K') | (with_reducible refine wpPre_nil ?_) | ((with_reducible apply wpOp_list); rfl) | (with_reducible refine heldPair ?_ ?_) | ((with_reducible refine heldH_no ?_ ?_); rfl) | (with_reducible refine heldH_yes ?_ ?_) | (with_reducible exact heldH_nil) | (unfold YAt; go_simp; done))
    go_ret
    exact ⟨by rw [decide_eq_false (fun h => HL.out (by have := congrArg List.length h; simpa using this))]; rfl, (by repeat (first | (with_reducible exact Below.refl _ _) | (with_reducible exact bl_mm) | (with_reducible refine bl_dr ?_) | (with_reducible refine bl_drN ?_ _) | (with_reducible refine bl_al ?_ _) | (with_reducible refine bl_more ?_ _ _)))⟩
end Go.Proofs.Ytidilpciolladaa

/- Join. -/
namespace Go.Proofs.Ytidilpciolladaa
open Go.RowKit

theorem info9 : (Try.prog.info? 9).map (fun i => (i.zero, i.size, i.bytes)) = some (some (.string ⟨#[]⟩), 1, 16) := by kernel_rfl
theorem app33 {K : Nat → Prop} {g : Nat} {w : World} {v x : Value} {xs ys : List ByteArray} (h : Enc.str.Spine 9 K g w v xs) (hy : Enc.str.Src K w x ys) (hKg : ∀ b, K b → b < w.heap.size → b ≠ g) (hlen : xs.length + ys.length ≤ 4294967296) :
    ∃ v' w' g', (Builtin.append_ #[65, 65] 65 #[v, x]).run Try.prog w = .ok v' w' ∧ Enc.str.Spine 9 (fun b => K b ∧ b < w.heap.size) g' w' v' (xs ++ ys) ∧ Ext (fun b => b = g ∧ capOf v ≠ 0) w w' ∧ Grew g w w' v v' g' := by
  obtain ⟨i0, hi, hz0, hz1, hz2⟩ := info_parts info9
  exact h.append 65 65 65 i0 _ Try.underlying65 ⟨_, Try.underlying65⟩ hi hz0 hz1 rfl (by decide) hy hKg hlen (by rw [hz2]; decide)
theorem wpList_app33 {w : World} {ops : Array Oper} {rest : List Oper} {o : Oper} {a : Act} {Q : Exit → Act → World → Prop} {K : Nat → Prop} {g : Nat} {xs ys : List ByteArray} {v x : Value}
    (hg : o.guard = none) (s x' : Operand) (hop : o.op = Op.call { callee := Callee.builtin Builtin.append, args := #[s, x'], argTypes := #[65, 65] }) (hty : o.type = 65)
    (hv : a.eval s = v) (hx : a.eval x' = x) (hs : Enc.str.Spine 9 K g w v xs) (hy : Enc.str.Src K w x ys) (hKg : ∀ b, K b → b < w.heap.size → b ≠ g) (hlen : xs.length + ys.length ≤ 4294967296)
    (h : ∀ v' w' g', Enc.str.Spine 9 (fun b => K b ∧ b < w.heap.size) g' w' v' (xs ++ ys) → Ext (fun b => b = g ∧ capOf v ≠ 0) w w' → Grew g w w' v v' g' → wpList Try.prog ops Q rest (a.put o.dst v') w') :
    wpList Try.prog ops Q (o :: rest) a w := by
  subst hv; subst hx
  obtain ⟨v', w', g', hrun, h1, h2, h3⟩ := app33 hs hy hKg hlen
  exact wpList_append_run hg s x' 65 65 hop (by rw [hty]; exact hrun) (h v' w' g' h1 h2 h3)
/-- A row of strings that was made from block N on. -/
structure Strs (N : Nat) (w0 w : World) (g : Nat) (v : Value) (xs : List ByteArray) : Prop where
  sp : Enc.str.Spine 9 No g w v xs
  gN : N ≤ g
  size : N ≤ w.heap.size
  low : Below N w0 w
theorem Strs.below {N : Nat} {w0 w w' : World} {g : Nat} {v : Value} {xs : List ByteArray} (h : Strs N w0 w g v xs) (hb : Below w.heap.size w w') : Strs N w0 w' g v xs :=
  ⟨h.sp.step (fun _ hc => (hb.block g (Array.getElem?_eq_some_iff.1 hc).1).trans hc) (fun _ hk _ => hk.elim), h.gN, Nat.le_trans h.size hb.size, h.low.trans (hb.mono h.size)⟩
theorem Strs.grown {N : Nat} {w0 w w2 : World} {g g2 : Nat} {v v2 : Value} {xs ys : List ByteArray} {K : Nat → Prop} (h : Strs N w0 w g v xs) (hs : Enc.str.Spine 9 K g2 w2 v2 ys) (hK : ∀ b, ¬ K b) (he : Ext (fun b => b = g ∧ capOf v ≠ 0) w w2) (hg : Grew g w w2 v v2 g2) : Strs N w0 w2 g2 v2 ys := by
  have h1 := h.gN
  refine ⟨hs.step (fun _ hc => hc) (fun b hb _ => (hK b hb).elim), by have := h.size; rcases hg.two with e | e <;> omega, Nat.le_trans h.size he.size, h.low.trans (he.toBelow h.size (fun x hx e => by omega))⟩
theorem Strs.cells {N : Nat} {w0 w : World} {g n c : Nat} {A : Option Addr} {xs : List ByteArray} (h : Strs N w0 w g (.slice A n c) xs) (hx : xs ≠ []) : ∃ b off, A = some ⟨b, off, none⟩ ∧ b < w.heap.size ∧ ∀ (j : Nat) x, xs[j]? = some x → w.cell? ⟨b, off + j, none⟩ = some (.string x) := by
  have hr := h.sp.row (K' := fun _ => True) (fun _ _ _ => trivial) trivial
  have hl : 0 < xs.length := List.length_pos_iff.2 hx
  obtain ⟨b, off, cs, e, _, hlt, _, _⟩ := hr.get 0 hl
  refine ⟨b, off, e, hlt, fun j x hj => ?_⟩
  obtain ⟨hj1, rfl⟩ := List.getElem?_eq_some_iff.1 hj
  obtain ⟨b', off', cs', e', _, _, h1, h2⟩ := hr.get j hj1
  have h1 : cs' = [.string xs[j]] := h1
  rw [e] at e'
  cases e'
  have := h2 0 (.string xs[j]) (by rw [h1]; rfl)
  rw [show Enc.str.sz = 1 from rfl, Nat.mul_one, Nat.add_zero] at this
  exact this
/-- Tokens as a text. -/
def joinB (l : List Tok) : ByteArray := ⟨(Lib.join (l.map (·.text.data.toList)) [32]).toArray⟩
set_option maxRecDepth 20000 in
set_option maxHeartbeats 1000000 in
theorem join_any {w : World} {v : Value} {l : List Tok} {K : Nat → Prop} (h : tokE.Row K w v l) (hl : l.length ≤ 100000) (hj : (Lib.join (l.map (·.text.data.toList)) [32]).length ≤ 140737488355328) : Calls Try.prog 22 #[v] w fun e w' => e = .returned (.string (joinB l)) ∧ Below w.heap.size w w' := by
  obtain ⟨A, ca, rfl, _, _⟩ := h.form
  have HR := hid h
  have hlx : (l.length : Int) ≤ 100000 := by omega
  have HL := hid hl
  have HJN := hid hj
  clear h hl hj
  go_enter Try.func22, Try.ntmps22
  go_wp2
  go_loopg [3, 8] l.length (fun k vo vi wr => ∃ (j g : Nat) (B : Option Addr) (cb : Nat), j + k = l.length ∧ vi = .int .i64 (j : Int) ∧ vo = .slice B j cb ∧ Strs w.heap.size w wr g vo ((l.take j).map (·.text)))
  case atStart => exact ⟨0, w.heap.size, none, 0, by omega, rfl, rfl, Enc.Spine.nil _ _ _ _ _, Nat.le_refl _, Nat.le_refl _, Below.refl _ _⟩
  case round =>
    obtain ⟨j, g, B, cb, hk, rfl, rfl, hs⟩ := hrel
    have HK := hid hk
    have HS := hid hs
    by_cases hjl : j < l.length
    · have HJ := hid (And.intro hjl trivial)
      obtain ⟨b1, o1, rfl, _, hl1, x1, x2, x3⟩ := row_tok (HR.out.below hs.low) j HJ.out.1
      have hj0 : (0 : Int) ≤ j := by omega
      have hjx : (j : Int) < l.length := by omega
      have HLEN : Hid (((l.take j).map (·.text)).length + [(l[j]'HJ.out.1).text].length ≤ 4294967296) := hid (by have := HL.out; simp; omega)
      clear hk hs hjl
      go_wp2_with (first | (at_builtin; refine wpList_app33 (ys := [(l[j]'HJ.out.1).text]) (by rfl) (.tmp 12) (.tmp 15) (by rfl) (by rfl) (by rfl) (by rfl) (HS.out.below (by repeat (first | (with_reducible exact Below.refl _ _) | (with_reducible exact bl_mm) | (with_reducible refine bl_dr ?_) | (with_reducible refine bl_drN ?_ _) | (with_reducible refine bl_al ?_ _) | (with_reducible refine bl_more ?_ _ _)))).sp (by exact Enc.Src.one_blk (cs := [.string (l[j]'HJ.out.1).text]) (alloc_blk (by simp [more_size])) rfl) (fun _ h _ => h.elim) HLEN.out ?_; intro v2 w4 g2 hs2 he2 hg2; obtain ⟨A2, c2, rfl, _, _⟩ := hs2.form; have HS2 := hid hs2; have HE2 := hid he2; have HG2 := hid hg2; clear hs2 hg2 he2))
      go_roundg (l.length - (j + 1))
      case measure => have := HK.out; have := HJ.out.1; omega
      case rel =>
        have hjl := HJ.out.1
        have e : ((l.take j).map (·.text) ++ [(l[j]'HJ.out.1).text]).length = j + 1 := by simp; omega
        have e2 : (l.take (j + 1)).map (·.text) = (l.take j).map (·.text) ++ [(l[j]'HJ.out.1).text] := by
          rw [List.take_succ_eq_append_getElem hjl, List.map_append]; rfl
        have hS2 := HS2.out
        rw [e] at hS2
        refine ⟨j + 1, g2, A2, c2, by omega, rfl, by rw [Nat.min_eq_left (Nat.le_of_lt hjl)], ?_⟩
        rw [e2, Nat.min_eq_left (Nat.le_of_lt hjl)]
        exact (HS.out.below (by repeat (first | (with_reducible exact Below.refl _ _) | (with_reducible exact bl_mm) | (with_reducible refine bl_dr ?_) | (with_reducible refine bl_drN ?_ _) | (with_reducible refine bl_al ?_ _) | (with_reducible refine bl_more ?_ _ _)))).grown hS2 (fun _ h => h.1) HE2.out HG2.out
    · have hje : j = l.length := by omega
      subst hje
      rw [List.take_length] at hs
      have hnl : ¬ (l.length : Int) < l.length := by omega
      by_cases hl0 : l = []
      · subst hl0
        have HS := hid hs
        clear hk hs hjl
        go_wp2_with (first | (go_at_call 41; refine (Try.strings_Join_none _ _ _ _).mono ?_; rintro e w5 ⟨rfl, rfl⟩))
        go_ret
        exact ⟨rfl, HS.out.low⟩
      · have hne : l.map (·.text) ≠ [] := fun h => hl0 (List.map_eq_nil_iff.1 h)
        obtain ⟨B', cb', e, hcp1, _⟩ := hs.sp.form
        rw [List.length_map] at e hcp1
        cases e
        obtain ⟨bb, oo, rfl, hlt, hce⟩ := hs.cells hne
        have hJ := Try.strings_Join bb oo cb (l.map (·.text)) ⟨#[32]⟩ wr hce hlt (by rw [List.length_map]; have := HL.out; omega) (by rw [List.length_map]; exact hcp1) (by rw [List.map_map]; exact HJN.out)
        rw [List.length_map] at hJ
        have HJC := hid hJ
        have hlow := hs.low
        have HLOW := hid hlow
        clear hk hs hjl hce hlt hcp1 hne hl0 hJ hlow HJN
        go_wp2_with (first | (go_at_call 41; refine HJC.out.mono ?_; rintro e w5 ⟨rfl, hb5⟩; have HB5 := hid hb5; clear hb5))
        go_ret
        refine ⟨?_, HLOW.out.trans (HB5.out.mono HLOW.out.size)⟩
        rfl
end Go.Proofs.Ytidilpciolladaa

/- The document's Join and Word. -/
namespace Go.Proofs.Ytidilpciolladaa
open Go.RowKit

theorem join_snoc (xs : List (List UInt8)) (x sep : List UInt8) : Lib.join (xs ++ [x]) sep = if xs = [] then x else Lib.join xs sep ++ (sep ++ x) := by
  cases xs with
  | nil => rw [if_pos rfl]; exact Lib.join_one x sep
  | cons y ys =>
    rw [if_neg (by simp), List.cons_append, Lib.join_cons, Lib.join_cons]
    simp [Lib.joinTail]
theorem cat_data (a b : ByteArray) : (a ++ b).data.toList = a.data.toList ++ b.data.toList := by simp
theorem bytes_eq {a b : ByteArray} (h : a.data.toList = b.data.toList) : a = b := ByteArray.ext (Array.ext' h)
theorem joinB_next {l : List Tok} {j : Nat} (hj : j < l.length) : joinB (l.take (j + 1)) = if j = 0 then (l[j]'hj).text else joinB (l.take j) ++ ⟨#[32]⟩ ++ (l[j]'hj).text := by
  apply bytes_eq
  unfold joinB
  rw [List.take_succ_eq_append_getElem hj, List.map_append, List.map_singleton, join_snoc]
  by_cases h0 : j = 0
  · subst h0
    rw [if_pos (by simp), if_pos rfl]
  · rw [if_neg (by intro h; rw [List.map_eq_nil_iff, List.take_eq_nil_iff] at h; rcases h with h | h; exact h0 h; subst h; exact absurd hj (by simp)), if_neg h0, cat_data, cat_data]
    simp
theorem joinB_size_le {l : List Tok} (j : Nat) : (joinB (l.take j)).size ≤ (joinB l).size := by
  have hs : ∀ m : List Tok, (joinB m).size = (Lib.join (m.map (·.text.data.toList)) [32]).length := fun m => by simp [joinB, ByteArray.size]
  induction hk : l.length - j generalizing j with
  | zero => rw [List.take_of_length_le (by omega)]; exact Nat.le_refl _
  | succ n ih =>
    have hj : j < l.length := by omega
    refine Nat.le_trans ?_ (ih (j + 1) (by omega))
    rw [joinB_next hj]
    split
    · rename_i h
      subst h
      rw [hs, List.take_zero, List.map_nil, Lib.join_nil]
      exact Nat.zero_le _
    · rw [ByteArray.size_append, ByteArray.size_append]
      omega
theorem add_str (a b : ByteArray) (h : a.size + b.size ≤ 9223372036854775807) (W : World) : (Op.stringOp .add a b).run Try.prog W = .ok (.string (a ++ b)) W := run_string_add_sum (P := Try.prog) (w := W) a b h
def wds : List ByteArray := [wd0, wd1, wd2, wd3, wd4, wd5, wd6, wd7]
def wordF (s : ByteArray) (j : Nat) : Bool := (wds.drop j).any (fun x => decide (s = x))
theorem wordF_0 (s : ByteArray) : wordF s 0 = wordB s := by
  simp only [wordF, wds, wordB, List.drop_zero, List.any_cons, List.any_nil, Bool.or_false, Bool.or_assoc]
def EqW (s : ByteArray) (j : Nat) : Prop := wordB s = wordF s j
abbrev wdO : Obj := .cells #[.string wd0, .string wd1, .string wd2, .string wd3, .string wd4, .string wd5, .string wd6, .string wd7] 9
set_option maxRecDepth 20000 in
set_option maxHeartbeats 1000000 in
theorem dword_any {w : World} {s : ByteArray} : Calls Try.prog 76 #[.string s] w fun e w' => e = .returned (.bool (wordB s)) ∧ Below w.heap.size w w' := by
  go_enter Try.func76, Try.ntmps76
  go_wp2
  go_loopg [4] 8 (fun k vi wr => ∃ j : Nat, j + k = 8 ∧ vi = .int .i64 (j : Int) ∧ EqW s j ∧ ∃ ex dx, wr = more (w.alloc wdO) ex dx)
  case atStart => exact ⟨0, by omega, rfl, (wordF_0 s).symm, more_of (Below.refl _ _)⟩
  case round =>
    obtain ⟨j, hk, rfl, hw, ex, dx, rfl⟩ := hrel
    have HK := hid hk
    have HW := hid hw
    have hcs : j = 8 ∨ j = 0 ∨ j = 1 ∨ j = 2 ∨ j = 3 ∨ j = 4 ∨ j = 5 ∨ j = 6 ∨ j = 7 := by omega
    rcases hcs with rfl | rfl | rfl | rfl | rfl | rfl | rfl | rfl | rfl
    · clear hk hw
      go_wp2
      go_ret
      exact ⟨by rw [show wordB s = _ from HW.out]; rfl, (by repeat (first | (with_reducible exact Below.refl _ _) | (with_reducible exact bl_mm) | (with_reducible refine bl_dr ?_) | (with_reducible refine bl_drN ?_ _) | (with_reducible refine bl_al ?_ _) | (with_reducible refine bl_more ?_ _ _)))⟩
    · by_cases he : wd0 = s
      · have HE : Hid (wordB s = true) := hid (by rw [show wordB s = _ from HW.out, ← he]; rfl)
        have hq : ([115, 97, 103, 97] == s.toList) = true := by rw [← (show wd0.toList = [115, 97, 103, 97] by rw [ByteArray.toList_eq])]; exact eqs_t he
        clear hk hw he
        go_wp2
        go_ret
        exact ⟨by rw [HE.out]; rfl, (by repeat (first | (with_reducible exact Below.refl _ _) | (with_reducible exact bl_mm) | (with_reducible refine bl_dr ?_) | (with_reducible refine bl_drN ?_ _) | (with_reducible refine bl_al ?_ _) | (with_reducible refine bl_more ?_ _ _)))⟩
      · have HE : Hid (EqW s (0 + 1)) := hid (by
          show wordB s = wordF s (0 + 1)
          have h : wordF s 0 = (decide (s = wd0) || wordF s (0 + 1)) := rfl
          rw [show wordB s = _ from HW.out, h, decide_eq_false (fun h => he h.symm), Bool.false_or])
        have hq : ([115, 97, 103, 97] == s.toList) = false := by rw [← (show wd0.toList = [115, 97, 103, 97] by rw [ByteArray.toList_eq])]; exact eqs_f he
        clear hk hw he
        go_wp2
        go_roundg (8 - (0 + 1))
        case measure => have := HK.out; omega
        case rel => exact ⟨0 + 1, by omega, rfl, HE.out, more_of (by repeat (first | (with_reducible exact Below.refl _ _) | (with_reducible exact bl_mm) | (with_reducible refine bl_dr ?_) | (with_reducible refine bl_drN ?_ _) | (with_reducible refine bl_al ?_ _) | (with_reducible refine bl_more ?_ _ _)))⟩
    · by_cases he : wd1 = s
      · have HE : Hid (wordB s = true) := hid (by rw [show wordB s = _ from HW.out, ← he]; rfl)
        have hq : ([115, 116, 101, 112] == s.toList) = true := by rw [← (show wd1.toList = [115, 116, 101, 112] by rw [ByteArray.toList_eq])]; exact eqs_t he
        clear hk hw he
        go_wp2
        go_ret
        exact ⟨by rw [HE.out]; rfl, (by repeat (first | (with_reducible exact Below.refl _ _) | (with_reducible exact bl_mm) | (with_reducible refine bl_dr ?_) | (with_reducible refine bl_drN ?_ _) | (with_reducible refine bl_al ?_ _) | (with_reducible refine bl_more ?_ _ _)))⟩
      · have HE : Hid (EqW s (1 + 1)) := hid (by
          show wordB s = wordF s (1 + 1)
          have h : wordF s 1 = (decide (s = wd1) || wordF s (1 + 1)) := rfl
          rw [show wordB s = _ from HW.out, h, decide_eq_false (fun h => he h.symm), Bool.false_or])
        have hq : ([115, 116, 101, 112] == s.toList) = false := by rw [← (show wd1.toList = [115, 116, 101, 112] by rw [ByteArray.toList_eq])]; exact eqs_f he
        clear hk hw he
        go_wp2
        go_roundg (8 - (1 + 1))
        case measure => have := HK.out; omega
        case rel => exact ⟨1 + 1, by omega, rfl, HE.out, more_of (by repeat (first | (with_reducible exact Below.refl _ _) | (with_reducible exact bl_mm) | (with_reducible refine bl_dr ?_) | (with_reducible refine bl_drN ?_ _) | (with_reducible refine bl_al ?_ _) | (with_reducible refine bl_more ?_ _ _)))⟩
    · by_cases he : wd2 = s
      · have HE : Hid (wordB s = true) := hid (by rw [show wordB s = _ from HW.out, ← he]; rfl)
        have hq : ([115, 117, 98] == s.toList) = true := by rw [← (show wd2.toList = [115, 117, 98] by rw [ByteArray.toList_eq])]; exact eqs_t he
        clear hk hw he
        go_wp2
        go_ret
        exact ⟨by rw [HE.out]; rfl, (by repeat (first | (with_reducible exact Below.refl _ _) | (with_reducible exact bl_mm) | (with_reducible refine bl_dr ?_) | (with_reducible refine bl_drN ?_ _) | (with_reducible refine bl_al ?_ _) | (with_reducible refine bl_more ?_ _ _)))⟩
      · have HE : Hid (EqW s (2 + 1)) := hid (by
          show wordB s = wordF s (2 + 1)
          have h : wordF s 2 = (decide (s = wd2) || wordF s (2 + 1)) := rfl
          rw [show wordB s = _ from HW.out, h, decide_eq_false (fun h => he h.symm), Bool.false_or])
        have hq : ([115, 117, 98] == s.toList) = false := by rw [← (show wd2.toList = [115, 117, 98] by rw [ByteArray.toList_eq])]; exact eqs_f he
        clear hk hw he
        go_wp2
        go_roundg (8 - (2 + 1))
        case measure => have := HK.out; omega
        case rel => exact ⟨2 + 1, by omega, rfl, HE.out, more_of (by repeat (first | (with_reducible exact Below.refl _ _) | (with_reducible exact bl_mm) | (with_reducible refine bl_dr ?_) | (with_reducible refine bl_drN ?_ _) | (with_reducible refine bl_al ?_ _) | (with_reducible refine bl_more ?_ _ _)))⟩
    · by_cases he : wd3 = s
      · have HE : Hid (wordB s = true) := hid (by rw [show wordB s = _ from HW.out, ← he]; rfl)
        have hq : ([117, 110, 100, 111] == s.toList) = true := by rw [← (show wd3.toList = [117, 110, 100, 111] by rw [ByteArray.toList_eq])]; exact eqs_t he
        clear hk hw he
        go_wp2
        go_ret
        exact ⟨by rw [HE.out]; rfl, (by repeat (first | (with_reducible exact Below.refl _ _) | (with_reducible exact bl_mm) | (with_reducible refine bl_dr ?_) | (with_reducible refine bl_drN ?_ _) | (with_reducible refine bl_al ?_ _) | (with_reducible refine bl_more ?_ _ _)))⟩
      · have HE : Hid (EqW s (3 + 1)) := hid (by
          show wordB s = wordF s (3 + 1)
          have h : wordF s 3 = (decide (s = wd3) || wordF s (3 + 1)) := rfl
          rw [show wordB s = _ from HW.out, h, decide_eq_false (fun h => he h.symm), Bool.false_or])
        have hq : ([117, 110, 100, 111] == s.toList) = false := by rw [← (show wd3.toList = [117, 110, 100, 111] by rw [ByteArray.toList_eq])]; exact eqs_f he
        clear hk hw he
        go_wp2
        go_roundg (8 - (3 + 1))
        case measure => have := HK.out; omega
        case rel => exact ⟨3 + 1, by omega, rfl, HE.out, more_of (by repeat (first | (with_reducible exact Below.refl _ _) | (with_reducible exact bl_mm) | (with_reducible refine bl_dr ?_) | (with_reducible refine bl_drN ?_ _) | (with_reducible refine bl_al ?_ _) | (with_reducible refine bl_more ?_ _ _)))⟩
    · by_cases he : wd4 = s
      · have HE : Hid (wordB s = true) := hid (by rw [show wordB s = _ from HW.out, ← he]; rfl)
        have hq : ([97, 102, 116, 101, 114] == s.toList) = true := by rw [← (show wd4.toList = [97, 102, 116, 101, 114] by rw [ByteArray.toList_eq])]; exact eqs_t he
        clear hk hw he
        go_wp2
        go_ret
        exact ⟨by rw [HE.out]; rfl, (by repeat (first | (with_reducible exact Below.refl _ _) | (with_reducible exact bl_mm) | (with_reducible refine bl_dr ?_) | (with_reducible refine bl_drN ?_ _) | (with_reducible refine bl_al ?_ _) | (with_reducible refine bl_more ?_ _ _)))⟩
      · have HE : Hid (EqW s (4 + 1)) := hid (by
          show wordB s = wordF s (4 + 1)
          have h : wordF s 4 = (decide (s = wd4) || wordF s (4 + 1)) := rfl
          rw [show wordB s = _ from HW.out, h, decide_eq_false (fun h => he h.symm), Bool.false_or])
        have hq : ([97, 102, 116, 101, 114] == s.toList) = false := by rw [← (show wd4.toList = [97, 102, 116, 101, 114] by rw [ByteArray.toList_eq])]; exact eqs_f he
        clear hk hw he
        go_wp2
        go_roundg (8 - (4 + 1))
        case measure => have := HK.out; omega
        case rel => exact ⟨4 + 1, by omega, rfl, HE.out, more_of (by repeat (first | (with_reducible exact Below.refl _ _) | (with_reducible exact bl_mm) | (with_reducible refine bl_dr ?_) | (with_reducible refine bl_drN ?_ _) | (with_reducible refine bl_al ?_ _) | (with_reducible refine bl_more ?_ _ _)))⟩
    · by_cases he : wd5 = s
      · have HE : Hid (wordB s = true) := hid (by rw [show wordB s = _ from HW.out, ← he]; rfl)
        have hq : ([118, 105, 116, 97, 108] == s.toList) = true := by rw [← (show wd5.toList = [118, 105, 116, 97, 108] by rw [ByteArray.toList_eq])]; exact eqs_t he
        clear hk hw he
        go_wp2
        go_ret
        exact ⟨by rw [HE.out]; rfl, (by repeat (first | (with_reducible exact Below.refl _ _) | (with_reducible exact bl_mm) | (with_reducible refine bl_dr ?_) | (with_reducible refine bl_drN ?_ _) | (with_reducible refine bl_al ?_ _) | (with_reducible refine bl_more ?_ _ _)))⟩
      · have HE : Hid (EqW s (5 + 1)) := hid (by
          show wordB s = wordF s (5 + 1)
          have h : wordF s 5 = (decide (s = wd5) || wordF s (5 + 1)) := rfl
          rw [show wordB s = _ from HW.out, h, decide_eq_false (fun h => he h.symm), Bool.false_or])
        have hq : ([118, 105, 116, 97, 108] == s.toList) = false := by rw [← (show wd5.toList = [118, 105, 116, 97, 108] by rw [ByteArray.toList_eq])]; exact eqs_f he
        clear hk hw he
        go_wp2
        go_roundg (8 - (5 + 1))
        case measure => have := HK.out; omega
        case rel => exact ⟨5 + 1, by omega, rfl, HE.out, more_of (by repeat (first | (with_reducible exact Below.refl _ _) | (with_reducible exact bl_mm) | (with_reducible refine bl_dr ?_) | (with_reducible refine bl_drN ?_ _) | (with_reducible refine bl_al ?_ _) | (with_reducible refine bl_more ?_ _ _)))⟩
    · by_cases he : wd6 = s
      · have HE : Hid (wordB s = true) := hid (by rw [show wordB s = _ from HW.out, ← he]; rfl)
        have hq : ([108, 111, 111, 115, 101] == s.toList) = true := by rw [← (show wd6.toList = [108, 111, 111, 115, 101] by rw [ByteArray.toList_eq])]; exact eqs_t he
        clear hk hw he
        go_wp2
        go_ret
        exact ⟨by rw [HE.out]; rfl, (by repeat (first | (with_reducible exact Below.refl _ _) | (with_reducible exact bl_mm) | (with_reducible refine bl_dr ?_) | (with_reducible refine bl_drN ?_ _) | (with_reducible refine bl_al ?_ _) | (with_reducible refine bl_more ?_ _ _)))⟩
      · have HE : Hid (EqW s (6 + 1)) := hid (by
          show wordB s = wordF s (6 + 1)
          have h : wordF s 6 = (decide (s = wd6) || wordF s (6 + 1)) := rfl
          rw [show wordB s = _ from HW.out, h, decide_eq_false (fun h => he h.symm), Bool.false_or])
        have hq : ([108, 111, 111, 115, 101] == s.toList) = false := by rw [← (show wd6.toList = [108, 111, 111, 115, 101] by rw [ByteArray.toList_eq])]; exact eqs_f he
        clear hk hw he
        go_wp2
        go_roundg (8 - (6 + 1))
        case measure => have := HK.out; omega
        case rel => exact ⟨6 + 1, by omega, rfl, HE.out, more_of (by repeat (first | (with_reducible exact Below.refl _ _) | (with_reducible exact bl_mm) | (with_reducible refine bl_dr ?_) | (with_reducible refine bl_drN ?_ _) | (with_reducible refine bl_al ?_ _) | (with_reducible refine bl_more ?_ _ _)))⟩
    · by_cases he : wd7 = s
      · have HE : Hid (wordB s = true) := hid (by rw [show wordB s = _ from HW.out, ← he]; rfl)
        have hq : ([111, 114] == s.toList) = true := by rw [← (show wd7.toList = [111, 114] by rw [ByteArray.toList_eq])]; exact eqs_t he
        clear hk hw he
        go_wp2
        go_ret
        exact ⟨by rw [HE.out]; rfl, (by repeat (first | (with_reducible exact Below.refl _ _) | (with_reducible exact bl_mm) | (with_reducible refine bl_dr ?_) | (with_reducible refine bl_drN ?_ _) | (with_reducible refine bl_al ?_ _) | (with_reducible refine bl_more ?_ _ _)))⟩
      · have HE : Hid (EqW s (7 + 1)) := hid (by
          show wordB s = wordF s (7 + 1)
          have h : wordF s 7 = (decide (s = wd7) || wordF s (7 + 1)) := rfl
          rw [show wordB s = _ from HW.out, h, decide_eq_false (fun h => he h.symm), Bool.false_or])
        have hq : ([111, 114] == s.toList) = false := by rw [← (show wd7.toList = [111, 114] by rw [ByteArray.toList_eq])]; exact eqs_f he
        clear hk hw he
        go_wp2
        go_roundg (8 - (7 + 1))
        case measure => have := HK.out; omega
        case rel => exact ⟨7 + 1, by omega, rfl, HE.out, more_of (by repeat (first | (with_reducible exact Below.refl _ _) | (with_reducible exact bl_mm) | (with_reducible refine bl_dr ?_) | (with_reducible refine bl_drN ?_ _) | (with_reducible refine bl_al ?_ _) | (with_reducible refine bl_more ?_ _ _)))⟩
end Go.Proofs.Ytidilpciolladaa

/- Twins by fuel, that the kernel evaluates. -/
namespace Go.Proofs.Ytidilpciolladaa
open Go.RowKit

def runF (s : ByteArray) : Nat → Nat → Nat
  | 0, p => p
  | n + 1, p => if p < s.size then (if bad s p = true then p else if namC (Utf8.decode s p).1 = true then runF s n (p + max 1 (Utf8.decode s p).2) else p) else p
theorem runF_eq (s : ByteArray) : ∀ n p, s.size - p < n → runF s n p = runE s p := by
  intro n
  induction n with
  | zero => intro p h; omega
  | succ n ih =>
    intro p h
    rw [runF, runE]
    by_cases hp : p < s.size
    · rw [if_pos hp, dif_pos hp, ih _ (by omega)]
    · rw [if_neg hp, dif_neg hp]
def dLf (s : ByteArray) : Nat → Nat → Bool → List Tok → List Tok ⊕ (Int × Int)
  | 0, _, _, out => .inl out
  | n + 1, p, rem, out =>
    if p < s.size then
      if bad s p = true then .inr (p, 4)
      else
        if (rem || ((Utf8.decode s p).1 : Int) == 35) = true then dLf s n (p + max 1 (Utf8.decode s p).2) (((Utf8.decode s p).1 : Int) != 10) out
        else if cls (Utf8.decode s p).1 = 1 then (if (runF s (s.size + 1) p : Int) - p > 24 then .inr (p, 5) else dLf s n (max (p + 1) (runF s (s.size + 1) p)) rem (out ++ [⟨1, s.extract p (runF s (s.size + 1) p), p⟩]))
        else if markD (Utf8.decode s p).1 = true then dLf s n (p + max 1 (Utf8.decode s p).2) rem (out ++ [⟨2, s.extract p (p + max 1 (Utf8.decode s p).2), p⟩])
        else if cls (Utf8.decode s p).1 = 3 then dLf s n (p + max 1 (Utf8.decode s p).2) rem out
        else .inr (p, 10)
    else .inl out
theorem dLf_eq (s : ByteArray) : ∀ n p rem out, s.size - p < n → dLf s n p rem out = dL s p rem out := by
  intro n
  induction n with
  | zero => intro p _ _ h; omega
  | succ n ih =>
    intro p rem out h
    rw [dLf, dL]
    by_cases hp : p < s.size
    · have h1 : s.size - (p + max 1 (Utf8.decode s p).2) < n := by omega
      have h2 : s.size - max (p + 1) (runE s p) < n := by omega
      rw [if_pos hp, dif_pos hp, runF_eq s _ p (by omega), ih _ _ _ h1, ih _ _ _ h2, ih _ _ _ h1, ih _ _ _ h1]
    · rw [if_neg hp, dif_neg hp]
theorem dR_f (s : ByteArray) : dR s = match dLf s (s.size + 1) 0 false [] with | .inl l => (l, s.size, 0) | .inr (p, e) => ([], p, e) := by
  rw [dLf_eq s _ _ _ _ (by omega)]
  rfl
theorem name_f (s : ByteArray) : nameB s = (decide (s.size ≠ 0) && decide (s.size ≤ 24) && decide (runF s (s.size + 1) 0 = s.size) && decide (cls (ptR s 0) = 1)) := by
  rw [name_eq, nameD, runF_eq s _ _ (by omega)]
end Go.Proofs.Ytidilpciolladaa
