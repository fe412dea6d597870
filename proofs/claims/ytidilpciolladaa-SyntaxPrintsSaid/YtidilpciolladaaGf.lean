/- Which nodes may be: the program's words. -/
import Derived.Test.YtidilpciolladaaGe
/- Which nodes may be: the program's words. -/
namespace Go.Proofs.Ytidilpciolladaa
open Go.RowKit

mutual
/-- May a node be? -/
def fitN : Nd → Bool
  | .mk nm un af sb vt al => nmR nm && af.all nmR && (if sb then decide (un.size = 0) && (fitA al && !al.isEmpty) else !vt && al.isEmpty && (decide (un.size = 0) || nmR un))
def fitA : List (List Nd) → Bool
  | [] => true
  | b :: l => fitL b && fitA l
def fitL : List Nd → Bool
  | [] => true
  | n :: l => fitN n && fitL l
end
def rightB (l : List (List Nd)) : Bool := fitA l && !l.isEmpty
theorem fitN_eq (n : Nd) : fitN n = (nmR n.name && n.after.all nmR && (if n.sub then decide (n.undo.size = 0) && rightB n.alts else !n.vital && n.alts.isEmpty && (decide (n.undo.size = 0) || nmR n.undo))) := by cases n; rw [fitN]; rfl
theorem fitL_all (l : List Nd) : fitL l = l.all fitN := by
  induction l with
  | nil => rfl
  | cons x l ih => rw [fitL, ih]; rfl
theorem fitA_all (l : List (List Nd)) : fitA l = l.all fitL := by
  induction l with
  | nil => rfl
  | cons x l ih => rw [fitA, ih]; rfl
theorem all_false {α : Type} {p : α → Bool} {l : List α} {i : Nat} {x : α} (h : l[i]? = some x) (hp : p x = false) : l.all p = false := by
  rw [List.all_eq_false]
  exact ⟨x, List.mem_of_getElem? h, by rw [hp]; decide⟩
theorem all_true {α : Type} {p : α → Bool} {l : List α} (h : ∀ (i : Nat) (x : α), l[i]? = some x → p x = true) : l.all p = true := by
  rw [List.all_eq_true]
  intro x hx
  obtain ⟨i, hi⟩ := List.mem_iff_getElem?.1 hx
  exact h i x hi
theorem stray_any {w : World} {s : ByteArray} : Calls Try.prog 78 #[.string s] w fun e w' => e = .returned (.bool (!nmR s)) ∧ Below w.heap.size w w' := by
  obtain ⟨b, hb⟩ : ∃ b, nmR s = b := ⟨_, rfl⟩
  rw [hb]
  have HNM := hid hb
  clear hb
  go_enter Try.func78, Try.ntmps78
  go_wp2_with (first | (go_at_call 34; refine names_any.mono ?_; rw [HNM.out]; rintro e w1 ⟨rfl, hb1⟩; obtain ⟨ex1, dx1, rfl⟩ := more_of hb1; clear hb1))
  go_ret
  exact ⟨rfl, (by repeat (first | (with_reducible exact Below.refl _ _) | (with_reducible exact bl_mm) | (with_reducible refine bl_dr ?_) | (with_reducible refine bl_drN ?_ _) | (with_reducible refine bl_al ?_ _) | (with_reducible refine bl_more ?_ _ _)))⟩
set_option maxHeartbeats 1000000 in
theorem idxS_any {w : World} {K : Nat → Prop} {v : Value} {l : List ByteArray} (hv : Enc.str.Row K w v l) : Calls Try.prog 92 #[v, .func (.func 78) #[] #[]] w fun e w' => (∃ r : Int, e = .returned (.int .i64 r) ∧ decide (0 ≤ r) = !l.all nmR) ∧ Below w.heap.size w w' := by
  obtain ⟨A, cp, rfl, hl1, hl2⟩ := hv.form
  have HV := hid hv
  have hlx : (l.length : Int) ≤ 9223372036854775807 := by unfold maxLen at hl2; omega
  clear hv hl1 hl2
  go_enter Try.func92, Try.ntmps92
  go_wp2
  go_loopg [8] l.length (fun k vi wr => ∃ i : Nat, i + k = l.length ∧ vi = .int .i64 (i : Int) ∧ (∀ (j : Nat) x, j < i → l[j]? = some x → nmR x = true) ∧ ∃ ex dx, wr = more w ex dx)
  case atStart => exact ⟨0, by omega, rfl, fun j x h => by omega, more_of (by repeat (first | (with_reducible exact Below.refl _ _) | (with_reducible exact bl_mm) | (with_reducible refine bl_dr ?_) | (with_reducible refine bl_drN ?_ _) | (with_reducible refine bl_al ?_ _) | (with_reducible refine bl_more ?_ _ _)))⟩
  case round =>
    obtain ⟨i, hk, rfl, hall, ex, dx, rfl⟩ := hrel
    have HK := hid hk
    have HALL := hid hall
    by_cases hil : i < l.length
    · obtain ⟨x, hx⟩ := get_lt hil
      have HX := hid hx
      have HI := hid (And.intro hil trivial)
      have hi0 : (0 : Int) ≤ i := by omega
      have hi1 : (i : Int) < l.length := by omega
      obtain ⟨b, off, rfl, _, hbl, x1⟩ := row_str HV.out hx
      cases hf : nmR x with
      | true =>
        have HNM := hid hf
        clear hk hall hil hx hf
        go_wp2_with (first | (go_at_call 78; refine stray_any.mono ?_; rw [HNM.out]; rintro e w1 ⟨rfl, hb1⟩; obtain ⟨ex1, dx1, rfl⟩ := more_of hb1; clear hb1))
        go_roundg (l.length - (i + 1))
        case measure => have := HK.out; have := HI.out.1; omega
        case rel =>
          refine ⟨i + 1, by have := HI.out.1; omega, rfl, fun j y hj hy => ?_, more_of (by repeat (first | (with_reducible exact Below.refl _ _) | (with_reducible exact bl_mm) | (with_reducible refine bl_dr ?_) | (with_reducible refine bl_drN ?_ _) | (with_reducible refine bl_al ?_ _) | (with_reducible refine bl_more ?_ _ _)))⟩
          rcases Nat.lt_or_ge j i with h | h
          · exact HALL.out j y h hy
          · obtain rfl : j = i := by omega
            rw [HX.out] at hy
            obtain rfl := Option.some.inj hy
            exact HNM.out
      | false =>
        have HNM := hid hf
        clear hk hall hil hx hf
        go_wp2_with (first | (go_at_call 78; refine stray_any.mono ?_; rw [HNM.out]; rintro e w1 ⟨rfl, hb1⟩; obtain ⟨ex1, dx1, rfl⟩ := more_of hb1; clear hb1))
        go_ret
        exact ⟨⟨(i : Int), rfl, by rw [all_false HX.out HNM.out]; exact decide_eq_true (by omega)⟩, (by repeat (first | (with_reducible exact Below.refl _ _) | (with_reducible exact bl_mm) | (with_reducible refine bl_dr ?_) | (with_reducible refine bl_drN ?_ _) | (with_reducible refine bl_al ?_ _) | (with_reducible refine bl_more ?_ _ _)))⟩
    · have hje : i = l.length := by omega
      subst hje
      have hnl : ¬ (l.length : Int) < l.length := by omega
      clear hk hall hil
      go_wp2
      go_ret
      exact ⟨⟨-1, rfl, by rw [all_true (fun j x hj => HALL.out j x (get_len hj) hj)]; rfl⟩, (by repeat (first | (with_reducible exact Below.refl _ _) | (with_reducible exact bl_mm) | (with_reducible refine bl_dr ?_) | (with_reducible refine bl_drN ?_ _) | (with_reducible refine bl_al ?_ _) | (with_reducible refine bl_more ?_ _ _)))⟩
theorem hasS_any {w : World} {K : Nat → Prop} {v : Value} {l : List ByteArray} (hv : Enc.str.Row K w v l) : Calls Try.prog 79 #[v, .func (.func 78) #[] #[]] w fun e w' => e = .returned (.bool (!l.all nmR)) ∧ Below w.heap.size w w' := by
  obtain ⟨A, cp, rfl, _, _⟩ := hv.form
  have HV := hid hv
  clear hv
  cases hb : l.all nmR with
  | true =>
    have HB := hid hb
    clear hb
    go_enter Try.func79, Try.ntmps79
    go_wp2_with (first | (go_at_call 92; refine (idxS_any (HV.out.below (by repeat (first | (with_reducible exact Below.refl _ _) | (with_reducible exact bl_mm) | (with_reducible refine bl_dr ?_) | (with_reducible refine bl_drN ?_ _) | (with_reducible refine bl_al ?_ _) | (with_reducible refine bl_more ?_ _ _))))).mono ?_; rw [HB.out]; rintro e w1 ⟨⟨r, rfl, hr⟩, hb1⟩; have hr := of_decide_eq_false hr; obtain ⟨ex1, dx1, rfl⟩ := more_of hb1; clear hb1))
    go_ret
    exact ⟨rfl, (by repeat (first | (with_reducible exact Below.refl _ _) | (with_reducible exact bl_mm) | (with_reducible refine bl_dr ?_) | (with_reducible refine bl_drN ?_ _) | (with_reducible refine bl_al ?_ _) | (with_reducible refine bl_more ?_ _ _)))⟩
  | false =>
    have HB := hid hb
    clear hb
    go_enter Try.func79, Try.ntmps79
    go_wp2_with (first | (go_at_call 92; refine (idxS_any (HV.out.below (by repeat (first | (with_reducible exact Below.refl _ _) | (with_reducible exact bl_mm) | (with_reducible refine bl_dr ?_) | (with_reducible refine bl_drN ?_ _) | (with_reducible refine bl_al ?_ _) | (with_reducible refine bl_more ?_ _ _))))).mono ?_; rw [HB.out]; rintro e w1 ⟨⟨r, rfl, hr⟩, hb1⟩; have hr := of_decide_eq_true hr; obtain ⟨ex1, dx1, rfl⟩ := more_of hb1; clear hb1))
    go_ret
    exact ⟨rfl, (by repeat (first | (with_reducible exact Below.refl _ _) | (with_reducible exact bl_mm) | (with_reducible refine bl_dr ?_) | (with_reducible refine bl_drN ?_ _) | (with_reducible refine bl_al ?_ _) | (with_reducible refine bl_more ?_ _ _)))⟩
end Go.Proofs.Ytidilpciolladaa

/- fits, bodies, Check. -/
namespace Go.Proofs.Ytidilpciolladaa
open Go.RowKit

/-- What 'bodies' tells of bodies at most m deep. -/
def BodP (m : Nat) : Prop := ∀ (w : World) (K : Nat → Prop) (v : Value) (l : List (List Nd)), (bodyE m).Row K w v l → Calls Try.prog 35 #[v] w fun e w' => e = .returned (.bool (rightB l)) ∧ Below w.heap.size w w'
theorem BodP.at {m : Nat} (h : BodP m) {w : World} {K : Nat → Prop} {v : Value} {l : List (List Nd)} (hr : (bodyE m).Row K w v l) : Calls Try.prog 35 #[v] w fun e w' => e = .returned (.bool (rightB l)) ∧ Below w.heap.size w w' := h w K v l hr
set_option maxRecDepth 8000 in
set_option maxHeartbeats 4000000 in
theorem fits_of {m : Nat} (hP : BodP m) {w : World} {K : Nat → Prop} {nm un : ByteArray} {af : List ByteArray} {sb vt : Bool} {al : List (List Nd)} {A1 A2 : Option Addr} {n1 c1 n2 c2 : Nat} (h1 : Enc.str.Row K w (.slice A1 n1 c1) af) (h2 : (bodyE m).Row K w (.slice A2 n2 c2) al) :
    Calls Try.prog 59 #[.agg #[.string nm, .string un, .slice A1 n1 c1, .bool sb, .bool vt, .slice A2 n2 c2]] w fun e w' => e = .returned (.bool (fitN (.mk nm un af sb vt al))) ∧ Below w.heap.size w w' := by
  obtain ⟨_, _, he2, _, _⟩ := h2.form
  have hn2 : n2 = al.length := (Value.slice.inj he2).2.1
  subst hn2
  have HP := hid hP
  have HR1 := hid h1
  have HR2 := hid h2
  rw [fitN_eq]
  show Calls Try.prog 59 _ w fun e w' => e = .returned (.bool (nmR nm && af.all nmR && (if sb then decide (un.size = 0) && rightB al else !vt && al.isEmpty && (decide (un.size = 0) || nmR un)))) ∧ _
  clear hP h1 h2 he2
  cases hnm : nmR nm with
  | false =>
    have HNM := hid hnm
    clear hnm
    go_enter Try.func59, Try.ntmps59
    go_wp2_with (first | (go_at_call 34; refine names_any.mono ?_; rw [HNM.out]; rintro e w1 ⟨rfl, hb1⟩; obtain ⟨ex1, dx1, rfl⟩ := more_of hb1; clear hb1))
    all_goals (go_ret; exact ⟨rfl, (by repeat (first | (with_reducible exact Below.refl _ _) | (with_reducible exact bl_mm) | (with_reducible refine bl_dr ?_) | (with_reducible refine bl_drN ?_ _) | (with_reducible refine bl_al ?_ _) | (with_reducible refine bl_more ?_ _ _)))⟩)
  | true =>
  have HNM := hid hnm
  clear hnm
  cases hal : af.all nmR with
  | false =>
    have HAL := hid hal
    clear hal
    go_enter Try.func59, Try.ntmps59
    go_wp2_with (first | (go_at_call 34; refine names_any.mono ?_; rw [HNM.out]; rintro e w1 ⟨rfl, hb1⟩; obtain ⟨ex1, dx1, rfl⟩ := more_of hb1; clear hb1) | (go_at_call 79; refine (hasS_any (HR1.out.below (by repeat (first | (with_reducible exact Below.refl _ _) | (with_reducible exact bl_mm) | (with_reducible refine bl_dr ?_) | (with_reducible refine bl_drN ?_ _) | (with_reducible refine bl_al ?_ _) | (with_reducible refine bl_more ?_ _ _))))).mono ?_; rw [HAL.out]; rintro e w2 ⟨rfl, hb2⟩; obtain ⟨ex2, dx2, rfl⟩ := more_of hb2; clear hb2))
    all_goals (go_ret; exact ⟨rfl, (by repeat (first | (with_reducible exact Below.refl _ _) | (with_reducible exact bl_mm) | (with_reducible refine bl_dr ?_) | (with_reducible refine bl_drN ?_ _) | (with_reducible refine bl_al ?_ _) | (with_reducible refine bl_more ?_ _ _)))⟩)
  | true =>
  have HAL := hid hal
  clear hal
  cases sb with
  | true =>
    by_cases hu : un.size = 0
    · have hs := emp_t hu
      rw [decide_eq_true hu]
      clear hu
      cases hrb : rightB al with
      | true =>
        have HRB := hid hrb
        clear hrb
        go_enter Try.func59, Try.ntmps59
        go_wp2_with (first | (go_at_call 34; refine names_any.mono ?_; rw [HNM.out]; rintro e w1 ⟨rfl, hb1⟩; obtain ⟨ex1, dx1, rfl⟩ := more_of hb1; clear hb1) | (go_at_call 79; refine (hasS_any (HR1.out.below (by repeat (first | (with_reducible exact Below.refl _ _) | (with_reducible exact bl_mm) | (with_reducible refine bl_dr ?_) | (with_reducible refine bl_drN ?_ _) | (with_reducible refine bl_al ?_ _) | (with_reducible refine bl_more ?_ _ _))))).mono ?_; rw [HAL.out]; rintro e w2 ⟨rfl, hb2⟩; obtain ⟨ex2, dx2, rfl⟩ := more_of hb2; clear hb2) | (go_at_call 35; refine (BodP.at HP.out (HR2.out.below (by repeat (first | (with_reducible exact Below.refl _ _) | (with_reducible exact bl_mm) | (with_reducible refine bl_dr ?_) | (with_reducible refine bl_drN ?_ _) | (with_reducible refine bl_al ?_ _) | (with_reducible refine bl_more ?_ _ _))))).mono ?_; rw [HRB.out]; rintro e w3 ⟨rfl, hb3⟩; obtain ⟨ex3, dx3, rfl⟩ := more_of hb3; clear hb3))
        all_goals (go_ret; exact ⟨rfl, (by repeat (first | (with_reducible exact Below.refl _ _) | (with_reducible exact bl_mm) | (with_reducible refine bl_dr ?_) | (with_reducible refine bl_drN ?_ _) | (with_reducible refine bl_al ?_ _) | (with_reducible refine bl_more ?_ _ _)))⟩)
      | false =>
        have HRB := hid hrb
        clear hrb
        go_enter Try.func59, Try.ntmps59
        go_wp2_with (first | (go_at_call 34; refine names_any.mono ?_; rw [HNM.out]; rintro e w1 ⟨rfl, hb1⟩; obtain ⟨ex1, dx1, rfl⟩ := more_of hb1; clear hb1) | (go_at_call 79; refine (hasS_any (HR1.out.below (by repeat (first | (with_reducible exact Below.refl _ _) | (with_reducible exact bl_mm) | (with_reducible refine bl_dr ?_) | (with_reducible refine bl_drN ?_ _) | (with_reducible refine bl_al ?_ _) | (with_reducible refine bl_more ?_ _ _))))).mono ?_; rw [HAL.out]; rintro e w2 ⟨rfl, hb2⟩; obtain ⟨ex2, dx2, rfl⟩ := more_of hb2; clear hb2) | (go_at_call 35; refine (BodP.at HP.out (HR2.out.below (by repeat (first | (with_reducible exact Below.refl _ _) | (with_reducible exact bl_mm) | (with_reducible refine bl_dr ?_) | (with_reducible refine bl_drN ?_ _) | (with_reducible refine bl_al ?_ _) | (with_reducible refine bl_more ?_ _ _))))).mono ?_; rw [HRB.out]; rintro e w3 ⟨rfl, hb3⟩; obtain ⟨ex3, dx3, rfl⟩ := more_of hb3; clear hb3))
        all_goals (go_ret; exact ⟨rfl, (by repeat (first | (with_reducible exact Below.refl _ _) | (with_reducible exact bl_mm) | (with_reducible refine bl_dr ?_) | (with_reducible refine bl_drN ?_ _) | (with_reducible refine bl_al ?_ _) | (with_reducible refine bl_more ?_ _ _)))⟩)
    · have hs := emp_f hu
      rw [decide_eq_false hu]
      clear hu
      go_enter Try.func59, Try.ntmps59
      go_wp2_with (first | (go_at_call 34; refine names_any.mono ?_; rw [HNM.out]; rintro e w1 ⟨rfl, hb1⟩; obtain ⟨ex1, dx1, rfl⟩ := more_of hb1; clear hb1) | (go_at_call 79; refine (hasS_any (HR1.out.below (by repeat (first | (with_reducible exact Below.refl _ _) | (with_reducible exact bl_mm) | (with_reducible refine bl_dr ?_) | (with_reducible refine bl_drN ?_ _) | (with_reducible refine bl_al ?_ _) | (with_reducible refine bl_more ?_ _ _))))).mono ?_; rw [HAL.out]; rintro e w2 ⟨rfl, hb2⟩; obtain ⟨ex2, dx2, rfl⟩ := more_of hb2; clear hb2))
      all_goals (go_ret; exact ⟨rfl, (by repeat (first | (with_reducible exact Below.refl _ _) | (with_reducible exact bl_mm) | (with_reducible refine bl_dr ?_) | (with_reducible refine bl_drN ?_ _) | (with_reducible refine bl_al ?_ _) | (with_reducible refine bl_more ?_ _ _)))⟩)
  | false =>
    cases vt with
    | true =>
      go_enter Try.func59, Try.ntmps59
      go_wp2_with (first | (go_at_call 34; refine names_any.mono ?_; rw [HNM.out]; rintro e w1 ⟨rfl, hb1⟩; obtain ⟨ex1, dx1, rfl⟩ := more_of hb1; clear hb1) | (go_at_call 79; refine (hasS_any (HR1.out.below (by repeat (first | (with_reducible exact Below.refl _ _) | (with_reducible exact bl_mm) | (with_reducible refine bl_dr ?_) | (with_reducible refine bl_drN ?_ _) | (with_reducible refine bl_al ?_ _) | (with_reducible refine bl_more ?_ _ _))))).mono ?_; rw [HAL.out]; rintro e w2 ⟨rfl, hb2⟩; obtain ⟨ex2, dx2, rfl⟩ := more_of hb2; clear hb2))
      all_goals (go_ret; exact ⟨rfl, (by repeat (first | (with_reducible exact Below.refl _ _) | (with_reducible exact bl_mm) | (with_reducible refine bl_dr ?_) | (with_reducible refine bl_drN ?_ _) | (with_reducible refine bl_al ?_ _) | (with_reducible refine bl_more ?_ _ _)))⟩)
    | false =>
      cases hae : al.isEmpty with
      | false =>
        have hn : ((al.length : Int) == 0) = false := by
          rw [beq_eq_false_iff_ne]
          intro h
          have : al = [] := List.eq_nil_of_length_eq_zero (by omega)
          rw [this] at hae
          cases hae
        clear hae
        go_enter Try.func59, Try.ntmps59
        go_wp2_with (first | (go_at_call 34; refine names_any.mono ?_; rw [HNM.out]; rintro e w1 ⟨rfl, hb1⟩; obtain ⟨ex1, dx1, rfl⟩ := more_of hb1; clear hb1) | (go_at_call 79; refine (hasS_any (HR1.out.below (by repeat (first | (with_reducible exact Below.refl _ _) | (with_reducible exact bl_mm) | (with_reducible refine bl_dr ?_) | (with_reducible refine bl_drN ?_ _) | (with_reducible refine bl_al ?_ _) | (with_reducible refine bl_more ?_ _ _))))).mono ?_; rw [HAL.out]; rintro e w2 ⟨rfl, hb2⟩; obtain ⟨ex2, dx2, rfl⟩ := more_of hb2; clear hb2))
        all_goals (go_ret; exact ⟨rfl, (by repeat (first | (with_reducible exact Below.refl _ _) | (with_reducible exact bl_mm) | (with_reducible refine bl_dr ?_) | (with_reducible refine bl_drN ?_ _) | (with_reducible refine bl_al ?_ _) | (with_reducible refine bl_more ?_ _ _)))⟩)
      | true =>
        obtain rfl := List.isEmpty_iff.1 hae
        clear hae
        by_cases hu : un.size = 0
        · have hs := emp_t hu
          rw [decide_eq_true hu]
          clear hu
          go_enter Try.func59, Try.ntmps59
          go_wp2_with (first | (go_at_call 34; refine names_any.mono ?_; rw [HNM.out]; rintro e w1 ⟨rfl, hb1⟩; obtain ⟨ex1, dx1, rfl⟩ := more_of hb1; clear hb1) | (go_at_call 79; refine (hasS_any (HR1.out.below (by repeat (first | (with_reducible exact Below.refl _ _) | (with_reducible exact bl_mm) | (with_reducible refine bl_dr ?_) | (with_reducible refine bl_drN ?_ _) | (with_reducible refine bl_al ?_ _) | (with_reducible refine bl_more ?_ _ _))))).mono ?_; rw [HAL.out]; rintro e w2 ⟨rfl, hb2⟩; obtain ⟨ex2, dx2, rfl⟩ := more_of hb2; clear hb2))
          all_goals (go_ret; exact ⟨rfl, (by repeat (first | (with_reducible exact Below.refl _ _) | (with_reducible exact bl_mm) | (with_reducible refine bl_dr ?_) | (with_reducible refine bl_drN ?_ _) | (with_reducible refine bl_al ?_ _) | (with_reducible refine bl_more ?_ _ _)))⟩)
        · have hs := emp_f hu
          rw [decide_eq_false hu]
          clear hu
          cases hnu : nmR un with
          | true =>
            have HNU := hid hnu
            have M1 := hid trivial
            clear hnu
            go_enter Try.func59, Try.ntmps59
            go_upto_region 6 with (first | (go_at_call 34; refine names_any.mono ?_; rw [HNM.out]; rintro e w1 ⟨rfl, hb1⟩; obtain ⟨ex1, dx1, rfl⟩ := more_of hb1; clear hb1) | (go_at_call 79; refine (hasS_any (HR1.out.below (by repeat (first | (with_reducible exact Below.refl _ _) | (with_reducible exact bl_mm) | (with_reducible refine bl_dr ?_) | (with_reducible refine bl_drN ?_ _) | (with_reducible refine bl_al ?_ _) | (with_reducible refine bl_more ?_ _ _))))).mono ?_; rw [HAL.out]; rintro e w2 ⟨rfl, hb2⟩; obtain ⟨ex2, dx2, rfl⟩ := more_of hb2; clear hb2))
            go_wp2_with (first | (go_at_call 34; refine names_any.mono ?_; rw [HNU.out]; rintro e w4 ⟨rfl, hb4⟩; obtain ⟨ex4, dx4, rfl⟩ := more_of hb4; clear hb4))
            all_goals (go_ret; exact ⟨rfl, (by repeat (first | (with_reducible exact Below.refl _ _) | (with_reducible exact bl_mm) | (with_reducible refine bl_dr ?_) | (with_reducible refine bl_drN ?_ _) | (with_reducible refine bl_al ?_ _) | (with_reducible refine bl_more ?_ _ _)))⟩)
          | false =>
            have HNU := hid hnu
            clear hnu
            go_enter Try.func59, Try.ntmps59
            go_upto_region 6 with (first | (go_at_call 34; refine names_any.mono ?_; rw [HNM.out]; rintro e w1 ⟨rfl, hb1⟩; obtain ⟨ex1, dx1, rfl⟩ := more_of hb1; clear hb1) | (go_at_call 79; refine (hasS_any (HR1.out.below (by repeat (first | (with_reducible exact Below.refl _ _) | (with_reducible exact bl_mm) | (with_reducible refine bl_dr ?_) | (with_reducible refine bl_drN ?_ _) | (with_reducible refine bl_al ?_ _) | (with_reducible refine bl_more ?_ _ _))))).mono ?_; rw [HAL.out]; rintro e w2 ⟨rfl, hb2⟩; obtain ⟨ex2, dx2, rfl⟩ := more_of hb2; clear hb2))
            go_wp2_with (first | (go_at_call 34; refine names_any.mono ?_; rw [HNU.out]; rintro e w4 ⟨rfl, hb4⟩; obtain ⟨ex4, dx4, rfl⟩ := more_of hb4; clear hb4))
            all_goals (go_ret; exact ⟨rfl, (by repeat (first | (with_reducible exact Below.refl _ _) | (with_reducible exact bl_mm) | (with_reducible refine bl_dr ?_) | (with_reducible refine bl_drN ?_ _) | (with_reducible refine bl_al ?_ _) | (with_reducible refine bl_more ?_ _ _)))⟩)
theorem bad_of {m : Nat} (hP : BodP m) {w : World} {K : Nat → Prop} {nm un : ByteArray} {af : List ByteArray} {sb vt : Bool} {al : List (List Nd)} {A1 A2 : Option Addr} {n1 c1 n2 c2 : Nat} (h1 : Enc.str.Row K w (.slice A1 n1 c1) af) (h2 : (bodyE m).Row K w (.slice A2 n2 c2) al) :
    Calls Try.prog 58 #[.agg #[.string nm, .string un, .slice A1 n1 c1, .bool sb, .bool vt, .slice A2 n2 c2]] w fun e w' => e = .returned (.bool (!fitN (.mk nm un af sb vt al))) ∧ Below w.heap.size w w' := by
  have HP := hid hP
  have HR1 := hid h1
  have HR2 := hid h2
  obtain ⟨b, hb⟩ : ∃ b, fitN (.mk nm un af sb vt al) = b := ⟨_, rfl⟩
  rw [hb]
  have HF := hid hb
  clear hP h1 h2 hb
  go_enter Try.func58, Try.ntmps58
  go_wp2_with (first | (go_at_call 59; refine (fits_of HP.out (HR1.out.below (by repeat (first | (with_reducible exact Below.refl _ _) | (with_reducible exact bl_mm) | (with_reducible refine bl_dr ?_) | (with_reducible refine bl_drN ?_ _) | (with_reducible refine bl_al ?_ _) | (with_reducible refine bl_more ?_ _ _)))) (HR2.out.below (by repeat (first | (with_reducible exact Below.refl _ _) | (with_reducible exact bl_mm) | (with_reducible refine bl_dr ?_) | (with_reducible refine bl_drN ?_ _) | (with_reducible refine bl_al ?_ _) | (with_reducible refine bl_more ?_ _ _))))).mono ?_; rw [HF.out]; rintro e w1 ⟨rfl, hb1⟩; obtain ⟨ex1, dx1, rfl⟩ := more_of hb1; clear hb1))
  go_ret
  exact ⟨rfl, (by repeat (first | (with_reducible exact Below.refl _ _) | (with_reducible exact bl_mm) | (with_reducible refine bl_dr ?_) | (with_reducible refine bl_drN ?_ _) | (with_reducible refine bl_al ?_ _) | (with_reducible refine bl_more ?_ _ _)))⟩
set_option maxRecDepth 8000 in
set_option maxHeartbeats 1000000 in
theorem idxN_of {n : Nat} (hP : ∀ m, m < n → BodP m) {w : World} {K : Nat → Prop} {v : Value} {l : List Nd} (hv : (nodeE n).Row K w v l) : Calls Try.prog 80 #[v, .func (.func 58) #[] #[]] w fun e w' => (∃ r : Int, e = .returned (.int .i64 r) ∧ decide (0 ≤ r) = !l.all fitN) ∧ Below w.heap.size w w' := by
  obtain ⟨A, cp, rfl, hl1, hl2⟩ := hv.form
  have HV := hid hv
  have HPP := hid hP
  have hlx : (l.length : Int) ≤ 9223372036854775807 := by unfold maxLen at hl2; omega
  clear hv hl1 hl2 hP
  go_enter Try.func80, Try.ntmps80
  go_wp2
  go_loopg [8] l.length (fun k vi wr => ∃ i : Nat, i + k = l.length ∧ vi = .int .i64 (i : Int) ∧ (∀ (j : Nat) x, j < i → l[j]? = some x → fitN x = true) ∧ ∃ ex dx, wr = more w ex dx)
  case atStart => exact ⟨0, by omega, rfl, fun j x h => by omega, more_of (by repeat (first | (with_reducible exact Below.refl _ _) | (with_reducible exact bl_mm) | (with_reducible refine bl_dr ?_) | (with_reducible refine bl_drN ?_ _) | (with_reducible refine bl_al ?_ _) | (with_reducible refine bl_more ?_ _ _)))⟩
  case round =>
    obtain ⟨i, hk, rfl, hall, ex, dx, rfl⟩ := hrel
    have HK := hid hk
    have HALL := hid hall
    by_cases hil : i < l.length
    · obtain ⟨x, hx⟩ := get_lt hil
      have HX := hid hx
      have HI := hid (And.intro hil trivial)
      have hi0 : (0 : Int) ≤ i := by omega
      have hi1 : (i : Int) < l.length := by omega
      obtain ⟨b2, off2, m, A3, c3, A4, c4, rfl, _, hbl2, hnm, y1, y2, y3, y4, y5, y6, hr1, hr2⟩ := row_node HV.out hx
      have HP := hid (HPP.out m (by omega))
      have HR1 := hid hr1
      have HR2 := hid hr2
      have hxe := nd_eta x
      cases hf : fitN x with
      | true =>
        have HNM : Hid (fitN (.mk x.name x.undo x.after x.sub x.vital x.alts) = true) := hid (by rw [← hxe]; exact hf)
        have HF := hid hf
        clear hk hall hil hx hf hr1 hr2 hnm hxe
        go_wp2_with (first | (go_at_call 58; refine (bad_of HP.out (HR1.out.below (by repeat (first | (with_reducible exact Below.refl _ _) | (with_reducible exact bl_mm) | (with_reducible refine bl_dr ?_) | (with_reducible refine bl_drN ?_ _) | (with_reducible refine bl_al ?_ _) | (with_reducible refine bl_more ?_ _ _)))) (HR2.out.below (by repeat (first | (with_reducible exact Below.refl _ _) | (with_reducible exact bl_mm) | (with_reducible refine bl_dr ?_) | (with_reducible refine bl_drN ?_ _) | (with_reducible refine bl_al ?_ _) | (with_reducible refine bl_more ?_ _ _))))).mono ?_; rw [HNM.out]; rintro e w1 ⟨rfl, hb1⟩; obtain ⟨ex1, dx1, rfl⟩ := more_of hb1; clear hb1))
        go_roundg (l.length - (i + 1))
        case measure => have := HK.out; have := HI.out.1; omega
        case rel =>
          refine ⟨i + 1, by have := HI.out.1; omega, rfl, fun j y hj hy => ?_, more_of (by repeat (first | (with_reducible exact Below.refl _ _) | (with_reducible exact bl_mm) | (with_reducible refine bl_dr ?_) | (with_reducible refine bl_drN ?_ _) | (with_reducible refine bl_al ?_ _) | (with_reducible refine bl_more ?_ _ _)))⟩
          rcases Nat.lt_or_ge j i with h | h
          · exact HALL.out j y h hy
          · obtain rfl : j = i := by omega
            rw [HX.out] at hy
            obtain rfl := Option.some.inj hy
            exact HF.out
      | false =>
        have HNM : Hid (fitN (.mk x.name x.undo x.after x.sub x.vital x.alts) = false) := hid (by rw [← hxe]; exact hf)
        have HF := hid hf
        clear hk hall hil hx hf hr1 hr2 hnm hxe
        go_wp2_with (first | (go_at_call 58; refine (bad_of HP.out (HR1.out.below (by repeat (first | (with_reducible exact Below.refl _ _) | (with_reducible exact bl_mm) | (with_reducible refine bl_dr ?_) | (with_reducible refine bl_drN ?_ _) | (with_reducible refine bl_al ?_ _) | (with_reducible refine bl_more ?_ _ _)))) (HR2.out.below (by repeat (first | (with_reducible exact Below.refl _ _) | (with_reducible exact bl_mm) | (with_reducible refine bl_dr ?_) | (with_reducible refine bl_drN ?_ _) | (with_reducible refine bl_al ?_ _) | (with_reducible refine bl_more ?_ _ _))))).mono ?_; rw [HNM.out]; rintro e w1 ⟨rfl, hb1⟩; obtain ⟨ex1, dx1, rfl⟩ := more_of hb1; clear hb1))
        go_ret
        exact ⟨⟨(i : Int), rfl, by rw [all_false HX.out HF.out]; exact decide_eq_true (by omega)⟩, (by repeat (first | (with_reducible exact Below.refl _ _) | (with_reducible exact bl_mm) | (with_reducible refine bl_dr ?_) | (with_reducible refine bl_drN ?_ _) | (with_reducible refine bl_al ?_ _) | (with_reducible refine bl_more ?_ _ _)))⟩
    · have hje : i = l.length := by omega
      subst hje
      have hnl : ¬ (l.length : Int) < l.length := by omega
      clear hk hall hil
      go_wp2
      go_ret
      exact ⟨⟨-1, rfl, by rw [all_true (fun j x hj => HALL.out j x (get_len hj) hj)]; rfl⟩, (by repeat (first | (with_reducible exact Below.refl _ _) | (with_reducible exact bl_mm) | (with_reducible refine bl_dr ?_) | (with_reducible refine bl_drN ?_ _) | (with_reducible refine bl_al ?_ _) | (with_reducible refine bl_more ?_ _ _)))⟩
theorem hasN_of {n : Nat} (hP : ∀ m, m < n → BodP m) {w : World} {K : Nat → Prop} {v : Value} {l : List Nd} (hv : (nodeE n).Row K w v l) : Calls Try.prog 60 #[v, .func (.func 58) #[] #[]] w fun e w' => e = .returned (.bool (!l.all fitN)) ∧ Below w.heap.size w w' := by
  obtain ⟨A, cp, rfl, _, _⟩ := hv.form
  have HV := hid hv
  have HPP := hid hP
  clear hv hP
  cases hb : l.all fitN with
  | true =>
    have HB := hid hb
    clear hb
    go_enter Try.func60, Try.ntmps60
    go_wp2_with (first | (go_at_call 80; refine (idxN_of HPP.out (HV.out.below (by repeat (first | (with_reducible exact Below.refl _ _) | (with_reducible exact bl_mm) | (with_reducible refine bl_dr ?_) | (with_reducible refine bl_drN ?_ _) | (with_reducible refine bl_al ?_ _) | (with_reducible refine bl_more ?_ _ _))))).mono ?_; rw [HB.out]; rintro e w1 ⟨⟨r, rfl, hr⟩, hb1⟩; have hr := of_decide_eq_false hr; obtain ⟨ex1, dx1, rfl⟩ := more_of hb1; clear hb1))
    go_ret
    exact ⟨rfl, (by repeat (first | (with_reducible exact Below.refl _ _) | (with_reducible exact bl_mm) | (with_reducible refine bl_dr ?_) | (with_reducible refine bl_drN ?_ _) | (with_reducible refine bl_al ?_ _) | (with_reducible refine bl_more ?_ _ _)))⟩
  | false =>
    have HB := hid hb
    clear hb
    go_enter Try.func60, Try.ntmps60
    go_wp2_with (first | (go_at_call 80; refine (idxN_of HPP.out (HV.out.below (by repeat (first | (with_reducible exact Below.refl _ _) | (with_reducible exact bl_mm) | (with_reducible refine bl_dr ?_) | (with_reducible refine bl_drN ?_ _) | (with_reducible refine bl_al ?_ _) | (with_reducible refine bl_more ?_ _ _))))).mono ?_; rw [HB.out]; rintro e w1 ⟨⟨r, rfl, hr⟩, hb1⟩; have hr := of_decide_eq_true hr; obtain ⟨ex1, dx1, rfl⟩ := more_of hb1; clear hb1))
    go_ret
    exact ⟨rfl, (by repeat (first | (with_reducible exact Below.refl _ _) | (with_reducible exact bl_mm) | (with_reducible refine bl_dr ?_) | (with_reducible refine bl_drN ?_ _) | (with_reducible refine bl_al ?_ _) | (with_reducible refine bl_more ?_ _ _)))⟩
set_option maxRecDepth 8000 in
set_option maxHeartbeats 4000000 in
theorem bodies_any : ∀ n, BodP n := by
  intro n
  induction n using Nat.strongRecOn with
  | ind n ih =>
  intro w K v l hv
  have HPP := hid ih
  obtain ⟨A, cp, rfl, hl1, hl2⟩ := hv.form
  have HV := hid hv
  have hlx : (l.length : Int) ≤ 9223372036854775807 := by unfold maxLen at hl2; omega
  clear ih hv hl1 hl2
  go_enter Try.func35, Try.ntmps35
  go_wp2
  go_loopg [8] l.length (fun k vi wr => ∃ i : Nat, i + k = l.length ∧ vi = .int .i64 (i : Int) ∧ (∀ (j : Nat) x, j < i → l[j]? = some x → fitL x = true) ∧ ∃ ex dx, wr = more w ex dx)
  case atStart => exact ⟨0, by omega, rfl, fun j x h => by omega, more_of (by repeat (first | (with_reducible exact Below.refl _ _) | (with_reducible exact bl_mm) | (with_reducible refine bl_dr ?_) | (with_reducible refine bl_drN ?_ _) | (with_reducible refine bl_al ?_ _) | (with_reducible refine bl_more ?_ _ _)))⟩
  case round =>
    obtain ⟨i, hk, rfl, hall, ex, dx, rfl⟩ := hrel
    have HK := hid hk
    have HALL := hid hall
    by_cases hil : i < l.length
    · obtain ⟨x, hx⟩ := get_lt hil
      have HX := hid hx
      have HI := hid (And.intro hil trivial)
      have hi0 : (0 : Int) ≤ i := by omega
      have hi1 : (i : Int) < l.length := by omega
      obtain ⟨b, off, A1, c1, rfl, _, hbl, x1, hr⟩ := row_body HV.out hx
      have HR := hid hr
      cases hf : x.all fitN with
      | true =>
        have HB := hid hf
        clear hk hall hil hx hf hr
        go_wp2_with (first | (go_at_call 60; refine (hasN_of HPP.out (HR.out.below (by repeat (first | (with_reducible exact Below.refl _ _) | (with_reducible exact bl_mm) | (with_reducible refine bl_dr ?_) | (with_reducible refine bl_drN ?_ _) | (with_reducible refine bl_al ?_ _) | (with_reducible refine bl_more ?_ _ _))))).mono ?_; rw [HB.out]; rintro e w1 ⟨rfl, hb1⟩; obtain ⟨ex1, dx1, rfl⟩ := more_of hb1; clear hb1))
        go_roundg (l.length - (i + 1))
        case measure => have := HK.out; have := HI.out.1; omega
        case rel =>
          refine ⟨i + 1, by have := HI.out.1; omega, rfl, fun j y hj hy => ?_, more_of (by repeat (first | (with_reducible exact Below.refl _ _) | (with_reducible exact bl_mm) | (with_reducible refine bl_dr ?_) | (with_reducible refine bl_drN ?_ _) | (with_reducible refine bl_al ?_ _) | (with_reducible refine bl_more ?_ _ _)))⟩
          rcases Nat.lt_or_ge j i with h | h
          · exact HALL.out j y h hy
          · obtain rfl : j = i := by omega
            rw [HX.out] at hy
            obtain rfl := Option.some.inj hy
            rw [fitL_all]
            exact HB.out
      | false =>
        have HB := hid hf
        clear hk hall hil hx hf hr
        go_wp2_with (first | (go_at_call 60; refine (hasN_of HPP.out (HR.out.below (by repeat (first | (with_reducible exact Below.refl _ _) | (with_reducible exact bl_mm) | (with_reducible refine bl_dr ?_) | (with_reducible refine bl_drN ?_ _) | (with_reducible refine bl_al ?_ _) | (with_reducible refine bl_more ?_ _ _))))).mono ?_; rw [HB.out]; rintro e w1 ⟨rfl, hb1⟩; obtain ⟨ex1, dx1, rfl⟩ := more_of hb1; clear hb1))
        go_ret
        exact ⟨by rw [show rightB l = false by unfold rightB; rw [fitA_all, all_false HX.out (by rw [fitL_all]; exact HB.out)]; rfl]; rfl, (by repeat (first | (with_reducible exact Below.refl _ _) | (with_reducible exact bl_mm) | (with_reducible refine bl_dr ?_) | (with_reducible refine bl_drN ?_ _) | (with_reducible refine bl_al ?_ _) | (with_reducible refine bl_more ?_ _ _)))⟩
    · have hje : i = l.length := by omega
      subst hje
      have hnl : ¬ (l.length : Int) < l.length := by omega
      have hA : fitA l = true := by rw [fitA_all]; exact all_true (fun j x hj => HALL.out j x (get_len hj) hj)
      by_cases hl0 : l = []
      · subst hl0
        clear hk hall hil hA
        go_wp2
        go_ret
        exact ⟨rfl, (by repeat (first | (with_reducible exact Below.refl _ _) | (with_reducible exact bl_mm) | (with_reducible refine bl_dr ?_) | (with_reducible refine bl_drN ?_ _) | (with_reducible refine bl_al ?_ _) | (with_reducible refine bl_more ?_ _ _)))⟩
      · have hlp : (0 : Int) < l.length := by have := List.length_pos_iff.2 hl0; omega
        have hlq : decide (0 < l.length) = true := decide_eq_true (List.length_pos_iff.2 hl0)
        have HRT : Hid (rightB l = true) := hid (by unfold rightB; rw [hA]; cases l with | nil => exact absurd rfl hl0 | cons => rfl)
        clear hk hall hil hl0 hA
        go_wp2
        go_ret
        exact ⟨by rw [HRT.out]; rfl, (by repeat (first | (with_reducible exact Below.refl _ _) | (with_reducible exact bl_mm) | (with_reducible refine bl_dr ?_) | (with_reducible refine bl_drN ?_ _) | (with_reducible refine bl_al ?_ _) | (with_reducible refine bl_more ?_ _ _)))⟩
end Go.Proofs.Ytidilpciolladaa

/- Check, and the document's words of it. -/
namespace Go.Proofs.Ytidilpciolladaa
open Go.RowKit

/-- May a node be, but for that on which it leans? -/
def headN (n : Nd) : Bool := nmR n.name && (if n.sub then decide (n.undo.size = 0) && rightB n.alts else !n.vital && n.alts.isEmpty && (decide (n.undo.size = 0) || nmR n.undo))
theorem fitN_head (n : Nd) : fitN n = (headN n && n.after.all nmR) := by
  rw [fitN_eq]
  unfold headN
  cases nmR n.name <;> cases n.after.all nmR <;> simp
theorem head_bad {n : Nd} (h : headN n = false) : fitN n = false := by rw [fitN_head, h]; rfl
/-- What the document's 'right' tells of bodies at most m deep. -/
def RigP (m : Nat) : Prop := ∀ (w : World) (K : Nat → Prop) (v : Value) (l : List (List Nd)), (bodyE m).Row K w v l → Calls Try.prog 54 #[v] w fun e w' => e = .returned (.bool (rightB l)) ∧ Below w.heap.size w w'
theorem RigP.at {m : Nat} (h : RigP m) {w : World} {K : Nat → Prop} {v : Value} {l : List (List Nd)} (hr : (bodyE m).Row K w v l) : Calls Try.prog 54 #[v] w fun e w' => e = .returned (.bool (rightB l)) ∧ Below w.heap.size w w' := h w K v l hr
set_option maxRecDepth 20000 in
set_option maxHeartbeats 8000000 in
theorem right_any : ∀ n, RigP n := by
  intro n
  induction n using Nat.strongRecOn with
  | ind n ih =>
  intro w K v l hv
  have HPP := hid ih
  obtain ⟨A, cp, rfl, hl1, hl2⟩ := hv.form
  have HV := hid hv
  have hlx : (l.length : Int) ≤ 9223372036854775807 := by unfold maxLen at hl2; omega
  clear ih hv hl1 hl2
  go_enter Try.func54, Try.ntmps54
  go_wp2
  go_loopg [3] l.length (fun k vi wr => ∃ i : Nat, i + k = l.length ∧ vi = .int .i64 (i : Int) ∧ (∀ (j : Nat) x, j < i → l[j]? = some x → fitL x = true) ∧ ∃ ex dx, wr = more w ex dx)
  case atStart => exact ⟨0, by omega, rfl, fun j x h => by omega, more_of (by repeat (first | (with_reducible exact Below.refl _ _) | (with_reducible exact bl_mm) | (with_reducible refine bl_dr ?_) | (with_reducible refine bl_drN ?_ _) | (with_reducible refine bl_al ?_ _) | (with_reducible refine bl_more ?_ _ _)))⟩
  case round =>
    obtain ⟨i, hk, rfl, hall, ex, dx, rfl⟩ := hrel
    have HK := hid hk
    have HALL := hid hall
    by_cases hil : i < l.length
    · obtain ⟨x, hx⟩ := get_lt hil
      have HX := hid hx
      have HI := hid (And.intro hil trivial)
      have hi0 : (0 : Int) ≤ i := by omega
      have hi1 : (i : Int) < l.length := by omega
      obtain ⟨b, off, A1, c1, rfl, _, hbl, x1, hr⟩ := row_body HV.out hx
      obtain ⟨_, _, _, hy1, hy2⟩ := hr.form
      have hyx : (x.length : Int) ≤ 9223372036854775807 := by unfold maxLen at hy2; omega
      have HR := hid hr
      have HBADL : Hid (x.all fitN = false → rightB l = false) := hid (fun h => by unfold rightB; rw [fitA_all, all_false hx (by rw [fitL_all]; exact h)]; rfl)
      clear hk hall hil hx hr hy1 hy2
      go_wp2
      go_loopg [4] x.length (fun k vi wr => ∃ j : Nat, j + k = x.length ∧ vi = .int .i64 (j : Int) ∧ (∀ (q : Nat) y, q < j → x[q]? = some y → fitN y = true) ∧ ∃ ex dx, wr = more w ex dx)
      case atStart => exact ⟨0, by omega, rfl, fun j x h => by omega, more_of (by repeat (first | (with_reducible exact Below.refl _ _) | (with_reducible exact bl_mm) | (with_reducible refine bl_dr ?_) | (with_reducible refine bl_drN ?_ _) | (with_reducible refine bl_al ?_ _) | (with_reducible refine bl_more ?_ _ _)))⟩
      case round =>
        obtain ⟨j, hk, rfl, hall, ex0, dx0, rfl⟩ := hrel
        have HK2 := hid hk
        have HALL2 := hid hall
        by_cases hjl : j < x.length
        · obtain ⟨nd, hn⟩ := get_lt hjl
          have HN := hid hn
          have HJ := hid (And.intro hjl trivial)
          have hj0 : (0 : Int) ≤ j := by omega
          have hj1 : (j : Int) < x.length := by omega
          obtain ⟨b2, off2, m, A3, c3, A4, c4, rfl, _, hbl2, hnm, y1, y2, y3, y4, y5, y6, hr1, hr2⟩ := row_node HR.out hn
          have HP := hid (HPP.out m (by omega))
          obtain ⟨_, _, _, hw1, hw2⟩ := hr1.form
          have hax : (nd.after.length : Int) ≤ 9223372036854775807 := by unfold maxLen at hw2; omega
          have HR1 := hid hr1
          have HR2 := hid hr2
          have HBADR : Hid (fitN nd = false → rightB l = false) := hid (fun h => HBADL.out (all_false hn h))
          clear hk hall hjl hn hr1 hr2 hnm hw1 hw2
          cases hnm : nmR nd.name with
          | false =>
            have HNM := hid hnm
            have HH : Hid (headN nd = false) := hid (by unfold headN; rw [hnm]; rfl)
            clear hnm
            go_wp2_with (first | (go_at_call 49; refine dnames_any.mono ?_; rw [HNM.out]; rintro e w1 ⟨rfl, hb1⟩; obtain ⟨ex1, dx1, rfl⟩ := more_of hb1; clear hb1) | (go_at_call 49; refine dnames_any.mono ?_; rw [HNU.out]; rintro e w4 ⟨rfl, hb4⟩; obtain ⟨ex4, dx4, rfl⟩ := more_of hb4; clear hb4) | (go_at_call 54; refine (RigP.at HP.out (HR2.out.below (by repeat (first | (with_reducible exact Below.refl _ _) | (with_reducible exact bl_mm) | (with_reducible refine bl_dr ?_) | (with_reducible refine bl_drN ?_ _) | (with_reducible refine bl_al ?_ _) | (with_reducible refine bl_more ?_ _ _))))).mono ?_; rw [HRB.out]; rintro e w3 ⟨rfl, hb3⟩; obtain ⟨ex3, dx3, rfl⟩ := more_of hb3; clear hb3))
            all_goals (go_ret; exact ⟨by rw [HBADR.out (head_bad HH.out)]; rfl, (by repeat (first | (with_reducible exact Below.refl _ _) | (with_reducible exact bl_mm) | (with_reducible refine bl_dr ?_) | (with_reducible refine bl_drN ?_ _) | (with_reducible refine bl_al ?_ _) | (with_reducible refine bl_more ?_ _ _)))⟩)
          | true =>
            have HNM := hid hnm
            clear hnm
            cases hsb : nd.sub with
            | true =>
              rw [hsb] at y4
              by_cases hu : nd.undo.size = 0
              · have hs := emp_t hu
                cases hrb : rightB nd.alts with
                | true =>
                  have HRB := hid hrb
                  have HH : Hid (headN nd = true) := hid (by unfold headN; rw [HNM.out, hsb, hrb, decide_eq_true hu]; rfl)
                  clear hrb hu
                  go_wp2_with (first | (go_at_call 49; refine dnames_any.mono ?_; rw [HNM.out]; rintro e w1 ⟨rfl, hb1⟩; obtain ⟨ex1, dx1, rfl⟩ := more_of hb1; clear hb1) | (go_at_call 49; refine dnames_any.mono ?_; rw [HNU.out]; rintro e w4 ⟨rfl, hb4⟩; obtain ⟨ex4, dx4, rfl⟩ := more_of hb4; clear hb4) | (go_at_call 54; refine (RigP.at HP.out (HR2.out.below (by repeat (first | (with_reducible exact Below.refl _ _) | (with_reducible exact bl_mm) | (with_reducible refine bl_dr ?_) | (with_reducible refine bl_drN ?_ _) | (with_reducible refine bl_al ?_ _) | (with_reducible refine bl_more ?_ _ _))))).mono ?_; rw [HRB.out]; rintro e w3 ⟨rfl, hb3⟩; obtain ⟨ex3, dx3, rfl⟩ := more_of hb3; clear hb3))
                  go_loopg [6] nd.after.length (fun k vi wr => ∃ q : Nat, q + k = nd.after.length ∧ vi = .int .i64 (q : Int) ∧ (∀ (r : Nat) y, r < q → nd.after[r]? = some y → nmR y = true) ∧ ∃ ex dx, wr = more (World.alloc (more w ex0 dx0) (.cells #[.string nd.name, .string nd.undo, .slice A3 nd.after.length c3, .bool true, .bool nd.vital, .slice A4 nd.alts.length c4] 73)) ex dx)
                  case atStart => exact ⟨0, by omega, rfl, fun j x h => by omega, more_of (by repeat (first | (with_reducible exact Below.refl _ _) | (with_reducible exact bl_mm) | (with_reducible refine bl_dr ?_) | (with_reducible refine bl_drN ?_ _) | (with_reducible refine bl_al ?_ _) | (with_reducible refine bl_more ?_ _ _)))⟩
                  case round =>
                    obtain ⟨q, hk, rfl, hall, ex, dx, rfl⟩ := hrel
                    have HK3 := hid hk
                    have HALL3 := hid hall
                    by_cases hql : q < nd.after.length
                    · obtain ⟨s, hs⟩ := get_lt hql
                      have HS := hid hs
                      have HQ := hid (And.intro hql trivial)
                      have hq0 : (0 : Int) ≤ q := by omega
                      have hq1 : (q : Int) < nd.after.length := by omega
                      obtain ⟨b3, off3, rfl, _, hbl3, z1⟩ := row_str HR1.out hs
                      clear hk hall hql hs
                      cases hna : nmR s with
                      | false =>
                        have HNA := hid hna
                        have HF : Hid (fitN nd = false) := hid (by rw [fitN_head, all_false HS.out hna]; simp)
                        clear hna
                        go_wp2_with (first | (go_at_call 49; refine dnames_any.mono ?_; rw [HNA.out]; rintro e w5 ⟨rfl, hb5⟩; obtain ⟨ex5, dx5, rfl⟩ := more_of hb5; clear hb5))
                        go_ret
                        exact ⟨by rw [HBADR.out HF.out]; rfl, (by repeat (first | (with_reducible exact Below.refl _ _) | (with_reducible exact bl_mm) | (with_reducible refine bl_dr ?_) | (with_reducible refine bl_drN ?_ _) | (with_reducible refine bl_al ?_ _) | (with_reducible refine bl_more ?_ _ _)))⟩
                      | true =>
                        have HNA := hid hna
                        clear hna
                        go_wp2_with (first | (go_at_call 49; refine dnames_any.mono ?_; rw [HNA.out]; rintro e w5 ⟨rfl, hb5⟩; obtain ⟨ex5, dx5, rfl⟩ := more_of hb5; clear hb5))
                        go_roundg (nd.after.length - (q + 1))
                        case measure => have := HK3.out; have := HQ.out.1; omega
                        case rel =>
                          refine ⟨q + 1, by have := HQ.out.1; omega, rfl, fun r y hr hy => ?_, more_of (by repeat (first | (with_reducible exact Below.refl _ _) | (with_reducible exact bl_mm) | (with_reducible refine bl_dr ?_) | (with_reducible refine bl_drN ?_ _) | (with_reducible refine bl_al ?_ _) | (with_reducible refine bl_more ?_ _ _)))⟩
                          rcases Nat.lt_or_ge r q with h | h
                          · exact HALL3.out r y h hy
                          · obtain rfl : r = q := by omega
                            rw [HS.out] at hy
                            obtain rfl := Option.some.inj hy
                            exact HNA.out
                    · have hqe : q = nd.after.length := by omega
                      subst hqe
                      have hnl : ¬ (nd.after.length : Int) < nd.after.length := by omega
                      have HF : Hid (fitN nd = true) := hid (by rw [fitN_head, HH.out, all_true (fun j y hj => HALL3.out j y (get_len hj) hj)]; rfl)
                      clear hk hall hql
                      go_wp2
                      go_roundg (x.length - (j + 1))
                      case measure => have := HK2.out; have := HJ.out.1; omega
                      case rel =>
                        refine ⟨j + 1, by have := HJ.out.1; omega, rfl, fun q y hj hy => ?_, more_of (by repeat (first | (with_reducible exact Below.refl _ _) | (with_reducible exact bl_mm) | (with_reducible refine bl_dr ?_) | (with_reducible refine bl_drN ?_ _) | (with_reducible refine bl_al ?_ _) | (with_reducible refine bl_more ?_ _ _)))⟩
                        rcases Nat.lt_or_ge q j with h | h
                        · exact HALL2.out q y h hy
                        · obtain rfl : q = j := by omega
                          rw [HN.out] at hy
                          obtain rfl := Option.some.inj hy
                          exact HF.out
                | false =>
                  have HRB := hid hrb
                  have HH : Hid (headN nd = false) := hid (by unfold headN; rw [HNM.out, hsb, hrb, decide_eq_true hu]; rfl)
                  clear hrb hu hsb
                  go_wp2_with (first | (go_at_call 49; refine dnames_any.mono ?_; rw [HNM.out]; rintro e w1 ⟨rfl, hb1⟩; obtain ⟨ex1, dx1, rfl⟩ := more_of hb1; clear hb1) | (go_at_call 49; refine dnames_any.mono ?_; rw [HNU.out]; rintro e w4 ⟨rfl, hb4⟩; obtain ⟨ex4, dx4, rfl⟩ := more_of hb4; clear hb4) | (go_at_call 54; refine (RigP.at HP.out (HR2.out.below (by repeat (first | (with_reducible exact Below.refl _ _) | (with_reducible exact bl_mm) | (with_reducible refine bl_dr ?_) | (with_reducible refine bl_drN ?_ _) | (with_reducible refine bl_al ?_ _) | (with_reducible refine bl_more ?_ _ _))))).mono ?_; rw [HRB.out]; rintro e w3 ⟨rfl, hb3⟩; obtain ⟨ex3, dx3, rfl⟩ := more_of hb3; clear hb3))
                  all_goals (go_ret; exact ⟨by rw [HBADR.out (head_bad HH.out)]; rfl, (by repeat (first | (with_reducible exact Below.refl _ _) | (with_reducible exact bl_mm) | (with_reducible refine bl_dr ?_) | (with_reducible refine bl_drN ?_ _) | (with_reducible refine bl_al ?_ _) | (with_reducible refine bl_more ?_ _ _)))⟩)
              · have hs := emp_f hu
                have HH : Hid (headN nd = false) := hid (by unfold headN; rw [HNM.out, hsb, decide_eq_false hu]; rfl)
                cases hnu : nmR nd.undo with
                | false =>
                  have HNU := hid hnu
                  clear hnu hu hsb
                  go_wp2_with (first | (go_at_call 49; refine dnames_any.mono ?_; rw [HNM.out]; rintro e w1 ⟨rfl, hb1⟩; obtain ⟨ex1, dx1, rfl⟩ := more_of hb1; clear hb1) | (go_at_call 49; refine dnames_any.mono ?_; rw [HNU.out]; rintro e w4 ⟨rfl, hb4⟩; obtain ⟨ex4, dx4, rfl⟩ := more_of hb4; clear hb4) | (go_at_call 54; refine (RigP.at HP.out (HR2.out.below (by repeat (first | (with_reducible exact Below.refl _ _) | (with_reducible exact bl_mm) | (with_reducible refine bl_dr ?_) | (with_reducible refine bl_drN ?_ _) | (with_reducible refine bl_al ?_ _) | (with_reducible refine bl_more ?_ _ _))))).mono ?_; rw [HRB.out]; rintro e w3 ⟨rfl, hb3⟩; obtain ⟨ex3, dx3, rfl⟩ := more_of hb3; clear hb3))
                  all_goals (go_ret; exact ⟨by rw [HBADR.out (head_bad HH.out)]; rfl, (by repeat (first | (with_reducible exact Below.refl _ _) | (with_reducible exact bl_mm) | (with_reducible refine bl_dr ?_) | (with_reducible refine bl_drN ?_ _) | (with_reducible refine bl_al ?_ _) | (with_reducible refine bl_more ?_ _ _)))⟩)
                | true =>
                  have HNU := hid hnu
                  clear hnu hu hsb
                  go_wp2_with (first | (go_at_call 49; refine dnames_any.mono ?_; rw [HNM.out]; rintro e w1 ⟨rfl, hb1⟩; obtain ⟨ex1, dx1, rfl⟩ := more_of hb1; clear hb1) | (go_at_call 49; refine dnames_any.mono ?_; rw [HNU.out]; rintro e w4 ⟨rfl, hb4⟩; obtain ⟨ex4, dx4, rfl⟩ := more_of hb4; clear hb4) | (go_at_call 54; refine (RigP.at HP.out (HR2.out.below (by repeat (first | (with_reducible exact Below.refl _ _) | (with_reducible exact bl_mm) | (with_reducible refine bl_dr ?_) | (with_reducible refine bl_drN ?_ _) | (with_reducible refine bl_al ?_ _) | (with_reducible refine bl_more ?_ _ _))))).mono ?_; rw [HRB.out]; rintro e w3 ⟨rfl, hb3⟩; obtain ⟨ex3, dx3, rfl⟩ := more_of hb3; clear hb3))
                  all_goals (go_ret; exact ⟨by rw [HBADR.out (head_bad HH.out)]; rfl, (by repeat (first | (with_reducible exact Below.refl _ _) | (with_reducible exact bl_mm) | (with_reducible refine bl_dr ?_) | (with_reducible refine bl_drN ?_ _) | (with_reducible refine bl_al ?_ _) | (with_reducible refine bl_more ?_ _ _)))⟩)
            | false =>
              rw [hsb] at y4
              by_cases hu : nd.undo.size = 0
              · have hs := emp_t hu
                have hun : (decide (nd.undo.size = 0) || nmR nd.undo) = true := (by rw [decide_eq_true hu]; rfl)
                cases hvt : nd.vital with
                | true =>
                  rw [hvt] at y5
                  have HH : Hid (headN nd = false) := hid (by unfold headN; rw [HNM.out, hsb, hvt]; rfl)
                  clear hu hsb hun hvt
                  go_wp2_with (first | (go_at_call 49; refine dnames_any.mono ?_; rw [HNM.out]; rintro e w1 ⟨rfl, hb1⟩; obtain ⟨ex1, dx1, rfl⟩ := more_of hb1; clear hb1) | (go_at_call 49; refine dnames_any.mono ?_; rw [HNU.out]; rintro e w4 ⟨rfl, hb4⟩; obtain ⟨ex4, dx4, rfl⟩ := more_of hb4; clear hb4) | (go_at_call 54; refine (RigP.at HP.out (HR2.out.below (by repeat (first | (with_reducible exact Below.refl _ _) | (with_reducible exact bl_mm) | (with_reducible refine bl_dr ?_) | (with_reducible refine bl_drN ?_ _) | (with_reducible refine bl_al ?_ _) | (with_reducible refine bl_more ?_ _ _))))).mono ?_; rw [HRB.out]; rintro e w3 ⟨rfl, hb3⟩; obtain ⟨ex3, dx3, rfl⟩ := more_of hb3; clear hb3))
                  all_goals (go_ret; exact ⟨by rw [HBADR.out (head_bad HH.out)]; rfl, (by repeat (first | (with_reducible exact Below.refl _ _) | (with_reducible exact bl_mm) | (with_reducible refine bl_dr ?_) | (with_reducible refine bl_drN ?_ _) | (with_reducible refine bl_al ?_ _) | (with_reducible refine bl_more ?_ _ _)))⟩)
                | false =>
                  rw [hvt] at y5
                  cases hae : nd.alts.isEmpty with
                  | true =>
                    have hal := List.isEmpty_iff.1 hae
                    have hal0 : nd.alts.length = 0 := by rw [hal]; rfl
                    have HH : Hid (headN nd = true) := hid (by unfold headN; rw [HNM.out, hsb, hvt, hae, hun]; rfl)
                    clear hu hun hae hal
                    go_wp2_with (first | (go_at_call 49; refine dnames_any.mono ?_; rw [HNM.out]; rintro e w1 ⟨rfl, hb1⟩; obtain ⟨ex1, dx1, rfl⟩ := more_of hb1; clear hb1) | (go_at_call 49; refine dnames_any.mono ?_; rw [HNU.out]; rintro e w4 ⟨rfl, hb4⟩; obtain ⟨ex4, dx4, rfl⟩ := more_of hb4; clear hb4) | (go_at_call 54; refine (RigP.at HP.out (HR2.out.below (by repeat (first | (with_reducible exact Below.refl _ _) | (with_reducible exact bl_mm) | (with_reducible refine bl_dr ?_) | (with_reducible refine bl_drN ?_ _) | (with_reducible refine bl_al ?_ _) | (with_reducible refine bl_more ?_ _ _))))).mono ?_; rw [HRB.out]; rintro e w3 ⟨rfl, hb3⟩; obtain ⟨ex3, dx3, rfl⟩ := more_of hb3; clear hb3))
                    go_loopg [6] nd.after.length (fun k vi wr => ∃ q : Nat, q + k = nd.after.length ∧ vi = .int .i64 (q : Int) ∧ (∀ (r : Nat) y, r < q → nd.after[r]? = some y → nmR y = true) ∧ ∃ ex dx, wr = more (World.alloc (more w ex0 dx0) (.cells #[.string nd.name, .string nd.undo, .slice A3 nd.after.length c3, .bool false, .bool false, .slice A4 0 c4] 73)) ex dx)
                    case atStart => exact ⟨0, by omega, rfl, fun j x h => by omega, more_of (by repeat (first | (with_reducible exact Below.refl _ _) | (with_reducible exact bl_mm) | (with_reducible refine bl_dr ?_) | (with_reducible refine bl_drN ?_ _) | (with_reducible refine bl_al ?_ _) | (with_reducible refine bl_more ?_ _ _)))⟩
                    case round =>
                      obtain ⟨q, hk, rfl, hall, ex, dx, rfl⟩ := hrel
                      have HK3 := hid hk
                      have HALL3 := hid hall
                      by_cases hql : q < nd.after.length
                      · obtain ⟨s, hs⟩ := get_lt hql
                        have HS := hid hs
                        have HQ := hid (And.intro hql trivial)
                        have hq0 : (0 : Int) ≤ q := by omega
                        have hq1 : (q : Int) < nd.after.length := by omega
                        obtain ⟨b3, off3, rfl, _, hbl3, z1⟩ := row_str HR1.out hs
                        clear hk hall hql hs
                        cases hna : nmR s with
                        | false =>
                          have HNA := hid hna
                          have HF : Hid (fitN nd = false) := hid (by rw [fitN_head, all_false HS.out hna]; simp)
                          clear hna
                          go_wp2_with (first | (go_at_call 49; refine dnames_any.mono ?_; rw [HNA.out]; rintro e w5 ⟨rfl, hb5⟩; obtain ⟨ex5, dx5, rfl⟩ := more_of hb5; clear hb5))
                          go_ret
                          exact ⟨by rw [HBADR.out HF.out]; rfl, (by repeat (first | (with_reducible exact Below.refl _ _) | (with_reducible exact bl_mm) | (with_reducible refine bl_dr ?_) | (with_reducible refine bl_drN ?_ _) | (with_reducible refine bl_al ?_ _) | (with_reducible refine bl_more ?_ _ _)))⟩
                        | true =>
                          have HNA := hid hna
                          clear hna
                          go_wp2_with (first | (go_at_call 49; refine dnames_any.mono ?_; rw [HNA.out]; rintro e w5 ⟨rfl, hb5⟩; obtain ⟨ex5, dx5, rfl⟩ := more_of hb5; clear hb5))
                          go_roundg (nd.after.length - (q + 1))
                          case measure => have := HK3.out; have := HQ.out.1; omega
                          case rel =>
                            refine ⟨q + 1, by have := HQ.out.1; omega, rfl, fun r y hr hy => ?_, more_of (by repeat (first | (with_reducible exact Below.refl _ _) | (with_reducible exact bl_mm) | (with_reducible refine bl_dr ?_) | (with_reducible refine bl_drN ?_ _) | (with_reducible refine bl_al ?_ _) | (with_reducible refine bl_more ?_ _ _)))⟩
                            rcases Nat.lt_or_ge r q with h | h
                            · exact HALL3.out r y h hy
                            · obtain rfl : r = q := by omega
                              rw [HS.out] at hy
                              obtain rfl := Option.some.inj hy
                              exact HNA.out
                      · have hqe : q = nd.after.length := by omega
                        subst hqe
                        have hnl : ¬ (nd.after.length : Int) < nd.after.length := by omega
                        have HF : Hid (fitN nd = true) := hid (by rw [fitN_head, HH.out, all_true (fun j y hj => HALL3.out j y (get_len hj) hj)]; rfl)
                        clear hk hall hql
                        go_wp2
                        go_roundg (x.length - (j + 1))
                        case measure => have := HK2.out; have := HJ.out.1; omega
                        case rel =>
                          refine ⟨j + 1, by have := HJ.out.1; omega, rfl, fun q y hj hy => ?_, more_of (by repeat (first | (with_reducible exact Below.refl _ _) | (with_reducible exact bl_mm) | (with_reducible refine bl_dr ?_) | (with_reducible refine bl_drN ?_ _) | (with_reducible refine bl_al ?_ _) | (with_reducible refine bl_more ?_ _ _)))⟩
                          rcases Nat.lt_or_ge q j with h | h
                          · exact HALL2.out q y h hy
                          · obtain rfl : q = j := by omega
                            rw [HN.out] at hy
                            obtain rfl := Option.some.inj hy
                            exact HF.out
                  | false =>
                    have hal0 : 0 < nd.alts.length := by
                      rcases Nat.eq_zero_or_pos nd.alts.length with h | h
                      · rw [List.eq_nil_of_length_eq_zero h] at hae; cases hae
                      · exact h
                    have HH : Hid (headN nd = false) := hid (by unfold headN; rw [HNM.out, hsb, hvt, hae]; rfl)
                    clear hu hsb hun hvt hae
                    go_wp2_with (first | (go_at_call 49; refine dnames_any.mono ?_; rw [HNM.out]; rintro e w1 ⟨rfl, hb1⟩; obtain ⟨ex1, dx1, rfl⟩ := more_of hb1; clear hb1) | (go_at_call 49; refine dnames_any.mono ?_; rw [HNU.out]; rintro e w4 ⟨rfl, hb4⟩; obtain ⟨ex4, dx4, rfl⟩ := more_of hb4; clear hb4) | (go_at_call 54; refine (RigP.at HP.out (HR2.out.below (by repeat (first | (with_reducible exact Below.refl _ _) | (with_reducible exact bl_mm) | (with_reducible refine bl_dr ?_) | (with_reducible refine bl_drN ?_ _) | (with_reducible refine bl_al ?_ _) | (with_reducible refine bl_more ?_ _ _))))).mono ?_; rw [HRB.out]; rintro e w3 ⟨rfl, hb3⟩; obtain ⟨ex3, dx3, rfl⟩ := more_of hb3; clear hb3))
                    all_goals (go_ret; exact ⟨by rw [HBADR.out (head_bad HH.out)]; rfl, (by repeat (first | (with_reducible exact Below.refl _ _) | (with_reducible exact bl_mm) | (with_reducible refine bl_dr ?_) | (with_reducible refine bl_drN ?_ _) | (with_reducible refine bl_al ?_ _) | (with_reducible refine bl_more ?_ _ _)))⟩)
              · have hs := emp_f hu
                cases hnu : nmR nd.undo with
                | false =>
                  have HNU := hid hnu
                  have HH : Hid (headN nd = false) := hid (by unfold headN; rw [HNM.out, hsb, decide_eq_false hu, hnu]; simp)
                  clear hnu hu hsb
                  go_wp2_with (first | (go_at_call 49; refine dnames_any.mono ?_; rw [HNM.out]; rintro e w1 ⟨rfl, hb1⟩; obtain ⟨ex1, dx1, rfl⟩ := more_of hb1; clear hb1) | (go_at_call 49; refine dnames_any.mono ?_; rw [HNU.out]; rintro e w4 ⟨rfl, hb4⟩; obtain ⟨ex4, dx4, rfl⟩ := more_of hb4; clear hb4) | (go_at_call 54; refine (RigP.at HP.out (HR2.out.below (by repeat (first | (with_reducible exact Below.refl _ _) | (with_reducible exact bl_mm) | (with_reducible refine bl_dr ?_) | (with_reducible refine bl_drN ?_ _) | (with_reducible refine bl_al ?_ _) | (with_reducible refine bl_more ?_ _ _))))).mono ?_; rw [HRB.out]; rintro e w3 ⟨rfl, hb3⟩; obtain ⟨ex3, dx3, rfl⟩ := more_of hb3; clear hb3))
                  all_goals (go_ret; exact ⟨by rw [HBADR.out (head_bad HH.out)]; rfl, (by repeat (first | (with_reducible exact Below.refl _ _) | (with_reducible exact bl_mm) | (with_reducible refine bl_dr ?_) | (with_reducible refine bl_drN ?_ _) | (with_reducible refine bl_al ?_ _) | (with_reducible refine bl_more ?_ _ _)))⟩)
                | true =>
                  have HNU := hid hnu
                  have hun : (decide (nd.undo.size = 0) || nmR nd.undo) = true := (by rw [hnu, Bool.or_true])
                  cases hvt : nd.vital with
                  | true =>
                    rw [hvt] at y5
                    have HH : Hid (headN nd = false) := hid (by unfold headN; rw [HNM.out, hsb, hvt]; rfl)
                    clear hu hsb hun hvt
                    go_wp2_with (first | (go_at_call 49; refine dnames_any.mono ?_; rw [HNM.out]; rintro e w1 ⟨rfl, hb1⟩; obtain ⟨ex1, dx1, rfl⟩ := more_of hb1; clear hb1) | (go_at_call 49; refine dnames_any.mono ?_; rw [HNU.out]; rintro e w4 ⟨rfl, hb4⟩; obtain ⟨ex4, dx4, rfl⟩ := more_of hb4; clear hb4) | (go_at_call 54; refine (RigP.at HP.out (HR2.out.below (by repeat (first | (with_reducible exact Below.refl _ _) | (with_reducible exact bl_mm) | (with_reducible refine bl_dr ?_) | (with_reducible refine bl_drN ?_ _) | (with_reducible refine bl_al ?_ _) | (with_reducible refine bl_more ?_ _ _))))).mono ?_; rw [HRB.out]; rintro e w3 ⟨rfl, hb3⟩; obtain ⟨ex3, dx3, rfl⟩ := more_of hb3; clear hb3))
                    all_goals (go_ret; exact ⟨by rw [HBADR.out (head_bad HH.out)]; rfl, (by repeat (first | (with_reducible exact Below.refl _ _) | (with_reducible exact bl_mm) | (with_reducible refine bl_dr ?_) | (with_reducible refine bl_drN ?_ _) | (with_reducible refine bl_al ?_ _) | (with_reducible refine bl_more ?_ _ _)))⟩)
                  | false =>
                    rw [hvt] at y5
                    cases hae : nd.alts.isEmpty with
                    | true =>
                      have hal := List.isEmpty_iff.1 hae
                      have hal0 : nd.alts.length = 0 := by rw [hal]; rfl
                      have HH : Hid (headN nd = true) := hid (by unfold headN; rw [HNM.out, hsb, hvt, hae, hun]; rfl)
                      clear hu hun hae hal
                      go_wp2_with (first | (go_at_call 49; refine dnames_any.mono ?_; rw [HNM.out]; rintro e w1 ⟨rfl, hb1⟩; obtain ⟨ex1, dx1, rfl⟩ := more_of hb1; clear hb1) | (go_at_call 49; refine dnames_any.mono ?_; rw [HNU.out]; rintro e w4 ⟨rfl, hb4⟩; obtain ⟨ex4, dx4, rfl⟩ := more_of hb4; clear hb4) | (go_at_call 54; refine (RigP.at HP.out (HR2.out.below (by repeat (first | (with_reducible exact Below.refl _ _) | (with_reducible exact bl_mm) | (with_reducible refine bl_dr ?_) | (with_reducible refine bl_drN ?_ _) | (with_reducible refine bl_al ?_ _) | (with_reducible refine bl_more ?_ _ _))))).mono ?_; rw [HRB.out]; rintro e w3 ⟨rfl, hb3⟩; obtain ⟨ex3, dx3, rfl⟩ := more_of hb3; clear hb3))
                      go_loopg [6] nd.after.length (fun k vi wr => ∃ q : Nat, q + k = nd.after.length ∧ vi = .int .i64 (q : Int) ∧ (∀ (r : Nat) y, r < q → nd.after[r]? = some y → nmR y = true) ∧ ∃ ex dx, wr = more (World.alloc (more w ex0 dx0) (.cells #[.string nd.name, .string nd.undo, .slice A3 nd.after.length c3, .bool false, .bool false, .slice A4 0 c4] 73)) ex dx)
                      case atStart => exact ⟨0, by omega, rfl, fun j x h => by omega, more_of (by repeat (first | (with_reducible exact Below.refl _ _) | (with_reducible exact bl_mm) | (with_reducible refine bl_dr ?_) | (with_reducible refine bl_drN ?_ _) | (with_reducible refine bl_al ?_ _) | (with_reducible refine bl_more ?_ _ _)))⟩
                      case round =>
                        obtain ⟨q, hk, rfl, hall, ex, dx, rfl⟩ := hrel
                        have HK3 := hid hk
                        have HALL3 := hid hall
                        by_cases hql : q < nd.after.length
                        · obtain ⟨s, hs⟩ := get_lt hql
                          have HS := hid hs
                          have HQ := hid (And.intro hql trivial)
                          have hq0 : (0 : Int) ≤ q := by omega
                          have hq1 : (q : Int) < nd.after.length := by omega
                          obtain ⟨b3, off3, rfl, _, hbl3, z1⟩ := row_str HR1.out hs
                          clear hk hall hql hs
                          cases hna : nmR s with
                          | false =>
                            have HNA := hid hna
                            have HF : Hid (fitN nd = false) := hid (by rw [fitN_head, all_false HS.out hna]; simp)
                            clear hna
                            go_wp2_with (first | (go_at_call 49; refine dnames_any.mono ?_; rw [HNA.out]; rintro e w5 ⟨rfl, hb5⟩; obtain ⟨ex5, dx5, rfl⟩ := more_of hb5; clear hb5))
                            go_ret
                            exact ⟨by rw [HBADR.out HF.out]; rfl, (by repeat (first | (with_reducible exact Below.refl _ _) | (with_reducible exact bl_mm) | (with_reducible refine bl_dr ?_) | (with_reducible refine bl_drN ?_ _) | (with_reducible refine bl_al ?_ _) | (with_reducible refine bl_more ?_ _ _)))⟩
                          | true =>
                            have HNA := hid hna
                            clear hna
                            go_wp2_with (first | (go_at_call 49; refine dnames_any.mono ?_; rw [HNA.out]; rintro e w5 ⟨rfl, hb5⟩; obtain ⟨ex5, dx5, rfl⟩ := more_of hb5; clear hb5))
                            go_roundg (nd.after.length - (q + 1))
                            case measure => have := HK3.out; have := HQ.out.1; omega
                            case rel =>
                              refine ⟨q + 1, by have := HQ.out.1; omega, rfl, fun r y hr hy => ?_, more_of (by repeat (first | (with_reducible exact Below.refl _ _) | (with_reducible exact bl_mm) | (with_reducible refine bl_dr ?_) | (with_reducible refine bl_drN ?_ _) | (with_reducible refine bl_al ?_ _) | (with_reducible refine bl_more ?_ _ _)))⟩
                              rcases Nat.lt_or_ge r q with h | h
                              · exact HALL3.out r y h hy
                              · obtain rfl : r = q := by omega
                                rw [HS.out] at hy
                                obtain rfl := Option.some.inj hy
                                exact HNA.out
                        · have hqe : q = nd.after.length := by omega
                          subst hqe
                          have hnl : ¬ (nd.after.length : Int) < nd.after.length := by omega
                          have HF : Hid (fitN nd = true) := hid (by rw [fitN_head, HH.out, all_true (fun j y hj => HALL3.out j y (get_len hj) hj)]; rfl)
                          clear hk hall hql
                          go_wp2
                          go_roundg (x.length - (j + 1))
                          case measure => have := HK2.out; have := HJ.out.1; omega
                          case rel =>
                            refine ⟨j + 1, by have := HJ.out.1; omega, rfl, fun q y hj hy => ?_, more_of (by repeat (first | (with_reducible exact Below.refl _ _) | (with_reducible exact bl_mm) | (with_reducible refine bl_dr ?_) | (with_reducible refine bl_drN ?_ _) | (with_reducible refine bl_al ?_ _) | (with_reducible refine bl_more ?_ _ _)))⟩
                            rcases Nat.lt_or_ge q j with h | h
                            · exact HALL2.out q y h hy
                            · obtain rfl : q = j := by omega
                              rw [HN.out] at hy
                              obtain rfl := Option.some.inj hy
                              exact HF.out
                    | false =>
                      have hal0 : 0 < nd.alts.length := by
                        rcases Nat.eq_zero_or_pos nd.alts.length with h | h
                        · rw [List.eq_nil_of_length_eq_zero h] at hae; cases hae
                        · exact h
                      have HH : Hid (headN nd = false) := hid (by unfold headN; rw [HNM.out, hsb, hvt, hae]; rfl)
                      clear hu hsb hun hvt hae
                      go_wp2_with (first | (go_at_call 49; refine dnames_any.mono ?_; rw [HNM.out]; rintro e w1 ⟨rfl, hb1⟩; obtain ⟨ex1, dx1, rfl⟩ := more_of hb1; clear hb1) | (go_at_call 49; refine dnames_any.mono ?_; rw [HNU.out]; rintro e w4 ⟨rfl, hb4⟩; obtain ⟨ex4, dx4, rfl⟩ := more_of hb4; clear hb4) | (go_at_call 54; refine (RigP.at HP.out (HR2.out.below (by repeat (first | (with_reducible exact Below.refl _ _) | (with_reducible exact bl_mm) | (with_reducible refine bl_dr ?_) | (with_reducible refine bl_drN ?_ _) | (with_reducible refine bl_al ?_ _) | (with_reducible refine bl_more ?_ _ _))))).mono ?_; rw [HRB.out]; rintro e w3 ⟨rfl, hb3⟩; obtain ⟨ex3, dx3, rfl⟩ := more_of hb3; clear hb3))
                      all_goals (go_ret; exact ⟨by rw [HBADR.out (head_bad HH.out)]; rfl, (by repeat (first | (with_reducible exact Below.refl _ _) | (with_reducible exact bl_mm) | (with_reducible refine bl_dr ?_) | (with_reducible refine bl_drN ?_ _) | (with_reducible refine bl_al ?_ _) | (with_reducible refine bl_more ?_ _ _)))⟩)
        · have hje : j = x.length := by omega
          subst hje
          have hnl : ¬ (x.length : Int) < x.length := by omega
          have HB : Hid (fitL x = true) := hid (by rw [fitL_all]; exact all_true (fun j y hj => HALL2.out j y (get_len hj) hj))
          clear hk hall hjl
          go_wp2
          go_roundg (l.length - (i + 1))
          case measure => have := HK.out; have := HI.out.1; omega
          case rel =>
            refine ⟨i + 1, by have := HI.out.1; omega, rfl, fun j y hj hy => ?_, more_of (by repeat (first | (with_reducible exact Below.refl _ _) | (with_reducible exact bl_mm) | (with_reducible refine bl_dr ?_) | (with_reducible refine bl_drN ?_ _) | (with_reducible refine bl_al ?_ _) | (with_reducible refine bl_more ?_ _ _)))⟩
            rcases Nat.lt_or_ge j i with h | h
            · exact HALL.out j y h hy
            · obtain rfl : j = i := by omega
              rw [HX.out] at hy
              obtain rfl := Option.some.inj hy
              exact HB.out
    · have hje : i = l.length := by omega
      subst hje
      have hnl : ¬ (l.length : Int) < l.length := by omega
      have hA : fitA l = true := by rw [fitA_all]; exact all_true (fun j x hj => HALL.out j x (get_len hj) hj)
      by_cases hl0 : l = []
      · subst hl0
        clear hk hall hil hA
        go_wp2
        go_ret
        exact ⟨rfl, (by repeat (first | (with_reducible exact Below.refl _ _) | (with_reducible exact bl_mm) | (with_reducible refine bl_dr ?_) | (with_reducible refine bl_drN ?_ _) | (with_reducible refine bl_al ?_ _) | (with_reducible refine bl_more ?_ _ _)))⟩
      · have hlq : decide (0 < l.length) = true := decide_eq_true (List.length_pos_iff.2 hl0)
        have HRT : Hid (rightB l = true) := hid (by unfold rightB; rw [hA]; cases l with | nil => exact absurd rfl hl0 | cons => rfl)
        clear hk hall hil hl0 hA
        go_wp2
        go_ret
        exact ⟨by rw [HRT.out]; rfl, (by repeat (first | (with_reducible exact Below.refl _ _) | (with_reducible exact bl_mm) | (with_reducible refine bl_dr ?_) | (with_reducible refine bl_drN ?_ _) | (with_reducible refine bl_al ?_ _) | (with_reducible refine bl_more ?_ _ _)))⟩
end Go.Proofs.Ytidilpciolladaa

/- Check. -/
namespace Go.Proofs.Ytidilpciolladaa
open Go.RowKit

/-- May a saga be? -/
def sagaR (nm : ByteArray) (l : List (List Nd)) : Bool := nmR nm && decide (depthB l ≤ 70) && decide (countB l ≤ 1000) && rightB l
def erOf (b : Bool) : Int := if b then 0 else 2
set_option maxHeartbeats 4000000 in
theorem check_any {n : Nat} {nm : ByteArray} {w : World} {K : Nat → Prop} {v : Value} {l : List (List Nd)} (hv : (bodyE n).Row K w v l) (hc : countB l ≤ 4294967296) :
    Calls Try.prog 15 #[.agg #[.string nm, v]] w fun e w' => e = .returned (.int .i64 (erOf (sagaR nm l))) ∧ Below w.heap.size w w' := by
  obtain ⟨A, cp, rfl, _, _⟩ := hv.form
  have HV := hid hv
  have HC := hid hc
  unfold sagaR
  obtain ⟨d, hd⟩ : ∃ d, depthB l = d := ⟨_, rfl⟩
  obtain ⟨q, hq⟩ : ∃ q, countB l = q := ⟨_, rfl⟩
  rw [hd, hq]
  have HD := hid hd
  have HN := hid hq
  clear hv hc hd hq
  cases hnm : nmR nm with
  | false =>
    have HNM := hid hnm
    clear hnm
    show Calls Try.prog 15 _ w fun e w' => e = .returned (.int .i64 2) ∧ _
    go_enter Try.func15, Try.ntmps15
    go_wp2_with (first | (go_at_call 34; refine names_any.mono ?_; rw [HNM.out]; rintro e w1 ⟨rfl, hb1⟩; obtain ⟨ex1, dx1, rfl⟩ := more_of hb1; clear hb1) | (go_at_call 17; refine (depth_any _ _ _ _ _ _ (HV.out.below (by repeat (first | (with_reducible exact Below.refl _ _) | (with_reducible exact bl_mm) | (with_reducible refine bl_dr ?_) | (with_reducible refine bl_drN ?_ _) | (with_reducible refine bl_al ?_ _) | (with_reducible refine bl_more ?_ _ _)))) HC.out).mono ?_; rw [HD.out]; rintro e w2 ⟨rfl, hb2⟩; obtain ⟨ex2, dx2, rfl⟩ := more_of hb2; clear hb2) | (go_at_call 19; refine (count_any _ _ _ _ _ _ (HV.out.below (by repeat (first | (with_reducible exact Below.refl _ _) | (with_reducible exact bl_mm) | (with_reducible refine bl_dr ?_) | (with_reducible refine bl_drN ?_ _) | (with_reducible refine bl_al ?_ _) | (with_reducible refine bl_more ?_ _ _)))) HC.out).mono ?_; rw [HN.out]; rintro e w3 ⟨rfl, hb3⟩; obtain ⟨ex3, dx3, rfl⟩ := more_of hb3; clear hb3) | (go_at_call 35; refine (BodP.at (bodies_any _) (HV.out.below (by repeat (first | (with_reducible exact Below.refl _ _) | (with_reducible exact bl_mm) | (with_reducible refine bl_dr ?_) | (with_reducible refine bl_drN ?_ _) | (with_reducible refine bl_al ?_ _) | (with_reducible refine bl_more ?_ _ _))))).mono ?_; rw [HRB.out]; rintro e w4 ⟨rfl, hb4⟩; obtain ⟨ex4, dx4, rfl⟩ := more_of hb4; clear hb4))
    all_goals (go_ret; exact ⟨rfl, (by repeat (first | (with_reducible exact Below.refl _ _) | (with_reducible exact bl_mm) | (with_reducible refine bl_dr ?_) | (with_reducible refine bl_drN ?_ _) | (with_reducible refine bl_al ?_ _) | (with_reducible refine bl_more ?_ _ _)))⟩)
  | true =>
    have HNM := hid hnm
    clear hnm
    by_cases hd : d ≤ 70
    · have hd1 : ¬ ((70 : Int) < (d : Int)) := by omega
      have hd2 : decide ((70 : Int) < (d : Int)) = false := decide_eq_false hd1
      rw [decide_eq_true hd]
      clear hd
      by_cases hq : q ≤ 1000
      · have hq1 : ¬ ((1000 : Int) < (q : Int)) := by omega
        have hq2 : decide ((1000 : Int) < (q : Int)) = false := decide_eq_false hq1
        rw [decide_eq_true hq]
        clear hq
        cases hrb : rightB l with
        | false =>
          have HRB := hid hrb
          clear hrb
          show Calls Try.prog 15 _ w fun e w' => e = .returned (.int .i64 2) ∧ _
          go_enter Try.func15, Try.ntmps15
          go_wp2_with (first | (go_at_call 34; refine names_any.mono ?_; rw [HNM.out]; rintro e w1 ⟨rfl, hb1⟩; obtain ⟨ex1, dx1, rfl⟩ := more_of hb1; clear hb1) | (go_at_call 17; refine (depth_any _ _ _ _ _ _ (HV.out.below (by repeat (first | (with_reducible exact Below.refl _ _) | (with_reducible exact bl_mm) | (with_reducible refine bl_dr ?_) | (with_reducible refine bl_drN ?_ _) | (with_reducible refine bl_al ?_ _) | (with_reducible refine bl_more ?_ _ _)))) HC.out).mono ?_; rw [HD.out]; rintro e w2 ⟨rfl, hb2⟩; obtain ⟨ex2, dx2, rfl⟩ := more_of hb2; clear hb2) | (go_at_call 19; refine (count_any _ _ _ _ _ _ (HV.out.below (by repeat (first | (with_reducible exact Below.refl _ _) | (with_reducible exact bl_mm) | (with_reducible refine bl_dr ?_) | (with_reducible refine bl_drN ?_ _) | (with_reducible refine bl_al ?_ _) | (with_reducible refine bl_more ?_ _ _)))) HC.out).mono ?_; rw [HN.out]; rintro e w3 ⟨rfl, hb3⟩; obtain ⟨ex3, dx3, rfl⟩ := more_of hb3; clear hb3) | (go_at_call 35; refine (BodP.at (bodies_any _) (HV.out.below (by repeat (first | (with_reducible exact Below.refl _ _) | (with_reducible exact bl_mm) | (with_reducible refine bl_dr ?_) | (with_reducible refine bl_drN ?_ _) | (with_reducible refine bl_al ?_ _) | (with_reducible refine bl_more ?_ _ _))))).mono ?_; rw [HRB.out]; rintro e w4 ⟨rfl, hb4⟩; obtain ⟨ex4, dx4, rfl⟩ := more_of hb4; clear hb4))
          all_goals (go_ret; exact ⟨rfl, (by repeat (first | (with_reducible exact Below.refl _ _) | (with_reducible exact bl_mm) | (with_reducible refine bl_dr ?_) | (with_reducible refine bl_drN ?_ _) | (with_reducible refine bl_al ?_ _) | (with_reducible refine bl_more ?_ _ _)))⟩)
        | true =>
          have HRB := hid hrb
          clear hrb
          show Calls Try.prog 15 _ w fun e w' => e = .returned (.int .i64 0) ∧ _
          go_enter Try.func15, Try.ntmps15
          go_wp2_with (first | (go_at_call 34; refine names_any.mono ?_; rw [HNM.out]; rintro e w1 ⟨rfl, hb1⟩; obtain ⟨ex1, dx1, rfl⟩ := more_of hb1; clear hb1) | (go_at_call 17; refine (depth_any _ _ _ _ _ _ (HV.out.below (by repeat (first | (with_reducible exact Below.refl _ _) | (with_reducible exact bl_mm) | (with_reducible refine bl_dr ?_) | (with_reducible refine bl_drN ?_ _) | (with_reducible refine bl_al ?_ _) | (with_reducible refine bl_more ?_ _ _)))) HC.out).mono ?_; rw [HD.out]; rintro e w2 ⟨rfl, hb2⟩; obtain ⟨ex2, dx2, rfl⟩ := more_of hb2; clear hb2) | (go_at_call 19; refine (count_any _ _ _ _ _ _ (HV.out.below (by repeat (first | (with_reducible exact Below.refl _ _) | (with_reducible exact bl_mm) | (with_reducible refine bl_dr ?_) | (with_reducible refine bl_drN ?_ _) | (with_reducible refine bl_al ?_ _) | (with_reducible refine bl_more ?_ _ _)))) HC.out).mono ?_; rw [HN.out]; rintro e w3 ⟨rfl, hb3⟩; obtain ⟨ex3, dx3, rfl⟩ := more_of hb3; clear hb3) | (go_at_call 35; refine (BodP.at (bodies_any _) (HV.out.below (by repeat (first | (with_reducible exact Below.refl _ _) | (with_reducible exact bl_mm) | (with_reducible refine bl_dr ?_) | (with_reducible refine bl_drN ?_ _) | (with_reducible refine bl_al ?_ _) | (with_reducible refine bl_more ?_ _ _))))).mono ?_; rw [HRB.out]; rintro e w4 ⟨rfl, hb4⟩; obtain ⟨ex4, dx4, rfl⟩ := more_of hb4; clear hb4))
          all_goals (go_ret; exact ⟨rfl, (by repeat (first | (with_reducible exact Below.refl _ _) | (with_reducible exact bl_mm) | (with_reducible refine bl_dr ?_) | (with_reducible refine bl_drN ?_ _) | (with_reducible refine bl_al ?_ _) | (with_reducible refine bl_more ?_ _ _)))⟩)
      · have hq1 : ((1000 : Int) < (q : Int)) := by omega
        have hq2 : decide ((1000 : Int) < (q : Int)) = true := decide_eq_true hq1
        rw [decide_eq_false hq]
        clear hq
        show Calls Try.prog 15 _ w fun e w' => e = .returned (.int .i64 2) ∧ _
        go_enter Try.func15, Try.ntmps15
        go_wp2_with (first | (go_at_call 34; refine names_any.mono ?_; rw [HNM.out]; rintro e w1 ⟨rfl, hb1⟩; obtain ⟨ex1, dx1, rfl⟩ := more_of hb1; clear hb1) | (go_at_call 17; refine (depth_any _ _ _ _ _ _ (HV.out.below (by repeat (first | (with_reducible exact Below.refl _ _) | (with_reducible exact bl_mm) | (with_reducible refine bl_dr ?_) | (with_reducible refine bl_drN ?_ _) | (with_reducible refine bl_al ?_ _) | (with_reducible refine bl_more ?_ _ _)))) HC.out).mono ?_; rw [HD.out]; rintro e w2 ⟨rfl, hb2⟩; obtain ⟨ex2, dx2, rfl⟩ := more_of hb2; clear hb2) | (go_at_call 19; refine (count_any _ _ _ _ _ _ (HV.out.below (by repeat (first | (with_reducible exact Below.refl _ _) | (with_reducible exact bl_mm) | (with_reducible refine bl_dr ?_) | (with_reducible refine bl_drN ?_ _) | (with_reducible refine bl_al ?_ _) | (with_reducible refine bl_more ?_ _ _)))) HC.out).mono ?_; rw [HN.out]; rintro e w3 ⟨rfl, hb3⟩; obtain ⟨ex3, dx3, rfl⟩ := more_of hb3; clear hb3) | (go_at_call 35; refine (BodP.at (bodies_any _) (HV.out.below (by repeat (first | (with_reducible exact Below.refl _ _) | (with_reducible exact bl_mm) | (with_reducible refine bl_dr ?_) | (with_reducible refine bl_drN ?_ _) | (with_reducible refine bl_al ?_ _) | (with_reducible refine bl_more ?_ _ _))))).mono ?_; rw [HRB.out]; rintro e w4 ⟨rfl, hb4⟩; obtain ⟨ex4, dx4, rfl⟩ := more_of hb4; clear hb4))
        all_goals (go_ret; exact ⟨rfl, (by repeat (first | (with_reducible exact Below.refl _ _) | (with_reducible exact bl_mm) | (with_reducible refine bl_dr ?_) | (with_reducible refine bl_drN ?_ _) | (with_reducible refine bl_al ?_ _) | (with_reducible refine bl_more ?_ _ _)))⟩)
    · have hd1 : ((70 : Int) < (d : Int)) := by omega
      have hd2 : decide ((70 : Int) < (d : Int)) = true := decide_eq_true hd1
      rw [decide_eq_false hd]
      clear hd
      show Calls Try.prog 15 _ w fun e w' => e = .returned (.int .i64 2) ∧ _
      go_enter Try.func15, Try.ntmps15
      go_wp2_with (first | (go_at_call 34; refine names_any.mono ?_; rw [HNM.out]; rintro e w1 ⟨rfl, hb1⟩; obtain ⟨ex1, dx1, rfl⟩ := more_of hb1; clear hb1) | (go_at_call 17; refine (depth_any _ _ _ _ _ _ (HV.out.below (by repeat (first | (with_reducible exact Below.refl _ _) | (with_reducible exact bl_mm) | (with_reducible refine bl_dr ?_) | (with_reducible refine bl_drN ?_ _) | (with_reducible refine bl_al ?_ _) | (with_reducible refine bl_more ?_ _ _)))) HC.out).mono ?_; rw [HD.out]; rintro e w2 ⟨rfl, hb2⟩; obtain ⟨ex2, dx2, rfl⟩ := more_of hb2; clear hb2) | (go_at_call 19; refine (count_any _ _ _ _ _ _ (HV.out.below (by repeat (first | (with_reducible exact Below.refl _ _) | (with_reducible exact bl_mm) | (with_reducible refine bl_dr ?_) | (with_reducible refine bl_drN ?_ _) | (with_reducible refine bl_al ?_ _) | (with_reducible refine bl_more ?_ _ _)))) HC.out).mono ?_; rw [HN.out]; rintro e w3 ⟨rfl, hb3⟩; obtain ⟨ex3, dx3, rfl⟩ := more_of hb3; clear hb3) | (go_at_call 35; refine (BodP.at (bodies_any _) (HV.out.below (by repeat (first | (with_reducible exact Below.refl _ _) | (with_reducible exact bl_mm) | (with_reducible refine bl_dr ?_) | (with_reducible refine bl_drN ?_ _) | (with_reducible refine bl_al ?_ _) | (with_reducible refine bl_more ?_ _ _))))).mono ?_; rw [HRB.out]; rintro e w4 ⟨rfl, hb4⟩; obtain ⟨ex4, dx4, rfl⟩ := more_of hb4; clear hb4))
      all_goals (go_ret; exact ⟨rfl, (by repeat (first | (with_reducible exact Below.refl _ _) | (with_reducible exact bl_mm) | (with_reducible refine bl_dr ?_) | (with_reducible refine bl_drN ?_ _) | (with_reducible refine bl_al ?_ _) | (with_reducible refine bl_more ?_ _ _)))⟩)
set_option maxHeartbeats 4000000 in
theorem dRight_any {n : Nat} {nm : ByteArray} {w : World} {K : Nat → Prop} {v : Value} {l : List (List Nd)} (hv : (bodyE n).Row K w v l) (hc : countB l ≤ 4294967296) :
    Calls Try.prog 32 #[.agg #[.string nm, v]] w fun e w' => e = .returned (.bool (sagaR nm l)) ∧ Below w.heap.size w w' := by
  obtain ⟨A, cp, rfl, _, _⟩ := hv.form
  have HV := hid hv
  have HC := hid hc
  unfold sagaR
  obtain ⟨d, hd⟩ : ∃ d, depthB l = d := ⟨_, rfl⟩
  obtain ⟨q, hq⟩ : ∃ q, countB l = q := ⟨_, rfl⟩
  rw [hd, hq]
  have HD := hid hd
  have HN := hid hq
  clear hv hc hd hq
  cases hnm : nmR nm with
  | false =>
    have HNM := hid hnm
    clear hnm
    show Calls Try.prog 32 _ w fun e w' => e = .returned (.bool false) ∧ _
    go_enter Try.func32, Try.ntmps32
    go_wp2_with (first | (go_at_call 49; refine dnames_any.mono ?_; rw [HNM.out]; rintro e w1 ⟨rfl, hb1⟩; obtain ⟨ex1, dx1, rfl⟩ := more_of hb1; clear hb1) | (go_at_call 18; refine (ddepth_any (HV.out.below (by repeat (first | (with_reducible exact Below.refl _ _) | (with_reducible exact bl_mm) | (with_reducible refine bl_dr ?_) | (with_reducible refine bl_drN ?_ _) | (with_reducible refine bl_al ?_ _) | (with_reducible refine bl_more ?_ _ _)))) HC.out).mono ?_; rw [HD.out]; rintro e w2 ⟨rfl, hb2⟩; obtain ⟨ex2, dx2, rfl⟩ := more_of hb2; clear hb2) | (go_at_call 20; refine (dcount_any (HV.out.below (by repeat (first | (with_reducible exact Below.refl _ _) | (with_reducible exact bl_mm) | (with_reducible refine bl_dr ?_) | (with_reducible refine bl_drN ?_ _) | (with_reducible refine bl_al ?_ _) | (with_reducible refine bl_more ?_ _ _)))) HC.out).mono ?_; rw [HN.out]; rintro e w3 ⟨rfl, hb3⟩; obtain ⟨ex3, dx3, rfl⟩ := more_of hb3; clear hb3) | (go_at_call 54; refine (RigP.at (right_any _) (HV.out.below (by repeat (first | (with_reducible exact Below.refl _ _) | (with_reducible exact bl_mm) | (with_reducible refine bl_dr ?_) | (with_reducible refine bl_drN ?_ _) | (with_reducible refine bl_al ?_ _) | (with_reducible refine bl_more ?_ _ _))))).mono ?_; rw [HRB.out]; rintro e w4 ⟨rfl, hb4⟩; obtain ⟨ex4, dx4, rfl⟩ := more_of hb4; clear hb4))
    all_goals (go_ret; exact ⟨rfl, (by repeat (first | (with_reducible exact Below.refl _ _) | (with_reducible exact bl_mm) | (with_reducible refine bl_dr ?_) | (with_reducible refine bl_drN ?_ _) | (with_reducible refine bl_al ?_ _) | (with_reducible refine bl_more ?_ _ _)))⟩)
  | true =>
    have HNM := hid hnm
    clear hnm
    cases hrb : rightB l with
    | false =>
      have HRB := hid hrb
      clear hrb
      rw [Bool.and_false]
      go_enter Try.func32, Try.ntmps32
      go_wp2_with (first | (go_at_call 49; refine dnames_any.mono ?_; rw [HNM.out]; rintro e w1 ⟨rfl, hb1⟩; obtain ⟨ex1, dx1, rfl⟩ := more_of hb1; clear hb1) | (go_at_call 18; refine (ddepth_any (HV.out.below (by repeat (first | (with_reducible exact Below.refl _ _) | (with_reducible exact bl_mm) | (with_reducible refine bl_dr ?_) | (with_reducible refine bl_drN ?_ _) | (with_reducible refine bl_al ?_ _) | (with_reducible refine bl_more ?_ _ _)))) HC.out).mono ?_; rw [HD.out]; rintro e w2 ⟨rfl, hb2⟩; obtain ⟨ex2, dx2, rfl⟩ := more_of hb2; clear hb2) | (go_at_call 20; refine (dcount_any (HV.out.below (by repeat (first | (with_reducible exact Below.refl _ _) | (with_reducible exact bl_mm) | (with_reducible refine bl_dr ?_) | (with_reducible refine bl_drN ?_ _) | (with_reducible refine bl_al ?_ _) | (with_reducible refine bl_more ?_ _ _)))) HC.out).mono ?_; rw [HN.out]; rintro e w3 ⟨rfl, hb3⟩; obtain ⟨ex3, dx3, rfl⟩ := more_of hb3; clear hb3) | (go_at_call 54; refine (RigP.at (right_any _) (HV.out.below (by repeat (first | (with_reducible exact Below.refl _ _) | (with_reducible exact bl_mm) | (with_reducible refine bl_dr ?_) | (with_reducible refine bl_drN ?_ _) | (with_reducible refine bl_al ?_ _) | (with_reducible refine bl_more ?_ _ _))))).mono ?_; rw [HRB.out]; rintro e w4 ⟨rfl, hb4⟩; obtain ⟨ex4, dx4, rfl⟩ := more_of hb4; clear hb4))
      all_goals (go_ret; exact ⟨rfl, (by repeat (first | (with_reducible exact Below.refl _ _) | (with_reducible exact bl_mm) | (with_reducible refine bl_dr ?_) | (with_reducible refine bl_drN ?_ _) | (with_reducible refine bl_al ?_ _) | (with_reducible refine bl_more ?_ _ _)))⟩)
    | true =>
      have HRB := hid hrb
      clear hrb
      by_cases hd : d ≤ 70
      · have hd1 : ((d : Int) ≤ 70) := by omega
        have hd2 : decide ((d : Int) ≤ 70) = true := decide_eq_true hd1
        rw [decide_eq_true hd]
        clear hd
        by_cases hq : q ≤ 1000
        · have hq1 : ((q : Int) ≤ 1000) := by omega
          have hq2 : decide ((q : Int) ≤ 1000) = true := decide_eq_true hq1
          rw [decide_eq_true hq]
          clear hq
          show Calls Try.prog 32 _ w fun e w' => e = .returned (.bool true) ∧ _
          go_enter Try.func32, Try.ntmps32
          go_wp2_with (first | (go_at_call 49; refine dnames_any.mono ?_; rw [HNM.out]; rintro e w1 ⟨rfl, hb1⟩; obtain ⟨ex1, dx1, rfl⟩ := more_of hb1; clear hb1) | (go_at_call 18; refine (ddepth_any (HV.out.below (by repeat (first | (with_reducible exact Below.refl _ _) | (with_reducible exact bl_mm) | (with_reducible refine bl_dr ?_) | (with_reducible refine bl_drN ?_ _) | (with_reducible refine bl_al ?_ _) | (with_reducible refine bl_more ?_ _ _)))) HC.out).mono ?_; rw [HD.out]; rintro e w2 ⟨rfl, hb2⟩; obtain ⟨ex2, dx2, rfl⟩ := more_of hb2; clear hb2) | (go_at_call 20; refine (dcount_any (HV.out.below (by repeat (first | (with_reducible exact Below.refl _ _) | (with_reducible exact bl_mm) | (with_reducible refine bl_dr ?_) | (with_reducible refine bl_drN ?_ _) | (with_reducible refine bl_al ?_ _) | (with_reducible refine bl_more ?_ _ _)))) HC.out).mono ?_; rw [HN.out]; rintro e w3 ⟨rfl, hb3⟩; obtain ⟨ex3, dx3, rfl⟩ := more_of hb3; clear hb3) | (go_at_call 54; refine (RigP.at (right_any _) (HV.out.below (by repeat (first | (with_reducible exact Below.refl _ _) | (with_reducible exact bl_mm) | (with_reducible refine bl_dr ?_) | (with_reducible refine bl_drN ?_ _) | (with_reducible refine bl_al ?_ _) | (with_reducible refine bl_more ?_ _ _))))).mono ?_; rw [HRB.out]; rintro e w4 ⟨rfl, hb4⟩; obtain ⟨ex4, dx4, rfl⟩ := more_of hb4; clear hb4))
          all_goals (go_ret; exact ⟨rfl, (by repeat (first | (with_reducible exact Below.refl _ _) | (with_reducible exact bl_mm) | (with_reducible refine bl_dr ?_) | (with_reducible refine bl_drN ?_ _) | (with_reducible refine bl_al ?_ _) | (with_reducible refine bl_more ?_ _ _)))⟩)
        · have hq1 : ¬ ((q : Int) ≤ 1000) := by omega
          have hq2 : decide ((q : Int) ≤ 1000) = false := decide_eq_false hq1
          rw [decide_eq_false hq]
          clear hq
          show Calls Try.prog 32 _ w fun e w' => e = .returned (.bool false) ∧ _
          go_enter Try.func32, Try.ntmps32
          go_wp2_with (first | (go_at_call 49; refine dnames_any.mono ?_; rw [HNM.out]; rintro e w1 ⟨rfl, hb1⟩; obtain ⟨ex1, dx1, rfl⟩ := more_of hb1; clear hb1) | (go_at_call 18; refine (ddepth_any (HV.out.below (by repeat (first | (with_reducible exact Below.refl _ _) | (with_reducible exact bl_mm) | (with_reducible refine bl_dr ?_) | (with_reducible refine bl_drN ?_ _) | (with_reducible refine bl_al ?_ _) | (with_reducible refine bl_more ?_ _ _)))) HC.out).mono ?_; rw [HD.out]; rintro e w2 ⟨rfl, hb2⟩; obtain ⟨ex2, dx2, rfl⟩ := more_of hb2; clear hb2) | (go_at_call 20; refine (dcount_any (HV.out.below (by repeat (first | (with_reducible exact Below.refl _ _) | (with_reducible exact bl_mm) | (with_reducible refine bl_dr ?_) | (with_reducible refine bl_drN ?_ _) | (with_reducible refine bl_al ?_ _) | (with_reducible refine bl_more ?_ _ _)))) HC.out).mono ?_; rw [HN.out]; rintro e w3 ⟨rfl, hb3⟩; obtain ⟨ex3, dx3, rfl⟩ := more_of hb3; clear hb3) | (go_at_call 54; refine (RigP.at (right_any _) (HV.out.below (by repeat (first | (with_reducible exact Below.refl _ _) | (with_reducible exact bl_mm) | (with_reducible refine bl_dr ?_) | (with_reducible refine bl_drN ?_ _) | (with_reducible refine bl_al ?_ _) | (with_reducible refine bl_more ?_ _ _))))).mono ?_; rw [HRB.out]; rintro e w4 ⟨rfl, hb4⟩; obtain ⟨ex4, dx4, rfl⟩ := more_of hb4; clear hb4))
          all_goals (go_ret; exact ⟨rfl, (by repeat (first | (with_reducible exact Below.refl _ _) | (with_reducible exact bl_mm) | (with_reducible refine bl_dr ?_) | (with_reducible refine bl_drN ?_ _) | (with_reducible refine bl_al ?_ _) | (with_reducible refine bl_more ?_ _ _)))⟩)
      · have hd1 : ¬ ((d : Int) ≤ 70) := by omega
        have hd2 : decide ((d : Int) ≤ 70) = false := decide_eq_false hd1
        rw [decide_eq_false hd]
        clear hd
        show Calls Try.prog 32 _ w fun e w' => e = .returned (.bool false) ∧ _
        go_enter Try.func32, Try.ntmps32
        go_wp2_with (first | (go_at_call 49; refine dnames_any.mono ?_; rw [HNM.out]; rintro e w1 ⟨rfl, hb1⟩; obtain ⟨ex1, dx1, rfl⟩ := more_of hb1; clear hb1) | (go_at_call 18; refine (ddepth_any (HV.out.below (by repeat (first | (with_reducible exact Below.refl _ _) | (with_reducible exact bl_mm) | (with_reducible refine bl_dr ?_) | (with_reducible refine bl_drN ?_ _) | (with_reducible refine bl_al ?_ _) | (with_reducible refine bl_more ?_ _ _)))) HC.out).mono ?_; rw [HD.out]; rintro e w2 ⟨rfl, hb2⟩; obtain ⟨ex2, dx2, rfl⟩ := more_of hb2; clear hb2) | (go_at_call 20; refine (dcount_any (HV.out.below (by repeat (first | (with_reducible exact Below.refl _ _) | (with_reducible exact bl_mm) | (with_reducible refine bl_dr ?_) | (with_reducible refine bl_drN ?_ _) | (with_reducible refine bl_al ?_ _) | (with_reducible refine bl_more ?_ _ _)))) HC.out).mono ?_; rw [HN.out]; rintro e w3 ⟨rfl, hb3⟩; obtain ⟨ex3, dx3, rfl⟩ := more_of hb3; clear hb3) | (go_at_call 54; refine (RigP.at (right_any _) (HV.out.below (by repeat (first | (with_reducible exact Below.refl _ _) | (with_reducible exact bl_mm) | (with_reducible refine bl_dr ?_) | (with_reducible refine bl_drN ?_ _) | (with_reducible refine bl_al ?_ _) | (with_reducible refine bl_more ?_ _ _))))).mono ?_; rw [HRB.out]; rintro e w4 ⟨rfl, hb4⟩; obtain ⟨ex4, dx4, rfl⟩ := more_of hb4; clear hb4))
        all_goals (go_ret; exact ⟨rfl, (by repeat (first | (with_reducible exact Below.refl _ _) | (with_reducible exact bl_mm) | (with_reducible refine bl_dr ?_) | (with_reducible refine bl_drN ?_ _) | (with_reducible refine bl_al ?_ _) | (with_reducible refine bl_more ?_ _ _)))⟩)
theorem dcheck_any {n : Nat} {nm : ByteArray} {w : World} {K : Nat → Prop} {v : Value} {l : List (List Nd)} (hv : (bodyE n).Row K w v l) (hc : countB l ≤ 4294967296) :
    Calls Try.prog 16 #[.agg #[.string nm, v]] w fun e w' => e = .returned (.int .i64 (erOf (sagaR nm l))) ∧ Below w.heap.size w w' := by
  obtain ⟨A, cp, rfl, _, _⟩ := hv.form
  have HV := hid hv
  have HC := hid hc
  clear hv hc
  cases hr : sagaR nm l with
  | true =>
    have HR := hid hr
    clear hr
    go_enter Try.func16, Try.ntmps16
    go_wp2_with (first | (go_at_call 32; refine (dRight_any (HV.out.below (by repeat (first | (with_reducible exact Below.refl _ _) | (with_reducible exact bl_mm) | (with_reducible refine bl_dr ?_) | (with_reducible refine bl_drN ?_ _) | (with_reducible refine bl_al ?_ _) | (with_reducible refine bl_more ?_ _ _)))) HC.out).mono ?_; rw [HR.out]; rintro e w1 ⟨rfl, hb1⟩; obtain ⟨ex1, dx1, rfl⟩ := more_of hb1; clear hb1))
    go_ret
    exact ⟨rfl, (by repeat (first | (with_reducible exact Below.refl _ _) | (with_reducible exact bl_mm) | (with_reducible refine bl_dr ?_) | (with_reducible refine bl_drN ?_ _) | (with_reducible refine bl_al ?_ _) | (with_reducible refine bl_more ?_ _ _)))⟩
  | false =>
    have HR := hid hr
    clear hr
    go_enter Try.func16, Try.ntmps16
    go_wp2_with (first | (go_at_call 32; refine (dRight_any (HV.out.below (by repeat (first | (with_reducible exact Below.refl _ _) | (with_reducible exact bl_mm) | (with_reducible refine bl_dr ?_) | (with_reducible refine bl_drN ?_ _) | (with_reducible refine bl_al ?_ _) | (with_reducible refine bl_more ?_ _ _)))) HC.out).mono ?_; rw [HR.out]; rintro e w1 ⟨rfl, hb1⟩; obtain ⟨ex1, dx1, rfl⟩ := more_of hb1; clear hb1))
    go_ret
    exact ⟨rfl, (by repeat (first | (with_reducible exact Below.refl _ _) | (with_reducible exact bl_mm) | (with_reducible refine bl_dr ?_) | (with_reducible refine bl_drN ?_ _) | (with_reducible refine bl_al ?_ _) | (with_reducible refine bl_more ?_ _ _)))⟩
end Go.Proofs.Ytidilpciolladaa
