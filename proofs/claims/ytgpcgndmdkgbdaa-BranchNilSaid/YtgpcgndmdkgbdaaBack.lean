/- 'argosylaw.BranchBack' holds: 'Rows.BranchBackSaid', for every input, with no further condition. -/
import Derived.Test.YtgpcgndmdkgbdaaGg
import Derived.Test.YtgpcgndmdkgbdaaRows
import Derived.WalkKit
import Derived.ProofKit
import Derived.OpenShut
import Derived.ShutString
import Derived.ChangeOld
import Derived.Below
import Derived.Test.YtgpcgndmdkgbdaaGa
/- BranchBack: what was appended is told. -/
namespace Go.Proofs.Ytgpcgndmdkgbdaa
open Go.RowKit Go.Shelf

theorem LdI.load {N d M i : Nat} {R : Nat → Prop} {w W : World} {s : DS} {es : List Ev} {v : Value} {C : Int} {L : List (Ev × Nat)} (h : LdI N w d s es v M R W) (hs : s.Ok C) (hC : C ≤ 1000000000) (hi : i + 1 < s.fs.length) (hp : logW (byt (fileB s i)) i ((s.fs.length - 1 : Nat) : Int) = L) :
    Calls Try.prog 10 #[.pointer (some ⟨d, 0, none⟩), .int .i64 i] W (LoadR L W) := by
  obtain ⟨G, _, _, h1, _⟩ := h.ex
  have := load_any h1 hs hC i (by omega) hi
  rw [show s.fs[i].b = fileB s i by unfold fileB; simp [show i < s.fs.length by omega], hp] at this
  exact this
theorem LdI.read {N d M i : Nat} {R : Nat → Prop} {w W : World} {s : DS} {es : List Ev} {v : Value} {C : Int} {B : List UInt8} (h : LdI N w d s es v M R W) (hs : s.Ok C) (hC : C ≤ 1000000000) (hi : i < s.fs.length) (hp : fileB s i = B) :
    Calls Try.prog 12 #[.pointer (some ⟨d, 0, none⟩), .int .i64 i] W fun e X => ∃ A c, e = .returned (.slice A B.length c) ∧ Below W.heap.size W X := by
  obtain ⟨G, _, _, h1, _⟩ := h.ex
  refine (read_any h1 hs hC i hi).mono fun e X ⟨v', q1, q2, q3⟩ => ?_
  rw [show s.fs[i].b = B by rw [← hp]; unfold fileB; simp [hi]] at q2
  obtain ⟨A, c, rfl, _, _⟩ := q2.form
  exact ⟨A, c, q1, q3⟩
theorem LdI.row {N d M : Nat} {R : Nat → Prop} {w W : World} {s : DS} {es : List Ev} {v : Value} (h : LdI N w d s es v M R W) : evE.Row (fun _ => True) W v es := by
  obtain ⟨_, _, _, _, _, h3, _⟩ := h.ex
  exact h3.row (fun _ _ _ => trivial) trivial
theorem st_file {es : List Ev} {y : Nat} : fileB (stD es y) 1 = ofI (flE es) ∧ fileB (stD es y) 0 = [] ∧ fileB (stD es y) 2 = [] := ⟨rfl, rfl, rfl⟩
theorem evsN_in {l : List Ev} {j : Nat} (hj : j ≤ n0 l) (hl : l.length ≤ 100) : ∀ b ∈ flE (evsN l j), 0 ≤ b ∧ b < 256 := flE_in (fun e he => by
  obtain ⟨i, hi, rfl⟩ := List.getElem_of_mem he
  exact (evsN_ok hj hl i _ (List.getElem?_eq_getElem hi)).1)
theorem st_log {l : List Ev} {j y : Nat} (hj : j ≤ n0 l) (hl : l.length ≤ 100) : logW (byt (fileB (stD (evsN l j) y) 1)) ((1 : Nat) : Int) (((stD (evsN l j) y).fs.length - 1 : Nat) : Int) = ends 0 (evsN l j) := by
  rw [st_file.1, byt_ofI (evsN_in hj hl)]
  exact log_st hj hl
theorem st_log0 {es : List Ev} {y : Nat} : logW (byt (fileB (stD es y) 0)) ((0 : Nat) : Int) (((stD es y).fs.length - 1 : Nat) : Int) = [] := by
  rw [st_file.2.1]
  rfl
theorem atF_ends (es : List Ev) : atF (ends 0 es) (ends 0 es).length = (flE es).length := by
  unfold atF
  rw [List.take_length]
  have := ends_last es 0
  omega
set_option maxRecDepth 8000 in
set_option maxHeartbeats 4000000 in
theorem back_any {w : World} {v : Value} {l : List Ev} (h : evE.Row (fun b => b < w.heap.size) w v l) : Calls Try.prog 3 #[v] w fun e w' => e = .returned (.bool true) ∧ Below w.heap.size w w' := by
  obtain ⟨A, c, rfl, _, _⟩ := h.form
  by_cases hl : l.length ≤ 100
  · have HR := hid h
    have HL := hid hl
    have hl1 : ¬ (100 : Int) < (l.length : Int) := by omega
    have hlg := st_log (l := l) (j := n0 l) (y := sy l 0 (n0 l)) (Nat.le_refl _) hl
    have hlg0 := st_log0 (es := evsN l (n0 l)) (y := sy l 0 (n0 l))
    have hf1 := (st_file (es := evsN l (n0 l)) (y := sy l 0 (n0 l))).1
    have hby := evsN_bytes (l := l) (j := n0 l) (Nat.le_refl _) hl
    have hs : (stD (evsN l (n0 l)) (sy l 0 (n0 l))).Ok 20000 := stD_ok (by omega) sy_le
    have hl3 : (stD (evsN l (n0 l)) (sy l 0 (n0 l))).fs.length = 3 := rfl
    have hat := atF_ends (evsN l (n0 l))
    have hmp := ends_map (evsN l (n0 l)) 0
    obtain ⟨s, hse⟩ : ∃ s, stD (evsN l (n0 l)) (sy l 0 (n0 l)) = s := ⟨_, rfl⟩
    rw [hse] at hlg hlg0 hf1 hs hl3
    obtain ⟨es, hes⟩ : ∃ es, evsN l (n0 l) = es := ⟨_, rfl⟩
    have HSE : Hid (stD es (sy l 0 (n0 l)) = s) := hid (by rw [← hes]; exact hse)
    rw [hes] at hlg hf1 hat hmp
    have HES := hid hes
    obtain ⟨L, hL⟩ : ∃ L, ends 0 es = L := ⟨_, rfl⟩
    rw [hL] at hlg hat hmp
    obtain ⟨B, hB⟩ : ∃ B, ofI (flE es) = B := ⟨_, rfl⟩
    rw [hB] at hf1
    have hbl : B.length = (flE es).length := by rw [← hB, ofI_len]
    rw [← hbl] at hat
    have HLG := hid hlg
    have HLG0 := hid hlg0
    have HF1 := hid hf1
    have HS := hid hs
    have HL3 := hid hl3
    have HAT := hid hat
    have HMP := hid hmp
    have hat0 : atF [] 0 = 0 := rfl
    clear hlg hlg0 hf1 hby hs hl3 hat hmp hse hes hL hB hbl
    have M1 := hid trivial
    have M2 := hid trivial
    clear h hl
    go_enter Try.func3, Try.ntmps3
    go_wp2_with (first | (go_at_call 9; refine (llaid_any HR.out HL.out).mono ?_; rintro e w2 ⟨d, v2, M, rfl, hld⟩; rw [HES.out, HSE.out] at hld; obtain ⟨A2, c2, rfl⟩ := hld.form; have HLD := hid hld; clear hld))
    go_wp2_with (first | (go_at_call 10; clear M1; refine ((HLD.out.below (by repeat (first | (with_reducible exact Below.refl _ _) | (with_reducible exact bl_mm) | (with_reducible refine bl_dr ?_) | (with_reducible refine bl_drN ?_ _) | (with_reducible refine bl_al ?_ _) | (with_reducible refine bl_more ?_ _ _)))).load (i := 1) HS.out (by omega) (by rw [HL3.out]; omega) HLG.out).mono ?_; rintro e w3 ⟨v3, g3, rfl, ho3, hb3⟩; rw [HMP.out] at ho3; obtain ⟨A3, c3, rfl, _, _⟩ := ho3.sp.form; have HO3 := hid (ho3.row (fun _ hb => hb)); obtain ⟨ex3, dx3, rfl⟩ := more_of hb3; rw [HAT.out]; clear ho3 hb3))
    go_wp2_with (first | (go_at_call 10; clear M2; refine ((HLD.out.below (by repeat (first | (with_reducible exact Below.refl _ _) | (with_reducible exact bl_mm) | (with_reducible refine bl_dr ?_) | (with_reducible refine bl_drN ?_ _) | (with_reducible refine bl_al ?_ _) | (with_reducible refine bl_more ?_ _ _)))).load (i := 0) HS.out (by omega) (by rw [HL3.out]; omega) HLG0.out).mono ?_; rintro e w4 ⟨v4, g4, rfl, ho4, hb4⟩; obtain ⟨A4, c4, rfl, _, _⟩ := ho4.sp.form; obtain ⟨ex4, dx4, rfl⟩ := more_of hb4; clear ho4 hb4))
    go_wp2_with (first | (go_at_call 11; refine (esames_any (HO3.out.below (by repeat (first | (with_reducible exact Below.refl _ _) | (with_reducible exact bl_mm) | (with_reducible refine bl_dr ?_) | (with_reducible refine bl_drN ?_ _) | (with_reducible refine bl_al ?_ _) | (with_reducible refine bl_more ?_ _ _)))) ((HLD.out.below (by repeat (first | (with_reducible exact Below.refl _ _) | (with_reducible exact bl_mm) | (with_reducible refine bl_dr ?_) | (with_reducible refine bl_drN ?_ _) | (with_reducible refine bl_al ?_ _) | (with_reducible refine bl_more ?_ _ _)))).row)).mono ?_; rintro e w5 ⟨rfl, hb5⟩; obtain ⟨ex5, dx5, rfl⟩ := more_of hb5; clear hb5; rw [decide_eq_true (rfl : es = es)]) | (go_at_call 12; refine ((HLD.out.below (by repeat (first | (with_reducible exact Below.refl _ _) | (with_reducible exact bl_mm) | (with_reducible refine bl_dr ?_) | (with_reducible refine bl_drN ?_ _) | (with_reducible refine bl_al ?_ _) | (with_reducible refine bl_more ?_ _ _)))).read (i := 1) HS.out (by omega) (by rw [HL3.out]; omega) HF1.out).mono ?_; rintro e w6 ⟨A6, c6, rfl, hb6⟩; obtain ⟨ex6, dx6, rfl⟩ := more_of hb6; clear hb6) | (go_at_call 8; refine lives_any.mono ?_; rintro e w1 ⟨rfl, hb1⟩; obtain ⟨ex1, dx1, rfl⟩ := more_of hb1; clear hb1))
    go_ret
    exact ⟨rfl, bl_then HLD.out.low (by repeat (first | (with_reducible exact Below.refl _ _) | (with_reducible exact bl_mm) | (with_reducible refine bl_dr ?_) | (with_reducible refine bl_drN ?_ _) | (with_reducible refine bl_al ?_ _) | (with_reducible refine bl_more ?_ _ _)))⟩
  · have hl1 : (100 : Int) < (l.length : Int) := by omega
    clear h hl
    go_enter Try.func3, Try.ntmps3
    go_wp2_with (first | (go_at_call 8; refine lives_any.mono ?_; rintro e w1 ⟨rfl, hb1⟩; obtain ⟨ex1, dx1, rfl⟩ := more_of hb1; clear hb1))
    go_ret
    exact ⟨rfl, (by repeat (first | (with_reducible exact Below.refl _ _) | (with_reducible exact bl_mm) | (with_reducible refine bl_dr ?_) | (with_reducible refine bl_drN ?_ _) | (with_reducible refine bl_al ?_ _) | (with_reducible refine bl_more ?_ _ _)))⟩
end Go.Proofs.Ytgpcgndmdkgbdaa

/- 'argosylaw.BranchBack' holds: 'Rows.BranchBackSaid', for every input, with no further condition. -/
namespace Go.Proofs.Ytgpcgndmdkgbdaa.branchBack
open Go.ChangeShapes Go.WideShapes Go.ChangeAt Go.RowKit
open Go.ChangeMaps (open_string shut_string)

theorem own : ownKnob Try.prog.godebug = none := by kernel_rfl
theorem laidOut : laidOutB Try.prog = true := by kernel_rfl

set_option maxRecDepth 100000 in
theorem lifted (os : Os) (started : os.Started) (H : Type) (enc : TypeId × Value → H) :
    ReturnsInHanded {} Try.checked os 3 .any (Rows.branchBackSpec.pre6 enc Try.prog Try.f3 Rows.branchBackRow.domain false) (Rows.branchBackSpec.post enc Try.prog Try.f3 false true false false) := by
  refine returnsInHanded_of_change (C := Try.checked) own started (by kernel_rfl) Try.func3
    (ChangeSpec.witness6 (enc := enc) (C := Try.checked) false ⟨#[], #[.slice none 0 0], []⟩ 8 (by kernel_rfl) (by kernel_rfl) (by kernel_rfl) (by kernel_rfl)) ?_
  intro W base args ds gs before hval0 hW _ _
  have hval : ∀ (j : Nat) t v, Try.f3.params[j]? = some t → args[j]? = some v → Value.okWide Try.prog W .any base t v := hval0
  have hW' := hW
  obtain ⟨p, q, hA0, hV, rfl, _, _⟩ := hW
  have hA : DataW.TrodAll enc Try.prog W 0 (fun _ => true) true Try.f3.params.toList args.toList ds p := hA0
  rw [Try.params3] at hA hval
  obtain ⟨v0, vs0, d0, ds0, p0, q0, hargs, rfl, rfl, h0, r_0⟩ := trodAll_cons hA
  obtain ⟨rfl, rfl, rfl⟩ := trodAll_nil r_0
  obtain rfl : args = #[v0] := by cases args; simp_all
  obtain ⟨rfl, rfl⟩ := trodVars_none hV
  obtain ⟨b0, n0, c0, rfl⟩ := okWide_slice Try.underlying22 (hval 0 22 v0 rfl rfl)
  have k0 := h0
  have lt0 : ∀ x ∈ p0, x.block < W.heap.size := by obtain ⟨m, hm⟩ := k0; exact DataW.trod_lt m _ _ _ hm
  obtain ⟨x0, g0, r0⟩ := Opens.arg evs_op h0
  clear hA0 hval0
  refine (back_any (r0.bound.mono (fun _ h _ => h.2))).mono fun e W' ⟨he, bel⟩ => ?_
  subst he
  exact ⟨_, rfl, _, _, _, [], _, [], hW', trodAll_mk1 (shut_bool Try.underlying4 _), (trodAll_cons_mk (Below.trod laidOut (by kernel_rfl) (of_decide_eq_true (by kernel_rfl)) k0 bel lt0) trodAll_mk0), rfl, bel.frame _, fun h => by cases h⟩

theorem over : Rows.branchBackRow.holds Try.pinned (OpenSpec.ofChange Rows.branchBackSpec) :=
  OpenClaim.holds_of_wide 3 Try.f3 rfl rfl rfl rfl rfl rfl rfl ⟨rfl, rfl, rfl, rfl, rfl⟩ rfl rfl rfl rfl rfl (by kernel_rfl) Try.func3 (by kernel_rfl)
    (of_decide_eq_true (by kernel_rfl)) (by unfold Func.isWrapper; first | (rw [if_pos (by decide +kernel)]; kernel_rfl) | (rw [if_neg (by decide +kernel)]; exact ⟨rfl, rfl⟩))
    (fun os started H enc _ => lifted os started H enc)
end Go.Proofs.Ytgpcgndmdkgbdaa.branchBack
namespace Go.Proofs.Ytgpcgndmdkgbdaa
theorem branchBack_proved : Rows.BranchBackSaid := branchBack.over
#print axioms branchBack_proved
end Go.Proofs.Ytgpcgndmdkgbdaa
