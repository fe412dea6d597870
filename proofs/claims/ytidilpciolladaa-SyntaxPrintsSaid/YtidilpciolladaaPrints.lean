/- 'argosylaw.SyntaxPrints' holds: 'Rows.SyntaxPrintsSaid', for every input, with no further condition. -/
import Derived.Test.YtidilpciolladaaGm
import Derived.Test.YtidilpciolladaaRows
import Derived.WalkKit
import Derived.ProofKit
import Derived.OpenShut
import Derived.ShutString
import Derived.ChangeOld
import Derived.Below
import Derived.Test.YtidilpciolladaaGa
/- SyntaxPrints, walked. -/
namespace Go.Proofs.Ytidilpciolladaa
open Go.RowKit

set_option maxRecDepth 8000 in
set_option maxHeartbeats 8000000 in
theorem prints_any {w : World} {K : Nat → Prop} {x : ByteArray × List (List Nd)} {c : Array Value} (h : sagaA.rd K w x c.toList) : Calls Try.prog 4 #[.agg c] w fun e w' => e = .returned (.bool true) ∧ Below w.heap.size w w' := by
  obtain ⟨n, v, rfl, hr⟩ := sagaA_open h
  obtain ⟨A, cp, rfl, _, _⟩ := hr.form
  have HV := hid hr
  clear h hr
  obtain ⟨nm, al⟩ := x
  obtain ⟨s, hs⟩ : ∃ s, printR nm al = s := ⟨_, rfl⟩
  obtain ⟨er, he⟩ : ∃ er, erOf (sagaR nm al) = er := ⟨_, rfl⟩
  obtain ⟨d, hd⟩ : ∃ d, depthB al = d := ⟨_, rfl⟩
  obtain ⟨q, hq⟩ : ∃ q, countB al = q := ⟨_, rfl⟩
  have HPR := hid hs
  have HER := hid he
  have HDE := hid hd
  have HCN := hid hq
  clear hs he hd hq
  go_enter Try.func4, Try.ntmps4
  go_wp2_with (first | ((with_reducible refine wp_region_plan (id := 5) (.eff [(false, 0), (false, 1), (false, 2), (false, 3), (false, 4), (false, 5), (false, 6), (false, 7), (false, 8), (false, 9), (true, 11)] 10 [11] (.eff [] 12 [] (.eff [(false, 13), (false, 14), (false, 15), (false, 16), (true, 18)] 17 [18] (.eff [] 19 [] (.eff [(false, 20), (false, 21), (false, 22), (false, 23), (true, 25)] 24 [25] (.eff [] 26 [] (.eff [(false, 27), (false, 28), (false, 29)] 30 [] (.fin [(false, 31), (false, 32)])))))))) ?_ ?_ ?_ ?_ ?_ ?_); kernel_rfl; kernel_rfl; kernel_rfl; kernel_rfl; (intro c a d v w h; cases d <;> exact h)) | (with_reducible refine wpPlan_eff ?_) | (with_reducible refine wpPlan_fin ?_) | (with_reducible refine wpPlan_two ?_) | (with_reducible refine wpOpPair ?_ ?_) | ((with_reducible apply wpPre_keep); rfl; intro K' hK'; go_simp; refine hK' _ _ ?_; intro f hf; clear hK' K') | ((with_reducible apply wpPre_drop); rfl; intro K' hK'; go_simp; refine hK' _ _ ?_; intro f; clear hK' K') | (with_reducible refine wpPre_nil ?_) | ((with_reducible apply wpOp_list); rfl) | (with_reducible refine heldPair ?_ ?_) | ((with_reducible refine heldH_no ?_ ?_); rfl) | (with_reducible refine heldH_yes ?_ ?_) | (with_reducible exact heldH_nil) | (unfold YAt; go_simp; done) | (go_at_call 12; refine (few_any (HV.out.below (by repeat (first | (with_reducible exact Below.refl _ _) | (with_reducible exact bl_mm) | (with_reducible refine bl_dr ?_) | (with_reducible refine bl_drN ?_ _) | (with_reducible refine bl_al ?_ _) | (with_reducible refine bl_more ?_ _ _))))).mono ?_; rintro e w1 ⟨⟨b, rfl, hb⟩, hw⟩; obtain ⟨ex1, dx1, rfl⟩ := more_of hw; clear hw; cases b <;> have HFB := hid hb <;> clear hb) | (go_at_call 8; refine lives_any.mono ?_; rintro e w9 ⟨rfl, hw⟩; obtain ⟨ex9, dx9, rfl⟩ := more_of hw; clear hw))
  · go_ret
    exact ⟨rfl, (by repeat (first | (with_reducible exact Below.refl _ _) | (with_reducible exact bl_mm) | (with_reducible refine bl_dr ?_) | (with_reducible refine bl_drN ?_ _) | (with_reducible refine bl_al ?_ _) | (with_reducible refine bl_more ?_ _ _)))⟩
  · obtain ⟨f1, f2, f3⟩ := HFB.out trivial
    obtain ⟨k1, k2, k3, _⟩ := few_bounds f1 f2 f3
    have HB1 := hid k1
    have HB2 := hid k2
    have HB3 := hid k3
    clear f1 f2 f3 k1 k2 k3
    go_wp2_with (first | ((with_reducible refine wp_region_plan (id := 5) (.eff [(false, 0), (false, 1), (false, 2), (false, 3), (false, 4), (false, 5), (false, 6), (false, 7), (false, 8), (false, 9), (true, 11)] 10 [11] (.eff [] 12 [] (.eff [(false, 13), (false, 14), (false, 15), (false, 16), (true, 18)] 17 [18] (.eff [] 19 [] (.eff [(false, 20), (false, 21), (false, 22), (false, 23), (true, 25)] 24 [25] (.eff [] 26 [] (.eff [(false, 27), (false, 28), (false, 29)] 30 [] (.fin [(false, 31), (false, 32)])))))))) ?_ ?_ ?_ ?_ ?_ ?_); kernel_rfl; kernel_rfl; kernel_rfl; kernel_rfl; (intro c a d v w h; cases d <;> exact h)) | (with_reducible refine wpPlan_eff ?_) | (with_reducible refine wpPlan_fin ?_) | (with_reducible refine wpPlan_two ?_) | (with_reducible refine wpOpPair ?_ ?_) | ((with_reducible apply wpPre_keep); rfl; intro K' hK'; go_simp; refine hK' _ _ ?_; intro f hf; clear hK' K') | ((with_reducible apply wpPre_drop); rfl; intro K' hK'; go_simp; refine hK' _ _ ?_; intro f; clear hK' K') | (with_reducible refine wpPre_nil ?_) | ((with_reducible apply wpOp_list); rfl) | (with_reducible refine heldPair ?_ ?_) | ((with_reducible refine heldH_no ?_ ?_); rfl) | (with_reducible refine heldH_yes ?_ ?_) | (with_reducible exact heldH_nil) | (unfold YAt; go_simp; done) | (go_at_call 13; refine (print_any (HV.out.below (by repeat (first | (with_reducible exact Below.refl _ _) | (with_reducible exact bl_mm) | (with_reducible refine bl_dr ?_) | (with_reducible refine bl_drN ?_ _) | (with_reducible refine bl_al ?_ _) | (with_reducible refine bl_more ?_ _ _)))) HB1.out HB2.out HB3.out).mono ?_; rw [HPR.out, HER.out]; rintro e w2 ⟨rfl, hw⟩; obtain ⟨ex2, dx2, rfl⟩ := more_of hw; clear hw) | (go_at_call 14; refine (dprint_any (HV.out.below (by repeat (first | (with_reducible exact Below.refl _ _) | (with_reducible exact bl_mm) | (with_reducible refine bl_dr ?_) | (with_reducible refine bl_drN ?_ _) | (with_reducible refine bl_al ?_ _) | (with_reducible refine bl_more ?_ _ _)))) HB1.out HB3.out).mono ?_; rw [HPR.out, HER.out]; rintro e w3 ⟨rfl, hw⟩; obtain ⟨ex3, dx3, rfl⟩ := more_of hw; clear hw) | (go_at_call 15; refine (check_any (HV.out.below (by repeat (first | (with_reducible exact Below.refl _ _) | (with_reducible exact bl_mm) | (with_reducible refine bl_dr ?_) | (with_reducible refine bl_drN ?_ _) | (with_reducible refine bl_al ?_ _) | (with_reducible refine bl_more ?_ _ _)))) HB1.out).mono ?_; rw [HER.out]; rintro e w4 ⟨rfl, hw⟩; obtain ⟨ex4, dx4, rfl⟩ := more_of hw; clear hw) | (go_at_call 16; refine (dcheck_any (HV.out.below (by repeat (first | (with_reducible exact Below.refl _ _) | (with_reducible exact bl_mm) | (with_reducible refine bl_dr ?_) | (with_reducible refine bl_drN ?_ _) | (with_reducible refine bl_al ?_ _) | (with_reducible refine bl_more ?_ _ _)))) HB1.out).mono ?_; rw [HER.out]; rintro e w5 ⟨rfl, hw⟩; obtain ⟨ex5, dx5, rfl⟩ := more_of hw; clear hw) | (go_at_call 17; refine (depth_any _ _ _ _ _ _ (HV.out.below (by repeat (first | (with_reducible exact Below.refl _ _) | (with_reducible exact bl_mm) | (with_reducible refine bl_dr ?_) | (with_reducible refine bl_drN ?_ _) | (with_reducible refine bl_al ?_ _) | (with_reducible refine bl_more ?_ _ _)))) HB1.out).mono ?_; rw [HDE.out]; rintro e w6 ⟨rfl, hw⟩; obtain ⟨ex6, dx6, rfl⟩ := more_of hw; clear hw) | (go_at_call 18; refine (ddepth_any (HV.out.below (by repeat (first | (with_reducible exact Below.refl _ _) | (with_reducible exact bl_mm) | (with_reducible refine bl_dr ?_) | (with_reducible refine bl_drN ?_ _) | (with_reducible refine bl_al ?_ _) | (with_reducible refine bl_more ?_ _ _)))) HB1.out).mono ?_; rw [HDE.out]; rintro e w7 ⟨rfl, hw⟩; obtain ⟨ex7, dx7, rfl⟩ := more_of hw; clear hw) | (go_at_call 19; refine (count_any _ _ _ _ _ _ (HV.out.below (by repeat (first | (with_reducible exact Below.refl _ _) | (with_reducible exact bl_mm) | (with_reducible refine bl_dr ?_) | (with_reducible refine bl_drN ?_ _) | (with_reducible refine bl_al ?_ _) | (with_reducible refine bl_more ?_ _ _)))) HB1.out).mono ?_; rw [HCN.out]; rintro e w8 ⟨rfl, hw⟩; obtain ⟨ex8, dx8, rfl⟩ := more_of hw; clear hw) | (go_at_call 20; refine (dcount_any (HV.out.below (by repeat (first | (with_reducible exact Below.refl _ _) | (with_reducible exact bl_mm) | (with_reducible refine bl_dr ?_) | (with_reducible refine bl_drN ?_ _) | (with_reducible refine bl_al ?_ _) | (with_reducible refine bl_more ?_ _ _)))) HB1.out).mono ?_; rw [HCN.out]; rintro e w8 ⟨rfl, hw⟩; obtain ⟨ex8, dx8, rfl⟩ := more_of hw; clear hw) | (go_at_call 8; refine lives_any.mono ?_; rintro e w9 ⟨rfl, hw⟩; obtain ⟨ex9, dx9, rfl⟩ := more_of hw; clear hw))
    all_goals (go_ret; exact ⟨rfl, (by repeat (first | (with_reducible exact Below.refl _ _) | (with_reducible exact bl_mm) | (with_reducible refine bl_dr ?_) | (with_reducible refine bl_drN ?_ _) | (with_reducible refine bl_al ?_ _) | (with_reducible refine bl_more ?_ _ _)))⟩)
end Go.Proofs.Ytidilpciolladaa

/- 'argosylaw.SyntaxPrints' holds: 'Rows.SyntaxPrintsSaid', for every input, with no further condition. -/
namespace Go.Proofs.Ytidilpciolladaa.syntaxPrints
open Go.ChangeShapes Go.WideShapes Go.ChangeAt Go.RowKit
open Go.ChangeMaps (open_string shut_string)

theorem own : ownKnob Try.prog.godebug = none := by kernel_rfl
theorem laidOut : laidOutB Try.prog = true := by kernel_rfl

set_option maxRecDepth 100000 in
theorem lifted (os : Os) (started : os.Started) (H : Type) (enc : TypeId × Value → H) :
    ReturnsInHanded {} Try.checked os 4 .any (Rows.syntaxPrintsSpec.pre6 enc Try.prog Try.f4 Rows.syntaxPrintsRow.domain false) (Rows.syntaxPrintsSpec.post enc Try.prog Try.f4 false true false false) := by
  refine returnsInHanded_of_change (C := Try.checked) own started (by kernel_rfl) Try.func4
    (ChangeSpec.witness6 (enc := enc) (C := Try.checked) false ⟨#[], #[.agg #[.string ByteArray.empty, .slice none 0 0]], []⟩ 8 (by kernel_rfl) (by kernel_rfl) (by kernel_rfl) (by kernel_rfl)) ?_
  intro W base args ds gs before hval0 hW _ _
  have hval : ∀ (j : Nat) t v, Try.f4.params[j]? = some t → args[j]? = some v → Value.okWide Try.prog W .any base t v := hval0
  have hW' := hW
  obtain ⟨p, q, hA0, hV, rfl, _, _⟩ := hW
  have hA : DataW.TrodAll enc Try.prog W 0 (fun _ => true) true Try.f4.params.toList args.toList ds p := hA0
  rw [Try.params4] at hA hval
  obtain ⟨v0, vs0, d0, ds0, p0, q0, hargs, rfl, rfl, h0, r_0⟩ := trodAll_cons hA
  obtain ⟨rfl, rfl, rfl⟩ := trodAll_nil r_0
  obtain rfl : args = #[v0] := by cases args; simp_all
  obtain ⟨rfl, rfl⟩ := trodVars_none hV
  obtain ⟨c0, rfl, _⟩ := okWide_struct Try.underlying25 (hval 0 25 v0 rfl rfl)
  have k0 := h0
  have lt0 : ∀ x ∈ p0, x.block < W.heap.size := by obtain ⟨m, hm⟩ := k0; exact DataW.trod_lt m _ _ _ hm
  obtain ⟨x0, g0, r0⟩ := Opens.agg saga_op h0
  clear hA0 hval0
  refine (prints_any r0).mono fun e W' ⟨he, bel⟩ => ?_
  subst he
  exact ⟨_, rfl, _, _, _, [], _, [], hW', trodAll_mk1 (shut_bool Try.underlying4 _), (trodAll_cons_mk (Below.trod laidOut (by kernel_rfl) (of_decide_eq_true (by kernel_rfl)) k0 bel lt0) trodAll_mk0), rfl, bel.frame _, fun h => by cases h⟩

theorem over : Rows.syntaxPrintsRow.holds Try.pinned (OpenSpec.ofChange Rows.syntaxPrintsSpec) :=
  OpenClaim.holds_of_wide 4 Try.f4 rfl rfl rfl rfl rfl rfl rfl ⟨rfl, rfl, rfl, rfl, rfl⟩ rfl rfl rfl rfl rfl (by kernel_rfl) Try.func4 (by kernel_rfl)
    (of_decide_eq_true (by kernel_rfl)) (by unfold Func.isWrapper; first | (rw [if_pos (by decide +kernel)]; kernel_rfl) | (rw [if_neg (by decide +kernel)]; exact ⟨rfl, rfl⟩))
    (fun os started H enc _ => lifted os started H enc)
end Go.Proofs.Ytidilpciolladaa.syntaxPrints
namespace Go.Proofs.Ytidilpciolladaa
theorem syntaxPrints_proved : Rows.SyntaxPrintsSaid := syntaxPrints.over
#print axioms syntaxPrints_proved
end Go.Proofs.Ytidilpciolladaa
