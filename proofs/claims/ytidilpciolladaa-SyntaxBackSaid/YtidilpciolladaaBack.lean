/- 'argosylaw.SyntaxBack' holds: 'Rows.SyntaxBackSaid', for every input, with no further condition. -/
import Derived.Test.YtidilpciolladaaPrints
import Derived.Test.YtidilpciolladaaRows
import Derived.WalkKit
import Derived.ProofKit
import Derived.OpenShut
import Derived.ShutString
import Derived.ChangeOld
import Derived.Below
import Derived.Test.YtidilpciolladaaGa
/- SyntaxBack, walked. -/
namespace Go.Proofs.Ytidilpciolladaa
open Go.RowKit

theorem joinB_tx (l : List Tok) : joinB l = jn (tx l) := by
  unfold jn joinB
  simp only [List.map_map]
  rfl
theorem jn_join (l : List Tok) : (Lib.join (l.map (·.text.data.toList)) [32]).length = (jn (tx l)).size := by
  rw [← joinB_tx]
  simp [joinB, ByteArray.size]
theorem lexS_print {nm : ByteArray} {al : List (List Nd)} (h : sagaR nm al = true) (hz : (jn (sagaT nm al)).size ≤ 65536) : ∃ U, lexS (jn (sagaT nm al)) = (U, ((jn (sagaT nm al)).size : Int), 0) ∧ dR (jn (sagaT nm al)) = (U, ((jn (sagaT nm al)).size : Int), 0) ∧ tx U = sagaT nm al ∧ (∀ x ∈ U, x.kind = kindT x.text) := by
  unfold sagaR at h
  simp only [Bool.and_eq_true, decide_eq_true_eq] at h
  obtain ⟨⟨⟨h1, h2⟩, h3⟩, h4⟩ := h
  obtain ⟨U, hU, htx, hk, _⟩ := lex_back (sagaT_ok h1 h4)
  exact ⟨U, by unfold lexS; rw [if_pos hz, hU], hU, htx, hk⟩
theorem printR_f {nm : ByteArray} {al : List (List Nd)} (h : sagaR nm al = false) : printR nm al = ⟨#[]⟩ := by unfold printR; rw [h]; rfl
theorem printR_t {nm : ByteArray} {al : List (List Nd)} (h : sagaR nm al = true) : printR nm al = jn (sagaT nm al) := by unfold printR; rw [h, if_pos rfl]
set_option maxRecDepth 8000 in
set_option maxHeartbeats 8000000 in
theorem sback_any {w : World} {K : Nat → Prop} {x : ByteArray × List (List Nd)} {c : Array Value} (h : sagaA.rd K w x c.toList) : Calls Try.prog 5 #[.agg c] w fun e w' => e = .returned (.bool true) ∧ Below w.heap.size w w' := by
  obtain ⟨n, v, rfl, hr⟩ := sagaA_open h
  obtain ⟨A, cp, rfl, _, _⟩ := hr.form
  have HV := hid hr
  clear h hr
  obtain ⟨nm, al⟩ := x
  go_enter Try.func5, Try.ntmps5
  go_wp2_with (first | (go_at_call 12; refine (few_any (HV.out.below (by repeat (first | (with_reducible exact Below.refl _ _) | (with_reducible exact bl_mm) | (with_reducible refine bl_dr ?_) | (with_reducible refine bl_drN ?_ _) | (with_reducible refine bl_al ?_ _) | (with_reducible refine bl_more ?_ _ _))))).mono ?_; rintro e w1 ⟨⟨b, rfl, hb⟩, hw⟩; obtain ⟨ex1, dx1, rfl⟩ := more_of hw; clear hw; cases b <;> have HFB := hid hb <;> clear hb) | (go_at_call 8; refine lives_any.mono ?_; rintro e w9 ⟨rfl, hw⟩; obtain ⟨ex9, dx9, rfl⟩ := more_of hw; clear hw))
  · go_ret
    exact ⟨rfl, (by repeat (first | (with_reducible exact Below.refl _ _) | (with_reducible exact bl_mm) | (with_reducible refine bl_dr ?_) | (with_reducible refine bl_drN ?_ _) | (with_reducible refine bl_al ?_ _) | (with_reducible refine bl_more ?_ _ _)))⟩
  · obtain ⟨f1, f2, f3⟩ := HFB.out trivial
    obtain ⟨k1, k2, k3, k4⟩ := few_bounds f1 f2 f3
    have HB1 := hid k1
    have HB2 := hid k2
    have HB3 := hid k3
    clear f1 f2 f3 k1 k2
    cases hs : sagaR nm al with
    | false =>
      have HPR := hid (printR_f hs)
      have HSR : Hid (erOf (sagaR nm al) = 2) := hid (by rw [hs]; rfl)
      clear hs k3 k4
      go_wp2_with (first | (go_at_call 13; refine (print_any (HV.out.below (by repeat (first | (with_reducible exact Below.refl _ _) | (with_reducible exact bl_mm) | (with_reducible refine bl_dr ?_) | (with_reducible refine bl_drN ?_ _) | (with_reducible refine bl_al ?_ _) | (with_reducible refine bl_more ?_ _ _)))) HB1.out HB2.out HB3.out).mono ?_; rw [HPR.out, HSR.out]; rintro e w2 ⟨rfl, hw⟩; obtain ⟨ex2, dx2, rfl⟩ := more_of hw; clear hw) | (go_at_call 15; refine (check_any (HV.out.below (by repeat (first | (with_reducible exact Below.refl _ _) | (with_reducible exact bl_mm) | (with_reducible refine bl_dr ?_) | (with_reducible refine bl_drN ?_ _) | (with_reducible refine bl_al ?_ _) | (with_reducible refine bl_more ?_ _ _)))) HB1.out).mono ?_; rw [HSR.out]; rintro e w4 ⟨rfl, hw⟩; obtain ⟨ex4, dx4, rfl⟩ := more_of hw; clear hw) | (go_at_call 8; refine lives_any.mono ?_; rintro e w9 ⟨rfl, hw⟩; obtain ⟨ex9, dx9, rfl⟩ := more_of hw; clear hw))
      all_goals (go_ret; exact ⟨rfl, (by repeat (first | (with_reducible exact Below.refl _ _) | (with_reducible exact bl_mm) | (with_reducible refine bl_dr ?_) | (with_reducible refine bl_drN ?_ _) | (with_reducible refine bl_al ?_ _) | (with_reducible refine bl_more ?_ _ _)))⟩)
    | true =>
      obtain ⟨S, hS⟩ : ∃ S, jn (sagaT nm al) = S := ⟨_, rfl⟩
      have HPR : Hid (printR nm al = S) := hid ((printR_t hs).trans hS)
      have HSR : Hid (erOf (sagaR nm al) = 0) := hid (by rw [hs]; rfl)
      by_cases hz : S.size ≤ 65536
      · have hz2 : ¬ (65536 : Int) < (S.size : Int) := by omega
        obtain ⟨U, hU, _, htx, hk⟩ := lexS_print hs (by rw [hS]; exact hz)
        rw [hS] at hU
        have HLX := hid hU
        have HRD : Hid (readR S = ((nm, al), (S.size : Int), 0)) := hid (by have := readR_print hs (by rw [hS]; exact hz); rwa [hS] at this)
        have hlen : U.length = (tkA al).length + 2 := by rw [← tx_len, htx]; rfl
        have HJ1 : Hid (U.length ≤ 100000) := hid (by rw [hlen]; omega)
        have HJ2 : Hid ((Lib.join (U.map (·.text.data.toList)) [32]).length ≤ 140737488355328) := hid (by rw [jn_join, htx, hS]; omega)
        have HJE : Hid (joinB U = S) := hid (by rw [joinB_tx, htx, hS])
        clear hs hS hz hU htx hk hlen k3 k4
        go_wp2_with (first | (go_at_call 13; refine (print_any (HV.out.below (by repeat (first | (with_reducible exact Below.refl _ _) | (with_reducible exact bl_mm) | (with_reducible refine bl_dr ?_) | (with_reducible refine bl_drN ?_ _) | (with_reducible refine bl_al ?_ _) | (with_reducible refine bl_more ?_ _ _)))) HB1.out HB2.out HB3.out).mono ?_; rw [HPR.out, HSR.out]; rintro e w2 ⟨rfl, hw⟩; obtain ⟨ex2, dx2, rfl⟩ := more_of hw; clear hw) | (go_at_call 9; refine sread_any.mono ?_; rintro e w3 hq; unfold ReadQ at hq; rw [HRD.out] at hq; obtain ⟨vs, rfl, hr, hb⟩ := hq; obtain ⟨A3, c3, rfl, _, _⟩ := hr.form; have HR3 := hid hr; obtain ⟨ex3, dx3, rfl⟩ := more_of hb; clear hr hb) | (go_at_call 21; refine lexT_any.mono ?_; rintro e w5 hq; unfold LexQ at hq; rw [HLX.out] at hq; obtain ⟨vT, rfl, hr, hb⟩ := hq; obtain ⟨A5, c5, rfl, _, _⟩ := hr.form; have HR5 := hid hr; obtain ⟨ex5, dx5, rfl⟩ := more_of hb; clear hr hb) | (go_at_call 11; refine (same_any (n := FU + n) ((alts_up (Nat.le_add_right FU n) HR3.out).below (by repeat (first | (with_reducible exact Below.refl _ _) | (with_reducible exact bl_mm) | (with_reducible refine bl_dr ?_) | (with_reducible refine bl_drN ?_ _) | (with_reducible refine bl_al ?_ _) | (with_reducible refine bl_more ?_ _ _)))) ((alts_up (Nat.le_add_left n FU) HV.out).below (by repeat (first | (with_reducible exact Below.refl _ _) | (with_reducible exact bl_mm) | (with_reducible refine bl_dr ?_) | (with_reducible refine bl_drN ?_ _) | (with_reducible refine bl_al ?_ _) | (with_reducible refine bl_more ?_ _ _))))).mono ?_; rintro e w6 ⟨rfl, hw⟩; obtain ⟨ex6, dx6, rfl⟩ := more_of hw; clear hw) | (go_at_call 22; refine (join_any (HR5.out.below (by repeat (first | (with_reducible exact Below.refl _ _) | (with_reducible exact bl_mm) | (with_reducible refine bl_dr ?_) | (with_reducible refine bl_drN ?_ _) | (with_reducible refine bl_al ?_ _) | (with_reducible refine bl_more ?_ _ _)))) HJ1.out HJ2.out).mono ?_; rw [HJE.out]; rintro e w7 ⟨rfl, hw⟩; obtain ⟨ex7, dx7, rfl⟩ := more_of hw; clear hw) | (go_at_call 8; refine lives_any.mono ?_; rintro e w9 ⟨rfl, hw⟩; obtain ⟨ex9, dx9, rfl⟩ := more_of hw; clear hw))
        all_goals (go_ret; exact ⟨rfl, (by repeat (first | (with_reducible exact Below.refl _ _) | (with_reducible exact bl_mm) | (with_reducible refine bl_dr ?_) | (with_reducible refine bl_drN ?_ _) | (with_reducible refine bl_al ?_ _) | (with_reducible refine bl_more ?_ _ _)))⟩)
      · have hz2 : (65536 : Int) < (S.size : Int) := by omega
        clear hs hS hz k3 k4
        go_wp2_with (first | (go_at_call 13; refine (print_any (HV.out.below (by repeat (first | (with_reducible exact Below.refl _ _) | (with_reducible exact bl_mm) | (with_reducible refine bl_dr ?_) | (with_reducible refine bl_drN ?_ _) | (with_reducible refine bl_al ?_ _) | (with_reducible refine bl_more ?_ _ _)))) HB1.out HB2.out HB3.out).mono ?_; rw [HPR.out, HSR.out]; rintro e w2 ⟨rfl, hw⟩; obtain ⟨ex2, dx2, rfl⟩ := more_of hw; clear hw) | (go_at_call 8; refine lives_any.mono ?_; rintro e w9 ⟨rfl, hw⟩; obtain ⟨ex9, dx9, rfl⟩ := more_of hw; clear hw))
        all_goals (go_ret; exact ⟨rfl, (by repeat (first | (with_reducible exact Below.refl _ _) | (with_reducible exact bl_mm) | (with_reducible refine bl_dr ?_) | (with_reducible refine bl_drN ?_ _) | (with_reducible refine bl_al ?_ _) | (with_reducible refine bl_more ?_ _ _)))⟩)
end Go.Proofs.Ytidilpciolladaa

/- 'argosylaw.SyntaxBack' holds: 'Rows.SyntaxBackSaid', for every input, with no further condition. -/
namespace Go.Proofs.Ytidilpciolladaa.syntaxBack
open Go.ChangeShapes Go.WideShapes Go.ChangeAt Go.RowKit
open Go.ChangeMaps (open_string shut_string)

theorem own : ownKnob Try.prog.godebug = none := by kernel_rfl
theorem laidOut : laidOutB Try.prog = true := by kernel_rfl

set_option maxRecDepth 100000 in
theorem lifted (os : Os) (started : os.Started) (H : Type) (enc : TypeId × Value → H) :
    ReturnsInHanded {} Try.checked os 5 .any (Rows.syntaxBackSpec.pre6 enc Try.prog Try.f5 Rows.syntaxBackRow.domain false) (Rows.syntaxBackSpec.post enc Try.prog Try.f5 false true false false) := by
  refine returnsInHanded_of_change (C := Try.checked) own started (by kernel_rfl) Try.func5
    (ChangeSpec.witness6 (enc := enc) (C := Try.checked) false ⟨#[], #[.agg #[.string ByteArray.empty, .slice none 0 0]], []⟩ 8 (by kernel_rfl) (by kernel_rfl) (by kernel_rfl) (by kernel_rfl)) ?_
  intro W base args ds gs before hval0 hW _ _
  have hval : ∀ (j : Nat) t v, Try.f5.params[j]? = some t → args[j]? = some v → Value.okWide Try.prog W .any base t v := hval0
  have hW' := hW
  obtain ⟨p, q, hA0, hV, rfl, _, _⟩ := hW
  have hA : DataW.TrodAll enc Try.prog W 0 (fun _ => true) true Try.f5.params.toList args.toList ds p := hA0
  rw [Try.params5] at hA hval
  obtain ⟨v0, vs0, d0, ds0, p0, q0, hargs, rfl, rfl, h0, r_0⟩ := trodAll_cons hA
  obtain ⟨rfl, rfl, rfl⟩ := trodAll_nil r_0
  obtain rfl : args = #[v0] := by cases args; simp_all
  obtain ⟨rfl, rfl⟩ := trodVars_none hV
  obtain ⟨c0, rfl, _⟩ := okWide_struct Try.underlying25 (hval 0 25 v0 rfl rfl)
  have k0 := h0
  have lt0 : ∀ x ∈ p0, x.block < W.heap.size := by obtain ⟨m, hm⟩ := k0; exact DataW.trod_lt m _ _ _ hm
  obtain ⟨x0, g0, r0⟩ := Opens.agg saga_op h0
  clear hA0 hval0
  refine (sback_any r0).mono fun e W' ⟨he, bel⟩ => ?_
  subst he
  exact ⟨_, rfl, _, _, _, [], _, [], hW', trodAll_mk1 (shut_bool Try.underlying4 _), (trodAll_cons_mk (Below.trod laidOut (by kernel_rfl) (of_decide_eq_true (by kernel_rfl)) k0 bel lt0) trodAll_mk0), rfl, bel.frame _, fun h => by cases h⟩

theorem over : Rows.syntaxBackRow.holds Try.pinned (OpenSpec.ofChange Rows.syntaxBackSpec) :=
  OpenClaim.holds_of_wide 5 Try.f5 rfl rfl rfl rfl rfl rfl rfl ⟨rfl, rfl, rfl, rfl, rfl⟩ rfl rfl rfl rfl rfl (by kernel_rfl) Try.func5 (by kernel_rfl)
    (of_decide_eq_true (by kernel_rfl)) (by unfold Func.isWrapper; first | (rw [if_pos (by decide +kernel)]; kernel_rfl) | (rw [if_neg (by decide +kernel)]; exact ⟨rfl, rfl⟩))
    (fun os started H enc _ => lifted os started H enc)
end Go.Proofs.Ytidilpciolladaa.syntaxBack
namespace Go.Proofs.Ytidilpciolladaa
theorem syntaxBack_proved : Rows.SyntaxBackSaid := syntaxBack.over
#print axioms syntaxBack_proved
end Go.Proofs.Ytidilpciolladaa
