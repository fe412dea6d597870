/- The program's 'node'. -/
import Derived.Test.YtidilpciolladaaGi
/- The program's 'node'. -/
namespace Go.Proofs.Ytidilpciolladaa
open Go.RowKit

def BodsP (f : Nat) : Prop := ∀ (w : World) (r : Nat) (l t : List Tok), RD w r l t → 3 * t.length + 2 ≤ f → Calls Try.prog 70 #[.pointer (some ⟨r, 0, none⟩)] w (RP w r l (fun al v w' => (bodyE f).Row (fun b => w.heap.size ≤ b) w' v al) (pBodies f t))
theorem BodsP.at {f : Nat} (h : BodsP f) {w : World} {r : Nat} {l t : List Tok} (hr : RD w r l t) (hl : 3 * t.length + 2 ≤ f) : Calls Try.prog 70 #[.pointer (some ⟨r, 0, none⟩)] w (RP w r l (fun al v w' => (bodyE f).Row (fun b => w.heap.size ≤ b) w' v al) (pBodies f t)) := h w r l t hr hl
def NodP (f : Nat) : Prop := ∀ (w : World) (r : Nat) (l t : List Tok), RD w r l t → 3 * t.length + 1 ≤ f → Calls Try.prog 97 #[.pointer (some ⟨r, 0, none⟩)] w (RP w r l (fun nd v w' => NdV f (fun b => w.heap.size ≤ b) w' v nd) (pNode f t))
theorem six_ext (W : World) (b : Nat) (v0 v1 v2 v3 v4 v5 : Value) : Ext (fun q => q = b) W ((((((W.setCell ⟨b, 0, none⟩ v0).setCell ⟨b, 1, none⟩ v1).setCell ⟨b, 2, none⟩ v2).setCell ⟨b, 3, none⟩ v3).setCell ⟨b, 4, none⟩ v4).setCell ⟨b, 5, none⟩ v5) := by
  have h (X : World) (k : Nat) (v : Value) : Ext (fun q => q = b) X (X.setCell ⟨b, k, none⟩ v) := Ext.setCell (S := fun q => q = b) X ⟨b, k, none⟩ v rfl
  exact (((((h _ _ _).trans (h _ _ _) (fun _ _ h => h)).trans (h _ _ _) (fun _ _ h => h)).trans (h _ _ _) (fun _ _ h => h)).trans (h _ _ _) (fun _ _ h => h)).trans (h _ _ _) (fun _ _ h => h)
theorem NS.fin {f : Nat} {w : World} {r : Nat} {l : List Tok} {N0 b3 : Nat} {W : World} {t : List Tok} {u0 u1 u2 u3 u4 u5 : Value} (h : NS w r l N0 b3 (N0 + 2) W t u0 u1 u2 u3 u4 u5) (hN : w.heap.size = N0) {nd : Nd} {A1 A2 : Option Addr} {c1 c2 : Nat} {v0 v1 v2 v3 v4 v5 : Value}
    (haf : Enc.str.Row (fun b => N0 + 2 ≤ b) W (.slice A1 nd.after.length c1) nd.after) (hal : (bodyE f).Row (fun b => N0 + 2 ≤ b) W (.slice A2 nd.alts.length c2) nd.alts) {res : Res Nd} (he : res = .ok nd t) :
    RP w r l (fun nd v w' => NdV (f + 1) (fun b => N0 ≤ b) w' v nd) res (.returned (.agg #[.string nd.name, .string nd.undo, .slice A1 nd.after.length c1, .bool nd.sub, .bool nd.vital, .slice A2 nd.alts.length c2]))
      ((((((W.setCell ⟨N0, 0, none⟩ v0).setCell ⟨N0, 1, none⟩ v1).setCell ⟨N0, 2, none⟩ v2).setCell ⟨N0, 3, none⟩ v3).setCell ⟨N0, 4, none⟩ v4).setCell ⟨N0, 5, none⟩ v5) := by
  have h6 := six_ext W N0 v0 v1 v2 v3 v4 v5
  have hr := h.nr
  refine RP.ok' he (h.ext.trans h6 (fun x hx e => by omega)) (h.rd.ext h6 (fun b hb e => by omega)) ⟨A1, c1, A2, c2, rfl, ?_, ?_⟩
  · exact (haf.ext h6 (fun b hb _ => by omega)).mono (fun b hb _ => by omega)
  · exact alts_up (Nat.le_succ f) ((hal.ext h6 (fun b hb _ => by omega)).mono (fun b hb _ => by omega))
theorem NS.start {w : World} {r : Nat} {l t : List Tok} (h : RD w r l t) : NS w r l w.heap.size (w.heap.size + 1) (w.heap.size + 2) ((w.alloc (.cells #[.string ⟨#[]⟩, .string ⟨#[]⟩, .slice none 0 0, .bool false, .bool false, .slice none 0 0] 73)).alloc (.cells #[.string ⟨#[]⟩, .string ⟨#[]⟩, .slice none 0 0, .bool false, .bool false, .slice none 0 0] 73)) t (.string ⟨#[]⟩) (.string ⟨#[]⟩) (.slice none 0 0) (.bool false) (.bool false) (.slice none 0 0) := by
  have hb : Below w.heap.size w ((w.alloc (.cells #[.string ⟨#[]⟩, .string ⟨#[]⟩, .slice none 0 0, .bool false, .bool false, .slice none 0 0] 73)).alloc (.cells #[.string ⟨#[]⟩, .string ⟨#[]⟩, .slice none 0 0, .bool false, .bool false, .slice none 0 0] 73)) := (by repeat (first | (with_reducible exact Below.refl _ _) | (with_reducible exact bl_mm) | (with_reducible refine bl_dr ?_) | (with_reducible refine bl_drN ?_ _) | (with_reducible refine bl_al ?_ _) | (with_reducible refine bl_more ?_ _ _)))
  refine ⟨Ext.of_below hb, h.below hb, alloc_blk (by simp), ?_, Nat.le_refl _, Nat.lt_succ_self _, Nat.lt_succ_self _, by simp, h.lt⟩
  exact ((Below.refl _ _).alloc (Nat.le_refl _) _).block _ (by simp) |>.trans (alloc_blk rfl)
set_option maxRecDepth 8000 in
set_option maxHeartbeats 8000000 in
theorem rnode_of {f : Nat} (hB : BodsP f) : NodP (f + 1) := by
  intro w r l t h hl
  have HB := hid hB
  have HL := hid hl
  have hst := NS.start h
  rw [pNode]
  obtain ⟨N0, hN0⟩ : ∃ n, w.heap.size = n := ⟨_, rfl⟩
  rw [hN0] at hst ⊢
  clear h hl hB
  go_enter Try.func97, Try.ntmps97
  go_upto_region 2 with (fail)
  obtain ⟨W9, hW9⟩ : ∃ W, (w.alloc (.cells #[.string ⟨#[]⟩, .string ⟨#[]⟩, .slice none 0 0, .bool false, .bool false, .slice none 0 0] 73)).alloc (.cells #[.string ⟨#[]⟩, .string ⟨#[]⟩, .slice none 0 0, .bool false, .bool false, .slice none 0 0] 73) = W := ⟨_, rfl⟩
  rw [hW9] at hst ⊢
  obtain ⟨b3, hb3⟩ : ∃ b, N0 + 1 = b := ⟨_, rfl⟩
  rw [hb3] at hst ⊢
  have HS := hid hst
  have HN0 := hid hN0
  clear hst hW9 hb3 hN0
  have xl := trivial
  have x0 := trivial
  have x1 := trivial
  have x2 := trivial
  have x3 := trivial
  have x4 := trivial
  have x5 := trivial
  have fz := trivial
  clear xl x0 x1 x2 x3 x4 x5 fz
  obtain ⟨xl, x0, x1, x2, x3, x4, x5, fz⟩ := HS.out.facts
  cases hv : isT t wd5 with
  | true =>
    have HY := hid hv
    have HV1 := hid hv
    clear hv
    go_upto_region 3 with (first | (go_at_call 68; refine (rword_yes HS.out.rd (by rfl) HY.out).mono ?_; rintro e w2 ⟨rfl, hx, hr⟩; have HS := hid (HS.out.call hx hr); clear hx hr; clear xl x0 x1 x2 x3 x4 x5 fz; obtain ⟨xl, x0, x1, x2, x3, x4, x5, fz⟩ := HS.out.facts))
    have HS := hid (HS.out.set 4 (.bool true) rfl)
    obtain ⟨W9, hW9⟩ : ∃ W, World.setCell w2 ⟨b3, 4, none⟩ (.bool true) = W := ⟨_, rfl⟩
    rw [hW9] at HS ⊢
    skip
    clear hW9
    clear xl x0 x1 x2 x3 x4 x5 fz
    obtain ⟨xl, x0, x1, x2, x3, x4, x5, fz⟩ := HS.out.facts
    go_upto_region 5 with (fail)
    have HS := hid (HS.out.set 3 (.bool true) rfl)
    obtain ⟨W9, hW9⟩ : ∃ W, World.setCell W9 ⟨b3, 3, none⟩ (.bool true) = W := ⟨_, rfl⟩
    rw [hW9] at HS ⊢
    skip
    clear hW9
    clear xl x0 x1 x2 x3 x4 x5 fz
    obtain ⟨xl, x0, x1, x2, x3, x4, x5, fz⟩ := HS.out.facts
    obtain ⟨t1, ht1⟩ : ∃ y, t.tail = y := ⟨_, rfl⟩
    rw [ht1] at HS
    have HPH : Hid (pHead t = pHead2 true true wd2 t1) := hid (by unfold pHead; rw [if_pos HV1.out, ht1])
    have HLT1 : Hid (t1.length ≤ t.length) := hid (by rw [← ht1]; exact tl_le t)
    clear ht1
    cases hw : isT t1 wd2 with
    | false =>
      have HY := hid hw
      clear hw
      go_wp2_with (first | (go_at_call 68; refine (rword_no HS.out.rd HY.out).mono ?_; rintro e w2 ⟨rfl, hb⟩; have HS := hid (HS.out.below hb); clear hb; clear xl x0 x1 x2 x3 x4 x5 fz; obtain ⟨xl, x0, x1, x2, x3, x4, x5, fz⟩ := HS.out.facts) | (go_at_call 67; refine must_no.mono ?_; rintro e w3 ⟨⟨te, ve, rfl⟩, rfl⟩))
      refine ⟨rfl, RP.bad' ?_ HS.out.ext HS.out.rd ⟨_, _, rfl⟩⟩
      unfold nodeOf
      rw [HPH.out]
      unfold pHead2
      rw [if_neg (by rw [HY.out]; decide)]
      rfl
    | true =>
      have HY := hid hw
      have HW1 := hid hw
      clear hw
      go_upto_region 7 with (first | (go_at_call 68; refine (rword_yes HS.out.rd (by rfl) HY.out).mono ?_; rintro e w2 ⟨rfl, hx, hr⟩; have HS := hid (HS.out.call hx hr); clear hx hr; clear xl x0 x1 x2 x3 x4 x5 fz; obtain ⟨xl, x0, x1, x2, x3, x4, x5, fz⟩ := HS.out.facts) | (go_at_call 67; refine must_yes.mono ?_; rintro e w3 ⟨rfl, rfl⟩))
      clear xl x0 x1 x2 x3 x4 x5 fz
      obtain ⟨xl, x0, x1, x2, x3, x4, x5, fz⟩ := HS.out.facts
      cases hn : isN t1.tail with
      | false =>
        have HY := hid hn
        clear hn
        go_wp2_with (first | (go_at_call 69; refine (rname_no HS.out.rd HY.out).mono ?_; rintro e w2 ⟨⟨te, ve, rfl⟩, hb⟩; have HS := hid (HS.out.below hb); clear hb; clear xl x0 x1 x2 x3 x4 x5 fz; obtain ⟨xl, x0, x1, x2, x3, x4, x5, fz⟩ := HS.out.facts))
        refine ⟨rfl, RP.bad' ?_ HS.out.ext HS.out.rd ⟨_, _, rfl⟩⟩
        unfold nodeOf
        rw [HPH.out]
        unfold pHead2
        rw [if_pos HW1.out, if_neg (by rw [HY.out]; decide)]
        rfl
      | true =>
        have HY := hid hn
        have HN1 := hid hn
        clear hn
        go_upto_region 8 with (first | (go_at_call 69; refine (rname_yes HS.out.rd HY.out).mono ?_; rintro e w2 ⟨rfl, hx, hr⟩; have HS := hid (HS.out.call hx hr); clear hx hr; clear xl x0 x1 x2 x3 x4 x5 fz; obtain ⟨xl, x0, x1, x2, x3, x4, x5, fz⟩ := HS.out.facts))
        obtain ⟨nm, hnm⟩ : ∃ y, txN t1.tail = y := ⟨_, rfl⟩
        rw [hnm]
        have HS := hid (HS.out.set 0 (.string nm) rfl)
        obtain ⟨W9, hW9⟩ : ∃ W, World.setCell w2 ⟨b3, 0, none⟩ (.string nm) = W := ⟨_, rfl⟩
        rw [hW9] at HS ⊢
        skip
        clear hW9
        clear xl x0 x1 x2 x3 x4 x5 fz
        obtain ⟨xl, x0, x1, x2, x3, x4, x5, fz⟩ := HS.out.facts
        obtain ⟨t3, ht3⟩ : ∃ y, t1.tail.tail = y := ⟨_, rfl⟩
        rw [ht3] at HS
        have HL3 : Hid (t3.length + 2 ≤ t1.length) := hid (by rw [← ht3]; have h1 := tail_len HW1.out; have h2 := tail_lenN HN1.out; omega)
        have HEQ : Hid (nodeOf (fun t => pBodies f t) t = kU (fun t => pBodies f t) true true nm t3) := hid (by
          unfold nodeOf
          rw [HPH.out]
          unfold pHead2
          rw [if_pos HW1.out, if_pos HN1.out, hnm, ht3]
          rfl)
        clear hnm ht3
        go_upto_region 10 with (fail)
        have HEQ2 : Hid (nodeOf (fun t => pBodies f t) t = kA (fun t => pBodies f t) true true nm ⟨#[]⟩ t3) := hid (by rw [HEQ.out]; rfl)
        obtain ⟨t4, ht4⟩ : ∃ y, t3 = y := ⟨_, rfl⟩
        rw [ht4] at HS HEQ2
        have HL4 : Hid (t4.length + 2 ≤ t1.length) := hid (ht4 ▸ HL3.out)
        clear ht4
        cases ha : isT t4 wd4 with
        | false =>
          have HY := hid ha
          clear ha
          go_upto_region 12 with (first | (go_at_call 68; refine (rword_no HS.out.rd HY.out).mono ?_; rintro e w2 ⟨rfl, hb⟩; have HS := hid (HS.out.below hb); clear hb; clear xl x0 x1 x2 x3 x4 x5 fz; obtain ⟨xl, x0, x1, x2, x3, x4, x5, fz⟩ := HS.out.facts))
          clear xl x0 x1 x2 x3 x4 x5 fz
          obtain ⟨xl, x0, x1, x2, x3, x4, x5, fz⟩ := HS.out.facts
          have HEQ3 : Hid (nodeOf (fun t => pBodies f t) t = kE (fun t => pBodies f t) true true nm ⟨#[]⟩ [] t4) := hid (by
            rw [HEQ2.out]; unfold kA pAfter; rw [if_neg (by rw [HY.out]; decide)]; rfl)
          obtain ⟨t5, ht5⟩ : ∃ y, t4 = y := ⟨_, rfl⟩
          rw [ht5] at HS HEQ3
          have HL5 : Hid (t5.length + 2 ≤ t1.length) := hid (ht5 ▸ HL4.out)
          have HAF : Hid (Enc.str.Row (fun b => N0 + 2 ≤ b) w2 (.slice none 0 0) []) := hid (Enc.Row.nil Enc.str _ w2)
          clear ht5
          go_upto_region 13 with (fail)
          have HLB : Hid (3 * t5.length + 2 ≤ f) := hid (by have := HL5.out; have := HLT1.out; have := HL.out; omega)
          cases hp : pBodies f t5 with
          | bad t6 =>
            have HPB := hid hp
            clear hp
            go_wp2_with (first | (go_at_call 70; refine (BodsP.at HB.out HS.out.rd HLB.out).mono ?_; rintro e w2 hq; obtain ⟨hx, hr, ⟨te, ve, rfl⟩⟩ := hq.outB HPB.out; have HS := hid (HS.out.call hx hr); clear hx hr hq; clear xl x0 x1 x2 x3 x4 x5 fz; obtain ⟨xl, x0, x1, x2, x3, x4, x5, fz⟩ := HS.out.facts))
            refine ⟨rfl, RP.bad' ?_ HS.out.ext HS.out.rd ⟨_, _, rfl⟩⟩
            rw [HEQ3.out]
            unfold kE pEnd
            rw [if_pos rfl]
            show (pBodies f t5).bind _ = _
            rw [HPB.out]
            rfl
          | ok al t6 =>
            have HPB := hid hp
            clear hp
            go_upto_region 15 with (first | (go_at_call 70; refine (BodsP.at HB.out HS.out.rd HLB.out).mono ?_; rintro e w2 hq; obtain ⟨hx, hr, vA, rfl, hv⟩ := hq.outO HPB.out; have hv := hv.le HS.out.size; have HAF := hid (HAF.out.ext hx (fun b hb hl => by have := HS.out.nr; have := HS.out.n2; have := HS.out.n3; have := HS.out.nN; omega)); have HS := hid (HS.out.call hx hr); obtain ⟨AL, cl, rfl, _, _⟩ := hv.form; have HAL := hid hv; clear hx hr hv hq; clear xl x0 x1 x2 x3 x4 x5 fz; obtain ⟨xl, x0, x1, x2, x3, x4, x5, fz⟩ := HS.out.facts))
            have HAF := hid (HAF.out.ext (Ext.setCell (S := fun b => b = b3) w2 ⟨b3, 5, none⟩ (.slice AL al.length cl) rfl) (fun b hb hl => by have := HS.out.nN; omega))
            have HAL := hid (HAL.out.ext (Ext.setCell (S := fun b => b = b3) w2 ⟨b3, 5, none⟩ (.slice AL al.length cl) rfl) (fun b hb hl => by have := HS.out.nN; omega))
            have HS := hid (HS.out.set 5 (.slice AL al.length cl) rfl)
            obtain ⟨W9, hW9⟩ : ∃ W, World.setCell w2 ⟨b3, 5, none⟩ (.slice AL al.length cl) = W := ⟨_, rfl⟩
            rw [hW9] at HS ⊢
            rw [hW9] at HAF HAL
            clear hW9
            clear xl x0 x1 x2 x3 x4 x5 fz
            obtain ⟨xl, x0, x1, x2, x3, x4, x5, fz⟩ := HS.out.facts
            have HEQ4 : Hid (nodeOf (fun t => pBodies f t) t = .ok (.mk nm ⟨#[]⟩ [] true true al) t6) := hid (by
              rw [HEQ3.out]; unfold kE pEnd; rw [if_pos rfl]; show (pBodies f t5).bind _ = _; rw [HPB.out]; rfl)
            obtain ⟨yl, y0, y1, y2, y3, y4, y5, fy, hne⟩ := HS.out.facts2
            go_wp2
            refine bodyPost_ret (v := .agg #[.string nm, .string ⟨#[]⟩, .slice none 0 0, .bool true, .bool true, .slice AL al.length cl]) (by simp [results, Try.results97]; go_simp) rfl ?_
            exact NS.fin HS.out HN0.out (nd := (.mk nm ⟨#[]⟩ [] true true al)) HAF.out HAL.out HEQ4.out
        | true =>
          have HY := hid ha
          have HA1 := hid ha
          clear ha
          go_upto_region 11 with (first | (go_at_call 68; refine (rword_yes HS.out.rd (by rfl) HY.out).mono ?_; rintro e w2 ⟨rfl, hx, hr⟩; have HS := hid (HS.out.call hx hr); clear hx hr; clear xl x0 x1 x2 x3 x4 x5 fz; obtain ⟨xl, x0, x1, x2, x3, x4, x5, fz⟩ := HS.out.facts))
          clear xl x0 x1 x2 x3 x4 x5 fz
          obtain ⟨xl, x0, x1, x2, x3, x4, x5, fz⟩ := HS.out.facts
          cases hp : pNames t4.tail with
          | bad t5 =>
            have HPN := hid hp
            clear hp
            go_wp2_with (first | (go_at_call 104; refine (rnames_any HS.out.rd).mono ?_; rintro e w2 hq; obtain ⟨hx, hr, ⟨te, ve, rfl⟩⟩ := hq.outB HPN.out; have HS := hid (HS.out.call hx hr); clear hx hr hq; clear xl x0 x1 x2 x3 x4 x5 fz; obtain ⟨xl, x0, x1, x2, x3, x4, x5, fz⟩ := HS.out.facts))
            refine ⟨rfl, RP.bad' ?_ HS.out.ext HS.out.rd ⟨_, _, rfl⟩⟩
            rw [HEQ2.out]
            unfold kA pAfter
            rw [if_pos HA1.out, HPN.out]
            rfl
          | ok af t5 =>
            have HPN := hid hp
            clear hp
            go_upto_region 12 with (first | (go_at_call 104; refine (rnames_any HS.out.rd).mono ?_; rintro e w2 hq; obtain ⟨hx, hr, vA, rfl, hv⟩ := hq.outO HPN.out; have hv := hv.le (Nat.le_trans HS.out.size (Nat.le_refl _)); have HS := hid (HS.out.call hx hr); obtain ⟨AF, cf, rfl, _, _⟩ := hv.form; have HAF := hid hv; clear hx hr hv hq; clear xl x0 x1 x2 x3 x4 x5 fz; obtain ⟨xl, x0, x1, x2, x3, x4, x5, fz⟩ := HS.out.facts))
            have HAF := hid (HAF.out.ext (Ext.setCell (S := fun b => b = b3) _ ⟨b3, 2, none⟩ (.slice AF af.length cf) rfl) (fun b hb hl => by have := HS.out.nN; omega))
            have HS := hid (HS.out.set 2 (.slice AF af.length cf) rfl)
            obtain ⟨W9, hW9⟩ : ∃ W, World.setCell w2 ⟨b3, 2, none⟩ (.slice AF af.length cf) = W := ⟨_, rfl⟩
            rw [hW9] at HS ⊢
            rw [hW9] at HAF
            clear hW9
            clear xl x0 x1 x2 x3 x4 x5 fz
            obtain ⟨xl, x0, x1, x2, x3, x4, x5, fz⟩ := HS.out.facts
            have HL5 : Hid (t5.length + 2 ≤ t1.length) := hid (by
              have h1 := tail_len HA1.out
              have h2 : (pNames t4.tail).le t4.tail.length := pNames_le _
              rw [HPN.out] at h2
              have h2 : t5.length ≤ t4.tail.length := h2
              have := HL4.out
              omega)
            have HEQ3 : Hid (nodeOf (fun t => pBodies f t) t = kE (fun t => pBodies f t) true true nm ⟨#[]⟩ af t5) := hid (by
              rw [HEQ2.out]; unfold kA pAfter; rw [if_pos HA1.out, HPN.out]; rfl)
            go_upto_region 13 with (fail)
            have HLB : Hid (3 * t5.length + 2 ≤ f) := hid (by have := HL5.out; have := HLT1.out; have := HL.out; omega)
            cases hp : pBodies f t5 with
            | bad t6 =>
              have HPB := hid hp
              clear hp
              go_wp2_with (first | (go_at_call 70; refine (BodsP.at HB.out HS.out.rd HLB.out).mono ?_; rintro e w2 hq; obtain ⟨hx, hr, ⟨te, ve, rfl⟩⟩ := hq.outB HPB.out; have HS := hid (HS.out.call hx hr); clear hx hr hq; clear xl x0 x1 x2 x3 x4 x5 fz; obtain ⟨xl, x0, x1, x2, x3, x4, x5, fz⟩ := HS.out.facts))
              refine ⟨rfl, RP.bad' ?_ HS.out.ext HS.out.rd ⟨_, _, rfl⟩⟩
              rw [HEQ3.out]
              unfold kE pEnd
              rw [if_pos rfl]
              show (pBodies f t5).bind _ = _
              rw [HPB.out]
              rfl
            | ok al t6 =>
              have HPB := hid hp
              clear hp
              go_upto_region 15 with (first | (go_at_call 70; refine (BodsP.at HB.out HS.out.rd HLB.out).mono ?_; rintro e w2 hq; obtain ⟨hx, hr, vA, rfl, hv⟩ := hq.outO HPB.out; have hv := hv.le HS.out.size; have HAF := hid (HAF.out.ext hx (fun b hb hl => by have := HS.out.nr; have := HS.out.n2; have := HS.out.n3; have := HS.out.nN; omega)); have HS := hid (HS.out.call hx hr); obtain ⟨AL, cl, rfl, _, _⟩ := hv.form; have HAL := hid hv; clear hx hr hv hq; clear xl x0 x1 x2 x3 x4 x5 fz; obtain ⟨xl, x0, x1, x2, x3, x4, x5, fz⟩ := HS.out.facts))
              have HAF := hid (HAF.out.ext (Ext.setCell (S := fun b => b = b3) w2 ⟨b3, 5, none⟩ (.slice AL al.length cl) rfl) (fun b hb hl => by have := HS.out.nN; omega))
              have HAL := hid (HAL.out.ext (Ext.setCell (S := fun b => b = b3) w2 ⟨b3, 5, none⟩ (.slice AL al.length cl) rfl) (fun b hb hl => by have := HS.out.nN; omega))
              have HS := hid (HS.out.set 5 (.slice AL al.length cl) rfl)
              obtain ⟨W9, hW9⟩ : ∃ W, World.setCell w2 ⟨b3, 5, none⟩ (.slice AL al.length cl) = W := ⟨_, rfl⟩
              rw [hW9] at HS ⊢
              rw [hW9] at HAF HAL
              clear hW9
              clear xl x0 x1 x2 x3 x4 x5 fz
              obtain ⟨xl, x0, x1, x2, x3, x4, x5, fz⟩ := HS.out.facts
              have HEQ4 : Hid (nodeOf (fun t => pBodies f t) t = .ok (.mk nm ⟨#[]⟩ af true true al) t6) := hid (by
                rw [HEQ3.out]; unfold kE pEnd; rw [if_pos rfl]; show (pBodies f t5).bind _ = _; rw [HPB.out]; rfl)
              obtain ⟨yl, y0, y1, y2, y3, y4, y5, fy, hne⟩ := HS.out.facts2
              go_wp2
              refine bodyPost_ret (v := .agg #[.string nm, .string ⟨#[]⟩, .slice AF af.length cf, .bool true, .bool true, .slice AL al.length cl]) (by simp [results, Try.results97]; go_simp) rfl ?_
              exact NS.fin HS.out HN0.out (nd := (.mk nm ⟨#[]⟩ af true true al)) HAF.out HAL.out HEQ4.out
  | false =>
    have HY := hid hv
    have HV1 := hid hv
    clear hv
    go_upto_region 3 with (first | (go_at_call 68; refine (rword_no HS.out.rd HY.out).mono ?_; rintro e w2 ⟨rfl, hb⟩; have HS := hid (HS.out.below hb); clear hb; clear xl x0 x1 x2 x3 x4 x5 fz; obtain ⟨xl, x0, x1, x2, x3, x4, x5, fz⟩ := HS.out.facts))
    have HS := hid (HS.out.set 4 (.bool false) rfl)
    obtain ⟨W9, hW9⟩ : ∃ W, World.setCell w2 ⟨b3, 4, none⟩ (.bool false) = W := ⟨_, rfl⟩
    rw [hW9] at HS ⊢
    skip
    clear hW9
    clear xl x0 x1 x2 x3 x4 x5 fz
    obtain ⟨xl, x0, x1, x2, x3, x4, x5, fz⟩ := HS.out.facts
    cases hlo : isT t wd6 with
    | true =>
      have HY := hid hlo
      have HV2 := hid hlo
      clear hlo
      go_upto_region 5 with (first | (go_at_call 68; refine (rword_yes HS.out.rd (by rfl) HY.out).mono ?_; rintro e w2 ⟨rfl, hx, hr⟩; have HS := hid (HS.out.call hx hr); clear hx hr; clear xl x0 x1 x2 x3 x4 x5 fz; obtain ⟨xl, x0, x1, x2, x3, x4, x5, fz⟩ := HS.out.facts))
      have HS := hid (HS.out.set 3 (.bool true) rfl)
      obtain ⟨W9, hW9⟩ : ∃ W, World.setCell w2 ⟨b3, 3, none⟩ (.bool true) = W := ⟨_, rfl⟩
      rw [hW9] at HS ⊢
      skip
      clear hW9
      clear xl x0 x1 x2 x3 x4 x5 fz
      obtain ⟨xl, x0, x1, x2, x3, x4, x5, fz⟩ := HS.out.facts
      obtain ⟨t1, ht1⟩ : ∃ y, t.tail = y := ⟨_, rfl⟩
      rw [ht1] at HS
      have HPH : Hid (pHead t = pHead2 true false wd2 t1) := hid (by unfold pHead; rw [if_neg (by rw [HV1.out]; decide), if_pos HV2.out, ht1])
      have HLT1 : Hid (t1.length ≤ t.length) := hid (by rw [← ht1]; exact tl_le t)
      clear ht1
      cases hw : isT t1 wd2 with
      | false =>
        have HY := hid hw
        clear hw
        go_wp2_with (first | (go_at_call 68; refine (rword_no HS.out.rd HY.out).mono ?_; rintro e w2 ⟨rfl, hb⟩; have HS := hid (HS.out.below hb); clear hb; clear xl x0 x1 x2 x3 x4 x5 fz; obtain ⟨xl, x0, x1, x2, x3, x4, x5, fz⟩ := HS.out.facts) | (go_at_call 67; refine must_no.mono ?_; rintro e w3 ⟨⟨te, ve, rfl⟩, rfl⟩))
        refine ⟨rfl, RP.bad' ?_ HS.out.ext HS.out.rd ⟨_, _, rfl⟩⟩
        unfold nodeOf
        rw [HPH.out]
        unfold pHead2
        rw [if_neg (by rw [HY.out]; decide)]
        rfl
      | true =>
        have HY := hid hw
        have HW1 := hid hw
        clear hw
        go_upto_region 7 with (first | (go_at_call 68; refine (rword_yes HS.out.rd (by rfl) HY.out).mono ?_; rintro e w2 ⟨rfl, hx, hr⟩; have HS := hid (HS.out.call hx hr); clear hx hr; clear xl x0 x1 x2 x3 x4 x5 fz; obtain ⟨xl, x0, x1, x2, x3, x4, x5, fz⟩ := HS.out.facts) | (go_at_call 67; refine must_yes.mono ?_; rintro e w3 ⟨rfl, rfl⟩))
        clear xl x0 x1 x2 x3 x4 x5 fz
        obtain ⟨xl, x0, x1, x2, x3, x4, x5, fz⟩ := HS.out.facts
        cases hn : isN t1.tail with
        | false =>
          have HY := hid hn
          clear hn
          go_wp2_with (first | (go_at_call 69; refine (rname_no HS.out.rd HY.out).mono ?_; rintro e w2 ⟨⟨te, ve, rfl⟩, hb⟩; have HS := hid (HS.out.below hb); clear hb; clear xl x0 x1 x2 x3 x4 x5 fz; obtain ⟨xl, x0, x1, x2, x3, x4, x5, fz⟩ := HS.out.facts))
          refine ⟨rfl, RP.bad' ?_ HS.out.ext HS.out.rd ⟨_, _, rfl⟩⟩
          unfold nodeOf
          rw [HPH.out]
          unfold pHead2
          rw [if_pos HW1.out, if_neg (by rw [HY.out]; decide)]
          rfl
        | true =>
          have HY := hid hn
          have HN1 := hid hn
          clear hn
          go_upto_region 8 with (first | (go_at_call 69; refine (rname_yes HS.out.rd HY.out).mono ?_; rintro e w2 ⟨rfl, hx, hr⟩; have HS := hid (HS.out.call hx hr); clear hx hr; clear xl x0 x1 x2 x3 x4 x5 fz; obtain ⟨xl, x0, x1, x2, x3, x4, x5, fz⟩ := HS.out.facts))
          obtain ⟨nm, hnm⟩ : ∃ y, txN t1.tail = y := ⟨_, rfl⟩
          rw [hnm]
          have HS := hid (HS.out.set 0 (.string nm) rfl)
          obtain ⟨W9, hW9⟩ : ∃ W, World.setCell w2 ⟨b3, 0, none⟩ (.string nm) = W := ⟨_, rfl⟩
          rw [hW9] at HS ⊢
          skip
          clear hW9
          clear xl x0 x1 x2 x3 x4 x5 fz
          obtain ⟨xl, x0, x1, x2, x3, x4, x5, fz⟩ := HS.out.facts
          obtain ⟨t3, ht3⟩ : ∃ y, t1.tail.tail = y := ⟨_, rfl⟩
          rw [ht3] at HS
          have HL3 : Hid (t3.length + 2 ≤ t1.length) := hid (by rw [← ht3]; have h1 := tail_len HW1.out; have h2 := tail_lenN HN1.out; omega)
          have HEQ : Hid (nodeOf (fun t => pBodies f t) t = kU (fun t => pBodies f t) true false nm t3) := hid (by
            unfold nodeOf
            rw [HPH.out]
            unfold pHead2
            rw [if_pos HW1.out, if_pos HN1.out, hnm, ht3]
            rfl)
          clear hnm ht3
          go_upto_region 10 with (fail)
          have HEQ2 : Hid (nodeOf (fun t => pBodies f t) t = kA (fun t => pBodies f t) true false nm ⟨#[]⟩ t3) := hid (by rw [HEQ.out]; rfl)
          obtain ⟨t4, ht4⟩ : ∃ y, t3 = y := ⟨_, rfl⟩
          rw [ht4] at HS HEQ2
          have HL4 : Hid (t4.length + 2 ≤ t1.length) := hid (ht4 ▸ HL3.out)
          clear ht4
          cases ha : isT t4 wd4 with
          | false =>
            have HY := hid ha
            clear ha
            go_upto_region 12 with (first | (go_at_call 68; refine (rword_no HS.out.rd HY.out).mono ?_; rintro e w2 ⟨rfl, hb⟩; have HS := hid (HS.out.below hb); clear hb; clear xl x0 x1 x2 x3 x4 x5 fz; obtain ⟨xl, x0, x1, x2, x3, x4, x5, fz⟩ := HS.out.facts))
            clear xl x0 x1 x2 x3 x4 x5 fz
            obtain ⟨xl, x0, x1, x2, x3, x4, x5, fz⟩ := HS.out.facts
            have HEQ3 : Hid (nodeOf (fun t => pBodies f t) t = kE (fun t => pBodies f t) true false nm ⟨#[]⟩ [] t4) := hid (by
              rw [HEQ2.out]; unfold kA pAfter; rw [if_neg (by rw [HY.out]; decide)]; rfl)
            obtain ⟨t5, ht5⟩ : ∃ y, t4 = y := ⟨_, rfl⟩
            rw [ht5] at HS HEQ3
            have HL5 : Hid (t5.length + 2 ≤ t1.length) := hid (ht5 ▸ HL4.out)
            have HAF : Hid (Enc.str.Row (fun b => N0 + 2 ≤ b) w2 (.slice none 0 0) []) := hid (Enc.Row.nil Enc.str _ w2)
            clear ht5
            go_upto_region 13 with (fail)
            have HLB : Hid (3 * t5.length + 2 ≤ f) := hid (by have := HL5.out; have := HLT1.out; have := HL.out; omega)
            cases hp : pBodies f t5 with
            | bad t6 =>
              have HPB := hid hp
              clear hp
              go_wp2_with (first | (go_at_call 70; refine (BodsP.at HB.out HS.out.rd HLB.out).mono ?_; rintro e w2 hq; obtain ⟨hx, hr, ⟨te, ve, rfl⟩⟩ := hq.outB HPB.out; have HS := hid (HS.out.call hx hr); clear hx hr hq; clear xl x0 x1 x2 x3 x4 x5 fz; obtain ⟨xl, x0, x1, x2, x3, x4, x5, fz⟩ := HS.out.facts))
              refine ⟨rfl, RP.bad' ?_ HS.out.ext HS.out.rd ⟨_, _, rfl⟩⟩
              rw [HEQ3.out]
              unfold kE pEnd
              rw [if_pos rfl]
              show (pBodies f t5).bind _ = _
              rw [HPB.out]
              rfl
            | ok al t6 =>
              have HPB := hid hp
              clear hp
              go_upto_region 15 with (first | (go_at_call 70; refine (BodsP.at HB.out HS.out.rd HLB.out).mono ?_; rintro e w2 hq; obtain ⟨hx, hr, vA, rfl, hv⟩ := hq.outO HPB.out; have hv := hv.le HS.out.size; have HAF := hid (HAF.out.ext hx (fun b hb hl => by have := HS.out.nr; have := HS.out.n2; have := HS.out.n3; have := HS.out.nN; omega)); have HS := hid (HS.out.call hx hr); obtain ⟨AL, cl, rfl, _, _⟩ := hv.form; have HAL := hid hv; clear hx hr hv hq; clear xl x0 x1 x2 x3 x4 x5 fz; obtain ⟨xl, x0, x1, x2, x3, x4, x5, fz⟩ := HS.out.facts))
              have HAF := hid (HAF.out.ext (Ext.setCell (S := fun b => b = b3) w2 ⟨b3, 5, none⟩ (.slice AL al.length cl) rfl) (fun b hb hl => by have := HS.out.nN; omega))
              have HAL := hid (HAL.out.ext (Ext.setCell (S := fun b => b = b3) w2 ⟨b3, 5, none⟩ (.slice AL al.length cl) rfl) (fun b hb hl => by have := HS.out.nN; omega))
              have HS := hid (HS.out.set 5 (.slice AL al.length cl) rfl)
              obtain ⟨W9, hW9⟩ : ∃ W, World.setCell w2 ⟨b3, 5, none⟩ (.slice AL al.length cl) = W := ⟨_, rfl⟩
              rw [hW9] at HS ⊢
              rw [hW9] at HAF HAL
              clear hW9
              clear xl x0 x1 x2 x3 x4 x5 fz
              obtain ⟨xl, x0, x1, x2, x3, x4, x5, fz⟩ := HS.out.facts
              have HEQ4 : Hid (nodeOf (fun t => pBodies f t) t = .ok (.mk nm ⟨#[]⟩ [] true false al) t6) := hid (by
                rw [HEQ3.out]; unfold kE pEnd; rw [if_pos rfl]; show (pBodies f t5).bind _ = _; rw [HPB.out]; rfl)
              obtain ⟨yl, y0, y1, y2, y3, y4, y5, fy, hne⟩ := HS.out.facts2
              go_wp2
              refine bodyPost_ret (v := .agg #[.string nm, .string ⟨#[]⟩, .slice none 0 0, .bool true, .bool false, .slice AL al.length cl]) (by simp [results, Try.results97]; go_simp) rfl ?_
              exact NS.fin HS.out HN0.out (nd := (.mk nm ⟨#[]⟩ [] true false al)) HAF.out HAL.out HEQ4.out
          | true =>
            have HY := hid ha
            have HA1 := hid ha
            clear ha
            go_upto_region 11 with (first | (go_at_call 68; refine (rword_yes HS.out.rd (by rfl) HY.out).mono ?_; rintro e w2 ⟨rfl, hx, hr⟩; have HS := hid (HS.out.call hx hr); clear hx hr; clear xl x0 x1 x2 x3 x4 x5 fz; obtain ⟨xl, x0, x1, x2, x3, x4, x5, fz⟩ := HS.out.facts))
            clear xl x0 x1 x2 x3 x4 x5 fz
            obtain ⟨xl, x0, x1, x2, x3, x4, x5, fz⟩ := HS.out.facts
            cases hp : pNames t4.tail with
            | bad t5 =>
              have HPN := hid hp
              clear hp
              go_wp2_with (first | (go_at_call 104; refine (rnames_any HS.out.rd).mono ?_; rintro e w2 hq; obtain ⟨hx, hr, ⟨te, ve, rfl⟩⟩ := hq.outB HPN.out; have HS := hid (HS.out.call hx hr); clear hx hr hq; clear xl x0 x1 x2 x3 x4 x5 fz; obtain ⟨xl, x0, x1, x2, x3, x4, x5, fz⟩ := HS.out.facts))
              refine ⟨rfl, RP.bad' ?_ HS.out.ext HS.out.rd ⟨_, _, rfl⟩⟩
              rw [HEQ2.out]
              unfold kA pAfter
              rw [if_pos HA1.out, HPN.out]
              rfl
            | ok af t5 =>
              have HPN := hid hp
              clear hp
              go_upto_region 12 with (first | (go_at_call 104; refine (rnames_any HS.out.rd).mono ?_; rintro e w2 hq; obtain ⟨hx, hr, vA, rfl, hv⟩ := hq.outO HPN.out; have hv := hv.le (Nat.le_trans HS.out.size (Nat.le_refl _)); have HS := hid (HS.out.call hx hr); obtain ⟨AF, cf, rfl, _, _⟩ := hv.form; have HAF := hid hv; clear hx hr hv hq; clear xl x0 x1 x2 x3 x4 x5 fz; obtain ⟨xl, x0, x1, x2, x3, x4, x5, fz⟩ := HS.out.facts))
              have HAF := hid (HAF.out.ext (Ext.setCell (S := fun b => b = b3) _ ⟨b3, 2, none⟩ (.slice AF af.length cf) rfl) (fun b hb hl => by have := HS.out.nN; omega))
              have HS := hid (HS.out.set 2 (.slice AF af.length cf) rfl)
              obtain ⟨W9, hW9⟩ : ∃ W, World.setCell w2 ⟨b3, 2, none⟩ (.slice AF af.length cf) = W := ⟨_, rfl⟩
              rw [hW9] at HS ⊢
              rw [hW9] at HAF
              clear hW9
              clear xl x0 x1 x2 x3 x4 x5 fz
              obtain ⟨xl, x0, x1, x2, x3, x4, x5, fz⟩ := HS.out.facts
              have HL5 : Hid (t5.length + 2 ≤ t1.length) := hid (by
                have h1 := tail_len HA1.out
                have h2 : (pNames t4.tail).le t4.tail.length := pNames_le _
                rw [HPN.out] at h2
                have h2 : t5.length ≤ t4.tail.length := h2
                have := HL4.out
                omega)
              have HEQ3 : Hid (nodeOf (fun t => pBodies f t) t = kE (fun t => pBodies f t) true false nm ⟨#[]⟩ af t5) := hid (by
                rw [HEQ2.out]; unfold kA pAfter; rw [if_pos HA1.out, HPN.out]; rfl)
              go_upto_region 13 with (fail)
              have HLB : Hid (3 * t5.length + 2 ≤ f) := hid (by have := HL5.out; have := HLT1.out; have := HL.out; omega)
              cases hp : pBodies f t5 with
              | bad t6 =>
                have HPB := hid hp
                clear hp
                go_wp2_with (first | (go_at_call 70; refine (BodsP.at HB.out HS.out.rd HLB.out).mono ?_; rintro e w2 hq; obtain ⟨hx, hr, ⟨te, ve, rfl⟩⟩ := hq.outB HPB.out; have HS := hid (HS.out.call hx hr); clear hx hr hq; clear xl x0 x1 x2 x3 x4 x5 fz; obtain ⟨xl, x0, x1, x2, x3, x4, x5, fz⟩ := HS.out.facts))
                refine ⟨rfl, RP.bad' ?_ HS.out.ext HS.out.rd ⟨_, _, rfl⟩⟩
                rw [HEQ3.out]
                unfold kE pEnd
                rw [if_pos rfl]
                show (pBodies f t5).bind _ = _
                rw [HPB.out]
                rfl
              | ok al t6 =>
                have HPB := hid hp
                clear hp
                go_upto_region 15 with (first | (go_at_call 70; refine (BodsP.at HB.out HS.out.rd HLB.out).mono ?_; rintro e w2 hq; obtain ⟨hx, hr, vA, rfl, hv⟩ := hq.outO HPB.out; have hv := hv.le HS.out.size; have HAF := hid (HAF.out.ext hx (fun b hb hl => by have := HS.out.nr; have := HS.out.n2; have := HS.out.n3; have := HS.out.nN; omega)); have HS := hid (HS.out.call hx hr); obtain ⟨AL, cl, rfl, _, _⟩ := hv.form; have HAL := hid hv; clear hx hr hv hq; clear xl x0 x1 x2 x3 x4 x5 fz; obtain ⟨xl, x0, x1, x2, x3, x4, x5, fz⟩ := HS.out.facts))
                have HAF := hid (HAF.out.ext (Ext.setCell (S := fun b => b = b3) w2 ⟨b3, 5, none⟩ (.slice AL al.length cl) rfl) (fun b hb hl => by have := HS.out.nN; omega))
                have HAL := hid (HAL.out.ext (Ext.setCell (S := fun b => b = b3) w2 ⟨b3, 5, none⟩ (.slice AL al.length cl) rfl) (fun b hb hl => by have := HS.out.nN; omega))
                have HS := hid (HS.out.set 5 (.slice AL al.length cl) rfl)
                obtain ⟨W9, hW9⟩ : ∃ W, World.setCell w2 ⟨b3, 5, none⟩ (.slice AL al.length cl) = W := ⟨_, rfl⟩
                rw [hW9] at HS ⊢
                rw [hW9] at HAF HAL
                clear hW9
                clear xl x0 x1 x2 x3 x4 x5 fz
                obtain ⟨xl, x0, x1, x2, x3, x4, x5, fz⟩ := HS.out.facts
                have HEQ4 : Hid (nodeOf (fun t => pBodies f t) t = .ok (.mk nm ⟨#[]⟩ af true false al) t6) := hid (by
                  rw [HEQ3.out]; unfold kE pEnd; rw [if_pos rfl]; show (pBodies f t5).bind _ = _; rw [HPB.out]; rfl)
                obtain ⟨yl, y0, y1, y2, y3, y4, y5, fy, hne⟩ := HS.out.facts2
                go_wp2
                refine bodyPost_ret (v := .agg #[.string nm, .string ⟨#[]⟩, .slice AF af.length cf, .bool true, .bool false, .slice AL al.length cl]) (by simp [results, Try.results97]; go_simp) rfl ?_
                exact NS.fin HS.out HN0.out (nd := (.mk nm ⟨#[]⟩ af true false al)) HAF.out HAL.out HEQ4.out
    | false =>
      have HY := hid hlo
      have HV2 := hid hlo
      clear hlo
      go_upto_region 6 with (first | (go_at_call 68; refine (rword_no HS.out.rd HY.out).mono ?_; rintro e w2 ⟨rfl, hb⟩; have HS := hid (HS.out.below hb); clear hb; clear xl x0 x1 x2 x3 x4 x5 fz; obtain ⟨xl, x0, x1, x2, x3, x4, x5, fz⟩ := HS.out.facts))
      have HS := hid (HS.out.set 3 (.bool false) rfl)
      obtain ⟨W9, hW9⟩ : ∃ W, World.setCell w2 ⟨b3, 3, none⟩ (.bool false) = W := ⟨_, rfl⟩
      rw [hW9] at HS ⊢
      skip
      clear hW9
      clear xl x0 x1 x2 x3 x4 x5 fz
      obtain ⟨xl, x0, x1, x2, x3, x4, x5, fz⟩ := HS.out.facts
      obtain ⟨t1, ht1⟩ : ∃ y, t = y := ⟨_, rfl⟩
      rw [ht1] at HS
      have HPH : Hid (pHead t = pHead2 false false wd1 t1) := hid (by unfold pHead; rw [if_neg (by rw [HV1.out]; decide), if_neg (by rw [HV2.out]; decide), ht1])
      have HLT1 : Hid (t1.length ≤ t.length) := hid (by rw [← ht1]; exact Nat.le_refl _)
      clear ht1
      cases hw : isT t1 wd1 with
      | false =>
        have HY := hid hw
        clear hw
        go_wp2_with (first | (go_at_call 68; refine (rword_no HS.out.rd HY.out).mono ?_; rintro e w2 ⟨rfl, hb⟩; have HS := hid (HS.out.below hb); clear hb; clear xl x0 x1 x2 x3 x4 x5 fz; obtain ⟨xl, x0, x1, x2, x3, x4, x5, fz⟩ := HS.out.facts) | (go_at_call 67; refine must_no.mono ?_; rintro e w3 ⟨⟨te, ve, rfl⟩, rfl⟩))
        refine ⟨rfl, RP.bad' ?_ HS.out.ext HS.out.rd ⟨_, _, rfl⟩⟩
        unfold nodeOf
        rw [HPH.out]
        unfold pHead2
        rw [if_neg (by rw [HY.out]; decide)]
        rfl
      | true =>
        have HY := hid hw
        have HW1 := hid hw
        clear hw
        go_upto_region 7 with (first | (go_at_call 68; refine (rword_yes HS.out.rd (by rfl) HY.out).mono ?_; rintro e w2 ⟨rfl, hx, hr⟩; have HS := hid (HS.out.call hx hr); clear hx hr; clear xl x0 x1 x2 x3 x4 x5 fz; obtain ⟨xl, x0, x1, x2, x3, x4, x5, fz⟩ := HS.out.facts) | (go_at_call 67; refine must_yes.mono ?_; rintro e w3 ⟨rfl, rfl⟩))
        clear xl x0 x1 x2 x3 x4 x5 fz
        obtain ⟨xl, x0, x1, x2, x3, x4, x5, fz⟩ := HS.out.facts
        cases hn : isN t1.tail with
        | false =>
          have HY := hid hn
          clear hn
          go_wp2_with (first | (go_at_call 69; refine (rname_no HS.out.rd HY.out).mono ?_; rintro e w2 ⟨⟨te, ve, rfl⟩, hb⟩; have HS := hid (HS.out.below hb); clear hb; clear xl x0 x1 x2 x3 x4 x5 fz; obtain ⟨xl, x0, x1, x2, x3, x4, x5, fz⟩ := HS.out.facts))
          refine ⟨rfl, RP.bad' ?_ HS.out.ext HS.out.rd ⟨_, _, rfl⟩⟩
          unfold nodeOf
          rw [HPH.out]
          unfold pHead2
          rw [if_pos HW1.out, if_neg (by rw [HY.out]; decide)]
          rfl
        | true =>
          have HY := hid hn
          have HN1 := hid hn
          clear hn
          go_upto_region 8 with (first | (go_at_call 69; refine (rname_yes HS.out.rd HY.out).mono ?_; rintro e w2 ⟨rfl, hx, hr⟩; have HS := hid (HS.out.call hx hr); clear hx hr; clear xl x0 x1 x2 x3 x4 x5 fz; obtain ⟨xl, x0, x1, x2, x3, x4, x5, fz⟩ := HS.out.facts))
          obtain ⟨nm, hnm⟩ : ∃ y, txN t1.tail = y := ⟨_, rfl⟩
          rw [hnm]
          have HS := hid (HS.out.set 0 (.string nm) rfl)
          obtain ⟨W9, hW9⟩ : ∃ W, World.setCell w2 ⟨b3, 0, none⟩ (.string nm) = W := ⟨_, rfl⟩
          rw [hW9] at HS ⊢
          skip
          clear hW9
          clear xl x0 x1 x2 x3 x4 x5 fz
          obtain ⟨xl, x0, x1, x2, x3, x4, x5, fz⟩ := HS.out.facts
          obtain ⟨t3, ht3⟩ : ∃ y, t1.tail.tail = y := ⟨_, rfl⟩
          rw [ht3] at HS
          have HL3 : Hid (t3.length + 2 ≤ t1.length) := hid (by rw [← ht3]; have h1 := tail_len HW1.out; have h2 := tail_lenN HN1.out; omega)
          have HEQ : Hid (nodeOf (fun t => pBodies f t) t = kU (fun t => pBodies f t) false false nm t3) := hid (by
            unfold nodeOf
            rw [HPH.out]
            unfold pHead2
            rw [if_pos HW1.out, if_pos HN1.out, hnm, ht3]
            rfl)
          clear hnm ht3
          cases hu : isT t3 wd3 with
          | false =>
            have HY := hid hu
            clear hu
            go_upto_region 10 with (first | (go_at_call 68; refine (rword_no HS.out.rd HY.out).mono ?_; rintro e w2 ⟨rfl, hb⟩; have HS := hid (HS.out.below hb); clear hb; clear xl x0 x1 x2 x3 x4 x5 fz; obtain ⟨xl, x0, x1, x2, x3, x4, x5, fz⟩ := HS.out.facts))
            clear xl x0 x1 x2 x3 x4 x5 fz
            obtain ⟨xl, x0, x1, x2, x3, x4, x5, fz⟩ := HS.out.facts
            have HEQ2 : Hid (nodeOf (fun t => pBodies f t) t = kA (fun t => pBodies f t) false false nm ⟨#[]⟩ t3) := hid (by
              rw [HEQ.out]; unfold kU pUndo; rw [if_neg (by decide), if_neg (by rw [HY.out]; decide)]; rfl)
            obtain ⟨t4, ht4⟩ : ∃ y, t3 = y := ⟨_, rfl⟩
            rw [ht4] at HS HEQ2
            have HL4 : Hid (t4.length + 2 ≤ t1.length) := hid (ht4 ▸ HL3.out)
            clear ht4
            cases ha : isT t4 wd4 with
            | false =>
              have HY := hid ha
              clear ha
              go_upto_region 12 with (first | (go_at_call 68; refine (rword_no HS.out.rd HY.out).mono ?_; rintro e w2 ⟨rfl, hb⟩; have HS := hid (HS.out.below hb); clear hb; clear xl x0 x1 x2 x3 x4 x5 fz; obtain ⟨xl, x0, x1, x2, x3, x4, x5, fz⟩ := HS.out.facts))
              clear xl x0 x1 x2 x3 x4 x5 fz
              obtain ⟨xl, x0, x1, x2, x3, x4, x5, fz⟩ := HS.out.facts
              have HEQ3 : Hid (nodeOf (fun t => pBodies f t) t = kE (fun t => pBodies f t) false false nm ⟨#[]⟩ [] t4) := hid (by
                rw [HEQ2.out]; unfold kA pAfter; rw [if_neg (by rw [HY.out]; decide)]; rfl)
              obtain ⟨t5, ht5⟩ : ∃ y, t4 = y := ⟨_, rfl⟩
              rw [ht5] at HS HEQ3
              have HL5 : Hid (t5.length + 2 ≤ t1.length) := hid (ht5 ▸ HL4.out)
              have HAF : Hid (Enc.str.Row (fun b => N0 + 2 ≤ b) w2 (.slice none 0 0) []) := hid (Enc.Row.nil Enc.str _ w2)
              clear ht5
              go_upto_region 14 with (fail)
              cases hm : isT t5 cSm with
              | false =>
                have HY := hid hm
                clear hm
                go_wp2_with (first | (go_at_call 85; refine (rmark_no HS.out.rd HY.out).mono ?_; rintro e w2 ⟨rfl, hb⟩; have HS := hid (HS.out.below hb); clear hb; clear xl x0 x1 x2 x3 x4 x5 fz; obtain ⟨xl, x0, x1, x2, x3, x4, x5, fz⟩ := HS.out.facts) | (go_at_call 67; refine must_no.mono ?_; rintro e w3 ⟨⟨te, ve, rfl⟩, rfl⟩))
                refine ⟨rfl, RP.bad' ?_ HS.out.ext HS.out.rd ⟨_, _, rfl⟩⟩
                rw [HEQ3.out]
                unfold kE pEnd
                rw [if_neg (by decide), if_neg (by rw [HY.out]; decide)]
                rfl
              | true =>
                have HY := hid hm
                have HM1 := hid hm
                clear hm
                go_upto_region 15 with (first | (go_at_call 85; refine (rmark_yes HS.out.rd (by decide) HY.out).mono ?_; rintro e w2 ⟨rfl, hx, hr⟩; have HAF := hid (HAF.out.ext hx (fun b hb hl => by have := HS.out.nr; have := HS.out.n2; have := HS.out.n3; have := HS.out.nN; omega)); have HS := hid (HS.out.call hx hr); clear hx hr; clear xl x0 x1 x2 x3 x4 x5 fz; obtain ⟨xl, x0, x1, x2, x3, x4, x5, fz⟩ := HS.out.facts) | (go_at_call 67; refine must_yes.mono ?_; rintro e w3 ⟨rfl, rfl⟩))
                have HAL : Hid ((bodyE f).Row (fun b => N0 + 2 ≤ b) w3 (.slice none 0 0) []) := hid (Enc.Row.nil _ _ _)
                have HEQ4 : Hid (nodeOf (fun t => pBodies f t) t = .ok (.mk nm ⟨#[]⟩ [] false false []) t5.tail) := hid (by
                  rw [HEQ3.out]; unfold kE pEnd; rw [if_neg (by decide), if_pos HM1.out]; rfl)
                obtain ⟨yl, y0, y1, y2, y3, y4, y5, fy, hne⟩ := HS.out.facts2
                go_wp2
                refine bodyPost_ret (v := .agg #[.string nm, .string ⟨#[]⟩, .slice none 0 0, .bool false, .bool false, .slice none 0 0]) (by simp [results, Try.results97]; go_simp) rfl ?_
                exact NS.fin HS.out HN0.out (nd := (.mk nm ⟨#[]⟩ [] false false [])) HAF.out HAL.out HEQ4.out
            | true =>
              have HY := hid ha
              have HA1 := hid ha
              clear ha
              go_upto_region 11 with (first | (go_at_call 68; refine (rword_yes HS.out.rd (by rfl) HY.out).mono ?_; rintro e w2 ⟨rfl, hx, hr⟩; have HS := hid (HS.out.call hx hr); clear hx hr; clear xl x0 x1 x2 x3 x4 x5 fz; obtain ⟨xl, x0, x1, x2, x3, x4, x5, fz⟩ := HS.out.facts))
              clear xl x0 x1 x2 x3 x4 x5 fz
              obtain ⟨xl, x0, x1, x2, x3, x4, x5, fz⟩ := HS.out.facts
              cases hp : pNames t4.tail with
              | bad t5 =>
                have HPN := hid hp
                clear hp
                go_wp2_with (first | (go_at_call 104; refine (rnames_any HS.out.rd).mono ?_; rintro e w2 hq; obtain ⟨hx, hr, ⟨te, ve, rfl⟩⟩ := hq.outB HPN.out; have HS := hid (HS.out.call hx hr); clear hx hr hq; clear xl x0 x1 x2 x3 x4 x5 fz; obtain ⟨xl, x0, x1, x2, x3, x4, x5, fz⟩ := HS.out.facts))
                refine ⟨rfl, RP.bad' ?_ HS.out.ext HS.out.rd ⟨_, _, rfl⟩⟩
                rw [HEQ2.out]
                unfold kA pAfter
                rw [if_pos HA1.out, HPN.out]
                rfl
              | ok af t5 =>
                have HPN := hid hp
                clear hp
                go_upto_region 12 with (first | (go_at_call 104; refine (rnames_any HS.out.rd).mono ?_; rintro e w2 hq; obtain ⟨hx, hr, vA, rfl, hv⟩ := hq.outO HPN.out; have hv := hv.le (Nat.le_trans HS.out.size (Nat.le_refl _)); have HS := hid (HS.out.call hx hr); obtain ⟨AF, cf, rfl, _, _⟩ := hv.form; have HAF := hid hv; clear hx hr hv hq; clear xl x0 x1 x2 x3 x4 x5 fz; obtain ⟨xl, x0, x1, x2, x3, x4, x5, fz⟩ := HS.out.facts))
                have HAF := hid (HAF.out.ext (Ext.setCell (S := fun b => b = b3) _ ⟨b3, 2, none⟩ (.slice AF af.length cf) rfl) (fun b hb hl => by have := HS.out.nN; omega))
                have HS := hid (HS.out.set 2 (.slice AF af.length cf) rfl)
                obtain ⟨W9, hW9⟩ : ∃ W, World.setCell w2 ⟨b3, 2, none⟩ (.slice AF af.length cf) = W := ⟨_, rfl⟩
                rw [hW9] at HS ⊢
                rw [hW9] at HAF
                clear hW9
                clear xl x0 x1 x2 x3 x4 x5 fz
                obtain ⟨xl, x0, x1, x2, x3, x4, x5, fz⟩ := HS.out.facts
                have HL5 : Hid (t5.length + 2 ≤ t1.length) := hid (by
                  have h1 := tail_len HA1.out
                  have h2 : (pNames t4.tail).le t4.tail.length := pNames_le _
                  rw [HPN.out] at h2
                  have h2 : t5.length ≤ t4.tail.length := h2
                  have := HL4.out
                  omega)
                have HEQ3 : Hid (nodeOf (fun t => pBodies f t) t = kE (fun t => pBodies f t) false false nm ⟨#[]⟩ af t5) := hid (by
                  rw [HEQ2.out]; unfold kA pAfter; rw [if_pos HA1.out, HPN.out]; rfl)
                go_upto_region 14 with (fail)
                cases hm : isT t5 cSm with
                | false =>
                  have HY := hid hm
                  clear hm
                  go_wp2_with (first | (go_at_call 85; refine (rmark_no HS.out.rd HY.out).mono ?_; rintro e w2 ⟨rfl, hb⟩; have HS := hid (HS.out.below hb); clear hb; clear xl x0 x1 x2 x3 x4 x5 fz; obtain ⟨xl, x0, x1, x2, x3, x4, x5, fz⟩ := HS.out.facts) | (go_at_call 67; refine must_no.mono ?_; rintro e w3 ⟨⟨te, ve, rfl⟩, rfl⟩))
                  refine ⟨rfl, RP.bad' ?_ HS.out.ext HS.out.rd ⟨_, _, rfl⟩⟩
                  rw [HEQ3.out]
                  unfold kE pEnd
                  rw [if_neg (by decide), if_neg (by rw [HY.out]; decide)]
                  rfl
                | true =>
                  have HY := hid hm
                  have HM1 := hid hm
                  clear hm
                  go_upto_region 15 with (first | (go_at_call 85; refine (rmark_yes HS.out.rd (by decide) HY.out).mono ?_; rintro e w2 ⟨rfl, hx, hr⟩; have HAF := hid (HAF.out.ext hx (fun b hb hl => by have := HS.out.nr; have := HS.out.n2; have := HS.out.n3; have := HS.out.nN; omega)); have HS := hid (HS.out.call hx hr); clear hx hr; clear xl x0 x1 x2 x3 x4 x5 fz; obtain ⟨xl, x0, x1, x2, x3, x4, x5, fz⟩ := HS.out.facts) | (go_at_call 67; refine must_yes.mono ?_; rintro e w3 ⟨rfl, rfl⟩))
                  have HAL : Hid ((bodyE f).Row (fun b => N0 + 2 ≤ b) w3 (.slice none 0 0) []) := hid (Enc.Row.nil _ _ _)
                  have HEQ4 : Hid (nodeOf (fun t => pBodies f t) t = .ok (.mk nm ⟨#[]⟩ af false false []) t5.tail) := hid (by
                    rw [HEQ3.out]; unfold kE pEnd; rw [if_neg (by decide), if_pos HM1.out]; rfl)
                  obtain ⟨yl, y0, y1, y2, y3, y4, y5, fy, hne⟩ := HS.out.facts2
                  go_wp2
                  refine bodyPost_ret (v := .agg #[.string nm, .string ⟨#[]⟩, .slice AF af.length cf, .bool false, .bool false, .slice none 0 0]) (by simp [results, Try.results97]; go_simp) rfl ?_
                  exact NS.fin HS.out HN0.out (nd := (.mk nm ⟨#[]⟩ af false false [])) HAF.out HAL.out HEQ4.out
          | true =>
            have HY := hid hu
            have HU1 := hid hu
            clear hu
            go_upto_region 9 with (first | (go_at_call 68; refine (rword_yes HS.out.rd (by rfl) HY.out).mono ?_; rintro e w2 ⟨rfl, hx, hr⟩; have HS := hid (HS.out.call hx hr); clear hx hr; clear xl x0 x1 x2 x3 x4 x5 fz; obtain ⟨xl, x0, x1, x2, x3, x4, x5, fz⟩ := HS.out.facts))
            clear xl x0 x1 x2 x3 x4 x5 fz
            obtain ⟨xl, x0, x1, x2, x3, x4, x5, fz⟩ := HS.out.facts
            cases hn : isN t3.tail with
            | false =>
              have HY := hid hn
              clear hn
              go_wp2_with (first | (go_at_call 69; refine (rname_no HS.out.rd HY.out).mono ?_; rintro e w2 ⟨⟨te, ve, rfl⟩, hb⟩; have HS := hid (HS.out.below hb); clear hb; clear xl x0 x1 x2 x3 x4 x5 fz; obtain ⟨xl, x0, x1, x2, x3, x4, x5, fz⟩ := HS.out.facts))
              refine ⟨rfl, RP.bad' ?_ HS.out.ext HS.out.rd ⟨_, _, rfl⟩⟩
              rw [HEQ.out]
              unfold kU pUndo
              rw [if_neg (by decide), if_pos HU1.out, if_neg (by rw [HY.out]; decide)]
              rfl
            | true =>
              have HY := hid hn
              have HN1 := hid hn
              clear hn
              go_upto_region 10 with (first | (go_at_call 69; refine (rname_yes HS.out.rd HY.out).mono ?_; rintro e w2 ⟨rfl, hx, hr⟩; have HS := hid (HS.out.call hx hr); clear hx hr; clear xl x0 x1 x2 x3 x4 x5 fz; obtain ⟨xl, x0, x1, x2, x3, x4, x5, fz⟩ := HS.out.facts))
              obtain ⟨un, hun⟩ : ∃ y, txN t3.tail = y := ⟨_, rfl⟩
              rw [hun]
              have HS := hid (HS.out.set 1 (.string un) rfl)
              obtain ⟨W9, hW9⟩ : ∃ W, World.setCell w2 ⟨b3, 1, none⟩ (.string un) = W := ⟨_, rfl⟩
              rw [hW9] at HS ⊢
              skip
              clear hW9
              clear xl x0 x1 x2 x3 x4 x5 fz
              obtain ⟨xl, x0, x1, x2, x3, x4, x5, fz⟩ := HS.out.facts
              obtain ⟨t4, ht4⟩ : ∃ y, t3.tail.tail = y := ⟨_, rfl⟩
              rw [ht4] at HS
              have HL4 : Hid (t4.length + 2 ≤ t1.length) := hid (by rw [← ht4]; have h1 := tail_len HU1.out; have h2 := tail_lenN HN1.out; have := HL3.out; omega)
              have HEQ2 : Hid (nodeOf (fun t => pBodies f t) t = kA (fun t => pBodies f t) false false nm un t4) := hid (by
                rw [HEQ.out]; unfold kU pUndo; rw [if_neg (by decide), if_pos HU1.out, if_pos HN1.out, hun, ht4]; rfl)
              clear hun ht4
              cases ha : isT t4 wd4 with
              | false =>
                have HY := hid ha
                clear ha
                go_upto_region 12 with (first | (go_at_call 68; refine (rword_no HS.out.rd HY.out).mono ?_; rintro e w2 ⟨rfl, hb⟩; have HS := hid (HS.out.below hb); clear hb; clear xl x0 x1 x2 x3 x4 x5 fz; obtain ⟨xl, x0, x1, x2, x3, x4, x5, fz⟩ := HS.out.facts))
                clear xl x0 x1 x2 x3 x4 x5 fz
                obtain ⟨xl, x0, x1, x2, x3, x4, x5, fz⟩ := HS.out.facts
                have HEQ3 : Hid (nodeOf (fun t => pBodies f t) t = kE (fun t => pBodies f t) false false nm un [] t4) := hid (by
                  rw [HEQ2.out]; unfold kA pAfter; rw [if_neg (by rw [HY.out]; decide)]; rfl)
                obtain ⟨t5, ht5⟩ : ∃ y, t4 = y := ⟨_, rfl⟩
                rw [ht5] at HS HEQ3
                have HL5 : Hid (t5.length + 2 ≤ t1.length) := hid (ht5 ▸ HL4.out)
                have HAF : Hid (Enc.str.Row (fun b => N0 + 2 ≤ b) w2 (.slice none 0 0) []) := hid (Enc.Row.nil Enc.str _ w2)
                clear ht5
                go_upto_region 14 with (fail)
                cases hm : isT t5 cSm with
                | false =>
                  have HY := hid hm
                  clear hm
                  go_wp2_with (first | (go_at_call 85; refine (rmark_no HS.out.rd HY.out).mono ?_; rintro e w2 ⟨rfl, hb⟩; have HS := hid (HS.out.below hb); clear hb; clear xl x0 x1 x2 x3 x4 x5 fz; obtain ⟨xl, x0, x1, x2, x3, x4, x5, fz⟩ := HS.out.facts) | (go_at_call 67; refine must_no.mono ?_; rintro e w3 ⟨⟨te, ve, rfl⟩, rfl⟩))
                  refine ⟨rfl, RP.bad' ?_ HS.out.ext HS.out.rd ⟨_, _, rfl⟩⟩
                  rw [HEQ3.out]
                  unfold kE pEnd
                  rw [if_neg (by decide), if_neg (by rw [HY.out]; decide)]
                  rfl
                | true =>
                  have HY := hid hm
                  have HM1 := hid hm
                  clear hm
                  go_upto_region 15 with (first | (go_at_call 85; refine (rmark_yes HS.out.rd (by decide) HY.out).mono ?_; rintro e w2 ⟨rfl, hx, hr⟩; have HAF := hid (HAF.out.ext hx (fun b hb hl => by have := HS.out.nr; have := HS.out.n2; have := HS.out.n3; have := HS.out.nN; omega)); have HS := hid (HS.out.call hx hr); clear hx hr; clear xl x0 x1 x2 x3 x4 x5 fz; obtain ⟨xl, x0, x1, x2, x3, x4, x5, fz⟩ := HS.out.facts) | (go_at_call 67; refine must_yes.mono ?_; rintro e w3 ⟨rfl, rfl⟩))
                  have HAL : Hid ((bodyE f).Row (fun b => N0 + 2 ≤ b) w3 (.slice none 0 0) []) := hid (Enc.Row.nil _ _ _)
                  have HEQ4 : Hid (nodeOf (fun t => pBodies f t) t = .ok (.mk nm un [] false false []) t5.tail) := hid (by
                    rw [HEQ3.out]; unfold kE pEnd; rw [if_neg (by decide), if_pos HM1.out]; rfl)
                  obtain ⟨yl, y0, y1, y2, y3, y4, y5, fy, hne⟩ := HS.out.facts2
                  go_wp2
                  refine bodyPost_ret (v := .agg #[.string nm, .string un, .slice none 0 0, .bool false, .bool false, .slice none 0 0]) (by simp [results, Try.results97]; go_simp) rfl ?_
                  exact NS.fin HS.out HN0.out (nd := (.mk nm un [] false false [])) HAF.out HAL.out HEQ4.out
              | true =>
                have HY := hid ha
                have HA1 := hid ha
                clear ha
                go_upto_region 11 with (first | (go_at_call 68; refine (rword_yes HS.out.rd (by rfl) HY.out).mono ?_; rintro e w2 ⟨rfl, hx, hr⟩; have HS := hid (HS.out.call hx hr); clear hx hr; clear xl x0 x1 x2 x3 x4 x5 fz; obtain ⟨xl, x0, x1, x2, x3, x4, x5, fz⟩ := HS.out.facts))
                clear xl x0 x1 x2 x3 x4 x5 fz
                obtain ⟨xl, x0, x1, x2, x3, x4, x5, fz⟩ := HS.out.facts
                cases hp : pNames t4.tail with
                | bad t5 =>
                  have HPN := hid hp
                  clear hp
                  go_wp2_with (first | (go_at_call 104; refine (rnames_any HS.out.rd).mono ?_; rintro e w2 hq; obtain ⟨hx, hr, ⟨te, ve, rfl⟩⟩ := hq.outB HPN.out; have HS := hid (HS.out.call hx hr); clear hx hr hq; clear xl x0 x1 x2 x3 x4 x5 fz; obtain ⟨xl, x0, x1, x2, x3, x4, x5, fz⟩ := HS.out.facts))
                  refine ⟨rfl, RP.bad' ?_ HS.out.ext HS.out.rd ⟨_, _, rfl⟩⟩
                  rw [HEQ2.out]
                  unfold kA pAfter
                  rw [if_pos HA1.out, HPN.out]
                  rfl
                | ok af t5 =>
                  have HPN := hid hp
                  clear hp
                  go_upto_region 12 with (first | (go_at_call 104; refine (rnames_any HS.out.rd).mono ?_; rintro e w2 hq; obtain ⟨hx, hr, vA, rfl, hv⟩ := hq.outO HPN.out; have hv := hv.le (Nat.le_trans HS.out.size (Nat.le_refl _)); have HS := hid (HS.out.call hx hr); obtain ⟨AF, cf, rfl, _, _⟩ := hv.form; have HAF := hid hv; clear hx hr hv hq; clear xl x0 x1 x2 x3 x4 x5 fz; obtain ⟨xl, x0, x1, x2, x3, x4, x5, fz⟩ := HS.out.facts))
                  have HAF := hid (HAF.out.ext (Ext.setCell (S := fun b => b = b3) _ ⟨b3, 2, none⟩ (.slice AF af.length cf) rfl) (fun b hb hl => by have := HS.out.nN; omega))
                  have HS := hid (HS.out.set 2 (.slice AF af.length cf) rfl)
                  obtain ⟨W9, hW9⟩ : ∃ W, World.setCell w2 ⟨b3, 2, none⟩ (.slice AF af.length cf) = W := ⟨_, rfl⟩
                  rw [hW9] at HS ⊢
                  rw [hW9] at HAF
                  clear hW9
                  clear xl x0 x1 x2 x3 x4 x5 fz
                  obtain ⟨xl, x0, x1, x2, x3, x4, x5, fz⟩ := HS.out.facts
                  have HL5 : Hid (t5.length + 2 ≤ t1.length) := hid (by
                    have h1 := tail_len HA1.out
                    have h2 : (pNames t4.tail).le t4.tail.length := pNames_le _
                    rw [HPN.out] at h2
                    have h2 : t5.length ≤ t4.tail.length := h2
                    have := HL4.out
                    omega)
                  have HEQ3 : Hid (nodeOf (fun t => pBodies f t) t = kE (fun t => pBodies f t) false false nm un af t5) := hid (by
                    rw [HEQ2.out]; unfold kA pAfter; rw [if_pos HA1.out, HPN.out]; rfl)
                  go_upto_region 14 with (fail)
                  cases hm : isT t5 cSm with
                  | false =>
                    have HY := hid hm
                    clear hm
                    go_wp2_with (first | (go_at_call 85; refine (rmark_no HS.out.rd HY.out).mono ?_; rintro e w2 ⟨rfl, hb⟩; have HS := hid (HS.out.below hb); clear hb; clear xl x0 x1 x2 x3 x4 x5 fz; obtain ⟨xl, x0, x1, x2, x3, x4, x5, fz⟩ := HS.out.facts) | (go_at_call 67; refine must_no.mono ?_; rintro e w3 ⟨⟨te, ve, rfl⟩, rfl⟩))
                    refine ⟨rfl, RP.bad' ?_ HS.out.ext HS.out.rd ⟨_, _, rfl⟩⟩
                    rw [HEQ3.out]
                    unfold kE pEnd
                    rw [if_neg (by decide), if_neg (by rw [HY.out]; decide)]
                    rfl
                  | true =>
                    have HY := hid hm
                    have HM1 := hid hm
                    clear hm
                    go_upto_region 15 with (first | (go_at_call 85; refine (rmark_yes HS.out.rd (by decide) HY.out).mono ?_; rintro e w2 ⟨rfl, hx, hr⟩; have HAF := hid (HAF.out.ext hx (fun b hb hl => by have := HS.out.nr; have := HS.out.n2; have := HS.out.n3; have := HS.out.nN; omega)); have HS := hid (HS.out.call hx hr); clear hx hr; clear xl x0 x1 x2 x3 x4 x5 fz; obtain ⟨xl, x0, x1, x2, x3, x4, x5, fz⟩ := HS.out.facts) | (go_at_call 67; refine must_yes.mono ?_; rintro e w3 ⟨rfl, rfl⟩))
                    have HAL : Hid ((bodyE f).Row (fun b => N0 + 2 ≤ b) w3 (.slice none 0 0) []) := hid (Enc.Row.nil _ _ _)
                    have HEQ4 : Hid (nodeOf (fun t => pBodies f t) t = .ok (.mk nm un af false false []) t5.tail) := hid (by
                      rw [HEQ3.out]; unfold kE pEnd; rw [if_neg (by decide), if_pos HM1.out]; rfl)
                    obtain ⟨yl, y0, y1, y2, y3, y4, y5, fy, hne⟩ := HS.out.facts2
                    go_wp2
                    refine bodyPost_ret (v := .agg #[.string nm, .string un, .slice AF af.length cf, .bool false, .bool false, .slice none 0 0]) (by simp [results, Try.results97]; go_simp) rfl ?_
                    exact NS.fin HS.out HN0.out (nd := (.mk nm un af false false [])) HAF.out HAL.out HEQ4.out
end Go.Proofs.Ytidilpciolladaa
