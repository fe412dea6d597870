/- The document's Lex. -/
import Derived.Test.YthekoefcienipaaLxV
namespace Go.Proofs.Ythekoefcienipaa
open Go.RowKit

/-- The document's reading of a text from p on: its tokens, or the place and the number of the error. -/
def dL (s : ByteArray) (p : Nat) (rem : Bool) (out : List Tok) : List Tok ⊕ (Int × Int) :=
  if _h : p < s.size then
    if bad s p = true then .inr (p, 4)
    else
      let r : Int := (Utf8.decode s p).1
      let q := p + max 1 (Utf8.decode s p).2
      if (rem || r == 35) = true then dL s q (r != 10) out
      else if cls r = 1 then (if (runE s p : Int) - p > 24 then .inr (p, 5) else dL s (max (p + 1) (runE s p)) rem (out ++ [⟨1, s.extract p (runE s p), p⟩]))
      else if markD r = true then dL s q rem (out ++ [⟨2, s.extract p q, p⟩])
      else if cls r = 3 then dL s q rem out
      else .inr (p, 10)
  else .inl out
termination_by s.size - p
decreasing_by all_goals omega
theorem runE_gt {s : ByteArray} {p : Nat} (h : p < s.size) (hb : bad s p = false) (hc : cls (Utf8.decode s p).1 = 1) : p + 1 ≤ runE s p := by
  rw [runE_next h hb (by unfold namC; rw [hc]; rfl)]
  have h1 := runE_ge s (p + (Utf8.decode s p).2)
  have h2 := width_pos s p
  omega
/-- A row of tokens that was made from block N on. -/
structure Toks (N : Nat) (w0 w : World) (g : Nat) (v : Value) (xs : List Tok) : Prop where
  sp : tokE.Spine 38 No g w v xs
  gN : N ≤ g
  size : N ≤ w.heap.size
  low : Below N w0 w
theorem Toks.below {N : Nat} {w0 w w' : World} {g : Nat} {v : Value} {xs : List Tok} (h : Toks N w0 w g v xs) (hb : Below w.heap.size w w') : Toks N w0 w' g v xs :=
  ⟨h.sp.step (fun _ hc => (hb.block g (Array.getElem?_eq_some_iff.1 hc).1).trans hc) (fun _ hk _ => hk.elim), h.gN, Nat.le_trans h.size hb.size, h.low.trans (hb.mono h.size)⟩
theorem Toks.grown {N : Nat} {w0 w w2 : World} {g g2 : Nat} {v v2 : Value} {xs ys : List Tok} {K : Nat → Prop} (h : Toks N w0 w g v xs) (hs : tokE.Spine 38 K g2 w2 v2 ys) (hK : ∀ b, ¬ K b) (he : Ext (fun b => b = g ∧ capOf v ≠ 0) w w2) (hg : Grew g w w2 v v2 g2) : Toks N w0 w2 g2 v2 ys := by
  have h1 := h.gN
  refine ⟨hs.step (fun _ hc => hc) (fun b hb _ => (hK b hb).elim), by have := h.size; rcases hg.two with e | e <;> omega, Nat.le_trans h.size he.size, h.low.trans (he.toBelow h.size (fun x hx e => by omega))⟩
def dR (s : ByteArray) : List Tok × Int × Int := match dL s 0 false [] with | .inl l => (l, s.size, 0) | .inr (p, e) => ([], p, e)
def DLex (s : ByteArray) (w : World) (e : Ending) (w' : World) : Prop := ∃ v g, e = .returned (.tuple #[v, .int .i64 (dR s).2.1, .int .i64 (dR s).2.2]) ∧ Toks w.heap.size w w' g v (dR s).1
theorem DLex.err {s : ByteArray} {w w' : World} {p e : Int} (h : dL s 0 false [] = .inr (p, e)) (hb : Below w.heap.size w w') : DLex s w (.returned (.tuple #[.slice none 0 0, .int .i64 p, .int .i64 e])) w' := by
  have hd : dR s = ([], p, e) := by unfold dR; rw [h]
  unfold DLex
  rw [hd]
  exact ⟨.slice none 0 0, w.heap.size, rfl, Enc.Spine.nil _ _ _ _ _, Nat.le_refl _, hb.size, hb⟩
theorem DLex.done {s : ByteArray} {w w' : World} {l : List Tok} {g : Nat} {v : Value} (h : dL s 0 false [] = .inl l) (ht : Toks w.heap.size w w' g v l) : DLex s w (.returned (.tuple #[v, .int .i64 s.size, .int .i64 0])) w' := by
  have hd : dR s = (l, (s.size : Int), 0) := by unfold dR; rw [h]
  unfold DLex
  rw [hd]
  exact ⟨v, g, rfl, ht⟩
set_option maxRecDepth 4000 in
set_option maxHeartbeats 4000000 in
theorem dlex_any {w : World} {s : ByteArray} (hz : s.size ≤ 65536) : Calls Try.prog 11 #[.string s] w fun e w' => DLex s w e w' := by
  have HZ := hid hz
  have hz' : (s.size : Int) ≤ 65536 := by omega
  clear hz
  go_enter Try.func11, Try.ntmps11
  go_wp2
  go_loopg [5, 6, 7] (s.size + 1) (fun k vo va vr wr => ∃ (p g : Nat) (rem : Bool) (out : List Tok), p + k = s.size + 1 ∧ p ≤ s.size ∧ out.length ≤ p ∧ va = .int .i64 (p : Int) ∧ vr = .bool rem ∧ dL s 0 false [] = dL s p rem out ∧ Toks w.heap.size w wr g vo out)
  case atStart => exact ⟨0, w.heap.size, false, [], by omega, by omega, by simp, rfl, rfl, rfl, Enc.Spine.nil _ _ _ _ _, Nat.le_refl _, Nat.le_refl _, Below.refl _ _⟩
  case round =>
    obtain ⟨p, g, rem, out, hk, hps, hol, rfl, rfl, hd, ht⟩ := hrel
    obtain ⟨A, cp, rfl, _, _⟩ := ht.sp.form
    have HK := hid hk
    have HPS := hid hps
    have HOL := hid hol
    have HLEN := hid (show out.length + 1 ≤ 4294967296 by omega)
    have HT := hid ht
    by_cases hp : p < s.size
    · have hp1 : (p : Int) < s.size := by omega
      have hp2 : (p : Int) ≤ s.size := by omega
      have hp0 : (0 : Int) ≤ p := by omega
      have HP := hid hp
      cases hbd : bad s p with
      | true =>
        have HPR : Hid (ptR s p = 0) := hid (by unfold ptR; rw [if_pos hbd])
        have HPN : Hid (ptN s p = 0) := hid (by unfold ptN; rw [if_pos hbd])
        have HOK : Hid (okR 0) := hid (small_ok (n := 0) (by decide))
        have HCL : Hid (cls 0 = 0) := hid rfl
        have HD : Hid (dL s 0 false [] = .inr ((p : Int), 4)) := hid (by rw [hd, dL, dif_pos hp, if_pos hbd])
        clear hk hps hol ht hd hbd hp
        go_wp2_with (first | (go_at_call 24; refine (point_any HP.out HZ.out).mono ?_; rintro e w1 ⟨rfl, hb1⟩; obtain ⟨ex1, dx1, rfl⟩ := more_of hb1; clear hb1; rw [HPR.out, HPN.out]) | (go_at_call 25; refine (rclass_any HOK.out).mono ?_; rintro e w2 ⟨rfl, hb2⟩; obtain ⟨ex2, dx2, rfl⟩ := more_of hb2; clear hb2; rw [HCL.out]))
        go_ret3
        exact DLex.err HD.out (HT.out.low.trans (Below.mono (show Below wr.heap.size wr _ from (by repeat (first | (with_reducible exact Below.refl _ _) | (with_reducible exact bl_mm) | (with_reducible refine bl_dr ?_) | (with_reducible refine bl_drN ?_ _) | (with_reducible refine bl_al ?_ _) | (with_reducible refine bl_more ?_ _ _)))) HT.out.size))
      | false =>
        obtain ⟨r, hre⟩ : ∃ r : Int, ((Utf8.decode s p).1 : Int) = r := ⟨_, rfl⟩
        obtain ⟨n, hne⟩ : ∃ n, (Utf8.decode s p).2 = n := ⟨_, rfl⟩
        obtain ⟨c, hcl⟩ : ∃ c, cls r = c := ⟨_, rfl⟩
        have hw := width_pos s p
        have hwl := width_le hp
        rw [hne] at hw hwl
        have hD : dL s p rem out = (if (rem || r == 35) = true then dL s (p + n) (r != 10) out
            else if c = 1 then (if (runE s p : Int) - p > 24 then .inr (p, 5) else dL s (max (p + 1) (runE s p)) rem (out ++ [⟨1, s.extract p (runE s p), p⟩]))
            else if markD r = true then dL s (p + n) rem (out ++ [⟨2, s.extract p (p + n), p⟩])
            else if c = 3 then dL s (p + n) rem out else .inr (p, 10)) := by
          rw [dL, dif_pos hp, if_neg (by rw [hbd]; decide)]
          simp only [hre, hne, hcl, Nat.max_eq_right hw]
        have HPR : Hid (ptR s p = r) := hid (by unfold ptR; rw [if_neg (by rw [hbd]; decide), hre])
        have HPN : Hid (ptN s p = n) := hid (by unfold ptN; rw [if_neg (by rw [hbd]; decide), hne])
        have HOK : Hid (okR r) := hid (by rw [← hre]; exact decode_ok s p)
        have HCL := hid hcl
        have hgt := runE_gt hp hbd
        rw [hre, hcl] at hgt
        have hel := runE_le (s := s) hps
        obtain ⟨E, hE⟩ : ∃ E, runE s p = E := ⟨_, rfl⟩
        rw [hE] at hgt hel hD
        have HRE := hid hE
        rw [hD] at hd
        have hd0 := hid hd
        clear hd hD
        have hn0 : ((n : Int) == 0) = false := by rw [beq_eq_false_iff_ne]; clear hgt; omega
        obtain ⟨q, hq⟩ : ∃ q, p + n = q := ⟨_, rfl⟩
        rw [hq] at hwl hd0
        have hpq : p + 1 ≤ q := by clear hn0 hgt; omega
        have hq1 : (q : Int) ≤ s.size := by clear hn0 hgt; omega
        have hq2 : (p : Int) ≤ q := by clear hn0 hgt; omega
        have hpn : wrap64 ((p : Int) + n) = (q : Int) := by clear hn0 hgt; rw [wrap64]; omega
        have HWL := hid hwl
        have HPQ := hid hpq
        clear hbd hp hE hre hne hq hw hk hps hol ht hcl hwl hpq
        cases rem with
        | true =>
          have HD : Hid (dL s 0 false [] = dL s q (r != 10) out) := hid (by rw [hd0.out, Bool.true_or, if_pos rfl])
          clear hd0 hgt hel
          go_wp2_with (first | (go_at_call 24; refine (point_any HP.out HZ.out).mono ?_; rintro e w1 ⟨rfl, hb1⟩; obtain ⟨ex1, dx1, rfl⟩ := more_of hb1; clear hb1; rw [HPR.out, HPN.out]) | (go_at_call 25; refine (rclass_any HOK.out).mono ?_; rintro e w2 ⟨rfl, hb2⟩; obtain ⟨ex2, dx2, rfl⟩ := more_of hb2; clear hb2; rw [HCL.out]))
          go_roundg (s.size + 1 - q)
          case measure => have := HK.out; have := HWL.out; have := HPQ.out; omega
          case rel => exact ⟨q, g, r != 10, out, by have := HWL.out; omega, HWL.out, by have := HOL.out; have := HPQ.out; omega, by rw [hpn], rfl, HD.out, HT.out.below (by repeat (first | (with_reducible exact Below.refl _ _) | (with_reducible exact bl_mm) | (with_reducible refine bl_dr ?_) | (with_reducible refine bl_drN ?_ _) | (with_reducible refine bl_al ?_ _) | (with_reducible refine bl_more ?_ _ _)))⟩
        | false =>
          cases h35 : (r == 35) with
          | true =>
            have HD : Hid (dL s 0 false [] = dL s q (r != 10) out) := hid (by rw [hd0.out, h35, Bool.false_or, if_pos rfl])
            clear hd0 hgt hel
            go_wp2_with (first | (go_at_call 24; refine (point_any HP.out HZ.out).mono ?_; rintro e w1 ⟨rfl, hb1⟩; obtain ⟨ex1, dx1, rfl⟩ := more_of hb1; clear hb1; rw [HPR.out, HPN.out]) | (go_at_call 25; refine (rclass_any HOK.out).mono ?_; rintro e w2 ⟨rfl, hb2⟩; obtain ⟨ex2, dx2, rfl⟩ := more_of hb2; clear hb2; rw [HCL.out]))
            go_roundg (s.size + 1 - q)
            case measure => have := HK.out; have := HWL.out; have := HPQ.out; omega
            case rel => exact ⟨q, g, r != 10, out, by have := HWL.out; omega, HWL.out, by have := HOL.out; have := HPQ.out; omega, by rw [hpn], rfl, HD.out, HT.out.below (by repeat (first | (with_reducible exact Below.refl _ _) | (with_reducible exact bl_mm) | (with_reducible refine bl_dr ?_) | (with_reducible refine bl_drN ?_ _) | (with_reducible refine bl_al ?_ _) | (with_reducible refine bl_more ?_ _ _)))⟩
          | false =>
            have hd1 := hd0.out
            rw [h35, Bool.or_false, if_neg (by decide)] at hd1
            clear hd0
            by_cases hc1 : c = 1
            · subst hc1
              rw [if_pos rfl] at hd1
              have hgt := hgt rfl
              have he1 : (E : Int) ≤ s.size := by clear hpn hn0 hd1; omega
              have he2 : (p : Int) ≤ E := by clear hpn hn0 hd1; omega
              have HGT := hid hgt
              have HEL := hid hel
              by_cases hlong : (E : Int) - p > 24
              · have HD : Hid (dL s 0 false [] = .inr ((p : Int), 5)) := hid (by rw [hd1, if_pos hlong])
                have hk24 : decide ((24 : Int) < (E : Int) - p) = true := by clear hpn hn0 hd1; rw [decide_eq_true_eq]; omega
                clear hd1 hgt hel hlong
                go_wp2_with (first | (go_at_call 24; refine (point_any HP.out HZ.out).mono ?_; rintro e w1 ⟨rfl, hb1⟩; obtain ⟨ex1, dx1, rfl⟩ := more_of hb1; clear hb1; rw [HPR.out, HPN.out]) | (go_at_call 25; refine (rclass_any HOK.out).mono ?_; rintro e w2 ⟨rfl, hb2⟩; obtain ⟨ex2, dx2, rfl⟩ := more_of hb2; clear hb2; rw [HCL.out]) | (go_at_call 26; refine (run_any (Nat.le_of_lt HP.out) HZ.out).mono ?_; rintro e w3 ⟨rfl, hb3⟩; obtain ⟨ex3, dx3, rfl⟩ := more_of hb3; clear hb3; rw [HRE.out]))
                go_ret3
                exact DLex.err HD.out (HT.out.low.trans (Below.mono (show Below wr.heap.size wr _ from (by repeat (first | (with_reducible exact Below.refl _ _) | (with_reducible exact bl_mm) | (with_reducible refine bl_dr ?_) | (with_reducible refine bl_drN ?_ _) | (with_reducible refine bl_al ?_ _) | (with_reducible refine bl_more ?_ _ _)))) HT.out.size))
              · have hmx : max (p + 1) E = E := by clear hpn hn0 hd1; omega
                have HD : Hid (dL s 0 false [] = dL s E false (out ++ [⟨1, s.extract p E, p⟩])) := hid (by rw [hd1, if_neg hlong, hmx])
                have hk24 : decide ((24 : Int) < (E : Int) - p) = false := by clear hpn hn0 hd1; rw [decide_eq_false_iff_not]; omega
                clear hd1 hgt hel hlong hmx
                go_wp2_with (first | (go_at_call 24; refine (point_any HP.out HZ.out).mono ?_; rintro e w1 ⟨rfl, hb1⟩; obtain ⟨ex1, dx1, rfl⟩ := more_of hb1; clear hb1; rw [HPR.out, HPN.out]) | (go_at_call 25; refine (rclass_any HOK.out).mono ?_; rintro e w2 ⟨rfl, hb2⟩; obtain ⟨ex2, dx2, rfl⟩ := more_of hb2; clear hb2; rw [HCL.out]) | (go_at_call 26; refine (run_any (Nat.le_of_lt HP.out) HZ.out).mono ?_; rintro e w3 ⟨rfl, hb3⟩; obtain ⟨ex3, dx3, rfl⟩ := more_of hb3; clear hb3; rw [HRE.out]) | (at_builtin; refine wpList_app23 (ys := [⟨1, s.extract p E, p⟩]) (by rfl) (.tmp 50) (.tmp 57) (by rfl) (by rfl) (by rfl) (by rfl) (HT.out.below (by repeat (first | (with_reducible exact Below.refl _ _) | (with_reducible exact bl_mm) | (with_reducible refine bl_dr ?_) | (with_reducible refine bl_drN ?_ _) | (with_reducible refine bl_al ?_ _) | (with_reducible refine bl_more ?_ _ _)))).sp (by exact Enc.Src.one_blk (cs := tokCells ⟨1, s.extract p E, p⟩) (alloc_blk (by simp [more_size])) (tokE_mk _)) (fun _ h _ => h.elim) HLEN.out ?_; intro v2 w4 g2 hs2 he2 hg2; obtain ⟨A2, c2, rfl, _, _⟩ := hs2.form; have HS2 := hid hs2; have HE2 := hid he2; have HG2 := hid hg2; clear hs2 hg2 he2))
                go_roundg (s.size + 1 - E)
                case measure => have := HK.out; have := HEL.out; have := HGT.out; omega
                case rel => exact ⟨E, g2, false, out ++ [⟨1, s.extract p E, p⟩], by have := HEL.out; omega, HEL.out, by have := HOL.out; have := HGT.out; simp; omega, by rw [show (p : Int) + ((E : Int) - p) = E by clear hpn hn0; omega], rfl, HD.out, (HT.out.below (by repeat (first | (with_reducible exact Below.refl _ _) | (with_reducible exact bl_mm) | (with_reducible refine bl_dr ?_) | (with_reducible refine bl_drN ?_ _) | (with_reducible refine bl_al ?_ _) | (with_reducible refine bl_more ?_ _ _)))).grown (K := fun b => No b ∧ b < _) (by have h := HS2.out; rw [List.length_append] at h; exact h) (fun _ h => h.1) HE2.out HG2.out⟩
            · have hcb1 : (c == 1) = false := beq_eq_false_iff_ne.2 hc1
              rw [if_neg hc1] at hd1
              cases hmk : markD r with
              | true =>
                have HMK := hid hmk
                have HD : Hid (dL s 0 false [] = dL s q false (out ++ [⟨2, s.extract p q, p⟩])) := hid (by rw [hd1, hmk, if_pos rfl])
                clear hd1 hgt hel hc1 hmk
                go_wp2_with (first | (go_at_call 24; refine (point_any HP.out HZ.out).mono ?_; rintro e w1 ⟨rfl, hb1⟩; obtain ⟨ex1, dx1, rfl⟩ := more_of hb1; clear hb1; rw [HPR.out, HPN.out]) | (go_at_call 25; refine (rclass_any HOK.out).mono ?_; rintro e w2 ⟨rfl, hb2⟩; obtain ⟨ex2, dx2, rfl⟩ := more_of hb2; clear hb2; rw [HCL.out]) | (go_at_call 27; refine markD_any.mono ?_; rintro e w3 ⟨rfl, rfl⟩; rw [HMK.out]) | (at_builtin; refine wpList_app23 (ys := [⟨2, s.extract p q, p⟩]) (by rfl) (.tmp 65) (.tmp 74) (by rfl) (by rfl) (by rfl) (by rfl) (HT.out.below (by repeat (first | (with_reducible exact Below.refl _ _) | (with_reducible exact bl_mm) | (with_reducible refine bl_dr ?_) | (with_reducible refine bl_drN ?_ _) | (with_reducible refine bl_al ?_ _) | (with_reducible refine bl_more ?_ _ _)))).sp (by exact Enc.Src.one_blk (cs := tokCells ⟨2, s.extract p q, p⟩) (alloc_blk (by simp [more_size])) (tokE_mk _)) (fun _ h _ => h.elim) HLEN.out ?_; intro v2 w4 g2 hs2 he2 hg2; obtain ⟨A2, c2, rfl, _, _⟩ := hs2.form; have HS2 := hid hs2; have HE2 := hid he2; have HG2 := hid hg2; clear hs2 hg2 he2))
                go_roundg (s.size + 1 - q)
                case measure => have := HK.out; have := HWL.out; have := HPQ.out; omega
                case rel => exact ⟨q, g2, false, out ++ [⟨2, s.extract p q, p⟩], by have := HWL.out; omega, HWL.out, by have := HOL.out; have := HPQ.out; simp; omega, by rw [hpn], rfl, HD.out, (HT.out.below (by repeat (first | (with_reducible exact Below.refl _ _) | (with_reducible exact bl_mm) | (with_reducible refine bl_dr ?_) | (with_reducible refine bl_drN ?_ _) | (with_reducible refine bl_al ?_ _) | (with_reducible refine bl_more ?_ _ _)))).grown (K := fun b => No b ∧ b < _) (by have h := HS2.out; rw [List.length_append] at h; exact h) (fun _ h => h.1) HE2.out HG2.out⟩
              | false =>
                have HMK := hid hmk
                rw [hmk, if_neg (by decide)] at hd1
                by_cases hc3 : c = 3
                · subst hc3
                  have HD : Hid (dL s 0 false [] = dL s q false out) := hid (by rw [hd1, if_pos rfl])
                  clear hd1 hgt hel hc1 hmk hcb1
                  go_wp2_with (first | (go_at_call 24; refine (point_any HP.out HZ.out).mono ?_; rintro e w1 ⟨rfl, hb1⟩; obtain ⟨ex1, dx1, rfl⟩ := more_of hb1; clear hb1; rw [HPR.out, HPN.out]) | (go_at_call 25; refine (rclass_any HOK.out).mono ?_; rintro e w2 ⟨rfl, hb2⟩; obtain ⟨ex2, dx2, rfl⟩ := more_of hb2; clear hb2; rw [HCL.out]) | (go_at_call 27; refine markD_any.mono ?_; rintro e w3 ⟨rfl, rfl⟩; rw [HMK.out]))
                  go_roundg (s.size + 1 - q)
                  case measure => have := HK.out; have := HWL.out; have := HPQ.out; omega
                  case rel => exact ⟨q, g, false, out, by have := HWL.out; omega, HWL.out, by have := HOL.out; have := HPQ.out; omega, by rw [hpn], rfl, HD.out, HT.out.below (by repeat (first | (with_reducible exact Below.refl _ _) | (with_reducible exact bl_mm) | (with_reducible refine bl_dr ?_) | (with_reducible refine bl_drN ?_ _) | (with_reducible refine bl_al ?_ _) | (with_reducible refine bl_more ?_ _ _)))⟩
                · have HD : Hid (dL s 0 false [] = .inr ((p : Int), 10)) := hid (by rw [hd1, if_neg hc3])
                  have hcb3 : (c != 3) = true := by simpa using hc3
                  clear hd1 hgt hel hc1 hmk hc3
                  go_wp2_with (first | (go_at_call 24; refine (point_any HP.out HZ.out).mono ?_; rintro e w1 ⟨rfl, hb1⟩; obtain ⟨ex1, dx1, rfl⟩ := more_of hb1; clear hb1; rw [HPR.out, HPN.out]) | (go_at_call 25; refine (rclass_any HOK.out).mono ?_; rintro e w2 ⟨rfl, hb2⟩; obtain ⟨ex2, dx2, rfl⟩ := more_of hb2; clear hb2; rw [HCL.out]) | (go_at_call 27; refine markD_any.mono ?_; rintro e w3 ⟨rfl, rfl⟩; rw [HMK.out]))
                  go_ret3
                  exact DLex.err HD.out (HT.out.low.trans (Below.mono (show Below wr.heap.size wr _ from (by repeat (first | (with_reducible exact Below.refl _ _) | (with_reducible exact bl_mm) | (with_reducible refine bl_dr ?_) | (with_reducible refine bl_drN ?_ _) | (with_reducible refine bl_al ?_ _) | (with_reducible refine bl_more ?_ _ _)))) HT.out.size))
    · have hp1 : ¬ (p : Int) < s.size := by omega
      have HP := hid hp
      have HD : Hid (dL s 0 false [] = .inl out) := hid (by rw [hd, dL, dif_neg hp])
      clear hk hps hol ht hd hp
      go_wp2
      go_ret3
      exact DLex.done HD.out HT.out
end Go.Proofs.Ythekoefcienipaa
