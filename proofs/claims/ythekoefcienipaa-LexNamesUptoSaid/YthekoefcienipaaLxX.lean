/- The program's Lex is the document's. -/
import Derived.Test.YthekoefcienipaaLxW
import Derived.Test.YthekoefcienipaaLxL
namespace Go.Proofs.Ythekoefcienipaa
open Go.RowKit

def finL (s : ByteArray) (x : LS ⊕ (Int × Int)) : List Tok × Int × Int := match x with
  | .inr (P, E) => ([], P, E)
  | .inl m => if shutOK m (endL s) = true then (match badAt s 0 with | some i => ([], i, 4) | none => ((shutS s m s.size).out, s.size, 0)) else ([], m.begun, 5)
def finD (s : ByteArray) (x : List Tok ⊕ (Int × Int)) : List Tok × Int × Int := match x with | .inl l => (l, s.size, 0) | .inr (p, e) => ([], p, e)
theorem marksL : (List.range 128).all (fun n => markR (n : Nat) == markD (n : Nat)) = true := by kernel_rfl
theorem marks128 (n : Fin 128) : markR ((n.1 : Nat) : Int) = markD ((n.1 : Nat) : Int) := by
  have := List.all_eq_true.1 marksL n.1 (List.mem_range.2 n.2)
  simpa using this
theorem mark_eq {r : Int} (h : okR r) (hc : cls r ≠ 1) : markR r = markD r := by
  have h128 : r < 128 := by
    refine Int.not_le.1 (fun h' => hc ?_)
    unfold cls
    rw [if_pos (.inl h')]
  have h0 := h.1
  have := marks128 ⟨r.toNat, by omega⟩
  have e : ((r.toNat : Nat) : Int) = r := by omega
  simpa only [e] using this
theorem markD_cls {r : Int} (h : markD r = true) : cls r = 4 := by
  unfold markD at h
  simp only [Bool.or_eq_true, beq_iff_eq] at h
  unfold cls
  rcases h with ((((h | h) | h) | h) | h) | h <;> subst h <;> rfl
theorem small_w {s : ByteArray} {p : Nat} (hb : bad s p = false) (hc : cls (Utf8.decode s p).1 ≠ 1) : (Utf8.decode s p).2 = 1 := by
  have h128 : ((Utf8.decode s p).1 : Int) < 128 := by
    refine Int.not_le.1 (fun h' => hc ?_)
    unfold cls
    rw [if_pos (.inl h')]
  have h1 := wid_dec hb
  have h2 : wid ((Utf8.decode s p).1 : Int) = 1 := by unfold wid isB; simp; omega
  omega
theorem dL_end {s : ByteArray} {p : Nat} {rem : Bool} {out : List Tok} (h : ¬ p < s.size) : dL s p rem out = .inl out := by rw [dL, dif_neg h]
theorem dL_bad {s : ByteArray} {p : Nat} {rem : Bool} {out : List Tok} (h : p < s.size) (hb : bad s p = true) : dL s p rem out = .inr (p, 4) := by rw [dL, dif_pos h, if_pos hb]
theorem dL_step {s : ByteArray} {p : Nat} {rem : Bool} {out : List Tok} (h : p < s.size) (hb : bad s p = false) :
    dL s p rem out = (if (rem || ((Utf8.decode s p).1 : Int) == 35) = true then dL s (p + (Utf8.decode s p).2) (((Utf8.decode s p).1 : Int) != 10) out
      else if cls (Utf8.decode s p).1 = 1 then (if (runE s p : Int) - p > 24 then .inr (p, 5) else dL s (runE s p) rem (out ++ [⟨1, s.extract p (runE s p), p⟩]))
      else if markD (Utf8.decode s p).1 = true then dL s (p + (Utf8.decode s p).2) rem (out ++ [⟨2, s.extract p (p + (Utf8.decode s p).2), p⟩])
      else if cls (Utf8.decode s p).1 = 3 then dL s (p + (Utf8.decode s p).2) rem out else .inr (p, 10)) := by
  rw [dL, dif_pos h, if_neg (by rw [hb]; decide)]
  simp only [Nat.max_eq_right (width_pos s p)]
  split
  · rfl
  · split
    · rename_i hc
      rw [Nat.max_eq_right (runE_gt h hb hc)]
    · rfl
theorem runL_one {s : ByteArray} {m : LS} {p : Nat} (h : p < s.size) (hb : bad s p = false) : runL s m p = if takeE m p (Utf8.decode s p).1 = 0 then runL s (takeS s m p (Utf8.decode s p).1) (p + (Utf8.decode s p).2) else .inr (takeP m p (Utf8.decode s p).1, takeE m p (Utf8.decode s p).1) := by
  by_cases he : takeE m p (Utf8.decode s p).1 = 0
  · rw [if_pos he, runL_next h hb he]
  · rw [if_neg he, runL_stop h hb he]
theorem cls35 {r : Int} (h : cls r = 1) : (r == 35) = false := by
  rw [beq_eq_false_iff_ne]
  rintro rfl
  exact absurd h (by decide)
theorem steps (s : ByteArray) : ∀ n p, s.size - p = n → p ≤ s.size → badAt s 0 = badAt s p →
    (∀ m : LS, m.begun < 0 → finL s (runL s m p) = finD s (dL s p m.remark m.out)) ∧
    (∀ (out : List Tok) (b : Nat), b ≤ p → finL s (runL s ⟨out, false, b⟩ p) = if (runE s p : Int) - b > 24 then ([], (b : Int), 5) else finD s (dL s (runE s p) false (out ++ [⟨1, s.extract b (runE s p), b⟩]))) := by
  intro n
  induction n using Nat.strongRecOn with
  | _ n ih =>
    intro p hn hp hba
    by_cases hps : p < s.size
    · cases hbd : bad s p with
      | true =>
        have hb0 : badAt s 0 = some p := by rw [hba, badAt_here hps hbd]
        have hend : endL s = p := by unfold endL; rw [hb0]
        constructor
        · intro m hm
          rw [runL_bad hps hbd, dL_bad hps hbd]
          unfold finL
          simp only [hend, hb0]
          rw [if_pos (by unfold shutOK; rw [decide_eq_true hm]; rfl)]
          rfl
        · intro out b hb
          rw [runL_bad hps hbd, runE_bad hbd, dL_bad hps hbd]
          unfold finL
          simp only [hend, hb0]
          have hs : shutOK ⟨out, false, (b : Int)⟩ p = decide ((p : Int) - b ≤ 24) := by
            unfold shutOK
            rw [decide_eq_false (show ¬ ((b : Int) < 0) by omega), Bool.false_or]
          rw [hs]
          by_cases hl : (p : Int) - b ≤ 24
          · rw [if_pos (by rw [decide_eq_true hl]), if_neg (by omega)]
            rfl
          · rw [if_neg (by rw [decide_eq_false hl]; decide), if_pos (by omega)]
      | false =>
        have hw := width_pos s p
        have hwl := width_le hps
        have hq : badAt s 0 = badAt s (p + (Utf8.decode s p).2) := by rw [hba, badAt_next hps hbd]
        have ihq := ih (s.size - (p + (Utf8.decode s p).2)) (by omega) (p + (Utf8.decode s p).2) rfl hwl hq
        have hok := decode_ok s p
        have A : ∀ m : LS, m.begun < 0 → finL s (runL s m p) = finD s (dL s p m.remark m.out) := by
          intro m hm
          rw [runL_one hps hbd, dL_step hps hbd]
          cases hrem : m.remark with
          | true =>
            rw [if_pos (by unfold takeE; rw [if_pos hrem]), Bool.true_or, if_pos rfl]
            have hts : takeS s m p (Utf8.decode s p).1 = { m with remark := decide (((Utf8.decode s p).1 : Int) ≠ 10) } := by unfold takeS; rw [if_pos hrem]
            rw [hts, ihq.1 ⟨m.out, decide (((Utf8.decode s p).1 : Int) ≠ 10), m.begun⟩ hm]
            congr 2
            simp only
            cases h10 : ((Utf8.decode s p).1 : Int) != 10 with
            | true => rw [decide_eq_true (by simpa using h10)]
            | false => rw [decide_eq_false (by simpa using h10)]
          | false =>
            have hr0 : ¬ m.remark = true := by rw [hrem]; decide
            by_cases hc1 : cls (Utf8.decode s p).1 = 1
            · have hnm : namedB m (Utf8.decode s p).1 = true := by unfold namedB; rw [decide_eq_true hc1]; rfl
              rw [if_pos (by unfold takeE; rw [if_neg hr0, if_pos hnm]), cls35 hc1, Bool.false_or, if_neg Bool.false_ne_true, if_pos hc1]
              have hts : takeS s m p (Utf8.decode s p).1 = ⟨m.out, false, (p : Int)⟩ := by unfold takeS; rw [if_neg hr0, if_pos hnm, if_pos hm, ← hrem]
              have hre := runE_next hps hbd (by unfold namC; rw [hc1]; rfl)
              rw [hts, ihq.2 _ _ (by omega), ← hre]
              by_cases hl : (runE s p : Int) - p > 24
              · rw [if_pos hl, if_pos hl]; rfl
              · rw [if_neg hl, if_neg hl]
            · have hnm : namedB m (Utf8.decode s p).1 = false := by
                unfold namedB
                rw [decide_eq_false hc1, decide_eq_false (show ¬ 0 ≤ m.begun by omega), Bool.and_false]; rfl
              have hnm' : ¬ namedB m (Utf8.decode s p).1 = true := by rw [hnm]; decide
              have hso : shutOK m p = true := by unfold shutOK; rw [decide_eq_true hm]; rfl
              have hsh : shutS s m p = m := by unfold shutS; rw [if_pos hm]
              have hte : takeE m p (Utf8.decode s p).1 = markE (Utf8.decode s p).1 := by unfold takeE; rw [if_neg hr0, if_neg hnm', if_pos hso]
              have htp : takeP m p (Utf8.decode s p).1 = p := by unfold takeP; rw [if_neg hr0, if_neg hnm', if_pos hso]
              have hts : takeS s m p (Utf8.decode s p).1 = markS s m p (Utf8.decode s p).1 := by unfold takeS; rw [if_neg hr0, if_neg hnm', if_pos hso, hsh]
              have hw1 := small_w hbd hc1
              have hmk := mark_eq hok hc1
              rw [hte, htp, hts, Bool.false_or, if_neg hc1]
              by_cases h35 : ((Utf8.decode s p).1 : Int) = 35
              · have h35' : (((Utf8.decode s p).1 : Int) == 35) = true := beq_iff_eq.2 h35
                have h10 : (((Utf8.decode s p).1 : Int) != 10) = true := by rw [h35]; rfl
                rw [if_pos (by unfold markE; rw [if_pos h35]), h35', if_pos rfl, h10]
                unfold markS
                rw [if_pos h35, ihq.1 ⟨m.out, true, m.begun⟩ hm]
              · have h35' : (((Utf8.decode s p).1 : Int) == 35) = false := beq_eq_false_iff_ne.2 h35
                rw [h35', if_neg Bool.false_ne_true]
                by_cases hc3 : cls (Utf8.decode s p).1 = 3
                · have hnd : ¬ markD (Utf8.decode s p).1 = true := fun h => by rw [markD_cls h] at hc3; exact absurd hc3 (by decide)
                  rw [if_pos (by unfold markE; rw [if_neg h35, if_pos hc3]), if_neg hnd, if_pos hc3]
                  unfold markS
                  rw [if_neg h35, if_pos hc3, ihq.1 _ hm, hrem]
                · by_cases hmd : markD (Utf8.decode s p).1 = true
                  · rw [if_pos (by unfold markE; rw [if_neg h35, if_neg hc3, hmk, if_pos hmd]), if_pos hmd]
                    unfold markS
                    rw [if_neg h35, if_neg hc3, hmk, if_pos hmd, ihq.1 ⟨m.out ++ [(⟨2, s.extract p (p + 1), (p : Int)⟩ : Tok)], m.remark, m.begun⟩ hm, hrem, hw1]
                  · rw [if_neg (by unfold markE; rw [if_neg h35, if_neg hc3, hmk, if_neg hmd]; decide), if_neg hmd, if_neg hc3]
                    unfold markE
                    rw [if_neg h35, if_neg hc3, hmk, if_neg hmd]
                    rfl
        refine ⟨A, ?_⟩
        intro out b hb
        have hb0 : ¬ ((b : Int) < 0) := by omega
        have hr0 : ¬ (false = true) := by decide
        cases hnc : namC (Utf8.decode s p).1 with
        | true =>
          have hnm : namedB ⟨out, false, (b : Int)⟩ (Utf8.decode s p).1 = true := by
            unfold namC at hnc
            unfold namedB
            rw [decide_eq_true (show (0 : Int) ≤ b by omega), Bool.and_true]
            exact hnc
          have hts : takeS s ⟨out, false, (b : Int)⟩ p (Utf8.decode s p).1 = ⟨out, false, (b : Int)⟩ := by unfold takeS; rw [if_neg hr0, if_pos hnm, if_neg hb0]
          rw [runL_one hps hbd, if_pos (by unfold takeE; rw [if_neg hr0, if_pos hnm]), hts, ihq.2 _ _ (by omega), runE_next hps hbd hnc]
        | false =>
          have hnm : ¬ namedB ⟨out, false, (b : Int)⟩ (Utf8.decode s p).1 = true := by
            unfold namC at hnc
            unfold namedB
            rw [decide_eq_true (show (0 : Int) ≤ b by omega), Bool.and_true, hnc]
            decide
          have hs : shutOK ⟨out, false, (b : Int)⟩ p = decide ((p : Int) - b ≤ 24) := by
            unfold shutOK
            rw [decide_eq_false hb0, Bool.false_or]
          rw [runE_no hnc]
          by_cases hl : (p : Int) - b ≤ 24
          · have hso : shutOK ⟨out, false, (b : Int)⟩ p = true := by rw [hs, decide_eq_true hl]
            rw [if_neg (by omega)]
            have hsh : shutS s ⟨out, false, (b : Int)⟩ p = ⟨out ++ [⟨1, s.extract b p, b⟩], false, -1⟩ := by unfold shutS; rw [if_neg hb0]; rfl
            rw [show finD s (dL s p false (out ++ [⟨1, s.extract b p, b⟩])) = _ from (A ⟨out ++ [(⟨1, s.extract b p, (b : Int)⟩ : Tok)], false, -1⟩ (show (-1 : Int) < 0 by decide)).symm]
            congr 1
            have hnm2 : ¬ namedB ⟨out ++ [⟨1, s.extract b p, (b : Int)⟩], false, -1⟩ (Utf8.decode s p).1 = true := by
              unfold namC at hnc
              unfold namedB
              intro h
              rw [Bool.or_eq_false_iff] at hnc
              rw [hnc.1, hnc.2] at h
              exact absurd h Bool.false_ne_true
            have hso2 : shutOK ⟨out ++ [⟨1, s.extract b p, (b : Int)⟩], false, -1⟩ p = true := by unfold shutOK; rfl
            have hsh2 : shutS s ⟨out ++ [⟨1, s.extract b p, (b : Int)⟩], false, -1⟩ p = ⟨out ++ [⟨1, s.extract b p, b⟩], false, -1⟩ := by unfold shutS; rw [if_pos (show (-1 : Int) < 0 by decide)]
            rw [runL_one hps hbd, runL_one hps hbd]
            have e1 : takeE ⟨out, false, (b : Int)⟩ p (Utf8.decode s p).1 = takeE ⟨out ++ [⟨1, s.extract b p, (b : Int)⟩], false, -1⟩ p (Utf8.decode s p).1 := by
              unfold takeE
              rw [if_neg hr0, if_neg hnm, if_pos hso, if_neg hr0, if_neg hnm2, if_pos hso2]
            have e2 : takeP ⟨out, false, (b : Int)⟩ p (Utf8.decode s p).1 = takeP ⟨out ++ [⟨1, s.extract b p, (b : Int)⟩], false, -1⟩ p (Utf8.decode s p).1 := by
              unfold takeP
              rw [if_neg hr0, if_neg hnm, if_pos hso, if_neg hr0, if_neg hnm2, if_pos hso2]
            have e3 : takeS s ⟨out, false, (b : Int)⟩ p (Utf8.decode s p).1 = takeS s ⟨out ++ [⟨1, s.extract b p, (b : Int)⟩], false, -1⟩ p (Utf8.decode s p).1 := by
              unfold takeS
              rw [if_neg hr0, if_neg hnm, if_pos hso, if_neg hr0, if_neg hnm2, if_pos hso2, hsh, hsh2]
            rw [e1, e2, e3]
          · have hso : ¬ shutOK ⟨out, false, (b : Int)⟩ p = true := by rw [hs, decide_eq_false hl]; decide
            rw [if_pos (by omega)]
            have hte : takeE ⟨out, false, (b : Int)⟩ p (Utf8.decode s p).1 = 5 := by unfold takeE; rw [if_neg hr0, if_neg hnm, if_neg hso]
            have htp : takeP ⟨out, false, (b : Int)⟩ p (Utf8.decode s p).1 = b := by unfold takeP; rw [if_neg hr0, if_neg hnm, if_neg hso]
            rw [runL_one hps hbd, if_neg (by rw [hte]; decide), hte, htp]
            rfl
    · have hpe : p = s.size := by omega
      have hb0 : badAt s 0 = none := by rw [hba, badAt_end hps]
      have hend : endL s = s.size := by unfold endL; rw [hb0]
      constructor
      · intro m hm
        rw [runL_end hps, dL_end hps]
        unfold finL
        simp only [hend, hb0]
        rw [if_pos (by unfold shutOK; rw [decide_eq_true hm]; rfl)]
        unfold shutS
        rw [if_pos hm]
        rfl
      · intro out b hb
        rw [runL_end hps, runE_end hps, dL_end hps]
        unfold finL
        simp only [hend, hb0]
        have hs : shutOK ⟨out, false, (b : Int)⟩ s.size = decide ((s.size : Int) - b ≤ 24) := by
          unfold shutOK
          rw [decide_eq_false (show ¬ ((b : Int) < 0) by omega), Bool.false_or]
        rw [hs]
        by_cases hl : (s.size : Int) - b ≤ 24
        · rw [if_pos (by rw [decide_eq_true hl]), if_neg (by omega)]
          unfold shutS
          rw [if_neg (show ¬ ((b : Int) < 0) by omega), hpe]
          rfl
        · rw [if_neg (by rw [decide_eq_false hl]; decide), if_pos (by omega)]
theorem lexR_eq (s : ByteArray) : lexR s = dR s := by
  have h := (steps s _ 0 rfl (Nat.zero_le _) rfl).1 m0 (by decide)
  have h1 : lexR s = finL s (runL s m0 0) := rfl
  rw [h1, h]
  rfl
end Go.Proofs.Ythekoefcienipaa
