/- Lex. -/
import Derived.Test.YthekoefcienipaaLxJ
namespace Go.Proofs.Ythekoefcienipaa
open Go.RowKit

def m0 : LS := ⟨[], false, -1⟩
def endL (s : ByteArray) : Nat := match badAt s 0 with | some i => i | none => s.size
def lexR (s : ByteArray) : List Tok × Int × Int := match runL s m0 0 with
  | .inr (P, E) => ([], P, E)
  | .inl m => if shutOK m (endL s) = true then (match badAt s 0 with | some i => ([], i, 4) | none => ((shutS s m s.size).out, s.size, 0)) else ([], m.begun, 5)
theorem badAt_ge {s : ByteArray} {i j : Nat} (h : badAt s i = some j) : i ≤ j := by
  induction hk : s.size - i using Nat.strongRecOn generalizing i with
  | _ n ih =>
    unfold badAt at h
    split at h
    · split at h
      · cases h; exact Nat.le_refl _
      · have := ih _ (by omega) h rfl
        omega
    · cases h
theorem badI_ne {s : ByteArray} {p : Nat} (hb : badAt s 0 = badAt s p) (hp : p < s.size) (hbd : bad s p = false) : ((p : Int) == badI (badAt s 0)) = false := by
  rw [hb, badAt_next hp hbd]
  have hw := width_pos s p
  cases h : badAt s (p + (Utf8.decode s p).2) with
  | none => simp only [badI]; rw [beq_eq_false_iff_ne]; omega
  | some j => have := badAt_ge h; simp only [badI]; rw [beq_eq_false_iff_ne]; omega
theorem runL_bad {s : ByteArray} {m : LS} {p : Nat} (hp : p < s.size) (hb : bad s p = true) : runL s m p = .inl m := by rw [runL, dif_pos hp, if_pos hb]
theorem runL_end {s : ByteArray} {m : LS} {p : Nat} (hp : ¬ p < s.size) : runL s m p = .inl m := by rw [runL, dif_neg hp]
theorem runL_next {s : ByteArray} {m : LS} {p : Nat} (hp : p < s.size) (hb : bad s p = false) (he : takeE m p (Utf8.decode s p).1 = 0) : runL s m p = runL s (takeS s m p (Utf8.decode s p).1) (p + (Utf8.decode s p).2) := by
  rw [runL, dif_pos hp, if_neg (by rw [hb]; decide)]
  simp only
  rw [if_pos he, Nat.max_eq_right (width_pos s p)]
theorem runL_stop {s : ByteArray} {m : LS} {p : Nat} (hp : p < s.size) (hb : bad s p = false) (he : takeE m p (Utf8.decode s p).1 ≠ 0) : runL s m p = .inr (takeP m p (Utf8.decode s p).1, takeE m p (Utf8.decode s p).1) := by
  rw [runL, dif_pos hp, if_neg (by rw [hb]; decide)]
  simp only
  rw [if_neg he]
set_option maxRecDepth 4000 in
set_option maxHeartbeats 4000000 in
theorem lex_any {w : World} {s : ByteArray} (hz : s.size ≤ 65536) : Calls Try.prog 10 #[.string s] w fun e w' => ∃ v g, e = .returned (.tuple #[v, .int .i64 (lexR s).2.1, .int .i64 (lexR s).2.2]) ∧ tokE.Spine 38 No g w' v (lexR s).1 ∧ w.heap.size ≤ g ∧ Below w.heap.size w w' := by
  have hz' : (s.size : Int) ≤ 65536 := by omega
  have HZ := hid hz
  clear hz
  go_enter Try.func10, Try.ntmps10
  go_wp2_with (first | (go_at_call 21; refine bad_any.mono ?_; rintro e w1 ⟨rfl, hb1⟩; obtain ⟨ex, dx, rfl⟩ := more_of hb1; clear hb1))
  go_loopg [] (s.size + 1) (fun k wr => ∃ (p g : Nat) (m : LS), p + k = s.size + 1 ∧ p ≤ s.size ∧ runL s m0 0 = runL s m p ∧ badAt s 0 = badAt s p ∧ Lies m p ∧ Lp w.heap.size w wr (w.heap.size + ex.size) (w.heap.size + ex.size + 1) g p s m)
  case atStart =>
    have hb1 : Below w.heap.size w (more w ex dx) := bl_more (Below.refl _ _) _ _
    refine ⟨0, _, m0, by omega, Nat.zero_le _, rfl, rfl, ⟨by decide, by decide⟩, ⟨⟨by decide, .inl rfl, .slice none 0 0, ?_, Enc.Spine.nil _ _ _ _ _⟩, ?_, by omega, by omega, by omega, by omega, by omega, ?_⟩⟩
    · have hA : (((more w ex dx).alloc (.cells #[.string s, .slice none 0 0, .bool false, .int .i64 (-1)] 47))).heap[w.heap.size + ex.size]? = some (.cells #[.string s, .slice none 0 0, .bool false, .int .i64 (-1)] 47 (0, 0)) := alloc_blk (by simp only [more_size])
      exact (((Below.refl _ ((more w ex dx).alloc (.cells #[.string s, .slice none 0 0, .bool false, .int .i64 (-1)] 47))).alloc (Nat.le_refl _) (.stringIter s 0)).block (w.heap.size + ex.size) (by simp [more_size])).trans hA
    · exact alloc_blk (X := (more w ex dx).alloc (.cells #[.string s, .slice none 0 0, .bool false, .int .i64 (-1)] 47)) (by simp only [more_size, World.size_alloc])
    · exact show Below w.heap.size w (((more w ex dx).alloc (.cells #[.string s, .slice none 0 0, .bool false, .int .i64 (-1)] 47)).alloc (.stringIter s 0)) from (by repeat (first | (with_reducible exact Below.refl _ _) | (with_reducible exact bl_mm) | (with_reducible refine bl_dr ?_) | (with_reducible refine bl_drN ?_ _) | (with_reducible refine bl_al ?_ _) | (with_reducible refine bl_more ?_ _ _)))
  case round =>
    obtain ⟨p, g, m, hk, hps, hr, hb, hl, hp⟩ := hrel
    have HPS := hid hps
    clear hps
    have HK := hid hk
    have HRU := hid hr
    have HB := hid hb
    have HLI := hid hl
    have HL0 := hid hp
    clear hk hr hb hl hp
    by_cases hp : p < s.size
    · have hnx := fun ty => Lib.run_next_any_at (P := Try.prog) _ _ s p ty HL0.out.it hp
      have HL : Hid (Lp _ _ _ _ _ _ _ _ _) := hid (HL0.out.next (q := p + (Utf8.decode s p).2))
      have HPP := hid (And.intro hp trivial)
      have HD := hid (decode_ok s p)
      generalize wr.iterAt (w.heap.size + ex.size + 1) s (p + (Utf8.decode s p).2) = W1 at hnx HL
      cases hbd : bad s p with
      | true =>
        have hbe : badAt s 0 = some p := by rw [HB.out]; exact badAt_here hp hbd
        have hbI : badI (badAt s 0) = (p : Int) := by rw [hbe]; rfl
        have hlx : lexR s = if shutOK m p = true then ([], (p : Int), 4) else ([], m.begun, 5) := by
          unfold lexR endL
          rw [HRU.out, runL_bad hp hbd, hbe]
        have HLX := hid hlx
        have hi0 : (0 : Int) ≤ p := by omega
        have h3 : W1.cell? ⟨w.heap.size + ex.size, 3, none⟩ = some (.int .i64 m.begun) := by
          obtain ⟨v, h1, _⟩ := HL.out.st.at_
          exact cell_blk h1 3
        have hx1 := HL.out.st.lt
        rw [hbI]
        clear hbe hbI hlx hp hbd HL0
        cases hso : shutOK m p with
        | true =>
          have HSO := hid hso
          clear hso
          go_wp2_with (first | (go_at_call 23; refine (shut_any (HL.out.st.below (by repeat (first | (with_reducible exact Below.refl _ _) | (with_reducible exact bl_mm) | (with_reducible refine bl_dr ?_) | (with_reducible refine bl_drN ?_ _) | (with_reducible refine bl_al ?_ _) | (with_reducible refine bl_more ?_ _ _)))) HLI.out.begun (Nat.le_of_lt HPP.out.1) HZ.out (by have := HLI.out.few; have := HPP.out.1; have := HZ.out; omega)).mono ?_; rintro e w2 ⟨g2, rfl, hl2, hu2⟩; rw [HSO.out]; have HL2 := hid hl2; have HU2 := hid hu2; clear hl2 hu2))
          go_ret3
          rw [HLX.out, if_pos HSO.out]
          exact ⟨.slice none 0 0, w.heap.size, rfl, Enc.Spine.nil _ _ _ _ _, Nat.le_refl _, (HL.out.up HL.out.low.size HL2.out HU2.out).low⟩
        | false =>
          have HSO := hid hso
          clear hso
          go_wp2_with (first | (go_at_call 23; refine (shut_any (HL.out.st.below (by repeat (first | (with_reducible exact Below.refl _ _) | (with_reducible exact bl_mm) | (with_reducible refine bl_dr ?_) | (with_reducible refine bl_drN ?_ _) | (with_reducible refine bl_al ?_ _) | (with_reducible refine bl_more ?_ _ _)))) HLI.out.begun (Nat.le_of_lt HPP.out.1) HZ.out (by have := HLI.out.few; have := HPP.out.1; have := HZ.out; omega)).mono ?_; rintro e w2 ⟨g2, rfl, hl2, hu2⟩; rw [HSO.out]; have HL2 := hid hl2; have HU2 := hid hu2; clear hl2 hu2))
          go_ret3
          rw [HLX.out, if_neg (by rw [HSO.out]; decide)]
          exact ⟨.slice none 0 0, w.heap.size, rfl, Enc.Spine.nil _ _ _ _ _, Nat.le_refl _, (HL.out.up HL.out.low.size HL2.out HU2.out).low⟩
      | false =>
        have HBD := hid hbd
        have hq := badI_ne HB.out hp hbd
        clear hp hbd HL0
        by_cases he : takeE m p (Utf8.decode s p).1 = 0
        · have HE := hid he
          have he' : (takeE m p (Utf8.decode s p).1 == 0) = true := by simpa using he
          clear he
          go_wp2_with (first | (go_at_call 22; refine (take_any (HL.out.st.below (by repeat (first | (with_reducible exact Below.refl _ _) | (with_reducible exact bl_mm) | (with_reducible refine bl_dr ?_) | (with_reducible refine bl_drN ?_ _) | (with_reducible refine bl_al ?_ _) | (with_reducible refine bl_more ?_ _ _)))) HD.out HLI.out.begun HPP.out.1 HZ.out (by have := HLI.out.few; have := HPP.out.1; have := HZ.out; omega)).mono ?_; rintro e w2 ⟨g2, rfl, hl2, hu2⟩; have HL2 := hid hl2; have HU2 := hid hu2; clear hl2 hu2))
          go_roundg (s.size + 1 - (p + (Utf8.decode s p).2))
          case measure => have := HK.out; have := HPP.out.1; have := width_pos s p; have := width_le HPP.out.1; omega
          case rel =>
            refine ⟨p + (Utf8.decode s p).2, g2, takeS s m p (Utf8.decode s p).1, by have := width_le HPP.out.1; omega, width_le HPP.out.1, HRU.out.trans (runL_next HPP.out.1 HBD.out HE.out), HB.out.trans (badAt_next HPP.out.1 HBD.out), HLI.out.take (by have := width_pos s p; omega), ?_⟩
            have hsz := HL.out.low.size
            exact HL.out.up hsz HL2.out HU2.out
        · have HE := hid he
          have he' : (takeE m p (Utf8.decode s p).1 == 0) = false := by simpa using he
          clear he
          go_wp2_with (first | (go_at_call 22; refine (take_any (HL.out.st.below (by repeat (first | (with_reducible exact Below.refl _ _) | (with_reducible exact bl_mm) | (with_reducible refine bl_dr ?_) | (with_reducible refine bl_drN ?_ _) | (with_reducible refine bl_al ?_ _) | (with_reducible refine bl_more ?_ _ _)))) HD.out HLI.out.begun HPP.out.1 HZ.out (by have := HLI.out.few; have := HPP.out.1; have := HZ.out; omega)).mono ?_; rintro e w2 ⟨g2, rfl, hl2, hu2⟩; have HL2 := hid hl2; have HU2 := hid hu2; clear hl2 hu2))
          go_ret3
          have hr : lexR s = ([], takeP m p (Utf8.decode s p).1, takeE m p (Utf8.decode s p).1) := by
            unfold lexR
            rw [HRU.out, runL_stop HPP.out.1 HBD.out HE.out]
          rw [hr]
          have hsz := HL.out.low.size
          have hL := HL.out.up hsz HL2.out HU2.out
          exact ⟨.slice none 0 0, w.heap.size, rfl, Enc.Spine.nil _ _ _ _ _, Nat.le_refl _, hL.low⟩
    · have hnx := fun ty => Lib.run_next_end_at (P := Try.prog) _ _ s p ty HL0.out.it hp
      have hpe : p = s.size := by have := HPS.out; omega
      have hbe : badAt s 0 = none := by rw [HB.out]; exact badAt_end hp
      have hbI : badI (badAt s 0) = -1 := by rw [hbe]; rfl
      have hlx : lexR s = if shutOK m s.size = true then ((shutS s m s.size).out, (s.size : Int), 0) else ([], m.begun, 5) := by
        unfold lexR endL
        rw [HRU.out, runL_end hp, hbe]
      have HLX := hid hlx
      have h3 : wr.cell? ⟨w.heap.size + ex.size, 3, none⟩ = some (.int .i64 m.begun) := by
        obtain ⟨v, h1, _⟩ := HL0.out.st.at_
        exact cell_blk h1 3
      have hx1 := HL0.out.st.lt
      have HL := HL0
      rw [hbI]
      clear hbe hbI hlx hp hpe HL0
      cases hso : shutOK m s.size with
      | true =>
        have HSO := hid hso
        clear hso
        go_wp2_with (first | (go_at_call 23; refine (shut_any (a := s.size) (HL.out.st.below (by repeat (first | (with_reducible exact Below.refl _ _) | (with_reducible exact bl_mm) | (with_reducible refine bl_dr ?_) | (with_reducible refine bl_drN ?_ _) | (with_reducible refine bl_al ?_ _) | (with_reducible refine bl_more ?_ _ _)))) (by have := HLI.out.begun; have := HPS.out; omega) (Nat.le_refl _) HZ.out (by have := HLI.out.few; have := HPS.out; have := HZ.out; omega)).mono ?_; rintro e w2 ⟨g2, rfl, hl2, hu2⟩; rw [HSO.out]; have HL2 := hid hl2; have HU2 := hid hu2; obtain ⟨v2, hb2, hs2⟩ := hl2.at_; have c1 := cell_blk hb2 1; have hx2 := hl2.lt; have HS2 := hid hs2; clear hb2 hs2 hl2 hu2))
        go_ret3
        rw [HLX.out, if_pos HSO.out]
        have hL := HL.out.up HL.out.low.size HL2.out HU2.out
        exact ⟨v2, g2, rfl, HS2.out, hL.gB, hL.low⟩
      | false =>
        have HSO := hid hso
        clear hso
        go_wp2_with (first | (go_at_call 23; refine (shut_any (a := s.size) (HL.out.st.below (by repeat (first | (with_reducible exact Below.refl _ _) | (with_reducible exact bl_mm) | (with_reducible refine bl_dr ?_) | (with_reducible refine bl_drN ?_ _) | (with_reducible refine bl_al ?_ _) | (with_reducible refine bl_more ?_ _ _)))) (by have := HLI.out.begun; have := HPS.out; omega) (Nat.le_refl _) HZ.out (by have := HLI.out.few; have := HPS.out; have := HZ.out; omega)).mono ?_; rintro e w2 ⟨g2, rfl, hl2, hu2⟩; rw [HSO.out]; have HL2 := hid hl2; have HU2 := hid hu2; obtain ⟨v2, hb2, hs2⟩ := hl2.at_; have c1 := cell_blk hb2 1; have hx2 := hl2.lt; have HS2 := hid hs2; clear hb2 hs2 hl2 hu2))
        go_ret3
        rw [HLX.out, if_neg (by rw [HSO.out]; decide)]
        exact ⟨.slice none 0 0, w.heap.size, rfl, Enc.Spine.nil _ _ _ _ _, Nat.le_refl _, (HL.out.up HL.out.low.size HL2.out HU2.out).low⟩
end Go.Proofs.Ythekoefcienipaa
