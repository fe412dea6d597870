/- PoolPlays. -/
import Derived.Test.YtlfdnjomjheioaaPLf
namespace Go.Proofs.Ytlfdnjomjheioaa
open Go.RowKit

theorem Pl.low {N N' : Nat} {w : World} {F : Nat → Prop} {p : Nat} {s : List Wk} {ad : Nat → Ad} (h : Pl N w F p s ad) (hN : N' ≤ N) : Pl N' w F p s ad :=
  ⟨h.blk, h.n, h.n1, h.n2, h.at_, h.sep, h.np, h.nF, h.pF, fun i b hi hb => Nat.le_trans hN (h.ge i b hi hb), Nat.le_trans hN h.pN, Nat.le_trans hN h.bN⟩
theorem Rp.low {N N' : Nat} {w : World} {K : Nat → Prop} {r : Nat} {s : List Wk} {b1 b2 b3 : Nat} (h : Rp N w K r s b1 b2 b3) (hN : N' ≤ N) : Rp N' w K r s b1 b2 b3 :=
  ⟨h.blk, h.rows, h.hold, h.has, h.n1, h.n2, h.ne, h.nK, ⟨Nat.le_trans hN h.ge.1, Nat.le_trans hN h.ge.2.1, Nat.le_trans hN h.ge.2.2.1, Nat.le_trans hN h.ge.2.2.2⟩⟩
theorem two_new {w W w1 W' w2 : World} {p r b1 b2 b3 : Nat} {s : List Wk} {F : Nat → Prop} {ad : Nat → Ad} (hW : Below w.heap.size w W) (hp : Pl W.heap.size w1 F p s ad) (hb : Below W.heap.size W w1) (h1 : Below w1.heap.size w1 W')
    (hr : ∀ K : Nat → Prop, (∀ b, Rb r b1 b2 b3 b → ¬ K b) → Rp W'.heap.size w2 K r s b1 b2 b3) (h2 : Below W'.heap.size W' w2) : Two w w2 p s ad r s b1 b2 b3 := by
  have z1 := hW.size
  have z2 := hb.size
  have z3 := h1.size
  have hB : ∀ b, Rb r b1 b2 b3 b → W'.heap.size ≤ b := fun b e => by
    obtain ⟨g1, g2, g3, g4⟩ := (hr (fun _ => False) (fun _ _ h => h)).ge
    rcases e with rfl | rfl | rfl | rfl <;> assumption
  have hL := hp.blt
  have hpl : Pl w.heap.size w2 (fun b => F b ∧ b < w1.heap.size) p s ad := ((hp.sharp.below h1).below h2).low z1
  refine ⟨hpl.mono (fun b hb _ => ⟨fun e => ?_, fun e => by have := hB b e; omega⟩) (fun b hb hk => hk.1 hb), (hr _ (fun b hb hk => hk.2 hb)).low (by omega), fun b hb e => by have := hL b hb; have := hB b e; omega, ((hW.trans (hb.mono z1)).trans (h1.mono (by omega))).trans (h2.mono (by omega))⟩
  rcases e with rfl | ⟨i, hi, e⟩
  · exact hp.pF hb.1
  · exact hp.nF i b hi e hb.1
theorem few_yes {K : Nat → Prop} {w : World} {v : Value} {xs : List PAct} (h : pactE.Row K w v xs) (hf : fewB xs = true) :
    Calls Try.prog 7 #[v] w fun e w' => e = .returned (.bool true) ∧ Below w.heap.size w w' := (few_any h).mono fun _ _ ⟨h1, h2⟩ => ⟨by rw [h1, hf], h2⟩
theorem few_no {K : Nat → Prop} {w : World} {v : Value} {xs : List PAct} (h : pactE.Row K w v xs) (hf : fewB xs = false) :
    Calls Try.prog 7 #[v] w fun e w' => e = .returned (.bool false) ∧ Below w.heap.size w w' := (few_any h).mono fun _ _ ⟨h1, h2⟩ => ⟨by rw [h1, hf], h2⟩
theorem few_len {xs : List PAct} (h : fewB xs = true) : xs.length ≤ 300 := by simp [fewB] at h; exact h.1
theorem few_stamp {xs : List PAct} (h : fewB xs = true) (i : Nat) (hi : i < xs.length) : okJob xs[i].j := by
  simp only [fewB, Bool.and_eq_true, List.all_eq_true, decide_eq_true_eq] at h
  exact h.2 _ (List.getElem_mem hi)
set_option maxHeartbeats 1000000 in
theorem rnew_few {w : World} {n : Int} (h : n < 1) : Calls Try.prog 16 #[.int .i64 n] w fun e w' => e = .returned (.tuple #[.pointer none, .int .i64 2]) ∧ Below w.heap.size w w' := by
  go_enter Try.func16, Try.ntmps16
  go_wp2
  go_ret2
  exact ⟨rfl, (by repeat (first | (with_reducible exact Below.refl _ _) | (with_reducible exact bl_mm) | (with_reducible refine bl_dr ?_) | (with_reducible refine bl_drN ?_ _) | (with_reducible refine bl_al ?_ _) | (with_reducible refine bl_more ?_ _ _)))⟩
set_option maxHeartbeats 1000000 in
theorem rnew_many {w : World} {n : Int} (h : 64 < n) : Calls Try.prog 16 #[.int .i64 n] w fun e w' => e = .returned (.tuple #[.pointer none, .int .i64 2]) ∧ Below w.heap.size w w' := by
  have h1 : ¬ n < 1 := by omega
  go_enter Try.func16, Try.ntmps16
  go_wp2
  go_ret2
  exact ⟨rfl, (by repeat (first | (with_reducible exact Below.refl _ _) | (with_reducible exact bl_mm) | (with_reducible refine bl_dr ?_) | (with_reducible refine bl_drN ?_ _) | (with_reducible refine bl_al ?_ _) | (with_reducible refine bl_more ?_ _ _)))⟩
theorem new_bad {w : World} {n : Int} (h : n < 1 ∨ 64 < n) : Calls Try.prog 15 #[.int .i64 n] w fun e w' => e = .returned (.tuple #[.pointer none, .int .i64 2]) ∧ Below w.heap.size w w' := h.elim (fun h => pnew_few h) (fun h => pnew_many h)
theorem rnew_bad {w : World} {n : Int} (h : n < 1 ∨ 64 < n) : Calls Try.prog 16 #[.int .i64 n] w fun e w' => e = .returned (.tuple #[.pointer none, .int .i64 2]) ∧ Below w.heap.size w w' := h.elim (fun h => rnew_few h) (fun h => rnew_many h)

set_option maxRecDepth 8000 in
set_option maxHeartbeats 4000000 in
theorem plays_any {w : World} {n : Int} {v : Value} {xs : List PAct} (h : pactE.Row (fun _ => True) w v xs) :
    Calls Try.prog 5 #[.int .i64 n, v] w fun e w' => e = .returned (.bool true) ∧ Below w.heap.size w w' := by
  obtain ⟨A, c, rfl, h1, h2⟩ := h.form
  have HX := hid h
  clear h h1 h2
  cases hf : fewB xs with
  | false =>
    have HF := hid hf
    clear hf
    go_enter Try.func5, Try.ntmps5
    go_wp2_with (first | (go_at_call 8; refine (lives_any _).mono ?_; rintro e w2 ⟨rfl, hb1⟩; obtain ⟨ex, dx, rfl⟩ := more_of hb1; clear hb1) | (go_at_call 7; refine (few_no (HX.out.below (by repeat (first | (with_reducible exact Below.refl _ _) | (with_reducible exact bl_mm) | (with_reducible refine bl_dr ?_) | (with_reducible refine bl_drN ?_ _) | (with_reducible refine bl_al ?_ _) | (with_reducible refine bl_more ?_ _ _)))) HF.out).mono ?_; rintro e w2 ⟨rfl, hb1⟩; obtain ⟨ex, dx, rfl⟩ := more_of hb1; clear hb1))
    go_ret
    exact ⟨rfl, (by repeat (first | (with_reducible exact Below.refl _ _) | (with_reducible exact bl_mm) | (with_reducible refine bl_dr ?_) | (with_reducible refine bl_drN ?_ _) | (with_reducible refine bl_al ?_ _) | (with_reducible refine bl_more ?_ _ _)))⟩
  | true =>
    have HF := hid hf
    have hlen := few_len hf
    clear hf
    by_cases hn : n < 1 ∨ 64 < n
    · have HN := hid hn
      clear hn
      go_enter Try.func5, Try.ntmps5
      go_wp2_with (first | (go_at_call 7; refine (few_yes (HX.out.below (by repeat (first | (with_reducible exact Below.refl _ _) | (with_reducible exact bl_mm) | (with_reducible refine bl_dr ?_) | (with_reducible refine bl_drN ?_ _) | (with_reducible refine bl_al ?_ _) | (with_reducible refine bl_more ?_ _ _)))) HF.out).mono ?_; rintro e w2 ⟨rfl, hb1⟩; obtain ⟨ex, dx, rfl⟩ := more_of hb1; clear hb1) | (go_at_call 15; refine (new_bad HN.out).mono ?_; rintro e w2 ⟨rfl, hb1⟩; obtain ⟨ex, dx, rfl⟩ := more_of hb1; clear hb1) | (go_at_call 16; refine (rnew_bad HN.out).mono ?_; rintro e w2 ⟨rfl, hb1⟩; obtain ⟨ex, dx, rfl⟩ := more_of hb1; clear hb1) | (go_at_call 8; refine (lives_any _).mono ?_; rintro e w2 ⟨rfl, hb1⟩; obtain ⟨ex, dx, rfl⟩ := more_of hb1; clear hb1))
      go_ret
      exact ⟨rfl, (by repeat (first | (with_reducible exact Below.refl _ _) | (with_reducible exact bl_mm) | (with_reducible refine bl_dr ?_) | (with_reducible refine bl_drN ?_ _) | (with_reducible refine bl_al ?_ _) | (with_reducible refine bl_more ?_ _ _)))⟩
    · obtain ⟨m, rfl⟩ : ∃ m : Nat, n = m := ⟨n.toNat, by omega⟩
      have HN := hid (show 1 ≤ m ∧ m ≤ 64 by omega)
      clear hn
      go_enter Try.func5, Try.ntmps5
      go_wp2_with (first | (go_at_call 7; refine (few_yes (HX.out.below (by repeat (first | (with_reducible exact Below.refl _ _) | (with_reducible exact bl_mm) | (with_reducible refine bl_dr ?_) | (with_reducible refine bl_drN ?_ _) | (with_reducible refine bl_al ?_ _) | (with_reducible refine bl_more ?_ _ _)))) HF.out).mono ?_; rintro e w2 ⟨rfl, hb1⟩; obtain ⟨ex, dx, rfl⟩ := more_of hb1; clear hb1) | (go_at_call 15; refine (pnew_any HN.out.1 HN.out.2).mono ?_; rintro e w1 ⟨p, rfl, ⟨F, ad, hp⟩, hpN, hb⟩; have HP := hid hp; have HB := hid hb; clear hp hb hpN) | (go_at_call 16; refine (rnew_any HN.out.1 HN.out.2).mono ?_; rintro e w2 ⟨r, b1, b2, b3, rfl, hr, hb2⟩; have HT := hid (two_new (w := w) (by repeat (first | (with_reducible exact Below.refl _ _) | (with_reducible exact bl_mm) | (with_reducible refine bl_dr ?_) | (with_reducible refine bl_drN ?_ _) | (with_reducible refine bl_al ?_ _) | (with_reducible refine bl_more ?_ _ _))) HP.out HB.out (by repeat (first | (with_reducible exact Below.refl _ _) | (with_reducible exact bl_mm) | (with_reducible refine bl_dr ?_) | (with_reducible refine bl_drN ?_ _) | (with_reducible refine bl_al ?_ _) | (with_reducible refine bl_more ?_ _ _))) hr hb2); clear hr hb2))
      go_loopg [9] xs.length (fun k i wr => ∃ (j : Nat) (s : List Wk) (ad : Nat → Ad), j + k = xs.length ∧ i = .int .i64 j ∧ Two w wr p s ad r s b1 b2 b3)
      case atStart => exact ⟨0, _, _, by omega, rfl, HT.out.below (by repeat (first | (with_reducible exact Below.refl _ _) | (with_reducible exact bl_mm) | (with_reducible refine bl_dr ?_) | (with_reducible refine bl_drN ?_ _) | (with_reducible refine bl_al ?_ _) | (with_reducible refine bl_more ?_ _ _)))⟩
      case round =>
        obtain ⟨j, s, ad', hj, rfl, ht⟩ := hrel
        clear HT
        have HT := hid ht
        have HJ := hid hj
        clear HP HB
        by_cases hlt : j < xs.length
        · obtain ⟨bb, off, B, cb, rfl, hbl, _, hv, ⟨hk0, hk1, hk2⟩, hc⟩ := Row_act HX.out j hlt
          have e0 : wr.cell? ⟨bb, off + j * 9, none⟩ = some (.int .i64 xs[j].kind) := cell_kept ht.bw hk0
          have e1 : wr.cell? ⟨bb, off + j * 9 + 1, none⟩ = some (.int .i64 xs[j].w) := cell_kept ht.bw hk1
          have e2 : wr.cell? ⟨bb, off + j * 9 + 2, none⟩ = some (.int .i64 xs[j].n) := cell_kept ht.bw hk2
          have e3 : wr.cell? ⟨bb, off + j * 9 + 3, none⟩ = some (.int .i64 xs[j].j.item) := cell_kept ht.bw (hc 0 _ rfl)
          have e4 : wr.cell? ⟨bb, off + j * 9 + 4, none⟩ = some (.bool xs[j].j.undo) := cell_kept ht.bw (hc 1 _ rfl)
          have e5 : wr.cell? ⟨bb, off + j * 9 + 5, none⟩ = some (.int .i64 xs[j].j.try_) := cell_kept ht.bw (hc 2 _ rfl)
          have e6 : wr.cell? ⟨bb, off + j * 9 + 6, none⟩ = some (.bool xs[j].j.begun) := cell_kept ht.bw (hc 3 _ rfl)
          have e7 : wr.cell? ⟨bb, off + j * 9 + 7, none⟩ = some (.int .i64 xs[j].j.token) := cell_kept ht.bw (hc 4 _ rfl)
          have e8 : wr.cell? ⟨bb, off + j * 9 + 8, none⟩ = some (.slice B xs[j].j.stamp.length cb) := cell_kept ht.bw (hc 5 _ rfl)
          have HV := hid (((hv.bound).below ht.bw).mono (K' := fun b => b < w.heap.size) (fun b hb _ => hb.2))
          clear hc hv hk0 hk1 hk2 ht hj
          have i1 : (j : Int) < (xs.length : Int) := by omega
          have i3 : (0 : Int) ≤ (j : Int) := by omega
          have w1' : IntKind.i64.wrap ((j : Int) + 1) = ((j + 1 : Nat) : Int) := by rw [IntWalk.i64_in _ (by omega)]; rfl
          cases hm : ((j : Int) % 10 == 9) with
          | true =>
            go_wp2_with (first | (go_at_call 17; refine (step_any (a := xs[j]) (HT.out.below (by repeat (first | (with_reducible exact Below.refl _ _) | (with_reducible exact bl_mm) | (with_reducible refine bl_dr ?_) | (with_reducible refine bl_drN ?_ _) | (with_reducible refine bl_al ?_ _) | (with_reducible refine bl_more ?_ _ _)))) (HV.out.below (by repeat (first | (with_reducible exact Below.refl _ _) | (with_reducible exact bl_mm) | (with_reducible refine bl_dr ?_) | (with_reducible refine bl_drN ?_ _) | (with_reducible refine bl_al ?_ _) | (with_reducible refine bl_more ?_ _ _)))) (few_stamp HF.out j hlt)).mono ?_; rintro e w2 ⟨rfl, ad2, h2⟩; have HT2 := hid h2; clear h2) | (go_at_call 18; refine (alike_any (HT2.out.below (by repeat (first | (with_reducible exact Below.refl _ _) | (with_reducible exact bl_mm) | (with_reducible refine bl_dr ?_) | (with_reducible refine bl_drN ?_ _) | (with_reducible refine bl_al ?_ _) | (with_reducible refine bl_more ?_ _ _))))).mono ?_; rintro e w3 ⟨rfl, hb1⟩; obtain ⟨ex3, dx3, rfl⟩ := more_of hb1; clear hb1))
            go_roundg (xs.length - (j + 1))
            case measure => have := HJ.out; omega
            case rel => exact ⟨j + 1, _, _, by have := HJ.out; omega, rfl, HT2.out.below (by repeat (first | (with_reducible exact Below.refl _ _) | (with_reducible exact bl_mm) | (with_reducible refine bl_dr ?_) | (with_reducible refine bl_drN ?_ _) | (with_reducible refine bl_al ?_ _) | (with_reducible refine bl_more ?_ _ _)))⟩
          | false =>
            go_wp2_with (first | (go_at_call 17; refine (step_any (a := xs[j]) (HT.out.below (by repeat (first | (with_reducible exact Below.refl _ _) | (with_reducible exact bl_mm) | (with_reducible refine bl_dr ?_) | (with_reducible refine bl_drN ?_ _) | (with_reducible refine bl_al ?_ _) | (with_reducible refine bl_more ?_ _ _)))) (HV.out.below (by repeat (first | (with_reducible exact Below.refl _ _) | (with_reducible exact bl_mm) | (with_reducible refine bl_dr ?_) | (with_reducible refine bl_drN ?_ _) | (with_reducible refine bl_al ?_ _) | (with_reducible refine bl_more ?_ _ _)))) (few_stamp HF.out j hlt)).mono ?_; rintro e w2 ⟨rfl, ad2, h2⟩; have HT2 := hid h2; clear h2) | (go_at_call 18; refine (alike_any (HT2.out.below (by repeat (first | (with_reducible exact Below.refl _ _) | (with_reducible exact bl_mm) | (with_reducible refine bl_dr ?_) | (with_reducible refine bl_drN ?_ _) | (with_reducible refine bl_al ?_ _) | (with_reducible refine bl_more ?_ _ _))))).mono ?_; rintro e w3 ⟨rfl, hb1⟩; obtain ⟨ex3, dx3, rfl⟩ := more_of hb1; clear hb1))
            go_roundg (xs.length - (j + 1))
            case measure => have := HJ.out; omega
            case rel => exact ⟨j + 1, _, _, by have := HJ.out; omega, rfl, HT2.out.below (by repeat (first | (with_reducible exact Below.refl _ _) | (with_reducible exact bl_mm) | (with_reducible refine bl_dr ?_) | (with_reducible refine bl_drN ?_ _) | (with_reducible refine bl_al ?_ _) | (with_reducible refine bl_more ?_ _ _)))⟩
        · obtain rfl : j = xs.length := by omega
          have i1 : ¬ (xs.length : Int) < xs.length := by omega
          clear hj ht
          go_wp2_with (first | (go_at_call 18; refine (alike_any (HT.out.below (by repeat (first | (with_reducible exact Below.refl _ _) | (with_reducible exact bl_mm) | (with_reducible refine bl_dr ?_) | (with_reducible refine bl_drN ?_ _) | (with_reducible refine bl_al ?_ _) | (with_reducible refine bl_more ?_ _ _))))).mono ?_; rintro e w3 ⟨rfl, hb1⟩; obtain ⟨ex3, dx3, rfl⟩ := more_of hb1; clear hb1) | (go_at_call 8; refine (lives_any _).mono ?_; rintro e w2 ⟨rfl, hb1⟩; obtain ⟨ex, dx, rfl⟩ := more_of hb1; clear hb1))
          go_ret
          exact ⟨rfl, (HT.out.below (by repeat (first | (with_reducible exact Below.refl _ _) | (with_reducible exact bl_mm) | (with_reducible refine bl_dr ?_) | (with_reducible refine bl_drN ?_ _) | (with_reducible refine bl_al ?_ _) | (with_reducible refine bl_more ?_ _ _)))).bw⟩
end Go.Proofs.Ytlfdnjomjheioaa
