/- The nodes' order. -/
import Derived.Test.YtomhpbhkckjmdaaDoorRRDgC
namespace Go.Proofs.YtomhpbhkckjmdaaDoorRR
open Go.RowKit

def readyB (on : Nat → Nat) (done i : Nat) : Bool := !done.testBit i && decide (dif (on i) done = 0)
def nextR (n : Nat) (on : Nat → Nat) (done : Nat) : Option Nat := (List.range n).find? (readyB on done)
theorem nextR_some {n : Nat} {on : Nat → Nat} {done j : Nat} (hj : j < n) (h : readyB on done j = true) (hl : ∀ i, i < j → readyB on done i = false) : nextR n on done = some j := by
  refine List.find?_eq_some_iff_append.2 ⟨h, List.range j, List.range' (j + 1) (n - j - 1), ?_, fun a ha => by rw [hl a (List.mem_range.1 ha)]; rfl⟩
  rw [List.range_eq_range', List.range_eq_range', show n = j + (1 + (n - j - 1)) by omega, ← List.range'_append_1, Nat.zero_add, Nat.add_comm 1, List.range'_succ]
  congr 3; omega
theorem nextR_none {n : Nat} {on : Nat → Nat} {done : Nat} (hl : ∀ i, i < n → readyB on done i = false) : nextR n on done = none :=
  List.find?_eq_none.2 (fun i hi => by rw [hl i (List.mem_range.1 hi)]; decide)
theorem nextR_lt {n : Nat} {on : Nat → Nat} {done j : Nat} (h : nextR n on done = some j) : j < n ∧ readyB on done j = true := by
  obtain ⟨h1, as', bs, h2, _⟩ := List.find?_eq_some_iff_append.1 h
  refine ⟨List.mem_range.1 (by rw [h2]; simp), h1⟩
def NextP (n : Nat) (on : Nat → Nat) (done : Nat) (w : World) (e : Ending) (w' : World) : Prop :=
  w' = w ∧ ((∃ i, nextR n on done = some i ∧ e = .returned (.int .i64 (i : Int))) ∨ (nextR n on done = none ∧ e = pan circleV))
set_option maxHeartbeats 4000000 in
theorem next_any {w : World} {b n : Nat} {on : Nat → Nat} {done : Nat} (hg : Gr w b n on) (hn : n ≤ 64) (hd : done < M64) : Calls Tryd.prog 36 #[.pointer (some ⟨b, 0, none⟩), .int .u64 (done : Int)] w (NextP n on done w) := by
  have n0 := hg.n_
  have hbl := hg.lt
  have HG := hid hg
  have HN := hid hn
  have HD := hid hd
  have hn1 : (n : Int) ≤ 64 := by omega
  clear hg hn hd
  go_enter Tryd.func36, Tryd.ntmps36
  go_wp2
  go_loop [10] (fun vi => ∃ j : Nat, j ≤ n ∧ vi = .int .i64 (j : Int) ∧ ∀ i, i < j → readyB on done i = false) (fun vi => n - (intOf vi).toNat)
  case atStart => exact ⟨0, by omega, rfl, fun i h => by omega⟩
  case round =>
    obtain ⟨j, hj, rfl, hl⟩ := hrel
    have HL := hid hl
    clear hl
    by_cases hjn : j < n
    · have h0 : (0 : Int) ≤ j := by omega
      have h1 : (j : Int) < n := by omega
      have h2 : (j : Int) < 64 := by have := HN.out; omega
      have HJ6 : Hid (j < 64) := hid (by have := HN.out; omega)
      have HJN := hid hjn
      have c1 := HG.out.at_ j HJ6.out
      have b1 := bits_has_eq done j HD.out HJ6.out
      have b2 := bits_dif_eq (on j) done
      clear hj hjn
      cases ht : done.testBit j with
      | true =>
        rw [ht] at b1
        have HRD : Hid (readyB on done j = false) := hid (by unfold readyB; rw [ht]; rfl)
        clear ht b2
        go_wp2_with (first | (go_at_call 29; refine (one_any j HJ6.out).mono ?_; rintro e w3 ⟨rfl, rfl⟩))
        go_round
        case rel => exact ⟨j + 1, HJN.out, rfl, fun i hi => by rcases Nat.lt_or_ge i j with h | h; exact HL.out i h; obtain rfl : i = j := by omega
                                                               exact HRD.out⟩
        case measure => have := HJN.out; simp [intOf]; omega
      | false =>
        rw [ht] at b1
        by_cases hz : dif (on j) done = 0
        · rw [decide_eq_true hz] at b2
          have HRD : Hid (readyB on done j = true) := hid (by unfold readyB; rw [ht, decide_eq_true hz]; rfl)
          clear ht hz
          go_wp2_with (first | (go_at_call 29; refine (one_any j HJ6.out).mono ?_; rintro e w3 ⟨rfl, rfl⟩))
          go_ret
          exact ⟨rfl, .inl ⟨j, nextR_some HJN.out HRD.out HL.out, rfl⟩⟩
        · rw [decide_eq_false hz] at b2
          have HRD : Hid (readyB on done j = false) := hid (by unfold readyB; rw [ht, decide_eq_false hz]; rfl)
          clear ht hz
          go_wp2_with (first | (go_at_call 29; refine (one_any j HJ6.out).mono ?_; rintro e w3 ⟨rfl, rfl⟩))
          go_round
          case rel => exact ⟨j + 1, HJN.out, rfl, fun i hi => by rcases Nat.lt_or_ge i j with h | h; exact HL.out i h; obtain rfl : i = j := by omega
                                                                 exact HRD.out⟩
          case measure => have := HJN.out; simp [intOf]; omega
    · have h1 : ¬ (j : Int) < n := by omega
      obtain rfl : j = n := by omega
      clear hj hjn
      go_wp2
      refine ⟨rfl, ?_⟩
      exact ⟨rfl, .inr ⟨nextR_none HL.out, rfl⟩⟩
def ordR (n : Nat) (on : Nat → Nat) : Nat → Nat → List Nat → Option (List Nat)
  | 0, _, out => some out
  | f + 1, done, out => match nextR n on done with
    | none => none
    | some i => ordR n on f (done ||| bitN i) (out ++ [i])
def orderR (n : Nat) (on : Nat → Nat) : Option (List Nat) := ordR n on n 0 []
def OrdP (n : Nat) (on : Nat → Nat) (w : World) (e : Ending) (w' : World) : Prop :=
  Below w.heap.size w w' ∧ ((∃ row v g, orderR n on = some row ∧ e = .returned v ∧ Nums natE 3 w.heap.size w w' g v row) ∨ (orderR n on = none ∧ e = pan circleV))
set_option maxHeartbeats 4000000 in
theorem order_any {w : World} {b n : Nat} {on : Nat → Nat} (hg : Gr w b n on) (hn : n ≤ 64) : Calls Tryd.prog 32 #[.pointer (some ⟨b, 0, none⟩)] w (OrdP n on w) := by
  have n0 := hg.n_
  have hbl := hg.lt
  have HG := hid hg
  have HN := hid hn
  have hn1 : (n : Int) ≤ 64 := by omega
  clear hg hn
  go_enter Tryd.func32, Tryd.ntmps32
  go_wp2
  go_loopg [3, 4] n (fun k vd vo wr => ∃ (done g : Nat) (out : List Nat), out.length + k = n ∧ done < M64 ∧ vd = .int .u64 (done : Int) ∧ ordR n on k done out = orderR n on ∧ Nums natE 3 w.heap.size w wr g vo out)
  case atStart => exact ⟨0, w.heap.size, [], by simp, by decide, rfl, rfl, Nums.start w⟩
  case round =>
    obtain ⟨done, g, out, hk, hd, rfl, ho, hnu⟩ := hrel
    obtain ⟨A, cp, rfl, hf1, hf2⟩ := hnu.sp.form
    have HK := hid hk
    have HDN := hid hd
    have HO := hid ho
    have HNU := hid hnu
    have HGW := hid (HG.out.below hnu.low)
    have n1 := HGW.out.n_
    have hblw := HGW.out.lt
    by_cases hl : out.length < n
    · have h0 : (out.length : Int) < n := by omega
      have HL := hid hl
      cases hx : nextR n on done with
      | none =>
        have HNX := hid hx
        clear hk hd ho hnu hl hx hf1 hf2
        go_wp2_with (first | (go_at_call 36; refine (next_any (HGW.out.below (by repeat (first | (with_reducible exact Below.refl _ _) | (with_reducible exact bl_mm) | (with_reducible refine bl_dr ?_) | (with_reducible refine bl_drN ?_ _) | (with_reducible refine bl_al ?_ _) | (with_reducible refine bl_more ?_ _ _)))) HN.out HDN.out).mono ?_; rintro e w1 ⟨rfl, hq⟩; rw [HNX.out] at hq; rcases hq with ⟨i', hi', rfl⟩ | ⟨hi', rfl⟩; cases hi'; clear hi'))
        refine ⟨rfl, ?_⟩
        refine ⟨HNU.out.low.trans (by repeat (first | (with_reducible exact Below.refl _ _) | (with_reducible exact bl_mm) | (with_reducible refine bl_dr ?_) | (with_reducible refine bl_drN ?_ _) | (with_reducible refine bl_al ?_ _) | (with_reducible refine bl_more ?_ _ _))), .inr ⟨?_, rfl⟩⟩
        have h := HO.out
        obtain ⟨m, rfl⟩ : ∃ m, gk = m + 1 := ⟨gk - 1, by have := HK.out; have := HL.out; omega⟩
        rw [ordR, HNX.out] at h
        exact h.symm
      | some q =>
        have HNX := hid hx
        have hq := (nextR_lt hx).1
        have HQ6 : Hid (q < 64) := hid (by have := HN.out; omega)
        have hbo := bits_add done q hd HQ6.out
        have HLEN : Hid (out.length + [q].length ≤ 4294967296) := hid (by have := HN.out; simp; omega)
        have HLE : Hid ((out ++ [q]).length = out.length + 1) := hid (by simp)
        clear hk hd ho hnu hl hx hf1 hf2 hq
        go_wp2_with (first | (go_at_call 36; refine (next_any (HGW.out.below (by repeat (first | (with_reducible exact Below.refl _ _) | (with_reducible exact bl_mm) | (with_reducible refine bl_dr ?_) | (with_reducible refine bl_drN ?_ _) | (with_reducible refine bl_al ?_ _) | (with_reducible refine bl_more ?_ _ _)))) HN.out HDN.out).mono ?_; rintro e w1 ⟨rfl, hq⟩; rw [HNX.out] at hq; rcases hq with ⟨i', hi', rfl⟩ | ⟨hi', rfl⟩; rotate_left; cases hi'; cases hi') | (go_at_call 29; refine (one_any q HQ6.out).mono ?_; rintro e w3 ⟨rfl, rfl⟩) | (at_builtin; refine wpList_app ok25 (ys := [q]) (by rfl) (.tmp 20) (.tmp 22) (by rfl) (by rfl) (by rfl) (by rfl) (HNU.out.below (by repeat (first | (with_reducible exact Below.refl _ _) | (with_reducible exact bl_mm) | (with_reducible refine bl_dr ?_) | (with_reducible refine bl_drN ?_ _) | (with_reducible refine bl_al ?_ _) | (with_reducible refine bl_more ?_ _ _)))).sp (Enc.Src.one_blk (cs := [.int .i64 (q : Int)]) (alloc_blk (by simp [more_size])) rfl) (fun _ h _ => h.elim) HLEN.out ?_; intro v2 w2 g2 hs2 he2 hg2; obtain ⟨A2, c2, hv2, _, _⟩ := hs2.form; rw [HLE.out] at hv2; subst hv2; have HS2 := hid hs2; have HE2 := hid he2; have HG2 := hid hg2; clear hs2 hg2 he2))
        go_roundg (gk - 1)
        case measure => have := HK.out; have := HL.out; omega
        case rel =>
          refine ⟨done ||| bitN q, g2, out ++ [q], ?_, or_lt64 HDN.out (pow_lt64 HQ6.out), rfl, ?_, ?_⟩
          · have := HK.out; have := HL.out; simp; omega
          · have h := HO.out
            obtain ⟨m, rfl⟩ : ∃ m, gk = m + 1 := ⟨gk - 1, by have := HK.out; have := HL.out; omega⟩
            rw [ordR, HNX.out] at h
            exact h
          · exact ((HNU.out.below (by repeat (first | (with_reducible exact Below.refl _ _) | (with_reducible exact bl_mm) | (with_reducible refine bl_dr ?_) | (with_reducible refine bl_drN ?_ _) | (with_reducible refine bl_al ?_ _) | (with_reducible refine bl_more ?_ _ _)))).grown HS2.out (fun _ h => h.1.elim) HE2.out HG2.out).below (by repeat (first | (with_reducible exact Below.refl _ _) | (with_reducible exact bl_mm) | (with_reducible refine bl_dr ?_) | (with_reducible refine bl_drN ?_ _) | (with_reducible refine bl_al ?_ _) | (with_reducible refine bl_more ?_ _ _)))
    · have h0 : ¬ (out.length : Int) < n := by omega
      have hkk : gk = 0 := by omega
      subst hkk
      clear hk hd ho hnu hl hf1 hf2
      go_wp2
      go_ret
      exact ⟨HNU.out.low.trans (by repeat (first | (with_reducible exact Below.refl _ _) | (with_reducible exact bl_mm) | (with_reducible refine bl_dr ?_) | (with_reducible refine bl_drN ?_ _) | (with_reducible refine bl_al ?_ _) | (with_reducible refine bl_more ?_ _ _))), .inl ⟨out, _, g, HO.out.symm, rfl, HNU.out.below (by repeat (first | (with_reducible exact Below.refl _ _) | (with_reducible exact bl_mm) | (with_reducible refine bl_dr ?_) | (with_reducible refine bl_drN ?_ _) | (with_reducible refine bl_al ?_ _) | (with_reducible refine bl_more ?_ _ _)))⟩⟩
end Go.Proofs.YtomhpbhkckjmdaaDoorRR
