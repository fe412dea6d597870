/- A pool: its circle. -/
import Derived.RangeFuncNested
import Derived.RangeFuncBound
import Derived.RangeFuncCalls
import Derived.RangeFuncLeaves
import Derived.Shelf.Abstract
import Derived.Shelf.RegionOpen
import Derived.WalkKit
import Derived.OwnWalkIn
import Derived.TacticsInMore
import Derived.LoopNIn
import Derived.LoopIn
import Derived.Test.YtlfdnjomjheioaaPaI
namespace Go.Proofs.Ytlfdnjomjheioaa
open Go.RowKit Go.Shelf
attribute [local go_sem] Oper.semAt_some

/-- What a round keeps for the circle. -/
structure Kc (p b1 b2 : Nat) (W W' : World) : Prop where
  k0 : ∀ v, W.cell? ⟨p, 0, none⟩ = some v → W'.cell? ⟨p, 0, none⟩ = some v
  k1 : ∀ v, W.cell? ⟨b1, 0, none⟩ = some v → W'.cell? ⟨b1, 0, none⟩ = some v
  k2 : ∀ v, W.cell? ⟨b2, 0, none⟩ = some v → W'.cell? ⟨b2, 0, none⟩ = some v
theorem Kc.trans {p b1 b2 : Nat} {A B C : World} (h : Kc p b1 b2 A B) (k : Kc p b1 b2 B C) : Kc p b1 b2 A C := ⟨fun v e => k.k0 v (h.k0 v e), fun v e => k.k1 v (h.k1 v e), fun v e => k.k2 v (h.k2 v e)⟩
def ring {n : Nat} (hn : 1 ≤ n) (f : Nat) (k : Nat) : List (Fin n) := (List.range k).map (fun i => ⟨(f + i) % n, Nat.mod_lt _ hn⟩)
theorem ring_succ {n : Nat} (hn : 1 ≤ n) (f k : Nat) : ring hn f (k + 1) = ring hn f k ++ [⟨(f + k) % n, Nat.mod_lt _ hn⟩] := by simp [ring, List.range_succ]
theorem ring_len {n : Nat} (hn : 1 ≤ n) (f k : Nat) : (ring hn f k).length = k := by simp [ring]
theorem ring_pre {n : Nat} (hn : 1 ≤ n) (f : Nat) {k m : Nat} (h : k ≤ m) : ring hn f k <+: ring hn f m := by
  have e : ring hn f k = (ring hn f m).take k := by unfold ring; rw [← List.map_take, List.take_range, Nat.min_eq_left h]
  rw [e]
  exact List.take_prefix _ _
def firstOf (n : Nat) (pick : Int) : Nat := (pick % (n : Int)).toNat
set_option maxHeartbeats 1000000 in
theorem circle_stops (F : Fence) (m : Nat) (h63 : F.fn 63) (hro : F.round = none) (hm : 1 ≤ m) (p b1 b2 n : Nat) (pick : Int) (w : World) (hn : 1 ≤ n) (hn2 : n ≤ 64)
    (hp0 : p < w.heap.size) (hb1 : b1 < w.heap.size) (hb2 : b2 < w.heap.size)
    (hp : w.cell? ⟨p, 0, none⟩ = some (.int .i64 n)) (h1 : w.cell? ⟨b1, 0, none⟩ = some (.int .i64 pick)) (h2 : w.cell? ⟨b2, 0, none⟩ = some (.pointer (some ⟨p, 0, none⟩))) :
    SeqStopsK F m Try.prog 63 #[.pointer (some ⟨b1, 0, none⟩), .pointer (some ⟨b2, 0, none⟩)] (fun x : Fin n => #[Value.int .i64 x.val]) (Kc p b1 b2) (fun xs => xs = ring hn (firstOf n pick) n) (fun pre => pre <+: ring hn (firstOf n pick) n) n w := by
  intro l J Jx W hW hJ hJx hY h0
  have c0 := (hW.cell (p := ⟨p, 0, none⟩) hp0).trans hp
  have c1 := (hW.cell (p := ⟨b1, 0, none⟩) hb1).trans h1
  have c2 := (hW.cell (p := ⟨b2, 0, none⟩) hb2).trans h2
  have z0 : ((n : Int) == 0) = false := by simp only [beq_eq_false_iff_ne, ne_eq]; omega
  clear hp h1 h2
  refine callsIn_of_wp Try.func63 rfl h63 ?_ hro
  simp only [Try.ntmps63, List.size_toArray, List.length_cons, List.length_nil, Nat.reduceAdd, Nat.reduceSub, Array.replicate_succ, Array.replicate_zero, List.push_toArray, List.append_toArray, List.nil_append, List.cons_append]
  obtain ⟨f, hf⟩ : ∃ f, firstOf n pick = f := ⟨_, rfl⟩
  have hfl : f < n := by rw [← hf]; unfold firstOf; have := Int.emod_lt_of_pos pick (show (0 : Int) < n by omega); have := Int.emod_nonneg pick (show (n : Int) ≠ 0 by omega); omega
  have hfe : (f : Int) = pick % (n : Int) := by rw [← hf]; unfold firstOf; have := Int.emod_nonneg pick (show (n : Int) ≠ 0 by omega); omega
  have h0' : J [] W.drew := hJ _ _ _ none h0 ⟨rfl, rfl, rfl, Nat.le_refl _, fun _ _ _ => rfl⟩ (fun r e => by cases e)
  rw [hf]
  by_cases hneg : pick.tmod (n : Int) < 0
  · have y1 : IntKind.i64.wrap (pick.tmod (n : Int) + (n : Int)) = (f : Int) := by
      have a1 := Int.lt_tmod_of_pos pick (show (0 : Int) < n by omega)
      have a2 : pick % (n : Int) = pick.tmod n + n := by
        have q1 := Int.emod_add_mul_ediv pick (n : Int)
        have q2 := Int.tmod_add_mul_tdiv pick (n : Int)
        have q3 := Int.emod_nonneg pick (show (n : Int) ≠ 0 by omega)
        have q4 := Int.emod_lt_of_pos pick (show (0 : Int) < n by omega)
        have q5 : (n : Int) * (pick.tdiv n - pick / n) = pick % n - pick.tmod n := by rw [Int.mul_sub]; omega
        have q6 : pick.tdiv n - pick / n = 1 := by
          have t0 : 0 < (n : Int) * (pick.tdiv n - pick / n) := by omega
          have : (n : Int) * (pick.tdiv n - pick / n) < n * 2 := by omega
          have r1 : 0 < pick.tdiv n - pick / n := Int.lt_of_mul_lt_mul_left (a := (n : Int)) (by rw [Int.mul_zero]; exact t0) (by omega)
          have r2 : pick.tdiv n - pick / n < 2 := Int.lt_of_mul_lt_mul_left this (by omega)
          omega
        rw [q6] at q5; omega
      rw [IntWalk.i64_in _ (by omega)]; omega
    clear hfe
    gi_wp2
    gi_region
    all_goals gi_wp2
    all_goals
      gi_loopw [24] (fun i wr => ∃ k : Nat, k ≤ n ∧ i = .int .i64 k ∧ J (ring hn f k) wr ∧ Kc p b1 b2 W.drew wr) (fun i _ => n - (intOf i).toNat)
      case atStart => exact ⟨0, Nat.zero_le _, rfl, h0', ⟨fun v e => e, fun v e => e, fun v e => e⟩⟩
      case round =>
        obtain ⟨k, hk, rfl, hJs, hkc⟩ := hrel
        have d0 := hkc.k0 _ c0
        have d1 := hkc.k1 _ c1
        have d2 := hkc.k2 _ c2
        by_cases hlt : k < n
        · obtain ⟨fn, tmps, assign, body, hy, hR⟩ := hY _ ⟨(f + k) % n, Nat.mod_lt _ hn⟩ wr hJs (by rw [ring_len]; exact hlt)
          have i1 : (k : Int) < (n : Int) := by omega
          have y2 : IntKind.i64.wrap ((f : Int) + (k : Int)) = ((f + k : Nat) : Int) := by rw [IntWalk.i64_in _ (by omega)]; omega
          have y3 : (((f + k : Nat) : Int)).tmod (n : Int) = (((f + k) % n : Nat) : Int) := by rw [Int.ofNat_tmod]
          dsimp only at hy
          push_cast at hy
          gi_wp2
          refine hR.mono ?_
          rintro e W3 (⟨rfl, hJ3, hk3⟩ | ⟨rfl, hJx3⟩)
          · have w1' : IntKind.i64.wrap ((k : Int) + 1) = ((k + 1 : Nat) : Int) := by rw [IntWalk.i64_in _ (by omega)]; rfl
            gi_wp2
            go_roundw
            case rel => exact ⟨k + 1, by omega, by simp, by rw [ring_succ]; exact hJ3, hkc.trans hk3⟩
            case measure => simp [intOf]; omega
          · gi_wp2
            refine bodyPost_ret (results_none rfl _ _ _) rfl ?_
            exact ⟨⟨_, rfl⟩, .inr ⟨_, (by rw [← ring_succ]; exact ring_pre hn f (by omega)), hJx3⟩⟩
        · obtain rfl : k = n := by omega
          gi_wp2
          go_end0
          exact ⟨⟨_, rfl⟩, .inl ⟨_, rfl, hJs⟩⟩
  · have y1 : pick.tmod (n : Int) = (f : Int) := by
      have q1 := Int.emod_add_mul_ediv pick (n : Int)
      have q2 := Int.tmod_add_mul_tdiv pick (n : Int)
      have q3 := Int.emod_nonneg pick (show (n : Int) ≠ 0 by omega)
      have q4 := Int.emod_lt_of_pos pick (show (0 : Int) < n by omega)
      have a1 := Int.tmod_lt_of_pos pick (show (0 : Int) < n by omega)
      have q5 : (n : Int) * (pick.tdiv n - pick / n) = pick % n - pick.tmod n := by rw [Int.mul_sub]; omega
      have r1 : pick.tdiv n - pick / n < 1 := Int.lt_of_mul_lt_mul_left (a := (n : Int)) (by omega) (by omega)
      have r2 : -1 < pick.tdiv n - pick / n := Int.lt_of_mul_lt_mul_left (a := (n : Int)) (by omega) (by omega)
      have r3 : pick.tdiv n - pick / n = 0 := by omega
      rw [r3] at q5; omega
    clear hfe
    gi_wp2
    gi_region
    all_goals gi_wp2
    all_goals
      gi_loopw [24] (fun i wr => ∃ k : Nat, k ≤ n ∧ i = .int .i64 k ∧ J (ring hn f k) wr ∧ Kc p b1 b2 W.drew wr) (fun i _ => n - (intOf i).toNat)
      case atStart => exact ⟨0, Nat.zero_le _, rfl, h0', ⟨fun v e => e, fun v e => e, fun v e => e⟩⟩
      case round =>
        obtain ⟨k, hk, rfl, hJs, hkc⟩ := hrel
        have d0 := hkc.k0 _ c0
        have d1 := hkc.k1 _ c1
        have d2 := hkc.k2 _ c2
        by_cases hlt : k < n
        · obtain ⟨fn, tmps, assign, body, hy, hR⟩ := hY _ ⟨(f + k) % n, Nat.mod_lt _ hn⟩ wr hJs (by rw [ring_len]; exact hlt)
          have i1 : (k : Int) < (n : Int) := by omega
          have y2 : IntKind.i64.wrap ((f : Int) + (k : Int)) = ((f + k : Nat) : Int) := by rw [IntWalk.i64_in _ (by omega)]; omega
          have y3 : (((f + k : Nat) : Int)).tmod (n : Int) = (((f + k) % n : Nat) : Int) := by rw [Int.ofNat_tmod]
          dsimp only at hy
          push_cast at hy
          gi_wp2
          refine hR.mono ?_
          rintro e W3 (⟨rfl, hJ3, hk3⟩ | ⟨rfl, hJx3⟩)
          · have w1' : IntKind.i64.wrap ((k : Int) + 1) = ((k + 1 : Nat) : Int) := by rw [IntWalk.i64_in _ (by omega)]; rfl
            gi_wp2
            go_roundw
            case rel => exact ⟨k + 1, by omega, by simp, by rw [ring_succ]; exact hJ3, hkc.trans hk3⟩
            case measure => simp [intOf]; omega
          · gi_wp2
            refine bodyPost_ret (results_none rfl _ _ _) rfl ?_
            exact ⟨⟨_, rfl⟩, .inr ⟨_, (by rw [← ring_succ]; exact ring_pre hn f (by omega)), hJx3⟩⟩
        · obtain rfl : k = n := by omega
          gi_wp2
          go_end0
          exact ⟨⟨_, rfl⟩, .inl ⟨_, rfl, hJs⟩⟩
end Go.Proofs.Ytlfdnjomjheioaa
