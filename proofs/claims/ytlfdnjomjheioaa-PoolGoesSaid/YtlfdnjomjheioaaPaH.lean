/- A pool: New. -/
import Derived.Test.YtlfdnjomjheioaaPaG
namespace Go.Proofs.Ytlfdnjomjheioaa
open Go.RowKit

def zs59 : Array Value := (Value.int .i64 0 :: (List.replicate 64 [Value.pointer none, Value.pointer none]).flatten).toArray
theorem zero59 (w : World) : (zeroValue 59).run Try.prog w = .ok (.agg zs59) w := by kernel_rfl
theorem zs59_size : zs59.size = 129 := by kernel_rfl
theorem zs59_one : ∀ u ∈ zs59.toList, u.oneCell' = true := List.all_eq_true.1 (by kernel_rfl)
theorem zs59_at {i : Nat} (h : i < 64) : zs59[1 + i * 2 + 1]? = some (.pointer none) := by
  have : ∀ i : Fin 64, zs59[1 + i.val * 2 + 1]? = some (.pointer none) := by
    intro i
    have h := i.isLt
    unfold zs59
    rw [List.getElem?_toArray, show 1 + i.val * 2 + 1 = (i.val * 2 + 1) + 1 by omega, List.getElem?_cons_succ]
    have e : (List.replicate 64 [Value.pointer none, Value.pointer none]).flatten = List.replicate 128 (Value.pointer none) := by kernel_rfl
    rw [e, List.getElem?_replicate, if_pos (by omega)]
  exact this ⟨i, h⟩
structure Pre (N : Nat) (w : World) (p n j : Nat) (ad : Nat → Ad) : Prop where
  blk : ∃ cur : Array Value, w.heap[p]? = some (.cells cur 59 (0, 0)) ∧ cur.size = 129 ∧ ∀ u ∈ cur.toList, u.oneCell' = true
  n : w.cell? ⟨p, 0, none⟩ = some (.int .i64 n)
  at_ : ∀ i, i < j → Wat w (fun _ => False) p i (ad i) ⟨[], none⟩
  rest : ∀ i, j ≤ i → i < 64 → w.cell? ⟨p, 1 + i * 2 + 1, none⟩ = some (.pointer none)
  sep : ∀ i k b, i < j → k < j → i ≠ k → (ad i).has b → ¬ (ad k).has b
  np : ∀ i, i < j → ¬ (ad i).has p
  ge : ∀ i b, i < j → (ad i).has b → N ≤ b
  pN : N ≤ p
  bN : N ≤ w.heap.size
theorem Pre.lt {N : Nat} {w : World} {p n j : Nat} {ad : Nat → Ad} (h : Pre N w p n j ad) : p < w.heap.size := by
  obtain ⟨cur, h1, _⟩ := h.blk
  exact (Array.getElem?_eq_some_iff.1 h1).1
theorem Pre.below {N : Nat} {w w' : World} {p n j : Nat} {ad : Nat → Ad} (h : Pre N w p n j ad) (hb : Below w.heap.size w w') : Pre N w' p n j ad := by
  have he : Ext (fun _ => False) w w' := Ext.of_below hb
  have hl := h.lt
  obtain ⟨cur, h1, h2⟩ := h.blk
  exact ⟨⟨cur, (hb.block p hl).trans h1, h2⟩, (he.cell_eq hl (fun h => h) _).trans h.n, fun i hi => (h.at_ i hi).ext he hl (fun h => h) (fun _ _ h => h) (fun _ _ h => h),
    fun i h1 h2 => (he.cell_eq hl (fun h => h) _).trans (h.rest i h1 h2), h.sep, h.np, h.ge, h.pN, Nat.le_trans h.bN hb.size⟩
theorem Pre.add {N : Nat} {w W0 Wf : World} {p n j d : Nat} {ad : Nat → Ad} (h : Pre N w p n j ad) (hj : j < 64) (hb0 : Below w.heap.size w W0) (hd : w.heap.size ≤ d) (hq : Dq W0 (fun _ => False) d d [])
    (he : W0.setCell ⟨p, 1 + j * 2, none⟩ (.pointer (some ⟨d, 0, none⟩)) = Wf) : Pre N Wf p n (j + 1) (put ad j ⟨d, d, d⟩) ∧ Below N w Wf := by
  subst he
  have h' := h.below hb0
  have hl := h.lt
  have hl' := h'.lt
  have hbN := h.bN
  have hE : Ext (fun b => b = p) W0 (W0.setCell ⟨p, 1 + j * 2, none⟩ (.pointer (some ⟨d, 0, none⟩))) := Ext.setCell W0 _ _ rfl
  have lt : ∀ i b, i < j → (ad i).has b → b < w.heap.size := fun i b hi hb => (h.at_ i hi).lt hb
  have dh : ∀ b, (Ad.mk d d d).has b → b = d := fun b hb => by rcases hb with e | e | e <;> exact e
  obtain ⟨cur, h1, h2, h3⟩ := h'.blk
  refine ⟨⟨⟨cur.setIfInBounds (1 + j * 2) (.pointer (some ⟨d, 0, none⟩)), by simp [World.setCell, Array.getElem?_modify, h1], by simpa using h2, mem_setIf h3 rfl⟩, (cellOff (by omega)).trans h'.n, fun i hi => ?_, fun i hi h5 => (cellOff (by omega)).trans (h'.rest i (by omega) h5), fun i k b hi hk hik hb1 hb2 => ?_, fun i hi e => ?_, fun i b hi hb => ?_, h.pN, Nat.le_trans h'.bN hE.size⟩,
    (hb0.mono hbN).trans (hE.toBelow h'.bN (fun x hx e => by have := h.pN; omega))⟩
  · by_cases hij : i = j
    · subst hij
      rw [put_same]
      exact ⟨hq.put _ (by show d ≠ p; omega) (by show d ≠ p; omega) (fun h => h), World.cell?_setCell_same' _ _ _ (by rw [cell_blk h1]; simp [h2]; omega), (cellOff (by omega)).trans (h'.rest i (Nat.le_refl _) hj), fun j e => (by cases e), Nat.lt_of_lt_of_le hq.lt hE.size, fun j e => (by cases e)⟩
    · rw [put_other _ hij]
      have hw := h'.at_ i (by omega)
      have np := h.np i (by omega)
      exact ⟨hw.dq.put _ (fun e => np (.inl e.symm)) (fun e => np (.inr (.inl e.symm))) (fun h => h), (cellOff (by omega)).trans hw.dp, (cellOff (by omega)).trans hw.hp, fun j e => (by cases e), Nat.lt_of_lt_of_le hw.hl hE.size, fun j e => (by cases e)⟩
  · by_cases hij : i = j
    · subst hij
      rw [put_same] at hb1
      rw [put_other _ (fun e => hik e.symm)] at hb2
      have e1 := dh b hb1
      have := lt k b (by omega) hb2
      omega
    · rw [put_other _ hij] at hb1
      have e1 := lt i b (by omega) hb1
      by_cases hkj : k = j
      · subst hkj
        rw [put_same] at hb2
        have := dh b hb2
        omega
      · rw [put_other _ hkj] at hb2
        exact h.sep i k b (by omega) (by omega) hik hb1 hb2
  · by_cases hij : i = j
    · subst hij
      rw [put_same] at e
      have := dh p e
      omega
    · rw [put_other _ hij] at e
      exact h.np i (by omega) e
  · by_cases hij : i = j
    · subst hij
      rw [put_same] at hb
      have := dh b hb
      omega
    · rw [put_other _ hij] at hb
      exact h.ge i b (by omega) hb
theorem Pre.all {N : Nat} {w : World} {p n : Nat} {ad : Nat → Ad} (h : Pre N w p n n ad) (h1 : 1 ≤ n) (h2 : n ≤ 64) : Pl N w (fun _ => False) p (List.replicate n ⟨[], none⟩) ad :=
  ⟨h.blk, by rw [List.length_replicate]; exact h.n, by rw [List.length_replicate]; exact h1, by rw [List.length_replicate]; exact h2, fun i hi => by rw [List.getElem_replicate]; exact h.at_ i (by rw [List.length_replicate] at hi; exact hi),
    fun i j b hi hj => h.sep i j b (by rw [List.length_replicate] at hi; exact hi) (by rw [List.length_replicate] at hj; exact hj), fun i hi => h.np i (by rw [List.length_replicate] at hi; exact hi), fun _ _ _ _ h => h, fun h => h, fun i b hi => h.ge i b (by rw [List.length_replicate] at hi; exact hi), h.pN, h.bN⟩
def Made (N : Nat) (w : World) (n : Nat) (e : Ending) (w' : World) : Prop := ∃ p, e = .returned (.tuple #[.pointer (some ⟨p, 0, none⟩), .int .i64 0]) ∧ (∃ F ad, Pl N w' F p (List.replicate n ⟨[], none⟩) ad) ∧ N ≤ p ∧ Below N w w'
set_option maxRecDepth 8000 in
set_option maxHeartbeats 1000000 in
theorem pnew_any {w : World} {n : Nat} (h1 : 1 ≤ n) (h2 : n ≤ 64) : Calls Try.prog 15 #[.int .i64 n] w (Made w.heap.size w n) := by
  have i1 : ¬ (n : Int) < 1 := by omega
  have i2 : ¬ (64 : Int) < (n : Int) := by omega
  have hz := zero59
  have hs := zs59_size
  have hz0 : ¬ zs59 = #[] := by intro e; rw [e] at hs; cases hs
  go_enter Try.func15, Try.ntmps15
  go_wp2_with (first | ((with_reducible refine wp_region_plan (id := 7) (.eff [(true, 0), (true, 1), (true, 3), (true, 4)] 2 [0, 1, 3, 4] (.eff [(false, 5), (false, 6)] 7 [] (.fin []))) ?_ ?_ ?_ ?_ ?_ ?_); kernel_rfl; kernel_rfl; kernel_rfl; kernel_rfl; (intro c a d v w h; cases d <;> exact h)) | (with_reducible refine wpPlan_eff ?_) | (with_reducible refine wpPlan_fin ?_) | (with_reducible refine wpPlan_two ?_) | (with_reducible refine wpOpPair ?_ ?_) | ((with_reducible apply wpPre_keep); rfl; intro K' hK'; go_simp; refine hK' _ _ ?_; intro f hf; clear hK' K') | ((with_reducible apply wpPre_drop); rfl; intro K' hK'; go_simp; refine hK' _ _ ?_; intro f; clear hK' K') | (with_reducible refine wpPre_nil ?_) | ((with_reducible apply wpOp_list); rfl) | (with_reducible refine heldPair ?_ ?_) | ((with_reducible refine heldH_no ?_ ?_); rfl) | (with_reducible refine heldH_yes ?_ ?_) | (with_reducible exact heldH_nil) | (unfold YAt; go_simp; done))
  go_loopg [16] n (fun k i wr => ∃ (j : Nat) (ad : Nat → Ad), j + k = n ∧ i = .int .i64 j ∧ Pre w.heap.size wr w.heap.size n j ad ∧ Below w.heap.size w wr)
  case atStart =>
    have hb := alloc_blk (X := w) (o := .cells (zs59.setIfInBounds 0 (.int .i64 n)) 59) rfl
    refine ⟨0, fun _ => ⟨0, 0, 0⟩, by omega, rfl, ⟨⟨_, hb, by simp [hs], mem_setIf zs59_one rfl⟩, ?_, fun i hi => by omega, fun i hi h5 => ?_, fun i k b hi => by omega, fun i hi => by omega, fun i b hi => by omega, Nat.le_refl _, by simp⟩, (by repeat (first | (with_reducible exact Below.refl _ _) | (with_reducible exact bl_mm) | (with_reducible refine bl_dr ?_) | (with_reducible refine bl_drN ?_ _) | (with_reducible refine bl_al ?_ _) | (with_reducible refine bl_more ?_ _ _)))⟩
    · rw [cell_blk hb]; simp [hs]
    · rw [cell_blk hb, Array.getElem?_setIfInBounds, if_neg (by omega)]; exact zs59_at h5
  case round =>
    obtain ⟨j, ad, hj, rfl, hp, hb⟩ := hrel
    have HPR := hid hp
    have HB := hid hb
    have HJ := hid hj
    have q1 := hp.lt
    have q2 := hp.n
    obtain ⟨cur, hbk, hsz, _⟩ := hp.blk
    have q3 := frz_blk hbk (1 + j * 2)
    by_cases hlt : j < n
    · obtain ⟨u0, q4⟩ : ∃ u, wr.cell? ⟨w.heap.size, 1 + j * 2, none⟩ = some u := ⟨cur[1 + j * 2]'(by omega), by rw [cell_blk hbk]; exact Array.getElem?_eq_getElem _⟩
      have i3 : (j : Int) < (n : Int) := by omega
      have i4 : (j : Int) < 64 := by omega
      have i5 : (0 : Int) ≤ (j : Int) := by omega
      have w1' : IntKind.i64.wrap ((j : Int) + 1) = ((j + 1 : Nat) : Int) := by rw [IntWalk.i64_in _ (by omega)]; rfl
      have HLT := hid (And.intro hlt trivial)
      clear hp hb hj hbk hsz
      go_wp2_with (first | ((with_reducible refine wp_region_plan (id := 7) (.eff [(true, 0), (true, 1), (true, 3), (true, 4)] 2 [0, 1, 3, 4] (.eff [(false, 5), (false, 6)] 7 [] (.fin []))) ?_ ?_ ?_ ?_ ?_ ?_); kernel_rfl; kernel_rfl; kernel_rfl; kernel_rfl; (intro c a d v w h; cases d <;> exact h)) | (with_reducible refine wpPlan_eff ?_) | (with_reducible refine wpPlan_fin ?_) | (with_reducible refine wpPlan_two ?_) | (with_reducible refine wpOpPair ?_ ?_) | ((with_reducible apply wpPre_keep); rfl; intro K' hK'; go_simp; refine hK' _ _ ?_; intro f hf; clear hK' K') | ((with_reducible apply wpPre_drop); rfl; intro K' hK'; go_simp; refine hK' _ _ ?_; intro f; clear hK' K') | (with_reducible refine wpPre_nil ?_) | ((with_reducible apply wpOp_list); rfl) | (with_reducible refine heldPair ?_ ?_) | ((with_reducible refine heldH_no ?_ ?_); rfl) | (with_reducible refine heldH_yes ?_ ?_) | (with_reducible exact heldH_nil) | (unfold YAt; go_simp; done) | (go_at_call 31; refine (new_any (F := fun _ => False) _).mono ?_; rintro e w1 ⟨d, rfl, hd, hq, hb1⟩; have HQ := hid (And.intro hd (And.intro hq hb1)); obtain ⟨ex, dx, rfl⟩ := more_of hb1; clear hd hq hb1))
      all_goals
        have hq : Dq (more wr ex dx) (fun _ => False) d d [] := HQ.out.2.1
        have hd : wr.heap.size ≤ d := Nat.le_of_eq HQ.out.1.symm
        have hlt := HLT.out.1
        go_roundg (n - (j + 1))
        case measure => have := HJ.out; omega
        case rel =>
          have HA := Pre.add (W0 := more wr ex dx) (Wf := more (wr.setCell ⟨w.heap.size, 1 + j * 2, none⟩ (.pointer (some ⟨d, 0, none⟩))) ex dx) HPR.out (by omega) (by repeat (first | (with_reducible exact Below.refl _ _) | (with_reducible exact bl_mm) | (with_reducible refine bl_dr ?_) | (with_reducible refine bl_drN ?_ _) | (with_reducible refine bl_al ?_ _) | (with_reducible refine bl_more ?_ _ _))) hd hq (by go_simp)
          exact ⟨j + 1, _, by have := HJ.out; omega, rfl, HA.1, HB.out.trans HA.2⟩
    · obtain rfl : j = n := by omega
      have i3 : ¬ (j : Int) < (j : Int) := by omega
      clear hp hb hj hbk hsz
      go_wp2_with (first | ((with_reducible refine wp_region_plan (id := 7) (.eff [(true, 0), (true, 1), (true, 3), (true, 4)] 2 [0, 1, 3, 4] (.eff [(false, 5), (false, 6)] 7 [] (.fin []))) ?_ ?_ ?_ ?_ ?_ ?_); kernel_rfl; kernel_rfl; kernel_rfl; kernel_rfl; (intro c a d v w h; cases d <;> exact h)) | (with_reducible refine wpPlan_eff ?_) | (with_reducible refine wpPlan_fin ?_) | (with_reducible refine wpPlan_two ?_) | (with_reducible refine wpOpPair ?_ ?_) | ((with_reducible apply wpPre_keep); rfl; intro K' hK'; go_simp; refine hK' _ _ ?_; intro f hf; clear hK' K') | ((with_reducible apply wpPre_drop); rfl; intro K' hK'; go_simp; refine hK' _ _ ?_; intro f; clear hK' K') | (with_reducible refine wpPre_nil ?_) | ((with_reducible apply wpOp_list); rfl) | (with_reducible refine heldPair ?_ ?_) | ((with_reducible refine heldH_no ?_ ?_); rfl) | (with_reducible refine heldH_yes ?_ ?_) | (with_reducible exact heldH_nil) | (unfold YAt; go_simp; done))
      go_ret2
      exact ⟨_, rfl, ⟨_, _, (HPR.out.below (by repeat (first | (with_reducible exact Below.refl _ _) | (with_reducible exact bl_mm) | (with_reducible refine bl_dr ?_) | (with_reducible refine bl_drN ?_ _) | (with_reducible refine bl_al ?_ _) | (with_reducible refine bl_more ?_ _ _)))).all h1 h2⟩, Nat.le_refl _, HB.out.trans ((show Below wr.heap.size wr _ from (by repeat (first | (with_reducible exact Below.refl _ _) | (with_reducible exact bl_mm) | (with_reducible refine bl_dr ?_) | (with_reducible refine bl_drN ?_ _) | (with_reducible refine bl_al ?_ _) | (with_reducible refine bl_more ?_ _ _)))).mono HPR.out.bN)⟩
end Go.Proofs.Ytlfdnjomjheioaa
