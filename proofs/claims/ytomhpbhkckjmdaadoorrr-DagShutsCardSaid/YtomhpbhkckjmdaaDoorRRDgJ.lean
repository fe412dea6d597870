/- Levels. -/
import Derived.Test.YtomhpbhkckjmdaaDoorRRDgI
namespace Go.Proofs.YtomhpbhkckjmdaaDoorRR
open Go.RowKit

def maxIn (i : Nat) (f : Nat → Nat) (k : Nat) : Nat → Nat := upd f i (max (f i) (f k + 1))
def stepLv (on : Nat → Nat) (f : Nat → Nat) (i : Nat) : Nat → Nat := (nodes (on i)).foldl (maxIn i) f
def levF (on : Nat → Nat) (row : List Nat) : Nat → Nat := row.foldl (stepLv on) (fun _ => 0)
theorem ordR_len {n : Nat} {on : Nat → Nat} : ∀ (f done : Nat) (out row : List Nat), ordR n on f done out = some row → row.length = out.length + f
  | 0, _, out, row, h => by cases h; rfl
  | f + 1, done, out, row, h => by
    rw [ordR] at h
    cases hx : nextR n on done with
    | none => rw [hx] at h; cases h
    | some q =>
      rw [hx] at h
      have := ordR_len f _ _ row h
      rw [this, List.length_append, List.length_singleton]
      omega
theorem row_len {n : Nat} {on : Nat → Nat} {row : List Nat} (h : orderR n on = some row) : row.length = n := by
  have := ordR_len n 0 [] row h
  simpa using this
theorem max_int (a b : Nat) : (if (a : Int) < (b : Int) then (b : Int) else (a : Int)) = ((max a b : Nat) : Int) := by split <;> omega
theorem ext_drew {S : Nat → Prop} {X Y : World} (h : Ext S X Y) : Ext S X Y.drew := ⟨h.os, h.tape, h.output, h.size, h.block⟩
set_option maxHeartbeats 8000000 in
theorem levels1_any {X : World} {gb n o p : Nat} {on : Nat → Nat} {row : List Nat} {vr : Value} {K : Nat → Prop} (hT : Tab X) (hg : Gr X gb n on) (hF : Fit n on) (hr : natE.Row K X vr row) (hrow : ∀ i ∈ row, i < n) (hrl : row.length ≤ 64) (hgo : gb ≠ o) (hK : ∀ b, K b → b ≠ o)
    (ho : X.heap[o]? = some (.cells #[.slice none 0 0] 25 (0, 0))) (ho0 : 0 < o) (hp : X.cell? ⟨p, 0, none⟩ = some (.int .i64 n)) :
    Calls Tryd.prog 24 #[.pointer (some ⟨gb, 0, none⟩), vr, .pointer (some ⟨p, 0, none⟩), .pointer (some ⟨o, 0, none⟩)] X (Cl1 natE o 25 X ((List.range n).map (levF on row))) := by
  obtain ⟨A, cp, rfl, _, _⟩ := hr.form
  have HTX := hid hT
  have HGX := hid hg
  have HF := hid hF
  have HR := hid hr
  have HRW := hid hrow
  have HB0 := hid ho
  have hol := (Array.getElem?_eq_some_iff.1 ho).1
  have HO := hid hol
  have HO0 := hid ho0
  have HGO := hid hgo
  have HKO := hid hK
  have hn1 : (n : Int) ≤ 64 := by have := hF.n_; omega
  have hrl1 : (row.length : Int) ≤ 64 := by omega
  have co := cell_blk ho 0
  have fo := frz_blk ho 0
  simp only [List.getElem?_toArray, List.getElem?_cons_zero] at co
  have hmk := make_ints hF.n_
  clear hT hg hF hr hrow ho ho0 hgo hK
  go_enter Tryd.func24, Tryd.ntmps24
  go_wp2_with (first | ((with_reducible refine wp_region_plan (id := 7) (.eff [(false, 0), (false, 1), (false, 2), (false, 3), (false, 4), (false, 5), (false, 6), (false, 7), (false, 8), (false, 9), (false, 10), (false, 11), (false, 12)] 13 [] (.fin [])) ?_ ?_ ?_ ?_ ?_ ?_); kernel_rfl; kernel_rfl; kernel_rfl; kernel_rfl; (intro c a d v w h; cases d <;> exact h)) | (with_reducible refine wpPlan_eff ?_) | (with_reducible refine wpPlan_fin ?_) | (with_reducible refine wpPlan_two ?_) | (with_reducible refine wpOpPair ?_ ?_) | ((with_reducible apply wpPre_keep); rfl; intro K' hK'; go_simp; refine hK' _ _ ?_; intro f hf; clear hK' K') | ((with_reducible apply wpPre_drop); rfl; intro K' hK'; go_simp; refine hK' _ _ ?_; intro f; clear hK' K') | (with_reducible refine wpPre_nil ?_) | ((with_reducible apply wpOp_list); rfl) | (with_reducible refine heldPair ?_ ?_) | ((with_reducible refine heldH_no ?_ ?_); rfl) | (with_reducible refine heldH_yes ?_ ?_) | (with_reducible exact heldH_nil) | (unfold YAt; go_simp; done))
  go_loopg [14] row.length (fun k vi wr => ∃ (j : Nat) (f : Nat → Nat), j + k = row.length ∧ vi = .int .i64 (j : Int) ∧ Ext (fun b => b = o) X wr ∧ wr.heap[o]? = some (.cells #[.slice (some ⟨X.heap.size, 0, none⟩) n n] 25 (0, 0)) ∧ Ar natV 3 wr X.heap.size n f ∧ (∀ x, f x ≤ 64 * j) ∧ f = levF on (row.take j))
  case atStart =>
    refine ⟨0, fun _ => 0, by omega, rfl, (Ext.setCell (S := fun b => b = o) X ⟨o, 0, none⟩ _ rfl).trans (T := fun _ => False) (Ext.alloc _ _ _) (fun _ _ h => h.elim), (Below.heap_alloc _ _ _ (by simpa using HO.out)).trans (blk1_set HB0.out), Ar.made (alloc_blk (by simp [World.setCell])) rfl, fun _ => Nat.zero_le _, rfl⟩
  case round =>
    obtain ⟨j, fv, hk, rfl, hext, hblk, har, hfl, hfe⟩ := hrel
    have HK := hid hk
    have HEX := hid hext
    have HBL := hid hblk
    have HAR := hid har
    have HFL := hid hfl
    have HFE := hid hfe
    have HTR := hid (HTX.out.ext hext (by have := HO0.out; omega))
    have hgw := HGX.out.ext hext HGO.out
    have hgl := hgw.lt
    by_cases hj : j < row.length
    · obtain ⟨i, hi⟩ := get_lt hj
      obtain ⟨rb, ro, rfl, _, hrb, x1⟩ := row_nat (HR.out.ext hext (fun b hb _ => HKO.out b hb)) hi
      have hin : i < n := HRW.out i (List.mem_of_getElem? hi)
      have hi64 : i < 64 := by have := HF.out.n_; omega
      have c1 := hgw.at_ i hi64
      have hj0 : (0 : Int) ≤ j := by omega
      have hjr : (j : Int) < row.length := by omega
      have hi0 : (0 : Int) ≤ i := by omega
      have hi1 : (i : Int) < 64 := by omega
      have hi2 : (i : Int) < n := by omega
      have HI := hid hi
      have HIN := hid hin
      clear hk hext hblk har hfl hfe hgw hj hi hin hi64
      go_wp2_with (first | ((with_reducible refine wp_region_plan (id := 7) (.eff [(false, 0), (false, 1), (false, 2), (false, 3), (false, 4), (false, 5), (false, 6), (false, 7), (false, 8), (false, 9), (false, 10), (false, 11), (false, 12)] 13 [] (.fin [])) ?_ ?_ ?_ ?_ ?_ ?_); kernel_rfl; kernel_rfl; kernel_rfl; kernel_rfl; (intro c a d v w h; cases d <;> exact h)) | (with_reducible refine wpPlan_eff ?_) | (with_reducible refine wpPlan_fin ?_) | (with_reducible refine wpPlan_two ?_) | (with_reducible refine wpOpPair ?_ ?_) | ((with_reducible apply wpPre_keep); rfl; intro K' hK'; go_simp; refine hK' _ _ ?_; intro f hf; clear hK' K') | ((with_reducible apply wpPre_drop); rfl; intro K' hK'; go_simp; refine hK' _ _ ?_; intro f; clear hK' K') | (with_reducible refine wpPre_nil ?_) | ((with_reducible apply wpOp_list); rfl) | (with_reducible refine heldPair ?_ ?_) | ((with_reducible refine heldH_no ?_ ?_); rfl) | (with_reducible refine heldH_yes ?_ ?_) | (with_reducible exact heldH_nil) | (unfold YAt; go_simp; done) | (go_at_call 23; refine (list_any HTR.out (HF.out.lt i)).mono ?_; rintro e w2 ⟨v2, g2, rfl, hn2⟩; have HLN := hid hn2.low; have HL2 := hid hn2.row; obtain ⟨A2, c2, rfl, _, _⟩ := HL2.out.form; clear hn2))
      have HBL2 := hid ((HLN.out.block o (Array.getElem?_eq_some_iff.1 HBL.out).1).trans HBL.out)
      have HL3 : Hid (natE.Row (fun b => X.heap.size < b) w2 (.slice A2 (nodes (on i)).length c2) (nodes (on i))) := hid (HL2.out.mono (fun b hb _ => by have := HAR.out.lt; omega))
      have HEX2 : Hid (Ext (fun b => b = o) X w2) := hid (HEX.out.trans (T := fun _ => False) (Ext.of_below HLN.out) (fun _ _ h => h.elim))
      go_loopg [26] (nodes (on i)).length (fun k vi w3 => ∃ (q : Nat) (fq : Nat → Nat), q + k = (nodes (on i)).length ∧ vi = .int .i64 (q : Int) ∧ Ext (fun b => b = X.heap.size) w2 w3 ∧ Ar natV 3 w3 X.heap.size n fq ∧ (∀ x, fq x ≤ 64 * j + q) ∧ fq = ((nodes (on i)).take q).foldl (maxIn i) fv)
      case atStart => exact ⟨0, fv, by omega, rfl, Ext.refl _ _, HAR.out.below HLN.out, fun x => by have := HFL.out x; omega, rfl⟩
      case round =>
        obtain ⟨q, fq, hq, rfl, he3, ha3, hfl3, hfe3⟩ := hrel
        have HQ := hid hq
        have HE3 := hid he3
        have HA3 := hid ha3
        have HFL3 := hid hfl3
        have HFE3 := hid hfe3
        have hsl := ha3.lt
        have hb3 := (he3.block o (Array.getElem?_eq_some_iff.1 HBL2.out).1 (by have := HO.out; omega)).trans HBL2.out
        have ol3 := (Array.getElem?_eq_some_iff.1 hb3).1
        have co3 := cell_blk hb3 0
        simp only [List.getElem?_toArray, List.getElem?_cons_zero] at co3
        have HB3 := hid hb3
        by_cases hql : q < (nodes (on i)).length
        · obtain ⟨kk, hkk⟩ := get_lt hql
          obtain ⟨lb, lo, rfl, hlb0, hlb, y1⟩ := row_nat (HL3.out.ext he3 (fun b hb _ => by omega)) hkk
          have hkn : kk < n := HF.out.in_ i kk (List.mem_of_getElem? hkk)
          have d1 := ha3.at_ i HIN.out
          have d2 := ha3.at_ kk hkn
          have fz3 := ha3.frz i
          have hq0 : (0 : Int) ≤ q := by omega
          have hq1 : (q : Int) < (nodes (on i)).length := by omega
          have hk0 : (0 : Int) ≤ kk := by omega
          have hk1 : (kk : Int) < n := by omega
          have hnl : ((nodes (on i)).length : Int) ≤ 64 := by have := nodes_len (on i); omega
          have hmx := max_int (fq i) (fq kk + 1)
          have hfk : (fq kk : Int) ≤ 10000 := by have := hfl3 kk; have := nodes_len (on i); omega
          have hfk0 : (0 : Int) ≤ (fq kk : Int) := by omega
          have hw1 : IntKind.i64.wrap ((fq kk : Int) + 1) = ((fq kk + 1 : Nat) : Int) := IntWalk.i64_in _ (by omega)
          have HQK := hid hkk
          by_cases hmm : fq i < fq kk + 1
          · have hm1 : (fq i : Int) < (fq kk : Int) + 1 := by omega
            have HMV : Hid (maxIn i fq kk = upd fq i (fq kk + 1)) := hid (by unfold maxIn; rw [Nat.max_eq_right (by omega)])
            clear hq he3 ha3 hfl3 hfe3 hb3 hql hkk hkn hmm
            go_wp2_with (first | ((with_reducible refine wp_region_plan (id := 7) (.eff [(false, 0), (false, 1), (false, 2), (false, 3), (false, 4), (false, 5), (false, 6), (false, 7), (false, 8), (false, 9), (false, 10), (false, 11), (false, 12)] 13 [] (.fin [])) ?_ ?_ ?_ ?_ ?_ ?_); kernel_rfl; kernel_rfl; kernel_rfl; kernel_rfl; (intro c a d v w h; cases d <;> exact h)) | (with_reducible refine wpPlan_eff ?_) | (with_reducible refine wpPlan_fin ?_) | (with_reducible refine wpPlan_two ?_) | (with_reducible refine wpOpPair ?_ ?_) | ((with_reducible apply wpPre_keep); rfl; intro K' hK'; go_simp; refine hK' _ _ ?_; intro f hf; clear hK' K') | ((with_reducible apply wpPre_drop); rfl; intro K' hK'; go_simp; refine hK' _ _ ?_; intro f; clear hK' K') | (with_reducible refine wpPre_nil ?_) | ((with_reducible apply wpOp_list); rfl) | (with_reducible refine heldPair ?_ ?_) | ((with_reducible refine heldH_no ?_ ?_); rfl) | (with_reducible refine heldH_yes ?_ ?_) | (with_reducible exact heldH_nil) | (unfold YAt; go_simp; done))
            go_roundg ((nodes (on i)).length - (q + 1))
            case measure => have := HQ.out; have := get_len HQK.out; omega
            case rel =>
              refine ⟨q + 1, maxIn i fq kk, by have := get_len HQK.out; omega, rfl, HE3.out.trans (T := fun b => b = X.heap.size) (ext_drew (Ext.setCell (S := fun b => b = X.heap.size) wr ⟨X.heap.size, i, none⟩ _ rfl)) (fun _ _ h => h), ?_, fun x => ?_, ?_⟩
              · rw [HMV.out]
                exact Ar.step (w := wr.setCell ⟨X.heap.size, i, none⟩ (natV (fq kk + 1))) (HA3.out.set i (fq kk + 1) HIN.out) rfl
              · have h1 := HFL3.out x
                have h2 := HFL3.out i
                have h3 := HFL3.out kk
                unfold maxIn upd
                split <;> omega
              · rw [take_next HQK.out, List.foldl_append, ← HFE3.out]
                rfl
          · have hm1 : ¬ (fq i : Int) < (fq kk : Int) + 1 := by omega
            have HMV : Hid (maxIn i fq kk = upd fq i (fq i)) := hid (by unfold maxIn; rw [Nat.max_eq_left (by omega)])
            clear hq he3 ha3 hfl3 hfe3 hb3 hql hkk hkn hmm
            go_wp2_with (first | ((with_reducible refine wp_region_plan (id := 7) (.eff [(false, 0), (false, 1), (false, 2), (false, 3), (false, 4), (false, 5), (false, 6), (false, 7), (false, 8), (false, 9), (false, 10), (false, 11), (false, 12)] 13 [] (.fin [])) ?_ ?_ ?_ ?_ ?_ ?_); kernel_rfl; kernel_rfl; kernel_rfl; kernel_rfl; (intro c a d v w h; cases d <;> exact h)) | (with_reducible refine wpPlan_eff ?_) | (with_reducible refine wpPlan_fin ?_) | (with_reducible refine wpPlan_two ?_) | (with_reducible refine wpOpPair ?_ ?_) | ((with_reducible apply wpPre_keep); rfl; intro K' hK'; go_simp; refine hK' _ _ ?_; intro f hf; clear hK' K') | ((with_reducible apply wpPre_drop); rfl; intro K' hK'; go_simp; refine hK' _ _ ?_; intro f; clear hK' K') | (with_reducible refine wpPre_nil ?_) | ((with_reducible apply wpOp_list); rfl) | (with_reducible refine heldPair ?_ ?_) | ((with_reducible refine heldH_no ?_ ?_); rfl) | (with_reducible refine heldH_yes ?_ ?_) | (with_reducible exact heldH_nil) | (unfold YAt; go_simp; done))
            go_roundg ((nodes (on i)).length - (q + 1))
            case measure => have := HQ.out; have := get_len HQK.out; omega
            case rel =>
              refine ⟨q + 1, maxIn i fq kk, by have := get_len HQK.out; omega, rfl, HE3.out.trans (T := fun b => b = X.heap.size) (ext_drew (Ext.setCell (S := fun b => b = X.heap.size) wr ⟨X.heap.size, i, none⟩ _ rfl)) (fun _ _ h => h), ?_, fun x => ?_, ?_⟩
              · rw [HMV.out]
                exact Ar.step (w := wr.setCell ⟨X.heap.size, i, none⟩ (natV (fq i))) (HA3.out.set i (fq i) HIN.out) rfl
              · have h1 := HFL3.out x
                have h2 := HFL3.out i
                have h3 := HFL3.out kk
                unfold maxIn upd
                split <;> omega
              · rw [take_next HQK.out, List.foldl_append, ← HFE3.out]
                rfl
        · have hq1 : ¬ (q : Int) < (nodes (on i)).length := by omega
          have HQL := hid hql
          clear hq he3 ha3 hfl3 hfe3 hb3 hql
          go_wp2_with (first | ((with_reducible refine wp_region_plan (id := 7) (.eff [(false, 0), (false, 1), (false, 2), (false, 3), (false, 4), (false, 5), (false, 6), (false, 7), (false, 8), (false, 9), (false, 10), (false, 11), (false, 12)] 13 [] (.fin [])) ?_ ?_ ?_ ?_ ?_ ?_); kernel_rfl; kernel_rfl; kernel_rfl; kernel_rfl; (intro c a d v w h; cases d <;> exact h)) | (with_reducible refine wpPlan_eff ?_) | (with_reducible refine wpPlan_fin ?_) | (with_reducible refine wpPlan_two ?_) | (with_reducible refine wpOpPair ?_ ?_) | ((with_reducible apply wpPre_keep); rfl; intro K' hK'; go_simp; refine hK' _ _ ?_; intro f hf; clear hK' K') | ((with_reducible apply wpPre_drop); rfl; intro K' hK'; go_simp; refine hK' _ _ ?_; intro f; clear hK' K') | (with_reducible refine wpPre_nil ?_) | ((with_reducible apply wpOp_list); rfl) | (with_reducible refine heldPair ?_ ?_) | ((with_reducible refine heldH_no ?_ ?_); rfl) | (with_reducible refine heldH_yes ?_ ?_) | (with_reducible exact heldH_nil) | (unfold YAt; go_simp; done))
          go_roundg (row.length - (j + 1))
          case measure => have := HK.out; have := get_len HI.out; omega
          case rel =>
            have e : levF on (row.take (j + 1)) = fq := by
              rw [HFE3.out, take_next HI.out, List.take_of_length_le (l := nodes (on i)) (by have := HQL.out; omega), HFE.out]
              unfold levF
              rw [List.foldl_append]
              rfl
            refine ⟨j + 1, fq, by have := get_len HI.out; omega, rfl, HEX2.out.trans HE3.out (fun x hx e => by omega), HB3.out, HA3.out, fun x => ?_, e.symm⟩
            have := HFL3.out x
            have := nodes_len (on i)
            have := HQ.out
            omega
    · have hjr : ¬ (j : Int) < row.length := by omega
      have HJ := hid hj
      clear hk hext hblk har hfl hfe hgw hj
      go_wp2_with (first | ((with_reducible refine wp_region_plan (id := 7) (.eff [(false, 0), (false, 1), (false, 2), (false, 3), (false, 4), (false, 5), (false, 6), (false, 7), (false, 8), (false, 9), (false, 10), (false, 11), (false, 12)] 13 [] (.fin [])) ?_ ?_ ?_ ?_ ?_ ?_); kernel_rfl; kernel_rfl; kernel_rfl; kernel_rfl; (intro c a d v w h; cases d <;> exact h)) | (with_reducible refine wpPlan_eff ?_) | (with_reducible refine wpPlan_fin ?_) | (with_reducible refine wpPlan_two ?_) | (with_reducible refine wpOpPair ?_ ?_) | ((with_reducible apply wpPre_keep); rfl; intro K' hK'; go_simp; refine hK' _ _ ?_; intro f hf; clear hK' K') | ((with_reducible apply wpPre_drop); rfl; intro K' hK'; go_simp; refine hK' _ _ ?_; intro f; clear hK' K') | (with_reducible refine wpPre_nil ?_) | ((with_reducible apply wpOp_list); rfl) | (with_reducible refine heldPair ?_ ?_) | ((with_reducible refine heldH_no ?_ ?_); rfl) | (with_reducible refine heldH_yes ?_ ?_) | (with_reducible exact heldH_nil) | (unfold YAt; go_simp; done))
      go_end0
      have h := HFE.out
      rw [List.take_of_length_le (by have := HJ.out; omega)] at h
      refine ⟨rfl, HEX.out, _, HBL.out, ?_⟩
      rw [← h]
      exact HAR.out.row (h1 := fun _ => rfl) (Nat.le_refl _) (by have := HF.out.n_; unfold maxLen; omega)
end Go.Proofs.YtomhpbhkckjmdaaDoorRR
