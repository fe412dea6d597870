/- What leads to each node. -/
import Derived.Test.YtomhpbhkckjmdaaDoorRRDgF
namespace Go.Proofs.YtomhpbhkckjmdaaDoorRR
open Go.RowKit

def upd (f : Nat → Nat) (i x : Nat) : Nat → Nat := fun j => if j = i then x else f j
/-- A row of one cell an element, of one owner. -/
structure Ar (enc : Nat → Value) (E : TypeId) (w : World) (b n : Nat) (f : Nat → Nat) : Prop where
  blk : ∃ cur, w.heap[b]? = some (.cells cur E (0, 0)) ∧ cur.size = n
  at_ : ∀ i, i < n → w.cell? ⟨b, i, none⟩ = some (enc (f i))
namespace Ar
variable {enc : Nat → Value} {E : TypeId} {w w' : World} {b n : Nat} {f : Nat → Nat}
theorem lt (h : Ar enc E w b n f) : b < w.heap.size := by
  obtain ⟨cur, h1, _⟩ := h.blk
  exact (Array.getElem?_eq_some_iff.1 h1).1
theorem frz (h : Ar enc E w b n f) (o : Nat) : w.frozen? ⟨b, o, none⟩ = false := by
  obtain ⟨cur, h1, _⟩ := h.blk
  exact frz_blk h1 o
theorem step (h : Ar enc E w b n f) (hb : w'.heap[b]? = w.heap[b]?) : Ar enc E w' b n f := by
  obtain ⟨cur, h1, h2⟩ := h.blk
  exact ⟨⟨cur, hb.trans h1, h2⟩, fun i hi => (World.cell?_of_block (w := w) hb).trans (h.at_ i hi)⟩
theorem below (h : Ar enc E w b n f) (hb : Below w.heap.size w w') : Ar enc E w' b n f := h.step (hb.block b h.lt)
theorem ext {S : Nat → Prop} (h : Ar enc E w b n f) (hb : Ext S w w') (hS : ¬ S b) : Ar enc E w' b n f := h.step (hb.block b h.lt hS)
theorem set (h : Ar enc E w b n f) (i x : Nat) (hi : i < n) : Ar enc E (w.setCell ⟨b, i, none⟩ (enc x)) b n (upd f i x) := by
  obtain ⟨cur, h1, h2⟩ := h.blk
  refine ⟨⟨cur.setIfInBounds i (enc x), by simp [World.setCell, Array.getElem?_modify, h1], by simp [h2]⟩, fun j hj => ?_⟩
  unfold upd
  by_cases hji : j = i
  · subst hji
    rw [if_pos rfl]
    simp only [World.cell?, World.setCell, Array.getElem?_modify, h1, if_true]
    rw [Option.map_some]
    simp only [Option.isSome_none, Bool.false_eq_true, if_false]
    rw [Array.getElem?_setIfInBounds_self_of_lt (by rw [h2]; omega)]
  · rw [if_neg hji, World.cell?_setCell_other (h := fun e => hji (by have := congrArg Addr.off e; simp at this; omega))]
    exact h.at_ j hj
theorem row (h : Ar enc E w b n f) {h1 : ∀ x, (enc x).oneCell' = true} {K : Nat → Prop} (hK : K b) (hn : n ≤ maxLen) : (Enc.scalar enc h1).Row K w (.slice (some ⟨b, 0, none⟩) n n) ((List.range n).map f) := by
  refine ⟨some ⟨b, 0, none⟩, n, by simp, by simp, hn, fun _ => ⟨b, 0, rfl, hK, h.lt, fun i hi => ?_⟩⟩
  simp only [List.length_map, List.length_range] at hi
  refine ⟨[enc (f i)], by simp [Enc.scalar], fun j u hj => ?_⟩
  cases j with
  | zero =>
    simp only [List.getElem?_cons_zero, Option.some.injEq] at hj
    subst hj
    have := h.at_ i hi
    simpa [Enc.scalar] using this
  | succ j => simp at hj
theorem made {x : Nat} {z : Value} (h : w.heap[b]? = some (.cells (madeCells #[z] n) E (0, 0))) (hz : z = enc x) : Ar enc E w b n (fun _ => x) := by
  refine ⟨⟨_, h, by simp [madeCells]⟩, fun i hi => ?_⟩
  rw [cell_blk h, ← hz]
  simp [madeCells, hi, Nat.mod_one]
end Ar
theorem row_nat {K : Nat → Prop} {w : World} {A : Option Addr} {n c : Nat} {xs : List Nat} (h : natE.Row K w (.slice A n c) xs) {i a : Nat} (hi : xs[i]? = some a) : ∃ b off, A = some ⟨b, off, none⟩ ∧ K b ∧ b < w.heap.size ∧ w.cell? ⟨b, off + i, none⟩ = some (.int .i64 (a : Int)) := by
  obtain ⟨hj, rfl⟩ := List.getElem?_eq_some_iff.1 hi
  obtain ⟨b, off, cs, e, hk, hl, h1, h2⟩ := h.get i hj
  have h1 : cs = [_] := h1
  subst h1
  have := h2 0 _ rfl
  exact ⟨b, off, e, hk, hl, by simpa [Enc.scalar, natE] using this⟩
abbrev setV (x : Nat) : Value := .int .u64 (x : Int)
abbrev natV (x : Nat) : Value := .int .i64 (x : Int)
theorem info53 : (Tryd.prog.info? 53).map (fun i => (i.zero, i.size, i.bytes)) = some (some (.int .u64 0), 1, 8) := by kernel_rfl
theorem make_sets {n : Nat} (h : n ≤ 64) (W : World) : (Instr.makeSlice 50 (.int .i64 n) (.int .i64 n)).run Tryd.prog W = .ok (.slice (some ⟨W.heap.size, 0, none⟩) n n) (W.alloc (.cells (madeCells #[.int .u64 0] n) 53)) := by
  obtain ⟨i0, hi, hz0, hz1, hz2⟩ := info_parts info53
  have := run_make (P := Tryd.prog) (w := W) 50 53 i0 _ Tryd.underlying50 hi hz0 .i64 .i64 (n : Int) n (by omega) (Int.le_refl _) (by rw [hz2]; omega) (by omega)
  rw [hz1] at this
  simpa [Value.cells] using this
theorem make_ints {n : Nat} (h : n ≤ 64) (W : World) : (Instr.makeSlice 25 (.int .i64 n) (.int .i64 n)).run Tryd.prog W = .ok (.slice (some ⟨W.heap.size, 0, none⟩) n n) (W.alloc (.cells (madeCells #[.int .i64 0] n) 3)) := by
  obtain ⟨i0, hi, hz0, hz1, hz2⟩ := info_parts info3
  have := run_make (P := Tryd.prog) (w := W) 25 3 i0 _ Tryd.underlying25 hi hz0 .i64 .i64 (n : Int) n (by omega) (Int.le_refl _) (by rw [hz2]; omega) (by omega)
  rw [hz1] at this
  simpa [Value.cells] using this
/-- A graph whose nodes lean on nodes. -/
structure Fit (n : Nat) (on : Nat → Nat) : Prop where
  n_ : n ≤ 64
  lt : ∀ i, on i < M64
  in_ : ∀ i k, k ∈ nodes (on i) → k < n
def orIn (i : Nat) (f : Nat → Nat) (k : Nat) : Nat → Nat := upd f i (f i ||| f k)
def stepRe (on : Nat → Nat) (f : Nat → Nat) (i : Nat) : Nat → Nat := (nodes (on i)).foldl (orIn i) (upd f i (on i))
def reachF (on : Nat → Nat) (row : List Nat) : Nat → Nat := row.foldl (stepRe on) (fun _ => 0)
theorem orIn_lt {i k : Nat} {f : Nat → Nat} (h : ∀ j, f j < M64) : ∀ j, orIn i f k j < M64 := by
  intro j
  unfold orIn upd
  split
  · exact or_lt64 (h _) (h _)
  · exact h j
theorem fold_lt {i : Nat} : ∀ (l : List Nat) (f : Nat → Nat), (∀ j, f j < M64) → ∀ j, l.foldl (orIn i) f j < M64
  | [], _, h => h
  | _ :: l, _, h => fold_lt l _ (orIn_lt h)
theorem upd_lt {i x : Nat} {f : Nat → Nat} (h : ∀ j, f j < M64) (hx : x < M64) : ∀ j, upd f i x j < M64 := by
  intro j
  unfold upd
  split
  · exact hx
  · exact h j
theorem stepRe_lt {on : Nat → Nat} (hon : ∀ i, on i < M64) {f : Nat → Nat} (h : ∀ j, f j < M64) (i : Nat) : ∀ j, stepRe on f i j < M64 := fold_lt _ _ (upd_lt h (hon i))
def ReP (n : Nat) (on : Nat → Nat) (row : List Nat) (w : World) (e : Ending) (w' : World) : Prop :=
  Below w.heap.size w w' ∧ ∃ b, e = .returned (.slice (some ⟨b, 0, none⟩) n n) ∧ w.heap.size ≤ b ∧ Ar setV 53 w' b n (reachF on row)
set_option maxHeartbeats 8000000 in
theorem reach_any {w : World} {gb n : Nat} {on : Nat → Nat} {row : List Nat} {vr : Value} {K : Nat → Prop} (hT : Tab w) (hg : Gr w gb n on) (hF : Fit n on) (hr : natE.Row K w vr row) (hrow : ∀ i ∈ row, i < n) : Calls Tryd.prog 22 #[.pointer (some ⟨gb, 0, none⟩), vr] w (ReP n on row w) := by
  obtain ⟨A, cp, rfl, _, _⟩ := hr.form
  have n0 := hg.n_
  have hgl := hg.lt
  have HT := hid hT
  have HG := hid hg
  have HF := hid hF
  have HR := hid hr
  have HRW := hid hrow
  have hmk := make_sets hF.n_
  have hn1 : (n : Int) ≤ 64 := by have := hF.n_; omega
  clear hT hg hF hr hrow
  go_enter Tryd.func22, Tryd.ntmps22
  go_wp2_with (first | ((with_reducible refine wp_region_plan (id := 9) (.eff [(false, 0), (false, 1), (false, 2), (false, 3), (false, 4), (false, 5), (false, 6), (false, 7), (false, 8), (false, 9)] 10 [] (.fin [])) ?_ ?_ ?_ ?_ ?_ ?_); kernel_rfl; kernel_rfl; kernel_rfl; kernel_rfl; (intro c a d v w h; cases d <;> exact h)) | (with_reducible refine wpPlan_eff ?_) | (with_reducible refine wpPlan_fin ?_) | (with_reducible refine wpPlan_two ?_) | (with_reducible refine wpOpPair ?_ ?_) | ((with_reducible apply wpPre_keep); rfl; intro K' hK'; go_simp; refine hK' _ _ ?_; intro f hf; clear hK' K') | ((with_reducible apply wpPre_drop); rfl; intro K' hK'; go_simp; refine hK' _ _ ?_; intro f; clear hK' K') | (with_reducible refine wpPre_nil ?_) | ((with_reducible apply wpOp_list); rfl) | (with_reducible refine heldPair ?_ ?_) | ((with_reducible refine heldH_no ?_ ?_); rfl) | (with_reducible refine heldH_yes ?_ ?_) | (with_reducible exact heldH_nil) | (unfold YAt; go_simp; done))
  go_loopg [17] row.length (fun k vi wr => ∃ j : Nat, j + k = row.length ∧ vi = .int .i64 (j : Int) ∧ Below w.heap.size w wr ∧ Ar setV 53 wr w.heap.size n (reachF on (row.take j)) ∧ (∀ i, reachF on (row.take j) i < M64))
  case atStart => exact ⟨0, by omega, rfl, (by repeat (first | (with_reducible exact Below.refl _ _) | (with_reducible exact bl_mm) | (with_reducible refine bl_dr ?_) | (with_reducible refine bl_drN ?_ _) | (with_reducible refine bl_al ?_ _) | (with_reducible refine bl_more ?_ _ _))), Ar.made (alloc_blk rfl) rfl, fun _ => (by decide : (0 : Nat) < M64)⟩
  case round =>
    obtain ⟨j, hk, rfl, hbw, har, hlt⟩ := hrel
    have HK := hid hk
    have HBW := hid hbw
    have HAR := hid har
    have HLT := hid hlt
    have hol := har.lt
    have HTW := hid (HT.out.below hbw)
    have HGW := hid (HG.out.below hbw)
    by_cases hj : j < row.length
    · obtain ⟨i, hi⟩ := get_lt hj
      obtain ⟨rb, ro, rfl, _, hrb, x1⟩ := row_nat (HR.out.below hbw) hi
      have hin : i < n := HRW.out i (List.mem_of_getElem? hi)
      have hi64 : i < 64 := by have := HF.out.n_; omega
      have c1 := HGW.out.at_ i hi64
      have c2 := har.at_ i hin
      have fz2 := har.frz i
      have hj0 : (0 : Int) ≤ j := by omega
      have hjr : (j : Int) < row.length := by omega
      have hi0 : (0 : Int) ≤ i := by omega
      have hi1 : (i : Int) < 64 := by omega
      have hi2 : (i : Int) < n := by omega
      have HI := hid hi
      have HIN := hid hin
      clear hk hbw har hlt hj hi hin hi64
      go_wp2_with (first | ((with_reducible refine wp_region_plan (id := 9) (.eff [(false, 0), (false, 1), (false, 2), (false, 3), (false, 4), (false, 5), (false, 6), (false, 7), (false, 8), (false, 9)] 10 [] (.fin [])) ?_ ?_ ?_ ?_ ?_ ?_); kernel_rfl; kernel_rfl; kernel_rfl; kernel_rfl; (intro c a d v w h; cases d <;> exact h)) | (with_reducible refine wpPlan_eff ?_) | (with_reducible refine wpPlan_fin ?_) | (with_reducible refine wpPlan_two ?_) | (with_reducible refine wpOpPair ?_ ?_) | ((with_reducible apply wpPre_keep); rfl; intro K' hK'; go_simp; refine hK' _ _ ?_; intro f hf; clear hK' K') | ((with_reducible apply wpPre_drop); rfl; intro K' hK'; go_simp; refine hK' _ _ ?_; intro f; clear hK' K') | (with_reducible refine wpPre_nil ?_) | ((with_reducible apply wpOp_list); rfl) | (with_reducible refine heldPair ?_ ?_) | ((with_reducible refine heldH_no ?_ ?_); rfl) | (with_reducible refine heldH_yes ?_ ?_) | (with_reducible exact heldH_nil) | (unfold YAt; go_simp; done) | (go_at_call 23; refine (list_any (HTW.out.ext (Ext.setCell (S := fun x => x = w.heap.size) wr ⟨w.heap.size, i, none⟩ (.int .u64 (on i : Int)) rfl) (by have := HT.out.lt; omega)) (HF.out.lt i)).mono ?_; rintro e w2 ⟨v2, g2, rfl, hn2⟩; have HA2 := hid ((HAR.out.set i (on i) HIN.out).below hn2.low); have HL2 := hid hn2.row; have HB2 := hid ((Below.setCell HBW.out (Nat.le_refl _) _ : Below w.heap.size w (wr.setCell ⟨w.heap.size, i, none⟩ (.int .u64 (on i : Int)))).trans (hn2.low.mono (by have := HBW.out.size; simpa using this))); clear hn2; obtain ⟨A2, c2, rfl, _, _⟩ := HL2.out.form))
      go_loopg [38] (nodes (on i)).length (fun k vi w3 => ∃ (q : Nat) (fq : Nat → Nat), q + k = (nodes (on i)).length ∧ vi = .int .i64 (q : Int) ∧ Below w.heap.size w w3 ∧ natE.Row (fun x => w.heap.size < x) w3 (.slice A2 (nodes (on i)).length c2) (nodes (on i)) ∧ Ar setV 53 w3 w.heap.size n fq ∧ (∀ x, fq x < M64) ∧ fq = ((nodes (on i)).take q).foldl (orIn i) (upd (reachF on (row.take j)) i (on i)))
      case atStart =>
        refine ⟨0, _, by omega, rfl, HB2.out, HL2.out.mono (fun x hx _ => ?_), HA2.out, upd_lt HLT.out (HF.out.lt i), rfl⟩
        have := HBW.out.size
        simp at hx
        have := HAR.out.lt
        omega
      case round =>
        obtain ⟨q, fq, hq, rfl, hb3, hl3, ha3, hfl, hfe⟩ := hrel
        have HQ := hid hq
        have HB3 := hid hb3
        have HL3 := hid hl3
        have HA3 := hid ha3
        have HFL := hid hfl
        have HFE := hid hfe
        have hol3 := ha3.lt
        by_cases hql : q < (nodes (on i)).length
        · obtain ⟨kk, hkk⟩ := get_lt hql
          obtain ⟨lb, lo, rfl, hlb0, hlb, y1⟩ := row_nat hl3 hkk
          have hkn : kk < n := HF.out.in_ i kk (List.mem_of_getElem? hkk)
          have d1 := ha3.at_ i HIN.out
          have d2 := ha3.at_ kk hkn
          have fz3 := ha3.frz i
          have hbo := bits_or_u64_nat _ _ (hfl i) (hfl kk)
          have hq0 : (0 : Int) ≤ q := by omega
          have hq1 : (q : Int) < (nodes (on i)).length := by omega
          have hk0 : (0 : Int) ≤ kk := by omega
          have hk1 : (kk : Int) < n := by omega
          have HQK := hid hkk
          clear hq hb3 hl3 ha3 hql hkk hkn hfl hfe
          have hnl : ((nodes (on i)).length : Int) ≤ 64 := by have := nodes_len (on i); omega
          go_wp2_with (first | ((with_reducible refine wp_region_plan (id := 9) (.eff [(false, 0), (false, 1), (false, 2), (false, 3), (false, 4), (false, 5), (false, 6), (false, 7), (false, 8), (false, 9)] 10 [] (.fin [])) ?_ ?_ ?_ ?_ ?_ ?_); kernel_rfl; kernel_rfl; kernel_rfl; kernel_rfl; (intro c a d v w h; cases d <;> exact h)) | (with_reducible refine wpPlan_eff ?_) | (with_reducible refine wpPlan_fin ?_) | (with_reducible refine wpPlan_two ?_) | (with_reducible refine wpOpPair ?_ ?_) | ((with_reducible apply wpPre_keep); rfl; intro K' hK'; go_simp; refine hK' _ _ ?_; intro f hf; clear hK' K') | ((with_reducible apply wpPre_drop); rfl; intro K' hK'; go_simp; refine hK' _ _ ?_; intro f; clear hK' K') | (with_reducible refine wpPre_nil ?_) | ((with_reducible apply wpOp_list); rfl) | (with_reducible refine heldPair ?_ ?_) | ((with_reducible refine heldH_no ?_ ?_); rfl) | (with_reducible refine heldH_yes ?_ ?_) | (with_reducible exact heldH_nil) | (unfold YAt; go_simp; done))
          go_roundg ((nodes (on i)).length - (q + 1))
          case measure => have := HQ.out; have := get_len HQK.out; omega
          case rel =>
            refine ⟨q + 1, upd fq i (fq i ||| fq kk), by have := get_len HQK.out; omega, rfl, Below.drew (Below.setCell HB3.out (Nat.le_refl _) _), ?_, (HA3.out.set i (fq i ||| fq kk) HIN.out).below (by repeat (first | (with_reducible exact Below.refl _ _) | (with_reducible exact bl_mm) | (with_reducible refine bl_dr ?_) | (with_reducible refine bl_drN ?_ _) | (with_reducible refine bl_al ?_ _) | (with_reducible refine bl_more ?_ _ _))), upd_lt HFL.out (or_lt64 (HFL.out _) (HFL.out _)), ?_⟩
            · exact HL3.out.step (fun x hx _ => Below.heap_setCell _ _ _ _ (by show x ≠ w.heap.size; omega))
            · rw [take_next HQK.out, List.foldl_append, ← HFE.out]
              rfl
        · have hq1 : ¬ (q : Int) < (nodes (on i)).length := by omega
          have HQL := hid hql
          clear hq hb3 hl3 ha3 hql hfl hfe
          have hjl : (row.length : Int) ≤ 9223372036854775807 := by have := HR.out.form; obtain ⟨_, _, he, h1, h2⟩ := this; unfold maxLen at h2; omega
          go_wp2_with (first | ((with_reducible refine wp_region_plan (id := 9) (.eff [(false, 0), (false, 1), (false, 2), (false, 3), (false, 4), (false, 5), (false, 6), (false, 7), (false, 8), (false, 9)] 10 [] (.fin [])) ?_ ?_ ?_ ?_ ?_ ?_); kernel_rfl; kernel_rfl; kernel_rfl; kernel_rfl; (intro c a d v w h; cases d <;> exact h)) | (with_reducible refine wpPlan_eff ?_) | (with_reducible refine wpPlan_fin ?_) | (with_reducible refine wpPlan_two ?_) | (with_reducible refine wpOpPair ?_ ?_) | ((with_reducible apply wpPre_keep); rfl; intro K' hK'; go_simp; refine hK' _ _ ?_; intro f hf; clear hK' K') | ((with_reducible apply wpPre_drop); rfl; intro K' hK'; go_simp; refine hK' _ _ ?_; intro f; clear hK' K') | (with_reducible refine wpPre_nil ?_) | ((with_reducible apply wpOp_list); rfl) | (with_reducible refine heldPair ?_ ?_) | ((with_reducible refine heldH_no ?_ ?_); rfl) | (with_reducible refine heldH_yes ?_ ?_) | (with_reducible exact heldH_nil) | (unfold YAt; go_simp; done))
          go_roundg (row.length - (j + 1))
          case measure => have := HK.out; have := get_len HI.out; omega
          case rel =>
            have e : reachF on (row.take (j + 1)) = fq := by
              rw [HFE.out, take_next HI.out, List.take_of_length_le (l := nodes (on i)) (by have := HQL.out; omega)]
              unfold reachF
              rw [List.foldl_append]
              rfl
            refine ⟨j + 1, by have := get_len HI.out; omega, rfl, HB3.out, ?_, ?_⟩
            · rw [e]; exact HA3.out
            · rw [e]; exact HFL.out
    · have hjr : ¬ (j : Int) < row.length := by omega
      have HJ := hid hj
      clear hk hbw har hlt hj
      go_wp2_with (first | ((with_reducible refine wp_region_plan (id := 9) (.eff [(false, 0), (false, 1), (false, 2), (false, 3), (false, 4), (false, 5), (false, 6), (false, 7), (false, 8), (false, 9)] 10 [] (.fin [])) ?_ ?_ ?_ ?_ ?_ ?_); kernel_rfl; kernel_rfl; kernel_rfl; kernel_rfl; (intro c a d v w h; cases d <;> exact h)) | (with_reducible refine wpPlan_eff ?_) | (with_reducible refine wpPlan_fin ?_) | (with_reducible refine wpPlan_two ?_) | (with_reducible refine wpOpPair ?_ ?_) | ((with_reducible apply wpPre_keep); rfl; intro K' hK'; go_simp; refine hK' _ _ ?_; intro f hf; clear hK' K') | ((with_reducible apply wpPre_drop); rfl; intro K' hK'; go_simp; refine hK' _ _ ?_; intro f; clear hK' K') | (with_reducible refine wpPre_nil ?_) | ((with_reducible apply wpOp_list); rfl) | (with_reducible refine heldPair ?_ ?_) | ((with_reducible refine heldH_no ?_ ?_); rfl) | (with_reducible refine heldH_yes ?_ ?_) | (with_reducible exact heldH_nil) | (unfold YAt; go_simp; done))
      go_ret
      have h := HAR.out
      rw [List.take_of_length_le (by have := HJ.out; omega)] at h
      exact ⟨HBW.out, _, rfl, Nat.le_refl _, h⟩
end Go.Proofs.YtomhpbhkckjmdaaDoorRR
