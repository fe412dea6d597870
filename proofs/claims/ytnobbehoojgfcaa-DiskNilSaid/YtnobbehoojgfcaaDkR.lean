/- Calls. -/
import Derived.Test.YtnobbehoojgfcaaDkQ
namespace Go.Proofs.Ytnobbehoojgfcaa
open Go.RowKit

structure ActD where
  kind : Int
  i : Int
  n : Int
  b : List UInt8
  keep : List Int
def actE : Enc ActD := Enc.iso (Enc.pair intE (Enc.pair intE (Enc.pair intE (Enc.pair (Enc.slice u8E) (Enc.slice intE))))) (fun a => (a.kind, a.i, a.n, a.b, a.keep))
def actCells (a : ActD) (v k : Value) : List Value := [.int .i64 a.kind, .int .i64 a.i, .int .i64 a.n, v, k]
abbrev actV (a : ActD) (v k : Value) : Value := .agg #[.int .i64 a.kind, .int .i64 a.i, .int .i64 a.n, v, k]
theorem actE_open {K : Nat → Prop} {w : World} {a : ActD} {cs : List Value} (h : actE.rd K w a cs) : ∃ v k, cs = actCells a v k ∧ u8E.Row K w v a.b ∧ intE.Row K w k a.keep := by
  obtain ⟨_, _, rfl, rfl, _, _, rfl, rfl, _, _, rfl, rfl, _, _, rfl, ⟨v, rfl, h1⟩, ⟨k, rfl, h2⟩⟩ := h
  exact ⟨v, k, rfl, h1, h2⟩
def okA (a : ActD) : Prop := a.b.length ≤ 3000 ∧ a.keep.length ≤ 200 ∧ a.n ≤ 9223372036854775807
def fewB (l : List ActD) : Bool := decide (l.length ≤ 200) && l.all (fun a => decide (a.b.length ≤ 3000) && decide (a.keep.length ≤ 200))
theorem Row_act {K : Nat → Prop} {w : World} {A : Option Addr} {n c : Nat} {xs : List ActD} (h : actE.Row K w (.slice A n c) xs) (i : Nat) (hi : i < xs.length) :
    ∃ b off B cb D cd, A = some ⟨b, off, none⟩ ∧ b < w.heap.size ∧ K b ∧ u8E.Row K w (.slice B xs[i].b.length cb) xs[i].b ∧ intE.Row K w (.slice D xs[i].keep.length cd) xs[i].keep ∧
      ∀ j u, (actCells xs[i] (.slice B xs[i].b.length cb) (.slice D xs[i].keep.length cd))[j]? = some u → w.cell? ⟨b, off + i * 5 + j, none⟩ = some u := by
  obtain ⟨b, off, cs, rfl, hb, hl, hrd, hc⟩ := h.get i hi
  obtain ⟨v, k, rfl, hv, hk⟩ := actE_open hrd
  obtain ⟨B, cb, rfl, _⟩ := hv.form
  obtain ⟨D, cd, rfl, _⟩ := hk.form
  exact ⟨b, off, B, cb, D, cd, rfl, hl, hb, hv, hk, hc⟩
set_option maxHeartbeats 1000000 in
theorem few_any {K : Nat → Prop} {w : World} {v : Value} {xs : List ActD} (h : actE.Row K w v xs) :
    Calls Try.prog 8 #[v] w fun e w' => e = .returned (.bool (fewB xs)) ∧ Below w.heap.size w w' := by
  obtain ⟨A, c, rfl, h1, h2⟩ := h.form
  have HR := hid h
  clear h h1 h2
  by_cases hl : 200 < xs.length
  · have i0 : (200 : Int) < (xs.length : Int) := by omega
    go_enter Try.func8, Try.ntmps8
    go_wp2
    go_ret
    refine ⟨?_, (by repeat (first | (with_reducible exact Below.refl _ _) | (with_reducible exact bl_mm) | (with_reducible refine bl_dr ?_) | (with_reducible refine bl_drN ?_ _) | (with_reducible refine bl_al ?_ _) | (with_reducible refine bl_more ?_ _ _)))⟩
    have : fewB xs = false := by
      simp only [fewB, Bool.and_eq_false_iff]
      left
      simp; omega
    rw [this]; rfl
  · have i0 : ¬ (200 : Int) < (xs.length : Int) := by omega
    have HL := hid hl
    go_enter Try.func8, Try.ntmps8
    go_wp2
    go_loopg [3] xs.length (fun k i wr => ∃ j : Nat, j + k = xs.length ∧ i = .int .i64 j ∧ (∀ x ∈ xs.take j, x.b.length ≤ 3000 ∧ x.keep.length ≤ 200) ∧ Below w.heap.size w wr)
    case atStart => exact ⟨0, by omega, rfl, by simp, (by repeat (first | (with_reducible exact Below.refl _ _) | (with_reducible exact bl_mm) | (with_reducible refine bl_dr ?_) | (with_reducible refine bl_drN ?_ _) | (with_reducible refine bl_al ?_ _) | (with_reducible refine bl_more ?_ _ _)))⟩
    case round =>
      obtain ⟨j, hj, rfl, hno, hb⟩ := hrel
      obtain ⟨ex, dx, rfl⟩ := more_of hb
      have HN := hid hno
      have HJ := hid hj
      clear hno hb
      by_cases hlt : j < xs.length
      · obtain ⟨bb, off, B, cb, D, cd, rfl, hbl, _, hv, hk, hc⟩ := Row_act HR.out j hlt
        have e3 : w.cell? ⟨bb, off + j * 5 + 3, none⟩ = some (.slice B xs[j].b.length cb) := hc 3 _ rfl
        have e4 : w.cell? ⟨bb, off + j * 5 + 4, none⟩ = some (.slice D xs[j].keep.length cd) := hc 4 _ rfl
        clear hc hv hj hk
        have i1 : (j : Int) < (xs.length : Int) := by omega
        have i3 : (0 : Int) ≤ (j : Int) := by omega
        have w1' : IntKind.i64.wrap ((j : Int) + 1) = ((j + 1 : Nat) : Int) := by rw [IntWalk.i64_in _ (by omega)]; rfl
        have bad : (3000 < xs[j].b.length ∨ 200 < xs[j].keep.length) → fewB xs = false := fun hh => by
          simp only [fewB, Bool.and_eq_false_iff]
          right
          rw [List.all_eq_false]
          exact ⟨xs[j], List.getElem_mem hlt, by simp; omega⟩
        have BAD := hid bad
        clear bad
        by_cases hs : 3000 < xs[j].b.length
        · have i4 : (3000 : Int) < (xs[j].b.length : Int) := by omega
          go_wp2
          go_ret
          refine ⟨?_, (by repeat (first | (with_reducible exact Below.refl _ _) | (with_reducible exact bl_mm) | (with_reducible refine bl_dr ?_) | (with_reducible refine bl_drN ?_ _) | (with_reducible refine bl_al ?_ _) | (with_reducible refine bl_more ?_ _ _)))⟩
          rw [BAD.out (.inl hs)]; rfl
        · have i4 : ¬ (3000 : Int) < (xs[j].b.length : Int) := by omega
          by_cases hs2 : 200 < xs[j].keep.length
          · have i5 : (200 : Int) < (xs[j].keep.length : Int) := by omega
            go_wp2
            go_ret
            refine ⟨?_, (by repeat (first | (with_reducible exact Below.refl _ _) | (with_reducible exact bl_mm) | (with_reducible refine bl_dr ?_) | (with_reducible refine bl_drN ?_ _) | (with_reducible refine bl_al ?_ _) | (with_reducible refine bl_more ?_ _ _)))⟩
            rw [BAD.out (.inr hs2)]; rfl
          · have i5 : ¬ (200 : Int) < (xs[j].keep.length : Int) := by omega
            go_wp2
            go_roundg (xs.length - (j + 1))
            case measure => have := HJ.out; omega
            case rel =>
              refine ⟨j + 1, by have := HJ.out; omega, rfl, fun x hx => ?_, (by repeat (first | (with_reducible exact Below.refl _ _) | (with_reducible exact bl_mm) | (with_reducible refine bl_dr ?_) | (with_reducible refine bl_drN ?_ _) | (with_reducible refine bl_al ?_ _) | (with_reducible refine bl_more ?_ _ _)))⟩
              rw [List.take_succ_eq_append_getElem hlt] at hx
              rcases List.mem_append.1 hx with h | h
              · exact HN.out x h
              · rw [List.mem_singleton.1 h]; omega
      · obtain rfl : j = xs.length := by omega
        have i1 : ¬ (xs.length : Int) < xs.length := by omega
        clear hj
        go_wp2
        go_ret
        refine ⟨?_, (by repeat (first | (with_reducible exact Below.refl _ _) | (with_reducible exact bl_mm) | (with_reducible refine bl_dr ?_) | (with_reducible refine bl_drN ?_ _) | (with_reducible refine bl_al ?_ _) | (with_reducible refine bl_more ?_ _ _)))⟩
        have : fewB xs = true := by
          simp only [fewB, Bool.and_eq_true, decide_eq_true_eq, List.all_eq_true]
          exact ⟨by have := HL.out; omega, fun x hx => HN.out x (by rw [List.take_length]; exact hx)⟩
        rw [this]; rfl

def stepS (a : ActD) (s : DS) : DS :=
  if a.kind = 1 then (syncR s a.i).1 else if a.kind = 2 then (cutR s a.i a.n).1 else if a.kind = 3 then (armR s a.n).1 else if a.kind = 4 then s.crash a.keep else if a.kind = 5 then (growR s a.n).1 else if a.kind = 6 then s else (appR s a.i a.b).1
def Stepped (w0 : World) (d r gF : Nat) (s' : DS) (e : Ending) (w' : World) : Prop := e = .returned (.bool true) ∧ Two w0 w' d r gF s' s'
set_option maxRecDepth 8000 in
set_option maxHeartbeats 2000000 in
theorem step_sync {w0 w : World} {d r gF : Nat} {s : DS} {C : Int} {a : ActD} {B D : Option Addr} {nb cb nd cd : Nat} (h : Two w0 w d r gF s s) (hs : s.Ok C) (hC : C ≤ 1000000000) (hk : a.kind = 1) :
    Calls Try.prog 12 #[.pointer (some ⟨d, 0, none⟩), .pointer (some ⟨r, 0, none⟩), actV a (.slice B nb cb) (.slice D nd cd)] w (Stepped w0 d r gF (syncR s a.i).1) := by
  have HT := hid h
  have HS := hid hs
  have HC := hid hC
  have hdl := h.dk.lt
  obtain ⟨l1, l2⟩ := h.rk.lt
  have HNI : Hid (¬ (w.heap.size = d ∨ ((w0.heap.size ≤ w.heap.size ∧ w.heap.size ≠ r ∧ w.heap.size ≠ gF) ∧ w.heap.size < w.heap.size))) := hid (fun e => by rcases e with e | e <;> omega)
  have HG : Hid (∀ b, ((w0.heap.size ≤ b ∧ b ≠ r ∧ b ≠ gF) ∧ b < w.heap.size) → w0.heap.size ≤ b ∧ b ≠ r ∧ b ≠ gF) := hid (fun b hb => hb.1)
  have HDK := hid (h.dk.mono (G' := fun b => (w0.heap.size ≤ b ∧ b ≠ r ∧ b ≠ gF) ∧ b < w.heap.size) (fun b hb hl => ⟨hb, hl⟩))
  clear h hs hC
  have k1 : (a.kind == 1) = true := by rw [hk]; rfl
  have k2 : (a.kind == 2) = false := by rw [hk]; rfl
  have k3 : (a.kind == 3) = false := by rw [hk]; rfl
  have k4 : (a.kind == 4) = false := by rw [hk]; rfl
  have k5 : (a.kind == 5) = false := by rw [hk]; rfl
  clear hk
  go_enter Try.func12, Try.ntmps12
  go_wp2_with (first | ((with_reducible refine wp_region_plan (id := 3) (.eff [(false, 0), (false, 1), (false, 2), (true, 4), (true, 5), (true, 6)] 3 [4, 5, 6] (.eff [] 7 [] (.fin [(false, 8), (false, 9)]))) ?_ ?_ ?_ ?_ ?_ ?_); kernel_rfl; kernel_rfl; kernel_rfl; kernel_rfl; (intro c a d v w h; cases d <;> exact h)) | ((with_reducible refine wp_region_plan (id := 5) (.eff [(false, 0), (false, 1), (false, 2), (false, 3), (false, 4), (true, 6), (true, 7), (true, 8), (true, 9), (true, 10)] 5 [6, 7, 8, 9, 10] (.eff [] 11 [] (.fin [(false, 12), (false, 13)]))) ?_ ?_ ?_ ?_ ?_ ?_); kernel_rfl; kernel_rfl; kernel_rfl; kernel_rfl; (intro c a d v w h; cases d <;> exact h)) | ((with_reducible refine wp_region_plan (id := 7) (.eff [(false, 0), (false, 1), (false, 2), (true, 4), (true, 5), (true, 6)] 3 [4, 5, 6] (.eff [] 7 [] (.fin [(false, 8), (false, 9)]))) ?_ ?_ ?_ ?_ ?_ ?_); kernel_rfl; kernel_rfl; kernel_rfl; kernel_rfl; (intro c a d v w h; cases d <;> exact h)) | ((with_reducible refine wp_region_plan (id := 12) (.eff [(false, 0), (false, 1), (false, 2), (true, 4), (true, 5), (true, 6)] 3 [4, 5, 6] (.eff [] 7 [] (.fin [(false, 8), (false, 9)]))) ?_ ?_ ?_ ?_ ?_ ?_); kernel_rfl; kernel_rfl; kernel_rfl; kernel_rfl; (intro c a d v w h; cases d <;> exact h)) | ((with_reducible refine wp_region_plan (id := 15) (.eff [(false, 0), (false, 1), (false, 2), (false, 3), (false, 4)] 5 [] (.eff [(false, 6), (false, 7), (true, 8)] 9 [8] (.eff [] 10 [8] (.eff [] 11 [] (.eff [(false, 12), (false, 13), (false, 14), (true, 17), (true, 18), (true, 19), (true, 20), (true, 21), (true, 22), (true, 23), (true, 24), (true, 25)] 15 [17, 18, 19, 20, 21, 22, 23, 24, 25] (.eff [(false, 16), (false, 26), (false, 27), (false, 28), (false, 29), (false, 30)] 31 [] (.fin [(false, 32), (false, 33), (false, 34)]))))))) ?_ ?_ ?_ ?_ ?_ ?_); kernel_rfl; kernel_rfl; kernel_rfl; kernel_rfl; (intro c a d v w h; cases d <;> exact h)) | (with_reducible refine wpPlan_eff ?_) | (with_reducible refine wpPlan_fin ?_) | (with_reducible refine wpPlan_two ?_) | (with_reducible refine wpOpPair ?_ ?_) | ((with_reducible apply wpPre_keep); rfl; intro K' hK'; go_simp; refine hK' _ _ ?_; intro f hf; clear hK' K') | ((with_reducible apply wpPre_drop); rfl; intro K' hK'; go_simp; refine hK' _ _ ?_; intro f; clear hK' K') | (with_reducible refine wpPre_nil ?_) | ((with_reducible apply wpOp_list); rfl) | (with_reducible refine heldPair ?_ ?_) | ((with_reducible refine heldH_no ?_ ?_); rfl) | (with_reducible refine heldH_yes ?_ ?_) | (with_reducible exact heldH_nil) | (unfold YAt; go_simp; done) | (go_at_call 22; refine (sync_all (HDK.out.below (by repeat (first | (with_reducible exact Below.refl _ _) | (with_reducible exact bl_mm) | (with_reducible refine bl_dr ?_) | (with_reducible refine bl_drN ?_ _) | (with_reducible refine bl_al ?_ _) | (with_reducible refine bl_more ?_ _ _)))) HS.out HC.out a.i).mono ?_; rintro e w1 ⟨rfl, hq, he⟩; have b1 := ext_cell he (v := .int .i64 a.i) (a := ⟨w.heap.size, 1, none⟩) (by go_simp) HNI.out; have b2 := ext_cell he (v := .int .i64 a.n) (a := ⟨w.heap.size, 2, none⟩) (by go_simp) HNI.out; have HT1 := hid ((HT.out.below (by repeat (first | (with_reducible exact Below.refl _ _) | (with_reducible exact bl_mm) | (with_reducible refine bl_dr ?_) | (with_reducible refine bl_drN ?_ _) | (with_reducible refine bl_al ?_ _) | (with_reducible refine bl_more ?_ _ _)))).toD HG.out hq he); clear hq he) | (go_at_call 27; refine (rsync_all (HT1.out.below (by repeat (first | (with_reducible exact Below.refl _ _) | (with_reducible exact bl_mm) | (with_reducible refine bl_dr ?_) | (with_reducible refine bl_drN ?_ _) | (with_reducible refine bl_al ?_ _) | (with_reducible refine bl_more ?_ _ _)))).rk HS.out HC.out a.i).mono ?_; rintro e w2 ⟨rfl, hq, he⟩; have HT2 := hid ((HT1.out.below (by repeat (first | (with_reducible exact Below.refl _ _) | (with_reducible exact bl_mm) | (with_reducible refine bl_dr ?_) | (with_reducible refine bl_drN ?_ _) | (with_reducible refine bl_al ?_ _) | (with_reducible refine bl_more ?_ _ _)))).toR hq he); clear hq he))
  all_goals (
    go_ret
    exact ⟨rfl, HT2.out.below (by repeat (first | (with_reducible exact Below.refl _ _) | (with_reducible exact bl_mm) | (with_reducible refine bl_dr ?_) | (with_reducible refine bl_drN ?_ _) | (with_reducible refine bl_al ?_ _) | (with_reducible refine bl_more ?_ _ _)))⟩)
set_option maxRecDepth 8000 in
set_option maxHeartbeats 2000000 in
theorem step_cut {w0 w : World} {d r gF : Nat} {s : DS} {C : Int} {a : ActD} {B D : Option Addr} {nb cb nd cd : Nat} (h : Two w0 w d r gF s s) (hs : s.Ok C) (hC : C ≤ 1000000000) (hk : a.kind = 2) :
    Calls Try.prog 12 #[.pointer (some ⟨d, 0, none⟩), .pointer (some ⟨r, 0, none⟩), actV a (.slice B nb cb) (.slice D nd cd)] w (Stepped w0 d r gF (cutR s a.i a.n).1) := by
  have HT := hid h
  have HS := hid hs
  have HC := hid hC
  have hdl := h.dk.lt
  obtain ⟨l1, l2⟩ := h.rk.lt
  have HNI : Hid (¬ (w.heap.size = d ∨ ((w0.heap.size ≤ w.heap.size ∧ w.heap.size ≠ r ∧ w.heap.size ≠ gF) ∧ w.heap.size < w.heap.size))) := hid (fun e => by rcases e with e | e <;> omega)
  have HG : Hid (∀ b, ((w0.heap.size ≤ b ∧ b ≠ r ∧ b ≠ gF) ∧ b < w.heap.size) → w0.heap.size ≤ b ∧ b ≠ r ∧ b ≠ gF) := hid (fun b hb => hb.1)
  have HDK := hid (h.dk.mono (G' := fun b => (w0.heap.size ≤ b ∧ b ≠ r ∧ b ≠ gF) ∧ b < w.heap.size) (fun b hb hl => ⟨hb, hl⟩))
  clear h hs hC
  have k1 : (a.kind == 1) = false := by rw [hk]; rfl
  have k2 : (a.kind == 2) = true := by rw [hk]; rfl
  have k3 : (a.kind == 3) = false := by rw [hk]; rfl
  have k4 : (a.kind == 4) = false := by rw [hk]; rfl
  have k5 : (a.kind == 5) = false := by rw [hk]; rfl
  clear hk
  go_enter Try.func12, Try.ntmps12
  go_wp2_with (first | ((with_reducible refine wp_region_plan (id := 3) (.eff [(false, 0), (false, 1), (false, 2), (true, 4), (true, 5), (true, 6)] 3 [4, 5, 6] (.eff [] 7 [] (.fin [(false, 8), (false, 9)]))) ?_ ?_ ?_ ?_ ?_ ?_); kernel_rfl; kernel_rfl; kernel_rfl; kernel_rfl; (intro c a d v w h; cases d <;> exact h)) | ((with_reducible refine wp_region_plan (id := 5) (.eff [(false, 0), (false, 1), (false, 2), (false, 3), (false, 4), (true, 6), (true, 7), (true, 8), (true, 9), (true, 10)] 5 [6, 7, 8, 9, 10] (.eff [] 11 [] (.fin [(false, 12), (false, 13)]))) ?_ ?_ ?_ ?_ ?_ ?_); kernel_rfl; kernel_rfl; kernel_rfl; kernel_rfl; (intro c a d v w h; cases d <;> exact h)) | ((with_reducible refine wp_region_plan (id := 7) (.eff [(false, 0), (false, 1), (false, 2), (true, 4), (true, 5), (true, 6)] 3 [4, 5, 6] (.eff [] 7 [] (.fin [(false, 8), (false, 9)]))) ?_ ?_ ?_ ?_ ?_ ?_); kernel_rfl; kernel_rfl; kernel_rfl; kernel_rfl; (intro c a d v w h; cases d <;> exact h)) | ((with_reducible refine wp_region_plan (id := 12) (.eff [(false, 0), (false, 1), (false, 2), (true, 4), (true, 5), (true, 6)] 3 [4, 5, 6] (.eff [] 7 [] (.fin [(false, 8), (false, 9)]))) ?_ ?_ ?_ ?_ ?_ ?_); kernel_rfl; kernel_rfl; kernel_rfl; kernel_rfl; (intro c a d v w h; cases d <;> exact h)) | ((with_reducible refine wp_region_plan (id := 15) (.eff [(false, 0), (false, 1), (false, 2), (false, 3), (false, 4)] 5 [] (.eff [(false, 6), (false, 7), (true, 8)] 9 [8] (.eff [] 10 [8] (.eff [] 11 [] (.eff [(false, 12), (false, 13), (false, 14), (true, 17), (true, 18), (true, 19), (true, 20), (true, 21), (true, 22), (true, 23), (true, 24), (true, 25)] 15 [17, 18, 19, 20, 21, 22, 23, 24, 25] (.eff [(false, 16), (false, 26), (false, 27), (false, 28), (false, 29), (false, 30)] 31 [] (.fin [(false, 32), (false, 33), (false, 34)]))))))) ?_ ?_ ?_ ?_ ?_ ?_); kernel_rfl; kernel_rfl; kernel_rfl; kernel_rfl; (intro c a d v w h; cases d <;> exact h)) | (with_reducible refine wpPlan_eff ?_) | (with_reducible refine wpPlan_fin ?_) | (with_reducible refine wpPlan_two ?_) | (with_reducible refine wpOpPair ?_ ?_) | ((with_reducible apply wpPre_keep); rfl; intro K' hK'; go_simp; refine hK' _ _ ?_; intro f hf; clear hK' K') | ((with_reducible apply wpPre_drop); rfl; intro K' hK'; go_simp; refine hK' _ _ ?_; intro f; clear hK' K') | (with_reducible refine wpPre_nil ?_) | ((with_reducible apply wpOp_list); rfl) | (with_reducible refine heldPair ?_ ?_) | ((with_reducible refine heldH_no ?_ ?_); rfl) | (with_reducible refine heldH_yes ?_ ?_) | (with_reducible exact heldH_nil) | (unfold YAt; go_simp; done) | (go_at_call 21; refine (cut_all (HDK.out.below (by repeat (first | (with_reducible exact Below.refl _ _) | (with_reducible exact bl_mm) | (with_reducible refine bl_dr ?_) | (with_reducible refine bl_drN ?_ _) | (with_reducible refine bl_al ?_ _) | (with_reducible refine bl_more ?_ _ _)))) HS.out HC.out a.i a.n).mono ?_; rintro e w1 ⟨rfl, hq, he⟩; have b1 := ext_cell he (v := .int .i64 a.i) (a := ⟨w.heap.size, 1, none⟩) (by go_simp) HNI.out; have b2 := ext_cell he (v := .int .i64 a.n) (a := ⟨w.heap.size, 2, none⟩) (by go_simp) HNI.out; have HT1 := hid ((HT.out.below (by repeat (first | (with_reducible exact Below.refl _ _) | (with_reducible exact bl_mm) | (with_reducible refine bl_dr ?_) | (with_reducible refine bl_drN ?_ _) | (with_reducible refine bl_al ?_ _) | (with_reducible refine bl_more ?_ _ _)))).toD HG.out hq he); clear hq he) | (go_at_call 28; refine (rcut_all (HT1.out.below (by repeat (first | (with_reducible exact Below.refl _ _) | (with_reducible exact bl_mm) | (with_reducible refine bl_dr ?_) | (with_reducible refine bl_drN ?_ _) | (with_reducible refine bl_al ?_ _) | (with_reducible refine bl_more ?_ _ _)))).rk HS.out HC.out a.i a.n).mono ?_; rintro e w2 ⟨rfl, hq, he⟩; have HT2 := hid ((HT1.out.below (by repeat (first | (with_reducible exact Below.refl _ _) | (with_reducible exact bl_mm) | (with_reducible refine bl_dr ?_) | (with_reducible refine bl_drN ?_ _) | (with_reducible refine bl_al ?_ _) | (with_reducible refine bl_more ?_ _ _)))).toR hq he); clear hq he))
  all_goals (
    go_ret
    exact ⟨rfl, HT2.out.below (by repeat (first | (with_reducible exact Below.refl _ _) | (with_reducible exact bl_mm) | (with_reducible refine bl_dr ?_) | (with_reducible refine bl_drN ?_ _) | (with_reducible refine bl_al ?_ _) | (with_reducible refine bl_more ?_ _ _)))⟩)
set_option maxRecDepth 8000 in
set_option maxHeartbeats 2000000 in
theorem step_arm {w0 w : World} {d r gF : Nat} {s : DS} {C : Int} {a : ActD} {B D : Option Addr} {nb cb nd cd : Nat} (h : Two w0 w d r gF s s) (hs : s.Ok C) (hC : C ≤ 1000000000) (hk : a.kind = 3) :
    Calls Try.prog 12 #[.pointer (some ⟨d, 0, none⟩), .pointer (some ⟨r, 0, none⟩), actV a (.slice B nb cb) (.slice D nd cd)] w (Stepped w0 d r gF (armR s a.n).1) := by
  have HT := hid h
  have HS := hid hs
  have HC := hid hC
  have hdl := h.dk.lt
  obtain ⟨l1, l2⟩ := h.rk.lt
  have HNI : Hid (¬ (w.heap.size = d ∨ ((w0.heap.size ≤ w.heap.size ∧ w.heap.size ≠ r ∧ w.heap.size ≠ gF) ∧ w.heap.size < w.heap.size))) := hid (fun e => by rcases e with e | e <;> omega)
  have HG : Hid (∀ b, ((w0.heap.size ≤ b ∧ b ≠ r ∧ b ≠ gF) ∧ b < w.heap.size) → w0.heap.size ≤ b ∧ b ≠ r ∧ b ≠ gF) := hid (fun b hb => hb.1)
  have HDK := hid (h.dk.mono (G' := fun b => (w0.heap.size ≤ b ∧ b ≠ r ∧ b ≠ gF) ∧ b < w.heap.size) (fun b hb hl => ⟨hb, hl⟩))
  clear h hs hC
  have k1 : (a.kind == 1) = false := by rw [hk]; rfl
  have k2 : (a.kind == 2) = false := by rw [hk]; rfl
  have k3 : (a.kind == 3) = true := by rw [hk]; rfl
  have k4 : (a.kind == 4) = false := by rw [hk]; rfl
  have k5 : (a.kind == 5) = false := by rw [hk]; rfl
  clear hk
  go_enter Try.func12, Try.ntmps12
  go_wp2_with (first | ((with_reducible refine wp_region_plan (id := 3) (.eff [(false, 0), (false, 1), (false, 2), (true, 4), (true, 5), (true, 6)] 3 [4, 5, 6] (.eff [] 7 [] (.fin [(false, 8), (false, 9)]))) ?_ ?_ ?_ ?_ ?_ ?_); kernel_rfl; kernel_rfl; kernel_rfl; kernel_rfl; (intro c a d v w h; cases d <;> exact h)) | ((with_reducible refine wp_region_plan (id := 5) (.eff [(false, 0), (false, 1), (false, 2), (false, 3), (false, 4), (true, 6), (true, 7), (true, 8), (true, 9), (true, 10)] 5 [6, 7, 8, 9, 10] (.eff [] 11 [] (.fin [(false, 12), (false, 13)]))) ?_ ?_ ?_ ?_ ?_ ?_); kernel_rfl; kernel_rfl; kernel_rfl; kernel_rfl; (intro c a d v w h; cases d <;> exact h)) | ((with_reducible refine wp_region_plan (id := 7) (.eff [(false, 0), (false, 1), (false, 2), (true, 4), (true, 5), (true, 6)] 3 [4, 5, 6] (.eff [] 7 [] (.fin [(false, 8), (false, 9)]))) ?_ ?_ ?_ ?_ ?_ ?_); kernel_rfl; kernel_rfl; kernel_rfl; kernel_rfl; (intro c a d v w h; cases d <;> exact h)) | ((with_reducible refine wp_region_plan (id := 12) (.eff [(false, 0), (false, 1), (false, 2), (true, 4), (true, 5), (true, 6)] 3 [4, 5, 6] (.eff [] 7 [] (.fin [(false, 8), (false, 9)]))) ?_ ?_ ?_ ?_ ?_ ?_); kernel_rfl; kernel_rfl; kernel_rfl; kernel_rfl; (intro c a d v w h; cases d <;> exact h)) | ((with_reducible refine wp_region_plan (id := 15) (.eff [(false, 0), (false, 1), (false, 2), (false, 3), (false, 4)] 5 [] (.eff [(false, 6), (false, 7), (true, 8)] 9 [8] (.eff [] 10 [8] (.eff [] 11 [] (.eff [(false, 12), (false, 13), (false, 14), (true, 17), (true, 18), (true, 19), (true, 20), (true, 21), (true, 22), (true, 23), (true, 24), (true, 25)] 15 [17, 18, 19, 20, 21, 22, 23, 24, 25] (.eff [(false, 16), (false, 26), (false, 27), (false, 28), (false, 29), (false, 30)] 31 [] (.fin [(false, 32), (false, 33), (false, 34)]))))))) ?_ ?_ ?_ ?_ ?_ ?_); kernel_rfl; kernel_rfl; kernel_rfl; kernel_rfl; (intro c a d v w h; cases d <;> exact h)) | (with_reducible refine wpPlan_eff ?_) | (with_reducible refine wpPlan_fin ?_) | (with_reducible refine wpPlan_two ?_) | (with_reducible refine wpOpPair ?_ ?_) | ((with_reducible apply wpPre_keep); rfl; intro K' hK'; go_simp; refine hK' _ _ ?_; intro f hf; clear hK' K') | ((with_reducible apply wpPre_drop); rfl; intro K' hK'; go_simp; refine hK' _ _ ?_; intro f; clear hK' K') | (with_reducible refine wpPre_nil ?_) | ((with_reducible apply wpOp_list); rfl) | (with_reducible refine heldPair ?_ ?_) | ((with_reducible refine heldH_no ?_ ?_); rfl) | (with_reducible refine heldH_yes ?_ ?_) | (with_reducible exact heldH_nil) | (unfold YAt; go_simp; done) | (go_at_call 20; refine (arm_all (HDK.out.below (by repeat (first | (with_reducible exact Below.refl _ _) | (with_reducible exact bl_mm) | (with_reducible refine bl_dr ?_) | (with_reducible refine bl_drN ?_ _) | (with_reducible refine bl_al ?_ _) | (with_reducible refine bl_more ?_ _ _)))) HS.out a.n).mono ?_; rintro e w1 ⟨rfl, hq, he⟩; have b1 := ext_cell he (v := .int .i64 a.i) (a := ⟨w.heap.size, 1, none⟩) (by go_simp) HNI.out; have b2 := ext_cell he (v := .int .i64 a.n) (a := ⟨w.heap.size, 2, none⟩) (by go_simp) HNI.out; have HT1 := hid ((HT.out.below (by repeat (first | (with_reducible exact Below.refl _ _) | (with_reducible exact bl_mm) | (with_reducible refine bl_dr ?_) | (with_reducible refine bl_drN ?_ _) | (with_reducible refine bl_al ?_ _) | (with_reducible refine bl_more ?_ _ _)))).toD HG.out hq he); clear hq he) | (go_at_call 29; refine (rarm_all (HT1.out.below (by repeat (first | (with_reducible exact Below.refl _ _) | (with_reducible exact bl_mm) | (with_reducible refine bl_dr ?_) | (with_reducible refine bl_drN ?_ _) | (with_reducible refine bl_al ?_ _) | (with_reducible refine bl_more ?_ _ _)))).rk a.n).mono ?_; rintro e w2 ⟨rfl, hq, he⟩; have HT2 := hid ((HT1.out.below (by repeat (first | (with_reducible exact Below.refl _ _) | (with_reducible exact bl_mm) | (with_reducible refine bl_dr ?_) | (with_reducible refine bl_drN ?_ _) | (with_reducible refine bl_al ?_ _) | (with_reducible refine bl_more ?_ _ _)))).toR hq he); clear hq he))
  all_goals (
    go_ret
    exact ⟨rfl, HT2.out.below (by repeat (first | (with_reducible exact Below.refl _ _) | (with_reducible exact bl_mm) | (with_reducible refine bl_dr ?_) | (with_reducible refine bl_drN ?_ _) | (with_reducible refine bl_al ?_ _) | (with_reducible refine bl_more ?_ _ _)))⟩)
set_option maxRecDepth 8000 in
set_option maxHeartbeats 2000000 in
theorem step_grow {w0 w : World} {d r gF : Nat} {s : DS} {C : Int} {a : ActD} {B D : Option Addr} {nb cb nd cd : Nat} (h : Two w0 w d r gF s s) (hs : s.Ok C) (hC : C ≤ 1000000000) (hk : a.kind = 5) :
    Calls Try.prog 12 #[.pointer (some ⟨d, 0, none⟩), .pointer (some ⟨r, 0, none⟩), actV a (.slice B nb cb) (.slice D nd cd)] w (Stepped w0 d r gF (growR s a.n).1) := by
  have HT := hid h
  have HS := hid hs
  have HC := hid hC
  have hdl := h.dk.lt
  obtain ⟨l1, l2⟩ := h.rk.lt
  have HNI : Hid (¬ (w.heap.size = d ∨ ((w0.heap.size ≤ w.heap.size ∧ w.heap.size ≠ r ∧ w.heap.size ≠ gF) ∧ w.heap.size < w.heap.size))) := hid (fun e => by rcases e with e | e <;> omega)
  have HG : Hid (∀ b, ((w0.heap.size ≤ b ∧ b ≠ r ∧ b ≠ gF) ∧ b < w.heap.size) → w0.heap.size ≤ b ∧ b ≠ r ∧ b ≠ gF) := hid (fun b hb => hb.1)
  have HDK := hid (h.dk.mono (G' := fun b => (w0.heap.size ≤ b ∧ b ≠ r ∧ b ≠ gF) ∧ b < w.heap.size) (fun b hb hl => ⟨hb, hl⟩))
  clear h hs hC
  have k1 : (a.kind == 1) = false := by rw [hk]; rfl
  have k2 : (a.kind == 2) = false := by rw [hk]; rfl
  have k3 : (a.kind == 3) = false := by rw [hk]; rfl
  have k4 : (a.kind == 4) = false := by rw [hk]; rfl
  have k5 : (a.kind == 5) = true := by rw [hk]; rfl
  clear hk
  go_enter Try.func12, Try.ntmps12
  go_wp2_with (first | ((with_reducible refine wp_region_plan (id := 3) (.eff [(false, 0), (false, 1), (false, 2), (true, 4), (true, 5), (true, 6)] 3 [4, 5, 6] (.eff [] 7 [] (.fin [(false, 8), (false, 9)]))) ?_ ?_ ?_ ?_ ?_ ?_); kernel_rfl; kernel_rfl; kernel_rfl; kernel_rfl; (intro c a d v w h; cases d <;> exact h)) | ((with_reducible refine wp_region_plan (id := 5) (.eff [(false, 0), (false, 1), (false, 2), (false, 3), (false, 4), (true, 6), (true, 7), (true, 8), (true, 9), (true, 10)] 5 [6, 7, 8, 9, 10] (.eff [] 11 [] (.fin [(false, 12), (false, 13)]))) ?_ ?_ ?_ ?_ ?_ ?_); kernel_rfl; kernel_rfl; kernel_rfl; kernel_rfl; (intro c a d v w h; cases d <;> exact h)) | ((with_reducible refine wp_region_plan (id := 7) (.eff [(false, 0), (false, 1), (false, 2), (true, 4), (true, 5), (true, 6)] 3 [4, 5, 6] (.eff [] 7 [] (.fin [(false, 8), (false, 9)]))) ?_ ?_ ?_ ?_ ?_ ?_); kernel_rfl; kernel_rfl; kernel_rfl; kernel_rfl; (intro c a d v w h; cases d <;> exact h)) | ((with_reducible refine wp_region_plan (id := 12) (.eff [(false, 0), (false, 1), (false, 2), (true, 4), (true, 5), (true, 6)] 3 [4, 5, 6] (.eff [] 7 [] (.fin [(false, 8), (false, 9)]))) ?_ ?_ ?_ ?_ ?_ ?_); kernel_rfl; kernel_rfl; kernel_rfl; kernel_rfl; (intro c a d v w h; cases d <;> exact h)) | ((with_reducible refine wp_region_plan (id := 15) (.eff [(false, 0), (false, 1), (false, 2), (false, 3), (false, 4)] 5 [] (.eff [(false, 6), (false, 7), (true, 8)] 9 [8] (.eff [] 10 [8] (.eff [] 11 [] (.eff [(false, 12), (false, 13), (false, 14), (true, 17), (true, 18), (true, 19), (true, 20), (true, 21), (true, 22), (true, 23), (true, 24), (true, 25)] 15 [17, 18, 19, 20, 21, 22, 23, 24, 25] (.eff [(false, 16), (false, 26), (false, 27), (false, 28), (false, 29), (false, 30)] 31 [] (.fin [(false, 32), (false, 33), (false, 34)]))))))) ?_ ?_ ?_ ?_ ?_ ?_); kernel_rfl; kernel_rfl; kernel_rfl; kernel_rfl; (intro c a d v w h; cases d <;> exact h)) | (with_reducible refine wpPlan_eff ?_) | (with_reducible refine wpPlan_fin ?_) | (with_reducible refine wpPlan_two ?_) | (with_reducible refine wpOpPair ?_ ?_) | ((with_reducible apply wpPre_keep); rfl; intro K' hK'; go_simp; refine hK' _ _ ?_; intro f hf; clear hK' K') | ((with_reducible apply wpPre_drop); rfl; intro K' hK'; go_simp; refine hK' _ _ ?_; intro f; clear hK' K') | (with_reducible refine wpPre_nil ?_) | ((with_reducible apply wpOp_list); rfl) | (with_reducible refine heldPair ?_ ?_) | ((with_reducible refine heldH_no ?_ ?_); rfl) | (with_reducible refine heldH_yes ?_ ?_) | (with_reducible exact heldH_nil) | (unfold YAt; go_simp; done) | (go_at_call 24; refine (grow_all (HDK.out.below (by repeat (first | (with_reducible exact Below.refl _ _) | (with_reducible exact bl_mm) | (with_reducible refine bl_dr ?_) | (with_reducible refine bl_drN ?_ _) | (with_reducible refine bl_al ?_ _) | (with_reducible refine bl_more ?_ _ _)))) HS.out HC.out a.n).mono ?_; rintro e w1 ⟨rfl, hq, he⟩; have b1 := ext_cell he (v := .int .i64 a.i) (a := ⟨w.heap.size, 1, none⟩) (by go_simp) HNI.out; have b2 := ext_cell he (v := .int .i64 a.n) (a := ⟨w.heap.size, 2, none⟩) (by go_simp) HNI.out; have HT1 := hid ((HT.out.below (by repeat (first | (with_reducible exact Below.refl _ _) | (with_reducible exact bl_mm) | (with_reducible refine bl_dr ?_) | (with_reducible refine bl_drN ?_ _) | (with_reducible refine bl_al ?_ _) | (with_reducible refine bl_more ?_ _ _)))).toD HG.out hq he); clear hq he) | (go_at_call 31; refine (rgrow_all (HT1.out.below (by repeat (first | (with_reducible exact Below.refl _ _) | (with_reducible exact bl_mm) | (with_reducible refine bl_dr ?_) | (with_reducible refine bl_drN ?_ _) | (with_reducible refine bl_al ?_ _) | (with_reducible refine bl_more ?_ _ _)))).rk HS.out HC.out a.n).mono ?_; rintro e w2 ⟨rfl, hq, he⟩; have HT2 := hid ((HT1.out.below (by repeat (first | (with_reducible exact Below.refl _ _) | (with_reducible exact bl_mm) | (with_reducible refine bl_dr ?_) | (with_reducible refine bl_drN ?_ _) | (with_reducible refine bl_al ?_ _) | (with_reducible refine bl_more ?_ _ _)))).toR hq he); clear hq he))
  all_goals (
    go_ret
    exact ⟨rfl, HT2.out.below (by repeat (first | (with_reducible exact Below.refl _ _) | (with_reducible exact bl_mm) | (with_reducible refine bl_dr ?_) | (with_reducible refine bl_drN ?_ _) | (with_reducible refine bl_al ?_ _) | (with_reducible refine bl_more ?_ _ _)))⟩)
set_option maxRecDepth 8000 in
set_option maxHeartbeats 2000000 in
theorem step_crash {w0 w : World} {d r gF : Nat} {s : DS} {C : Int} {a : ActD} {B D : Option Addr} {nb cb cd : Nat} (h : Two w0 w d r gF s s) (hs : s.Ok C) (hC : C ≤ 1000000000) (hk : a.kind = 4) (hkp : intE.Row (fun b => b < w0.heap.size) w (.slice D a.keep.length cd) a.keep) :
    Calls Try.prog 12 #[.pointer (some ⟨d, 0, none⟩), .pointer (some ⟨r, 0, none⟩), actV a (.slice B nb cb) (.slice D a.keep.length cd)] w (Stepped w0 d r gF (s.crash a.keep)) := by
  have HT := hid h
  have HS := hid hs
  have HC := hid hC
  have HKP := hid hkp
  obtain ⟨l1, l2⟩ := h.rk.lt
  have HLL : Hid (¬ (w.heap.size = r ∨ w.heap.size = gF)) := hid (by omega)
  have HLO := hid (And.intro h.ld (And.intro h.lr h.lg))
  clear h hs hC hkp
  have k1 : (a.kind == 1) = false := by rw [hk]; rfl
  have k2 : (a.kind == 2) = false := by rw [hk]; rfl
  have k3 : (a.kind == 3) = false := by rw [hk]; rfl
  have k4 : (a.kind == 4) = true := by rw [hk]; rfl
  clear hk
  go_enter Try.func12, Try.ntmps12
  go_wp2_with (first | ((with_reducible refine wp_region_plan (id := 3) (.eff [(false, 0), (false, 1), (false, 2), (true, 4), (true, 5), (true, 6)] 3 [4, 5, 6] (.eff [] 7 [] (.fin [(false, 8), (false, 9)]))) ?_ ?_ ?_ ?_ ?_ ?_); kernel_rfl; kernel_rfl; kernel_rfl; kernel_rfl; (intro c a d v w h; cases d <;> exact h)) | ((with_reducible refine wp_region_plan (id := 5) (.eff [(false, 0), (false, 1), (false, 2), (false, 3), (false, 4), (true, 6), (true, 7), (true, 8), (true, 9), (true, 10)] 5 [6, 7, 8, 9, 10] (.eff [] 11 [] (.fin [(false, 12), (false, 13)]))) ?_ ?_ ?_ ?_ ?_ ?_); kernel_rfl; kernel_rfl; kernel_rfl; kernel_rfl; (intro c a d v w h; cases d <;> exact h)) | ((with_reducible refine wp_region_plan (id := 7) (.eff [(false, 0), (false, 1), (false, 2), (true, 4), (true, 5), (true, 6)] 3 [4, 5, 6] (.eff [] 7 [] (.fin [(false, 8), (false, 9)]))) ?_ ?_ ?_ ?_ ?_ ?_); kernel_rfl; kernel_rfl; kernel_rfl; kernel_rfl; (intro c a d v w h; cases d <;> exact h)) | ((with_reducible refine wp_region_plan (id := 12) (.eff [(false, 0), (false, 1), (false, 2), (true, 4), (true, 5), (true, 6)] 3 [4, 5, 6] (.eff [] 7 [] (.fin [(false, 8), (false, 9)]))) ?_ ?_ ?_ ?_ ?_ ?_); kernel_rfl; kernel_rfl; kernel_rfl; kernel_rfl; (intro c a d v w h; cases d <;> exact h)) | ((with_reducible refine wp_region_plan (id := 15) (.eff [(false, 0), (false, 1), (false, 2), (false, 3), (false, 4)] 5 [] (.eff [(false, 6), (false, 7), (true, 8)] 9 [8] (.eff [] 10 [8] (.eff [] 11 [] (.eff [(false, 12), (false, 13), (false, 14), (true, 17), (true, 18), (true, 19), (true, 20), (true, 21), (true, 22), (true, 23), (true, 24), (true, 25)] 15 [17, 18, 19, 20, 21, 22, 23, 24, 25] (.eff [(false, 16), (false, 26), (false, 27), (false, 28), (false, 29), (false, 30)] 31 [] (.fin [(false, 32), (false, 33), (false, 34)]))))))) ?_ ?_ ?_ ?_ ?_ ?_); kernel_rfl; kernel_rfl; kernel_rfl; kernel_rfl; (intro c a d v w h; cases d <;> exact h)) | (with_reducible refine wpPlan_eff ?_) | (with_reducible refine wpPlan_fin ?_) | (with_reducible refine wpPlan_two ?_) | (with_reducible refine wpOpPair ?_ ?_) | ((with_reducible apply wpPre_keep); rfl; intro K' hK'; go_simp; refine hK' _ _ ?_; intro f hf; clear hK' K') | ((with_reducible apply wpPre_drop); rfl; intro K' hK'; go_simp; refine hK' _ _ ?_; intro f; clear hK' K') | (with_reducible refine wpPre_nil ?_) | ((with_reducible apply wpOp_list); rfl) | (with_reducible refine heldPair ?_ ?_) | ((with_reducible refine heldH_no ?_ ?_); rfl) | (with_reducible refine heldH_yes ?_ ?_) | (with_reducible exact heldH_nil) | (unfold YAt; go_simp; done) | (go_at_call 30; refine (rcrash_any (HT.out.below (by repeat (first | (with_reducible exact Below.refl _ _) | (with_reducible exact bl_mm) | (with_reducible refine bl_dr ?_) | (with_reducible refine bl_drN ?_ _) | (with_reducible refine bl_al ?_ _) | (with_reducible refine bl_more ?_ _ _)))).rk HS.out HC.out (HKP.out.below (by repeat (first | (with_reducible exact Below.refl _ _) | (with_reducible exact bl_mm) | (with_reducible refine bl_dr ?_) | (with_reducible refine bl_drN ?_ _) | (with_reducible refine bl_al ?_ _) | (with_reducible refine bl_more ?_ _ _)))) (fun b hb => by have := HLO.out; omega)).mono ?_; rintro e w1 ⟨rfl, hq, he⟩; have b4 := ext_cell he (v := .slice D a.keep.length cd) (a := ⟨w.heap.size, 4, none⟩) (by go_simp) HLL.out; have HT1 := hid ((HT.out.below (by repeat (first | (with_reducible exact Below.refl _ _) | (with_reducible exact bl_mm) | (with_reducible refine bl_dr ?_) | (with_reducible refine bl_drN ?_ _) | (with_reducible refine bl_al ?_ _) | (with_reducible refine bl_more ?_ _ _)))).toR hq he); have HKP1 := hid ((HKP.out.below (by repeat (first | (with_reducible exact Below.refl _ _) | (with_reducible exact bl_mm) | (with_reducible refine bl_dr ?_) | (with_reducible refine bl_drN ?_ _) | (with_reducible refine bl_al ?_ _) | (with_reducible refine bl_more ?_ _ _)))).ext he (fun b hb e => by have := HLO.out; omega)); clear hq he) | (go_at_call 17; refine (crash_any ((HT1.out.below (by repeat (first | (with_reducible exact Below.refl _ _) | (with_reducible exact bl_mm) | (with_reducible refine bl_dr ?_) | (with_reducible refine bl_drN ?_ _) | (with_reducible refine bl_al ?_ _) | (with_reducible refine bl_more ?_ _ _)))).dk.mono (G' := fun b => w0.heap.size ≤ b ∧ b ≠ r ∧ b ≠ gF) (fun b hb _ => hb)) HS.out HC.out (HKP1.out.below (by repeat (first | (with_reducible exact Below.refl _ _) | (with_reducible exact bl_mm) | (with_reducible refine bl_dr ?_) | (with_reducible refine bl_drN ?_ _) | (with_reducible refine bl_al ?_ _) | (with_reducible refine bl_more ?_ _ _)))) (fun b hb => by have := HLO.out; omega)).mono ?_; rintro e w2 ⟨rfl, hq, he⟩; have HT2 := hid ((HT1.out.below (by repeat (first | (with_reducible exact Below.refl _ _) | (with_reducible exact bl_mm) | (with_reducible refine bl_dr ?_) | (with_reducible refine bl_drN ?_ _) | (with_reducible refine bl_al ?_ _) | (with_reducible refine bl_more ?_ _ _)))).toD (fun b hb => hb) (hq.mono (fun b hb _ => .inl hb)) (he.mono (fun b _ hb => .inl hb))); clear hq he))
  all_goals (
    go_ret
    exact ⟨rfl, HT2.out.below (by repeat (first | (with_reducible exact Below.refl _ _) | (with_reducible exact bl_mm) | (with_reducible refine bl_dr ?_) | (with_reducible refine bl_drN ?_ _) | (with_reducible refine bl_al ?_ _) | (with_reducible refine bl_more ?_ _ _)))⟩)
end Go.Proofs.Ytnobbehoojgfcaa
