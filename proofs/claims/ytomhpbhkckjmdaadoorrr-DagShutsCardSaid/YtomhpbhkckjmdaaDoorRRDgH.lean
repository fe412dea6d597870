/- Reach. -/
import Derived.Test.YtomhpbhkckjmdaaDoorRRDgG
namespace Go.Proofs.YtomhpbhkckjmdaaDoorRR
open Go.RowKit

theorem on_bit (l : Arcs) (i k : Nat) : (onAt l i).testBit k = true ↔ ∃ a ∈ l, a.2 = (i : Int) ∧ a.1.toNat = k := by
  have key : ∀ (l : Arcs) (s : Nat), (l.foldl (fun s a => if a.2 = (i : Int) then s ||| bitN a.1.toNat else s) s).testBit k = true ↔ s.testBit k = true ∨ ∃ a ∈ l, a.2 = (i : Int) ∧ a.1.toNat = k := by
    intro l
    induction l with
    | nil => intro s; simp
    | cons a l ih =>
      intro s
      rw [List.foldl_cons, ih]
      by_cases ha : a.2 = (i : Int)
      · rw [if_pos ha, Nat.testBit_or, bitN_bit]
        simp only [Bool.or_eq_true, decide_eq_true_eq, List.mem_cons, exists_eq_or_imp, ha, true_and]
        constructor
        · rintro ((h | h) | h)
          · exact .inl h
          · exact .inr (.inl h)
          · exact .inr (.inr h)
        · rintro (h | h | h)
          · exact .inl (.inl h)
          · exact .inl (.inr h)
          · exact .inr h
      · rw [if_neg ha]
        simp only [List.mem_cons, exists_eq_or_imp, ha, false_and, false_or]
  have := key l 0
  simpa [onAt] using this
theorem fit_of {n : Int} {l : Arcs} (h : okB n l = true) : Fit n.toNat (onAt l) := by
  have hk := of_decide_eq_true h
  refine ⟨by omega, fun i => onAt_lt l i hk.2.1 hk.2.2.2, fun i k hkk => ?_⟩
  obtain ⟨a, ha, h1, h2⟩ := (on_bit l i k).1 (mem_nodes.1 hkk).2
  have := hk.2.2.2 a ha
  have h3 := this.1
  have h4 := this.2.1
  omega
theorem ordR_mem {n : Nat} {on : Nat → Nat} : ∀ (f done : Nat) (out row : List Nat), ordR n on f done out = some row → (∀ i ∈ out, i < n) → ∀ i ∈ row, i < n
  | 0, _, out, row, h, ho => by cases h; exact ho
  | f + 1, done, out, row, h, ho => by
    rw [ordR] at h
    cases hx : nextR n on done with
    | none => rw [hx] at h; cases h
    | some q =>
      rw [hx] at h
      refine ordR_mem f _ _ row h (fun i hi => ?_)
      rcases List.mem_append.1 hi with hi | hi
      · exact ho i hi
      · obtain rfl : i = q := by simpa using hi
        exact (nextR_lt hx).1
theorem row_lt {n : Nat} {on : Nat → Nat} {row : List Nat} (h : orderR n on = some row) : ∀ i ∈ row, i < n := ordR_mem n 0 [] row h (fun i hi => by cases hi)
abbrev natsE : Enc (List Nat) := Enc.slice natE
theorem info25 : (Tryd.prog.info? 25).map (fun i => (i.zero, i.size, i.bytes)) = some (some (.slice none 0 0), 1, 24) := by kernel_rfl
theorem ok29 : ElemOk natsE 29 25 := by
  obtain ⟨i0, hi, hz0, hz1, hz2⟩ := info_parts info25
  exact ⟨Tryd.underlying29, ⟨i0, _, hi, hz0, hz1, rfl, by rw [hz2]; decide⟩, by decide⟩
/-- What a closure leaves that lays a row into its variable (block o). -/
def Cl1 {α : Type} (d : Enc α) (o : Nat) (t : TypeId) (X : World) (xs : List α) (e : Ending) (w' : World) : Prop :=
  e = .returned (.tuple #[]) ∧ Ext (fun b => b = o) X w' ∧ ∃ v, w'.heap[o]? = some (.cells #[v] t (0, 0)) ∧ d.Row (fun b => X.heap.size ≤ b) w' v xs
theorem Cl1.cl {α : Type} {d : Enc α} {n : Int} {l : Arcs} {f : List Nat → Int × List α} {w0 X w' : World} {o m : Nat} {t : TypeId} {e : Ending} {row : List Nat} (h : Cl1 d o t X (f row).2 e w') (hf : (f row).1 = 0) (hor : orderR n.toNat (onAt l) = some row) (hw : Below w0.heap.size w0 X) (ho : w0.heap.size ≤ o) (hm : m < X.heap.size) : ClP (fun b => b = o) (QOut d n l f w0 o m) X e w' := by
  obtain ⟨rfl, he, v, hb, hr⟩ := h
  refine ⟨he, .inl ⟨rfl, row, hor, hf.symm, (Array.getElem?_eq_some_iff.1 hb).1, frz_blk hb 0, ⟨v, cell_blk hb 0, hr.mono (fun b hb _ => by omega)⟩, ?_⟩⟩
  exact hw.trans (he.toBelow hw.size (fun x hx e => by omega))
theorem blk1_set {w : World} {b : Nat} {v u : Value} {t : TypeId} (h : w.heap[b]? = some (.cells #[v] t (0, 0))) : (w.setCell ⟨b, 0, none⟩ u).heap[b]? = some (.cells #[u] t (0, 0)) := by
  simp [World.setCell, Array.getElem?_modify, h]
theorem row_set {w : World} {b n : Nat} {f : Nat → Nat} {i : Nat} (h : Ar setV 53 w b n f) (hi : i < n) : w.cell? ⟨b, i, none⟩ = some (.int .u64 (f i : Int)) := h.at_ i hi
theorem below_und {w w2 : World} (h : Below w.drew.heap.size w.drew w2) : Below w.heap.size w w2 := ⟨h.os, h.tape, h.output, h.size, h.block⟩
theorem src_list {K0 K : Nat → Prop} {W X : World} {v2 : Value} {xs : List Nat} {t : TypeId} {b : Nat} (h : natE.Row K0 W v2 xs) (hb : Below W.heap.size W (X.alloc (.cells #[v2] t (0, 0)))) (hk : ∀ b, K0 b → K b) (hbe : b = X.heap.size) : natsE.Src K (X.alloc (.cells #[v2] t (0, 0))) (.slice (some ⟨b, 0, none⟩) 1 1) [xs] :=
  Enc.Src.one_blk (cs := [v2]) (alloc_blk hbe) ⟨v2, rfl, (h.below hb).mono (fun b hb _ => hk b hb)⟩
theorem after_app {g o : Nat} {v : Value} {wr wX w3 : World} (hb : Below wr.heap.size wr wX) (he : Ext (fun b => b = g ∧ capOf v ≠ 0) wX w3) (hne : capOf v ≠ 0 → o ≠ g) (ho : o < wr.heap.size) : w3.heap[o]? = wr.heap[o]? :=
  (he.block o (Nat.lt_of_lt_of_le ho hb.size) (fun h => hne h.2 h.1)).trans (hb.block o ho)
/-- The variable of a row that was appended to. -/
theorem app_end {α : Type} {d : Enc α} {E t : TypeId} {w1 wr wX w3 : World} {o g g3 : Nat} {v v3 : Value} {xs ys : List α} (hext : Ext (fun b => b = o) w1 wr) (hblk : wr.heap[o]? = some (.cells #[v] t (0, 0))) (hou : d.Out E w1.heap.size w1.heap.size g wr v xs) (ho : o < w1.heap.size)
    (hb : Below wr.heap.size wr wX) (hs : d.Spine E (fun b => (w1.heap.size ≤ b ∧ b ≠ g) ∧ b < wX.heap.size) g3 w3 v3 ys) (he : Ext (fun b => b = g ∧ capOf v ≠ 0) wX w3) (hg : Grew g wX w3 v v3 g3) :
    Ext (fun b => b = o) w1 (w3.setCell ⟨o, 0, none⟩ v3) ∧ (w3.setCell ⟨o, 0, none⟩ v3).heap[o]? = some (.cells #[v3] t (0, 0)) ∧ d.Out E w1.heap.size w1.heap.size g3 (w3.setCell ⟨o, 0, none⟩ v3) v3 ys := by
  have h3 := (after_app hb he (fun hc e => by have := hou.cap hc; omega) (Nat.lt_of_lt_of_le ho hext.size)).trans hblk
  have hsz := hext.size
  have hsz2 := hb.size
  refine ⟨?_, blk1_set h3, ?_⟩
  · refine ((hext.trans (T := fun b => b = o) (Ext.of_below hb) (fun _ _ h => h)).trans he (fun x hx e => by have := hou.cap e.2; omega)).trans (T := fun b => b = o) (Ext.setCell _ _ _ rfl) (fun _ _ h => h)
  · refine ((hou.below hb).next hs hg (by omega)).step (fun b hb1 _ => Below.heap_setCell _ _ _ _ (by show b ≠ o; omega)) (by simp [World.setCell])
set_option maxHeartbeats 8000000 in
theorem reach1_any {X : World} {gb n o : Nat} {on : Nat → Nat} {row : List Nat} {vr : Value} {K : Nat → Prop} (hT : Tab X) (hg : Gr X gb n on) (hF : Fit n on) (hr : natE.Row K X vr row) (hrow : ∀ i ∈ row, i < n) (ho : X.heap[o]? = some (.cells #[.slice none 0 0] 29 (0, 0))) (ho0 : 0 < o) :
    Calls Tryd.prog 21 #[.pointer (some ⟨gb, 0, none⟩), vr, .pointer (some ⟨o, 0, none⟩)] X (Cl1 natsE o 29 X ((List.range n).map (fun i => nodes (reachF on row i)))) := by
  have HTX := hid hT
  have HGX := hid hg
  have HF := hid hF
  have HR := hid hr
  have HRW := hid hrow
  have HB0 := hid ho
  have HO := hid (Array.getElem?_eq_some_iff.1 ho).1
  have HO0 := hid ho0
  have hn1 : (n : Int) ≤ 64 := by have := hF.n_; omega
  clear hT hg hF hr hrow ho ho0
  go_enter Tryd.func21, Tryd.ntmps21
  go_wp2_with (first | ((with_reducible refine wp_region_plan (id := 3) (.eff [(true, 0), (false, 1)] 2 [0] (.eff [] 3 [0] (.eff [] 4 [] (.eff [] 5 [] (.fin []))))) ?_ ?_ ?_ ?_ ?_ ?_); kernel_rfl; kernel_rfl; kernel_rfl; kernel_rfl; (intro c a d v w h; cases d <;> exact h)) | (with_reducible refine wpPlan_eff ?_) | (with_reducible refine wpPlan_fin ?_) | (with_reducible refine wpPlan_two ?_) | (with_reducible refine wpOpPair ?_ ?_) | ((with_reducible apply wpPre_keep); rfl; intro K' hK'; go_simp; refine hK' _ _ ?_; intro f hf; clear hK' K') | ((with_reducible apply wpPre_drop); rfl; intro K' hK'; go_simp; refine hK' _ _ ?_; intro f; clear hK' K') | (with_reducible refine wpPre_nil ?_) | ((with_reducible apply wpOp_list); rfl) | (with_reducible refine heldPair ?_ ?_) | ((with_reducible refine heldH_no ?_ ?_); rfl) | (with_reducible refine heldH_yes ?_ ?_) | (with_reducible exact heldH_nil) | (unfold YAt; go_simp; done) | (go_at_call 22; refine (reach_any HTX.out HGX.out HF.out HR.out HRW.out).mono ?_; rintro e w1 ⟨hb1, sb, rfl, hsb, hsa⟩; have HB1 := hid hb1; have HSA := hid hsa; have HSB := hid hsb; have hB1 := hb1.block o HO.out; rw [HB0.out] at hB1; have HBO := hid hB1; clear hb1 hsa hsb hB1))
  go_loopg [11] n (fun k vi wr => ∃ (j g : Nat) (v : Value), j + k = n ∧ vi = .int .i64 (j : Int) ∧ Ext (fun b => b = o) w1 wr ∧ wr.heap[o]? = some (.cells #[v] 29 (0, 0)) ∧ natsE.Out 25 w1.heap.size w1.heap.size g wr v ((List.range j).map (fun i => nodes (reachF on row i))))
  case atStart => exact ⟨0, 0, _, by omega, rfl, Ext.refl _ _, HBO.out, Enc.Out.start _ _ (Nat.le_refl _) (by have := HO.out; have := HB1.out.size; omega)⟩
  case round =>
    obtain ⟨j, g, v, hk, rfl, hext, hblk, hou⟩ := hrel
    obtain ⟨A, cp, rfl, hf1, hf2⟩ := hou.sp.form
    have hlen : ((List.range j).map (fun i => nodes (reachF on row i))).length = j := by simp
    rw [hlen] at hblk hou
    clear hlen
    have HK := hid hk
    have HEX := hid hext
    have HBL := hid hblk
    have HOU := hid hou
    have hol := (Array.getElem?_eq_some_iff.1 hblk).1
    have co := cell_blk hblk 0
    have fo := frz_blk hblk 0
    simp only [List.getElem?_toArray, List.getElem?_cons_zero] at co
    have HTR := hid ((HTX.out.below HB1.out).ext hext (by have := HO0.out; omega))
    have hsr := HSA.out.ext hext (by have := HSB.out; have := HO.out; omega)
    have hsl := hsr.lt
    by_cases hj : j < n
    · have c1 := row_set hsr hj
      have HFJ : Hid (reachF on row j < M64) := hid (by
        unfold reachF
        have : ∀ (l : List Nat) (f : Nat → Nat), (∀ x, f x < M64) → ∀ x, l.foldl (stepRe on) f x < M64 := by
          intro l
          induction l with
          | nil => intro f h; exact h
          | cons a l ih => intro f h; exact ih _ (stepRe_lt HF.out.lt h a)
        exact this row _ (fun _ => (by decide : (0 : Nat) < M64)) j)
      have HHB : Hid (∀ b, wr.heap.size ≤ b → w1.heap.size ≤ b ∧ b ≠ g) := hid (fun b hb => ⟨by have := HEX.out.size; omega, by have := HOU.out.lt; omega⟩)
      have hlen : ((List.range j).map (fun i => nodes (reachF on row i))).length = j := by simp
      have HLEN : Hid (((List.range j).map (fun i => nodes (reachF on row i))).length + [nodes (reachF on row j)].length ≤ 4294967296) := hid (by have := HF.out.n_; simp; omega)
      have hj0 : (0 : Int) ≤ j := by omega
      have hj1 : (j : Int) < n := by omega
      have HOL := hid hol
      have HO1 : Hid (o < w1.heap.size) := hid (by have := HO.out; have := HB1.out.size; omega)
      have HJ := hid hj
      clear hk hext hblk hou hf1 hf2 hsr hj hlen
      go_wp2_with (first | ((with_reducible refine wp_region_plan (id := 3) (.eff [(true, 0), (false, 1)] 2 [0] (.eff [] 3 [0] (.eff [] 4 [] (.eff [] 5 [] (.fin []))))) ?_ ?_ ?_ ?_ ?_ ?_); kernel_rfl; kernel_rfl; kernel_rfl; kernel_rfl; (intro c a d v w h; cases d <;> exact h)) | (with_reducible refine wpPlan_eff ?_) | (with_reducible refine wpPlan_fin ?_) | (with_reducible refine wpPlan_two ?_) | (with_reducible refine wpOpPair ?_ ?_) | ((with_reducible apply wpPre_keep); rfl; intro K' hK'; go_simp; refine hK' _ _ ?_; intro f hf; clear hK' K') | ((with_reducible apply wpPre_drop); rfl; intro K' hK'; go_simp; refine hK' _ _ ?_; intro f; clear hK' K') | (with_reducible refine wpPre_nil ?_) | ((with_reducible apply wpOp_list); rfl) | (with_reducible refine heldPair ?_ ?_) | ((with_reducible refine heldH_no ?_ ?_); rfl) | (with_reducible refine heldH_yes ?_ ?_) | (with_reducible exact heldH_nil) | (unfold YAt; go_simp; done) | (go_at_call 23; refine (list_any (HTR.out.below (by repeat (first | (with_reducible exact Below.refl _ _) | (with_reducible exact bl_mm) | (with_reducible refine bl_dr ?_) | (with_reducible refine bl_drN ?_ _) | (with_reducible refine bl_al ?_ _) | (with_reducible refine bl_more ?_ _ _)))) HFJ.out).mono ?_; rintro e w2 ⟨v2, g2, rfl, hn2⟩; have HLN := hid hn2.low; have HL2 := hid hn2.row; obtain ⟨A2, c2, rfl, _, _⟩ := HL2.out.form; clear hn2; obtain ⟨ex2, dx2, rfl⟩ := more_of (by first | exact below_und HLN.out | exact HLN.out)) | (at_builtin; refine wpList_app ok29 (ys := [nodes (reachF on row j)]) (by rfl) (.tmp 15) (.tmp 18) (by rfl) (by rfl) (by rfl) (by rfl) (HOU.out.below (by repeat (first | (with_reducible exact Below.refl _ _) | (with_reducible exact bl_mm) | (with_reducible refine bl_dr ?_) | (with_reducible refine bl_drN ?_ _) | (with_reducible refine bl_al ?_ _) | (with_reducible refine bl_more ?_ _ _)))).sp (src_list HL2.out (by repeat (first | (with_reducible exact Below.refl _ _) | (with_reducible exact bl_mm) | (with_reducible refine bl_dr ?_) | (with_reducible refine bl_drN ?_ _) | (with_reducible refine bl_al ?_ _) | (with_reducible refine bl_more ?_ _ _))) HHB.out (by simp [more_size])) (fun _ h _ => h.2) HLEN.out ?_; intro v3 w3 g3 hs3 he3 hg3; obtain ⟨A3, c3, rfl, _, _⟩ := hs3.form; have hy3 := (after_app (by repeat (first | (with_reducible exact Below.refl _ _) | (with_reducible exact bl_mm) | (with_reducible refine bl_dr ?_) | (with_reducible refine bl_drN ?_ _) | (with_reducible refine bl_al ?_ _) | (with_reducible refine bl_more ?_ _ _))) he3 (fun hc e => by have := HOU.out.cap hc; have := HO1.out; omega) HOL.out).trans HBL.out; have c3o := cell_blk hy3 0; have f3o := frz_blk hy3 0; simp only [List.getElem?_toArray, List.getElem?_cons_zero] at c3o; have hl3o := (Array.getElem?_eq_some_iff.1 hy3).1; clear hy3; have HS3 := hid hs3; have HE3 := hid he3; have HG3 := hid hg3; clear hs3 hg3 he3))
      go_roundg (n - (j + 1))
      case measure => have := HK.out; have := HJ.out; omega
      case rel =>
        obtain ⟨e1, e2, e3⟩ := app_end HEX.out HBL.out HOU.out HO1.out (by repeat (first | (with_reducible exact Below.refl _ _) | (with_reducible exact bl_mm) | (with_reducible refine bl_dr ?_) | (with_reducible refine bl_drN ?_ _) | (with_reducible refine bl_al ?_ _) | (with_reducible refine bl_more ?_ _ _))) HS3.out HE3.out HG3.out
        have hl : ((List.range j).map (fun i => nodes (reachF on row i)) ++ [nodes (reachF on row j)]).length = j + 1 := by simp
        rw [hl] at e1 e2 e3
        refine ⟨j + 1, g3, _, by have := HJ.out; have := HK.out; omega, rfl, e1, e2, ?_⟩
        rw [List.range_succ, List.map_append]
        exact e3
    · have hj1 : ¬ (j : Int) < n := by omega
      obtain rfl : j = n := by omega
      clear hk hext hblk hou hf1 hf2 hsr hj
      go_wp2_with (first | ((with_reducible refine wp_region_plan (id := 3) (.eff [(true, 0), (false, 1)] 2 [0] (.eff [] 3 [0] (.eff [] 4 [] (.eff [] 5 [] (.fin []))))) ?_ ?_ ?_ ?_ ?_ ?_); kernel_rfl; kernel_rfl; kernel_rfl; kernel_rfl; (intro c a d v w h; cases d <;> exact h)) | (with_reducible refine wpPlan_eff ?_) | (with_reducible refine wpPlan_fin ?_) | (with_reducible refine wpPlan_two ?_) | (with_reducible refine wpOpPair ?_ ?_) | ((with_reducible apply wpPre_keep); rfl; intro K' hK'; go_simp; refine hK' _ _ ?_; intro f hf; clear hK' K') | ((with_reducible apply wpPre_drop); rfl; intro K' hK'; go_simp; refine hK' _ _ ?_; intro f; clear hK' K') | (with_reducible refine wpPre_nil ?_) | ((with_reducible apply wpOp_list); rfl) | (with_reducible refine heldPair ?_ ?_) | ((with_reducible refine heldH_no ?_ ?_); rfl) | (with_reducible refine heldH_yes ?_ ?_) | (with_reducible exact heldH_nil) | (unfold YAt; go_simp; done))
      go_end0
      refine ⟨rfl, ((Ext.of_below HB1.out).trans (T := fun b => b = o) HEX.out (fun _ _ h => h)), _, HBL.out, ?_⟩
      have := HOU.out.row
      exact this.mono (fun b hb _ => by have := HB1.out.size; omega)
end Go.Proofs.YtomhpbhkckjmdaaDoorRR
