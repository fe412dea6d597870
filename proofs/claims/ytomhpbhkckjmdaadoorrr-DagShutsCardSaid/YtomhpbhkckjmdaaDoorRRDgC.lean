/- The graph, made. -/
import Derived.Test.YtomhpbhkckjmdaaDoorRRDgB
namespace Go.Proofs.YtomhpbhkckjmdaaDoorRR
open Go.RowKit

abbrev intE : Enc Int := Enc.int .i64
abbrev arcE : Enc (Int × Int) := Enc.pair intE intE
theorem arcE_open {K : Nat → Prop} {w : World} {a : Int × Int} {cs : List Value} (h : arcE.rd K w a cs) : cs = [.int .i64 a.1, .int .i64 a.2] := by
  obtain ⟨_, _, rfl, rfl, rfl⟩ := h
  rfl
theorem row_arc {K : Nat → Prop} {w : World} {A : Option Addr} {n c : Nat} {xs : List (Int × Int)} (h : arcE.Row K w (.slice A n c) xs) {i : Nat} {a : Int × Int} (hi : xs[i]? = some a) : ∃ b off, A = some ⟨b, off, none⟩ ∧ K b ∧ b < w.heap.size ∧ w.cell? ⟨b, off + i * 2, none⟩ = some (.int .i64 a.1) ∧ w.cell? ⟨b, off + i * 2 + 1, none⟩ = some (.int .i64 a.2) := by
  obtain ⟨hj, rfl⟩ := List.getElem?_eq_some_iff.1 hi
  obtain ⟨b, off, cs, e, hk, hl, h1, h2⟩ := h.get i hj
  have h1 := arcE_open h1
  subst h1
  exact ⟨b, off, e, hk, hl, h2 0 _ rfl, h2 1 _ rfl⟩
theorem get_lt {α : Type} {l : List α} {j : Nat} (h : j < l.length) : ∃ a, l[j]? = some a := ⟨_, List.getElem?_eq_getElem h⟩
theorem get_len {α : Type} {l : List α} {j : Nat} {a : α} (h : l[j]? = some a) : j < l.length := (List.getElem?_eq_some_iff.1 h).1
theorem take_next {α : Type} {l : List α} {j : Nat} {a : α} (h : l[j]? = some a) : l.take (j + 1) = l.take j ++ [a] := by rw [List.take_add_one, h]; rfl
abbrev Arcs := List (Int × Int)
def okArc (n : Int) (a : Int × Int) : Prop := 0 ≤ a.1 ∧ a.1 < n ∧ 0 ≤ a.2 ∧ a.2 < n
instance (n : Int) (a : Int × Int) : Decidable (okArc n a) := inferInstanceAs (Decidable (_ ∧ _))
def okB (n : Int) (l : Arcs) : Bool := decide (0 ≤ n ∧ n ≤ 64 ∧ l.length ≤ 4096 ∧ ∀ a ∈ l, okArc n a)
/-- On which a node leans. -/
def onAt (l : Arcs) (i : Nat) : Nat := l.foldl (fun s a => if a.2 = (i : Int) then s ||| bitN a.1.toNat else s) 0
theorem onAt_snoc (l : Arcs) (a : Int × Int) (i : Nat) : onAt (l ++ [a]) i = if a.2 = (i : Int) then onAt l i ||| bitN a.1.toNat else onAt l i := by
  unfold onAt
  rw [List.foldl_append]
  rfl
theorem onAt_lt {n : Int} : ∀ (l : Arcs) (i : Nat), n ≤ 64 → (∀ a ∈ l, okArc n a) → onAt l i < M64 := by
  intro l i hn
  unfold onAt
  have key : ∀ (l : Arcs) (s : Nat), s < M64 → (∀ a ∈ l, okArc n a) → l.foldl (fun s a => if a.2 = (i : Int) then s ||| bitN a.1.toNat else s) s < M64 := by
    intro l
    induction l with
    | nil => intro s hs _; exact hs
    | cons a l ih =>
      intro s hs h
      refine ih _ ?_ (fun b hb => h b (List.mem_cons_of_mem _ hb))
      have ha := h a (List.mem_cons_self ..)
      dsimp only
      split
      · refine or_lt64 hs (pow_lt64 ?_)
        have := ha.1
        have := ha.2.1
        omega
      · exact hs
  exact key l 0 (by decide)
/-- A graph in memory. -/
structure Gr (w : World) (b n : Nat) (on : Nat → Nat) : Prop where
  blk : ∃ cur, w.heap[b]? = some (.cells cur 57 (0, 0)) ∧ cur.size = 65
  n_ : w.cell? ⟨b, 0, none⟩ = some (.int .i64 (n : Int))
  at_ : ∀ i, i < 64 → w.cell? ⟨b, 1 + i, none⟩ = some (.int .u64 (on i : Int))
namespace Gr
variable {w w' : World} {b n : Nat} {on : Nat → Nat}
theorem lt (h : Gr w b n on) : b < w.heap.size := by
  obtain ⟨cur, h1, _⟩ := h.blk
  exact (Array.getElem?_eq_some_iff.1 h1).1
theorem frz (h : Gr w b n on) (o : Nat) : w.frozen? ⟨b, o, none⟩ = false := by
  obtain ⟨cur, h1, _⟩ := h.blk
  exact frz_blk h1 o
theorem step (h : Gr w b n on) (hb : w'.heap[b]? = w.heap[b]?) : Gr w' b n on := by
  obtain ⟨cur, h1, h2⟩ := h.blk
  exact ⟨⟨cur, hb.trans h1, h2⟩, (World.cell?_of_block (w := w) hb).trans h.n_, fun i hi => (World.cell?_of_block (w := w) hb).trans (h.at_ i hi)⟩
theorem below (h : Gr w b n on) (hb : Below w.heap.size w w') : Gr w' b n on := h.step (hb.block b h.lt)
theorem ext {S : Nat → Prop} (h : Gr w b n on) (hb : Ext S w w') (hS : ¬ S b) : Gr w' b n on := h.step (hb.block b h.lt hS)
theorem set (h : Gr w b n on) (i x : Nat) (hi : i < 64) : Gr (w.setCell ⟨b, 1 + i, none⟩ (.int .u64 (x : Int))) b n (fun j => if j = i then x else on j) := by
  obtain ⟨cur, h1, h2⟩ := h.blk
  refine ⟨⟨cur.setIfInBounds (1 + i) (.int .u64 (x : Int)), by simp [World.setCell, Array.getElem?_modify, h1], by simp [h2]⟩, ?_, fun j hj => ?_⟩
  · rw [World.cell?_setCell_other (h := by intro e; simp at e)]
    exact h.n_
  · by_cases hji : j = i
    · subst hji
      rw [if_pos rfl]
      simp only [World.cell?, World.setCell, Array.getElem?_modify, h1, if_true]
      rw [Option.map_some]
      simp only [Option.isSome_none, Bool.false_eq_true, if_false]
      rw [Array.getElem?_setIfInBounds_self_of_lt (by rw [h2]; omega)]
    · rw [if_neg hji, World.cell?_setCell_other (h := fun e => hji (by have := congrArg Addr.off e; simp at this; omega))]
      exact h.at_ j hj
end Gr
theorem bl_on {w wr X : World} (h : Below w.heap.size w wr) (k : Below wr.heap.size wr X) : Below w.heap.size w X := h.trans (k.mono h.size)
def gz : Array Value := (Value.int .i64 0 :: List.replicate 64 (Value.int .u64 0)).toArray
theorem zero57 (w : World) : (zeroValue 57).run Tryd.prog w = .ok (.agg gz) w := by kernel_rfl
theorem gz_size : gz.size = 65 := by kernel_rfl
theorem gz_ne : (gz = #[]) = False := eq_false (fun h => by have := congrArg Array.size h; rw [gz_size] at this; cases this)
theorem gz_at {i : Nat} (h : i < 64) : gz[1 + i]? = some (.int .u64 0) := by
  unfold gz
  rw [List.getElem?_toArray, Nat.add_comm, List.getElem?_cons_succ, List.getElem?_replicate, if_pos h]
theorem Gr.of {w : World} {b n : Nat} (h : w.heap[b]? = some (.cells (gz.setIfInBounds 0 (.int .i64 (n : Int))) 57 (0, 0))) : Gr w b n (onAt []) := by
  refine ⟨⟨_, h, by simp [gz_size]⟩, ?_, fun i hi => ?_⟩
  · rw [cell_blk h, Array.getElem?_setIfInBounds_self_of_lt (by rw [gz_size]; omega)]
  · rw [cell_blk h, Array.getElem?_setIfInBounds_ne (by omega), gz_at hi]
    rfl
def strayV : Value := .iface 61 (.agg #[])
def circleV : Value := .iface 63 (.agg #[])
abbrev pan (v : Value) : Ending := .panicked [{ v := v, recovered := false }]
def MadeP (n : Int) (l : Arcs) (w : World) (e : Ending) (w' : World) : Prop :=
  Below w.heap.size w w' ∧ ((okB n l = true ∧ ∃ b, e = .returned (.pointer (some ⟨b, 0, none⟩)) ∧ w.heap.size ≤ b ∧ Gr w' b n.toNat (onAt l)) ∨ (okB n l = false ∧ e = pan strayV))
set_option maxHeartbeats 4000000 in
theorem made_big {w : World} {K : Nat → Prop} {n : Int} {v : Value} {l : Arcs} (hv : arcE.Row K w v l) (h : n < 0 ∨ 64 < n ∨ 4096 < l.length) : Calls Tryd.prog 31 #[.int .i64 n, v] w (MadeP n l w) := by
  obtain ⟨A, c, rfl, _, hc⟩ := hv.form
  have hok : okB n l = false := decide_eq_false (by omega)
  have HOK := hid hok
  clear hok hv
  by_cases h1 : n < 0
  · clear h
    go_enter Tryd.func31, Tryd.ntmps31
    go_wp2
    refine ⟨rfl, ?_⟩
    exact ⟨(by repeat (first | (with_reducible exact Below.refl _ _) | (with_reducible exact bl_mm) | (with_reducible refine bl_dr ?_) | (with_reducible refine bl_drN ?_ _) | (with_reducible refine bl_al ?_ _) | (with_reducible refine bl_more ?_ _ _))), .inr ⟨HOK.out, rfl⟩⟩
  · by_cases h2 : 64 < n
    · clear h
      go_enter Tryd.func31, Tryd.ntmps31
      go_wp2
      refine ⟨rfl, ?_⟩
      exact ⟨(by repeat (first | (with_reducible exact Below.refl _ _) | (with_reducible exact bl_mm) | (with_reducible refine bl_dr ?_) | (with_reducible refine bl_drN ?_ _) | (with_reducible refine bl_al ?_ _) | (with_reducible refine bl_more ?_ _ _))), .inr ⟨HOK.out, rfl⟩⟩
    · have h3 : (4096 : Int) < (l.length : Int) := by omega
      clear h
      go_enter Tryd.func31, Tryd.ntmps31
      go_wp2
      refine ⟨rfl, ?_⟩
      exact ⟨(by repeat (first | (with_reducible exact Below.refl _ _) | (with_reducible exact bl_mm) | (with_reducible refine bl_dr ?_) | (with_reducible refine bl_drN ?_ _) | (with_reducible refine bl_al ?_ _) | (with_reducible refine bl_more ?_ _ _))), .inr ⟨HOK.out, rfl⟩⟩
theorem okB_false {n : Int} {l : Arcs} {j : Nat} {a : Int × Int} (hj : l[j]? = some a) (h : ¬ okArc n a) : okB n l = false := decide_eq_false (fun hh => h (hh.2.2.2 _ (List.mem_of_getElem? hj)))
theorem okB_true {n : Int} {l : Arcs} (h0 : 0 ≤ n) (h1 : n ≤ 64) (h2 : l.length ≤ 4096) (h : ∀ (i : Nat) a, l[i]? = some a → okArc n a) : okB n l = true := decide_eq_true ⟨h0, h1, h2, fun a ha => by obtain ⟨i, hi⟩ := List.mem_iff_getElem?.1 ha; exact h i a hi⟩
set_option maxRecDepth 8000 in
set_option maxHeartbeats 8000000 in
theorem made_any {w : World} {K : Nat → Prop} {n : Int} {v : Value} {l : Arcs} (hv : arcE.Row K w v l) : Calls Tryd.prog 31 #[.int .i64 n, v] w (MadeP n l w) := by
  by_cases hbig : n < 0 ∨ 64 < n ∨ 4096 < l.length
  · exact made_big hv hbig
  have n0 : 0 ≤ n := by omega
  have n1 : n ≤ 64 := by omega
  have hlen : l.length ≤ 4096 := by omega
  have n0' : ¬ n < 0 := by omega
  have n1' : ¬ 64 < n := by omega
  have hl1 : (l.length : Int) ≤ 4096 := by omega
  have hl1' : ¬ (4096 : Int) < (l.length : Int) := by omega
  obtain ⟨A, c, rfl, _, hc⟩ := hv.form
  have HV := hid hv
  have HLN := hid hlen
  have HN := hid (And.intro n0 n1)
  have hz := zero57
  have hzn := gz_ne
  clear hbig hv
  go_enter Tryd.func31, Tryd.ntmps31
  go_wp2
  go_loopg [26] l.length (fun k vc wr => ∃ j : Nat, j + k = l.length ∧ vc = .int .i64 (j : Int) ∧ (∀ (i : Nat) a, l[i]? = some a → i < j → okArc n a) ∧ Below w.heap.size w wr ∧ Gr wr w.heap.size n.toNat (onAt (l.take j)))
  case atStart =>
    refine ⟨0, by omega, rfl, fun i a _ h => by omega, (by repeat (first | (with_reducible exact Below.refl _ _) | (with_reducible exact bl_mm) | (with_reducible refine bl_dr ?_) | (with_reducible refine bl_drN ?_ _) | (with_reducible refine bl_al ?_ _) | (with_reducible refine bl_more ?_ _ _))), Gr.of ?_⟩
    rw [Int.toNat_of_nonneg HN.out.1]
    exact alloc_blk rfl
  case round =>
    obtain ⟨j, hk, rfl, hok, hbw, hg⟩ := hrel
    have HK := hid hk
    have HOK := hid hok
    have HBW := hid hbw
    have HG := hid hg
    have hgl := hg.lt
    by_cases hj : j < l.length
    · obtain ⟨a, hla⟩ := get_lt hj
      obtain ⟨bb, oo, rfl, _, hbl, x1, x2⟩ := row_arc (HV.out.below hbw) hla
      have hj0 : (0 : Int) ≤ j := by omega
      have hjx : (j : Int) < l.length := by omega
      have HJ := hid hla
      clear hla
      obtain ⟨a1, a2⟩ := a
      by_cases ha : okArc n (a1, a2)
      · obtain ⟨fm, rfl⟩ : ∃ fm : Nat, a1 = fm := ⟨_, (Int.toNat_of_nonneg ha.1).symm⟩
        obtain ⟨tm, rfl⟩ : ∃ tm : Nat, a2 = tm := ⟨_, (Int.toNat_of_nonneg ha.2.2.1).symm⟩
        have hff : fm < 64 ∧ (fm : Int) < n := by have : (fm : Int) < n := ha.2.1; omega
        have htt : tm < 64 ∧ (tm : Int) < n := by have : (tm : Int) < n := ha.2.2.2; omega
        have c1 := hg.at_ tm htt.1
        have fz1 := hg.frz (1 + tm)
        have hbo := bits_add (onAt (l.take j) tm) fm (onAt_lt (n := n) (l.take j) tm n1 (fun a ha => by
          obtain ⟨i, hi⟩ := List.mem_iff_getElem?.1 ha
          rw [List.getElem?_take] at hi
          split at hi
          · exact hok i a hi (by assumption)
          · cases hi)) hff.1
        have HF := hid hff.1
        have HTL := hid htt.1
        have f0 : (0 : Int) ≤ fm := by omega
        have f1 : (fm : Int) < n := hff.2
        have f2 : ¬ (fm : Int) < 0 := by omega
        have f3 : ¬ n ≤ (fm : Int) := by omega
        have t0 : (0 : Int) ≤ tm := by omega
        have t1 : (tm : Int) < n := htt.2
        have t2 : ¬ (tm : Int) < 0 := by omega
        have t3 : ¬ n ≤ (tm : Int) := by omega
        have t4 : (tm : Int) < 64 := by omega
        have HA := hid ha
        clear hk hok hbw hg ha hff htt hj
        go_wp2_with (first | ((with_reducible refine wp_region_plan (id := 9) (.eff [(true, 0), (true, 1), (true, 2), (true, 3), (true, 4), (true, 5), (true, 6), (false, 7), (false, 8), (true, 11), (true, 12)] 9 [0, 1, 2, 3, 4, 5, 6, 11, 12] (.eff [(false, 10), (false, 13)] 14 [] (.fin []))) ?_ ?_ ?_ ?_ ?_ ?_); kernel_rfl; kernel_rfl; kernel_rfl; kernel_rfl; (intro c a d v w h; cases d <;> exact h)) | (with_reducible refine wpPlan_eff ?_) | (with_reducible refine wpPlan_fin ?_) | (with_reducible refine wpPlan_two ?_) | (with_reducible refine wpOpPair ?_ ?_) | ((with_reducible apply wpPre_keep); rfl; intro K' hK'; go_simp; refine hK' _ _ ?_; intro f hf; clear hK' K') | ((with_reducible apply wpPre_drop); rfl; intro K' hK'; go_simp; refine hK' _ _ ?_; intro f; clear hK' K') | (with_reducible refine wpPre_nil ?_) | ((with_reducible apply wpOp_list); rfl) | (with_reducible refine heldPair ?_ ?_) | ((with_reducible refine heldH_no ?_ ?_); rfl) | (with_reducible refine heldH_yes ?_ ?_) | (with_reducible exact heldH_nil) | (unfold YAt; go_simp; done) | (go_at_call 29; refine (one_any fm HF.out).mono ?_; rintro e w3 ⟨rfl, rfl⟩))
        go_roundg (l.length - (j + 1))
        case measure => have := HK.out; have := get_len HJ.out; omega
        case rel =>
          refine ⟨j + 1, by have := get_len HJ.out; omega, rfl, fun i a hi hlt => ?_, ?_, ?_⟩
          · rcases Nat.lt_or_ge i j with h | h
            · exact HOK.out i a hi h
            · obtain rfl : i = j := by omega
              rw [HJ.out] at hi
              cases hi
              exact HA.out
          · refine Below.drew ((Below.setCell HBW.out ?_ _).alloc ?_ _)
            · exact Nat.le_refl _
            · have := HBW.out.size; simpa using this
          · have h := HG.out.set tm (onAt (l.take j) tm ||| bitN fm) HTL.out
            have e : onAt (l.take (j + 1)) = fun i => if i = tm then onAt (l.take j) tm ||| bitN fm else onAt (l.take j) i := by
              funext i
              rw [take_next HJ.out, onAt_snoc]
              by_cases hi : i = tm
              · subst hi; rw [if_pos rfl, if_pos rfl]; rfl
              · rw [if_neg (fun h : (tm : Int) = (i : Int) => hi (by omega)), if_neg hi]
            rw [e]
            exact h.below (by repeat (first | (with_reducible exact Below.refl _ _) | (with_reducible exact bl_mm) | (with_reducible refine bl_dr ?_) | (with_reducible refine bl_drN ?_ _) | (with_reducible refine bl_al ?_ _) | (with_reducible refine bl_more ?_ _ _)))
      · by_cases h1 : a1 < 0
        · have HA := hid ha
          clear hk hok hbw hg ha hj
          go_wp2_with (first | ((with_reducible refine wp_region_plan (id := 9) (.eff [(true, 0), (true, 1), (true, 2), (true, 3), (true, 4), (true, 5), (true, 6), (false, 7), (false, 8), (true, 11), (true, 12)] 9 [0, 1, 2, 3, 4, 5, 6, 11, 12] (.eff [(false, 10), (false, 13)] 14 [] (.fin []))) ?_ ?_ ?_ ?_ ?_ ?_); kernel_rfl; kernel_rfl; kernel_rfl; kernel_rfl; (intro c a d v w h; cases d <;> exact h)) | (with_reducible refine wpPlan_eff ?_) | (with_reducible refine wpPlan_fin ?_) | (with_reducible refine wpPlan_two ?_) | (with_reducible refine wpOpPair ?_ ?_) | ((with_reducible apply wpPre_keep); rfl; intro K' hK'; go_simp; refine hK' _ _ ?_; intro f hf; clear hK' K') | ((with_reducible apply wpPre_drop); rfl; intro K' hK'; go_simp; refine hK' _ _ ?_; intro f; clear hK' K') | (with_reducible refine wpPre_nil ?_) | ((with_reducible apply wpOp_list); rfl) | (with_reducible refine heldPair ?_ ?_) | ((with_reducible refine heldH_no ?_ ?_); rfl) | (with_reducible refine heldH_yes ?_ ?_) | (with_reducible exact heldH_nil) | (unfold YAt; go_simp; done))
          refine ⟨rfl, ?_⟩
          exact ⟨bl_on HBW.out (by repeat (first | (with_reducible exact Below.refl _ _) | (with_reducible exact bl_mm) | (with_reducible refine bl_dr ?_) | (with_reducible refine bl_drN ?_ _) | (with_reducible refine bl_al ?_ _) | (with_reducible refine bl_more ?_ _ _))), .inr ⟨okB_false HJ.out HA.out, rfl⟩⟩
        · by_cases h2 : n ≤ a1
          · have HA := hid ha
            clear hk hok hbw hg ha hj
            go_wp2_with (first | ((with_reducible refine wp_region_plan (id := 9) (.eff [(true, 0), (true, 1), (true, 2), (true, 3), (true, 4), (true, 5), (true, 6), (false, 7), (false, 8), (true, 11), (true, 12)] 9 [0, 1, 2, 3, 4, 5, 6, 11, 12] (.eff [(false, 10), (false, 13)] 14 [] (.fin []))) ?_ ?_ ?_ ?_ ?_ ?_); kernel_rfl; kernel_rfl; kernel_rfl; kernel_rfl; (intro c a d v w h; cases d <;> exact h)) | (with_reducible refine wpPlan_eff ?_) | (with_reducible refine wpPlan_fin ?_) | (with_reducible refine wpPlan_two ?_) | (with_reducible refine wpOpPair ?_ ?_) | ((with_reducible apply wpPre_keep); rfl; intro K' hK'; go_simp; refine hK' _ _ ?_; intro f hf; clear hK' K') | ((with_reducible apply wpPre_drop); rfl; intro K' hK'; go_simp; refine hK' _ _ ?_; intro f; clear hK' K') | (with_reducible refine wpPre_nil ?_) | ((with_reducible apply wpOp_list); rfl) | (with_reducible refine heldPair ?_ ?_) | ((with_reducible refine heldH_no ?_ ?_); rfl) | (with_reducible refine heldH_yes ?_ ?_) | (with_reducible exact heldH_nil) | (unfold YAt; go_simp; done))
            refine ⟨rfl, ?_⟩
            exact ⟨bl_on HBW.out (by repeat (first | (with_reducible exact Below.refl _ _) | (with_reducible exact bl_mm) | (with_reducible refine bl_dr ?_) | (with_reducible refine bl_drN ?_ _) | (with_reducible refine bl_al ?_ _) | (with_reducible refine bl_more ?_ _ _))), .inr ⟨okB_false HJ.out HA.out, rfl⟩⟩
          · by_cases h3 : a2 < 0
            · have HA := hid ha
              clear hk hok hbw hg ha hj
              go_wp2_with (first | ((with_reducible refine wp_region_plan (id := 9) (.eff [(true, 0), (true, 1), (true, 2), (true, 3), (true, 4), (true, 5), (true, 6), (false, 7), (false, 8), (true, 11), (true, 12)] 9 [0, 1, 2, 3, 4, 5, 6, 11, 12] (.eff [(false, 10), (false, 13)] 14 [] (.fin []))) ?_ ?_ ?_ ?_ ?_ ?_); kernel_rfl; kernel_rfl; kernel_rfl; kernel_rfl; (intro c a d v w h; cases d <;> exact h)) | (with_reducible refine wpPlan_eff ?_) | (with_reducible refine wpPlan_fin ?_) | (with_reducible refine wpPlan_two ?_) | (with_reducible refine wpOpPair ?_ ?_) | ((with_reducible apply wpPre_keep); rfl; intro K' hK'; go_simp; refine hK' _ _ ?_; intro f hf; clear hK' K') | ((with_reducible apply wpPre_drop); rfl; intro K' hK'; go_simp; refine hK' _ _ ?_; intro f; clear hK' K') | (with_reducible refine wpPre_nil ?_) | ((with_reducible apply wpOp_list); rfl) | (with_reducible refine heldPair ?_ ?_) | ((with_reducible refine heldH_no ?_ ?_); rfl) | (with_reducible refine heldH_yes ?_ ?_) | (with_reducible exact heldH_nil) | (unfold YAt; go_simp; done))
              refine ⟨rfl, ?_⟩
              exact ⟨bl_on HBW.out (by repeat (first | (with_reducible exact Below.refl _ _) | (with_reducible exact bl_mm) | (with_reducible refine bl_dr ?_) | (with_reducible refine bl_drN ?_ _) | (with_reducible refine bl_al ?_ _) | (with_reducible refine bl_more ?_ _ _))), .inr ⟨okB_false HJ.out HA.out, rfl⟩⟩
            · have h4 : n ≤ a2 := by
                apply Classical.byContradiction
                intro h4
                exact ha ⟨by show 0 ≤ a1; omega, by show a1 < n; omega, by show 0 ≤ a2; omega, by show a2 < n; omega⟩
              have HA := hid ha
              clear hk hok hbw hg ha hj
              go_wp2_with (first | ((with_reducible refine wp_region_plan (id := 9) (.eff [(true, 0), (true, 1), (true, 2), (true, 3), (true, 4), (true, 5), (true, 6), (false, 7), (false, 8), (true, 11), (true, 12)] 9 [0, 1, 2, 3, 4, 5, 6, 11, 12] (.eff [(false, 10), (false, 13)] 14 [] (.fin []))) ?_ ?_ ?_ ?_ ?_ ?_); kernel_rfl; kernel_rfl; kernel_rfl; kernel_rfl; (intro c a d v w h; cases d <;> exact h)) | (with_reducible refine wpPlan_eff ?_) | (with_reducible refine wpPlan_fin ?_) | (with_reducible refine wpPlan_two ?_) | (with_reducible refine wpOpPair ?_ ?_) | ((with_reducible apply wpPre_keep); rfl; intro K' hK'; go_simp; refine hK' _ _ ?_; intro f hf; clear hK' K') | ((with_reducible apply wpPre_drop); rfl; intro K' hK'; go_simp; refine hK' _ _ ?_; intro f; clear hK' K') | (with_reducible refine wpPre_nil ?_) | ((with_reducible apply wpOp_list); rfl) | (with_reducible refine heldPair ?_ ?_) | ((with_reducible refine heldH_no ?_ ?_); rfl) | (with_reducible refine heldH_yes ?_ ?_) | (with_reducible exact heldH_nil) | (unfold YAt; go_simp; done))
              refine ⟨rfl, ?_⟩
              exact ⟨bl_on HBW.out (by repeat (first | (with_reducible exact Below.refl _ _) | (with_reducible exact bl_mm) | (with_reducible refine bl_dr ?_) | (with_reducible refine bl_drN ?_ _) | (with_reducible refine bl_al ?_ _) | (with_reducible refine bl_more ?_ _ _))), .inr ⟨okB_false HJ.out HA.out, rfl⟩⟩
    · have hjx : ¬ (j : Int) < l.length := by omega
      have HJ := hid hj
      clear hk hok hbw hg hj
      go_wp2_with (first | ((with_reducible refine wp_region_plan (id := 9) (.eff [(true, 0), (true, 1), (true, 2), (true, 3), (true, 4), (true, 5), (true, 6), (false, 7), (false, 8), (true, 11), (true, 12)] 9 [0, 1, 2, 3, 4, 5, 6, 11, 12] (.eff [(false, 10), (false, 13)] 14 [] (.fin []))) ?_ ?_ ?_ ?_ ?_ ?_); kernel_rfl; kernel_rfl; kernel_rfl; kernel_rfl; (intro c a d v w h; cases d <;> exact h)) | (with_reducible refine wpPlan_eff ?_) | (with_reducible refine wpPlan_fin ?_) | (with_reducible refine wpPlan_two ?_) | (with_reducible refine wpOpPair ?_ ?_) | ((with_reducible apply wpPre_keep); rfl; intro K' hK'; go_simp; refine hK' _ _ ?_; intro f hf; clear hK' K') | ((with_reducible apply wpPre_drop); rfl; intro K' hK'; go_simp; refine hK' _ _ ?_; intro f; clear hK' K') | (with_reducible refine wpPre_nil ?_) | ((with_reducible apply wpOp_list); rfl) | (with_reducible refine heldPair ?_ ?_) | ((with_reducible refine heldH_no ?_ ?_); rfl) | (with_reducible refine heldH_yes ?_ ?_) | (with_reducible exact heldH_nil) | (unfold YAt; go_simp; done))
      go_ret
      refine ⟨bl_on HBW.out (by repeat (first | (with_reducible exact Below.refl _ _) | (with_reducible exact bl_mm) | (with_reducible refine bl_dr ?_) | (with_reducible refine bl_drN ?_ _) | (with_reducible refine bl_al ?_ _) | (with_reducible refine bl_more ?_ _ _))), .inl ⟨okB_true HN.out.1 HN.out.2 HLN.out (fun i a hi => HOK.out i a hi (by have := get_len hi; have := HJ.out; omega)), _, rfl, Nat.le_refl _, ?_⟩⟩
      have := HG.out
      rw [List.take_of_length_le (by have := HJ.out; omega)] at this
      exact this.below (by repeat (first | (with_reducible exact Below.refl _ _) | (with_reducible exact bl_mm) | (with_reducible refine bl_dr ?_) | (with_reducible refine bl_drN ?_ _) | (with_reducible refine bl_al ?_ _) | (with_reducible refine bl_more ?_ _ _)))
end Go.Proofs.YtomhpbhkckjmdaaDoorRR
