/- Pop and Steal. -/
import Derived.Test.YtlfdnjomjheioaaDqB
namespace Go.Proofs.Ytlfdnjomjheioaa
open Go.RowKit

/-- The element at a place of a deque's list, cell by cell. -/
theorem Dq.elem {F : Nat → Prop} {w : World} {d g : Nat} {l : List Job} {A : Option Addr} {n c : Nat} (hsp : jobE.Spine 33 (Kx F d g) g w (.slice A n c) l) (i : Nat) (hi : i < l.length) :
    ∃ off B cb, A = some ⟨g, off, none⟩ ∧ g < w.heap.size ∧ intE.Row (Kx F d g) w (.slice B l[i].stamp.length cb) l[i].stamp ∧
      ∀ j u, (jobCells l[i] (.slice B l[i].stamp.length cb))[j]? = some u → w.cell? ⟨g, off + i * 6 + j, none⟩ = some u := by
  have hc : c ≠ 0 := by
    obtain ⟨A', c1, he, h2, h3, h4⟩ := hsp
    obtain ⟨rfl, rfl, rfl⟩ := Value.slice.inj he
    omega
  obtain ⟨off, rfl, hat⟩ := hsp.at_ hc
  obtain ⟨cs, hrd, hcs⟩ := hat i hi
  obtain ⟨v, rfl, hv⟩ := jobE_open hrd
  obtain ⟨B, cb, rfl, _⟩ := hv.form
  exact ⟨off, B, cb, rfl, hsp.lt (fun h => by subst h; simp at hi), hv, hcs⟩

theorem run_slice_from {P : Program} (t e : TypeId) (size : Nat) {i : TypeInfo} (ht : P.underlying t = some (.slice e)) (hi : P.info? e = some i) (hs : i.size = size) (A : Option Addr) (n c k : Nat) (hk : k ≤ n) :
    ∃ A', (c ≠ k → A' = A.map (·.add (k * size))) ∧ ∀ W, (Instr.slice t (.slice A n c) (some (.int .i64 k)) none none).run P W = .ok (.slice A' (n - k) (c - k)) W := by
  refine ⟨if c = k then A else A.map (·.add (k * size)), fun h => by rw [if_neg h], fun W => ?_⟩
  subst hs
  have h0 : (0 : Int) ≤ (k : Int) := Int.natCast_nonneg _
  simp [Instr.slice, run_underlying ht, Instr.sliceBounds, Instr.sliceBound, asIntOf, sizeOf, typeInfo, hi]
  intro; omega


theorem Spine_empty {α : Type} {e : Enc α} {E : TypeId} {K K' : Nat → Prop} {g g' : Nat} {w w' : World} {v : Value} {xs : List α} (h : e.Spine E K g w v xs) (hc : capOf v = 0) : e.Spine E K' g' w' v xs := by
  obtain ⟨A, c, rfl, h1, h2, _⟩ := h
  exact ⟨A, c, rfl, h1, h2, fun h => absurd hc h⟩

/-- A deque behind the store of its row, in a world that is otherwise the old one with new blocks. -/
theorem cut_end {F : Nat → Prop} {w X Y : World} {d g g2 : Nat} {l' : List Job} {v2 vo : Value} {e : Array Obj} {n : Nat} (hb : w.heap[d]? = some (.cells #[.bool true, vo] 88 (0, 0))) (hown : g = d ∨ g < w.heap.size)
    (hXb : Below w.heap.size w X) (hg2 : (g2 = d ∧ (more X e n).heap.size = X.heap.size) ∨ (g2 = X.heap.size ∧ (more X e n).heap.size = X.heap.size + 1))
    (hs : jobE.Spine 33 (fun b => (Kx F d g b ∧ b < w.heap.size) ∧ b < X.heap.size) g2 (more X e n) v2 l')
    (hsz : Y.heap.size = X.heap.size) (hY : Below (w.setCell ⟨d, 1, none⟩ v2).heap.size (w.setCell ⟨d, 1, none⟩ v2) Y) (hfew : l'.length ≤ 128) (hok : ∀ j ∈ l', okJob j) :
    ∃ g', Dq (more Y e n) F d g' l' ∧ Up d g w g' (more Y e n) := by
  have hd : d < w.heap.size := (Array.getElem?_eq_some_iff.1 hb).1
  have hX := hXb.size
  have hxd : (more X e n).heap[d]? = w.heap[d]? := by rw [more_heap (by omega), hXb.block d hd]
  have hS : (w.setCell ⟨d, 1, none⟩ v2).heap.size = w.heap.size := by simp [World.setCell]
  have hbS : (w.setCell ⟨d, 1, none⟩ v2).heap[d]? = some (.cells #[.bool true, v2] 88 (0, 0)) := by simp [World.setCell, Array.getElem?_modify, hb]
  have hYd : (more Y e n).heap[d]? = some (.cells #[.bool true, v2] 88 (0, 0)) := by
    rw [more_heap (by omega), hY.block d (by omega)]; exact hbS
  have hYo : ∀ b, b < w.heap.size → b ≠ d → (more Y e n).heap[b]? = w.heap[b]? := by
    intro b hl hne
    rw [more_heap (by omega), hY.block b (by omega), Below.heap_setCell _ _ _ _ (by exact hne)]
  have hext : Ext (fun b => b = d ∨ b = g) w (more Y e n) :=
    ((Ext.setCell w ⟨d, 1, none⟩ v2 (.inl rfl)).trans (T := fun b => b = d ∨ b = g) (Ext.of_below (hY.trans ((more_below Y e n).mono (by omega)))) (fun _ _ h => h))
  have hsize : (more Y e n).heap.size = (more X e n).heap.size := by rw [more_size, more_size, hsz]
  rcases hg2 with ⟨rfl, h2⟩ | ⟨rfl, h2⟩
  · have hc : capOf v2 = 0 := by
      apply Classical.byContradiction
      intro hc
      obtain ⟨cur, h⟩ := hs.type hc
      rw [hxd, hb] at h; cases h
    refine ⟨g, ⟨by rw [hsize, h2]; omega, hfew, hok, hown.imp id (fun h => by rw [hsize, h2]; omega), v2, hYd, Spine_empty hs hc⟩, hext, .inl rfl⟩
  · refine ⟨X.heap.size, ⟨by rw [hsize, h2]; omega, hfew, hok, .inr (by rw [hsize, h2]; omega), v2, hYd, hs.step (fun cur hc => ?_) (fun b hk hl => ⟨⟨hk.1.1.1, hk.1.1.2.1, by omega⟩, ?_⟩)⟩, hext, .inr hX⟩
    · rw [more_swap hsz (Nat.le_refl _)]; exact hc
    · rw [hYo b hk.1.2 hk.1.1.2.1, more_heap hk.2, hXb.block b hk.1.2]

theorem Src_mono {α : Type} {e : Enc α} {K K' : Nat → Prop} {w : World} {v : Value} {xs : List α} (h : e.Src K w v xs) (hk : ∀ b, K b → b < w.heap.size → K' b) : e.Src K' w v xs := by
  obtain ⟨A, c, rfl, h1, h2, h3⟩ := h
  exact ⟨A, c, rfl, h1, h2, fun hx => by obtain ⟨b, off, e, ha⟩ := h3 hx; exact ⟨b, off, e, ha.mono hk⟩⟩

theorem cut_fin {F : Nat → Prop} {w X Y : World} {d g g2 : Nat} {l' : List Job} {x : Job} {v0 v2 vo : Value} {e : Array Obj} {n : Nat} (hb : w.heap[d]? = some (.cells #[.bool true, vo] 88 (0, 0))) (hown : g = d ∨ g < w.heap.size)
    (hXb : Below w.heap.size w X) (hg2 : (g2 = d ∧ (more X e n).heap.size = X.heap.size) ∨ (g2 = X.heap.size ∧ (more X e n).heap.size = X.heap.size + 1))
    (hs : jobE.Spine 33 (fun b => (Kx F d g b ∧ b < w.heap.size) ∧ b < X.heap.size) g2 (more X e n) v2 l') (hv : intE.Row (Kx F d g) w v0 x.stamp)
    (hsz : Y.heap.size = X.heap.size) (hY : Below (w.setCell ⟨d, 1, none⟩ v2).heap.size (w.setCell ⟨d, 1, none⟩ v2) Y) (hfew : l'.length ≤ 128) (hok : ∀ j ∈ l', okJob j) :
    ∃ g' v', Ending.returned (.tuple #[jobV x v0, .int .i64 0]) = .returned (.tuple #[jobV x v', .int .i64 0]) ∧ intE.Row (Kx F d g') (more Y e n) v' x.stamp ∧ Dq (more Y e n) F d g' l' ∧ Up d g w g' (more Y e n) := by
  obtain ⟨g', h1, h2⟩ := cut_end hb hown hXb hg2 hs hsz hY hfew hok
  exact ⟨g', v0, rfl, h2.row hv, h1, h2⟩

theorem pop_fin {F : Nat → Prop} {w Y : World} {d g : Nat} {l' : List Job} {x : Job} {v0 v2 vo : Value} (hb : w.heap[d]? = some (.cells #[.bool true, vo] 88 (0, 0))) (hown : g = d ∨ g < w.heap.size)
    (hs : jobE.Spine 33 (Kx F d g) g w v2 l') (hv : intE.Row (Kx F d g) w v0 x.stamp)
    (hY : Below (w.setCell ⟨d, 1, none⟩ v2).heap.size (w.setCell ⟨d, 1, none⟩ v2) Y) (hfew : l'.length ≤ 128) (hok : ∀ j ∈ l', okJob j) :
    ∃ g' v', Ending.returned (.tuple #[jobV x v0, .int .i64 0]) = .returned (.tuple #[jobV x v', .int .i64 0]) ∧ intE.Row (Kx F d g') Y v' x.stamp ∧ Dq Y F d g' l' ∧ Up d g w g' Y := by
  have h1 := (Dq.stored hb hs (fun b hk _ => hk) hfew hok hown).below hY
  have h2 : Up d g w g Y := ⟨(Ext.setCell w ⟨d, 1, none⟩ v2 (.inl rfl)).trans (T := fun b => b = d ∨ b = g) (Ext.of_below hY) (fun _ _ h => h), .inl rfl⟩
  exact ⟨g, v0, rfl, h2.row hv, h1, h2⟩

set_option maxHeartbeats 4000000 in
theorem steal_some {F : Nat → Prop} {w : World} {d g : Nat} {l : List Job} {x : Job} (h : Dq w F d g (x :: l)) :
    Calls Try.prog 48 #[.pointer (some ⟨d, 0, none⟩)] w fun e w' => ∃ g' v', e = .returned (.tuple #[jobV x v', .int .i64 0]) ∧ intE.Row (Kx F d g') w' v' x.stamp ∧ Dq w' F d g' l ∧ Up d g w g' w' := by
  obtain ⟨A, c, hb, hsp, hle, hc⟩ := h.cells
  have hlen : (x :: l).length = l.length + 1 := by simp
  rw [hlen] at hb hsp hle
  have hd := h.lt
  have h0 : w.cell? ⟨d, 0, none⟩ = some (.bool true) := cell_blk hb 0
  have h1 : w.cell? ⟨d, 1, none⟩ = some (.slice A (l.length + 1) c) := cell_blk hb 1
  have f1 : w.frozen? ⟨d, 1, none⟩ = false := frz_blk hb 1
  obtain ⟨off, B, cb, rfl, hgl, hv, he⟩ := Dq.elem hsp 0 (by simp)
  have hx : (x :: l)[0]'(by simp) = x := by simp
  rw [hx] at hv he
  have e0 : w.cell? ⟨g, off, none⟩ = some (.int .i64 x.item) := by have := he 0 _ rfl; simpa using this
  have e1 : w.cell? ⟨g, off + 1, none⟩ = some (.bool x.undo) := by have := he 1 _ rfl; simpa using this
  have e2 : w.cell? ⟨g, off + 2, none⟩ = some (.int .i64 x.try_) := by have := he 2 _ rfl; simpa using this
  have e3 : w.cell? ⟨g, off + 3, none⟩ = some (.bool x.begun) := by have := he 3 _ rfl; simpa using this
  have e4 : w.cell? ⟨g, off + 4, none⟩ = some (.int .i64 x.token) := by have := he 4 _ rfl; simpa using this
  have e5 : w.cell? ⟨g, off + 5, none⟩ = some (.slice B x.stamp.length cb) := by have := he 5 _ rfl; simpa using this
  clear he hx
  obtain ⟨i0, hi, _, hz1, _⟩ := info_parts info32
  obtain ⟨A1, hA1, hsl⟩ := run_slice_from (P := Try.prog) 61 33 6 Try.underlying61 hi hz1 (some ⟨g, off, none⟩) (l.length + 1) c 1 (by omega)
  have i2 : ((l.length : Int) + 1 == 0) = false := by simp; omega
  have lm : (l.length : Int) + 1 ≤ 128 := by have := h.few; simp at this; omega
  have hl1 : (0 : Int) ≤ (l.length : Int) := by omega
  have w1 : IntKind.i64.wrap 1 = 1 := by decide
  have w2 : IntKind.i64.wrap ((l.length : Int) + 1) = (l.length : Int) + 1 := IntWalk.i64_in _ (by omega)
  have i1 : (0 : Int) < (l.length : Int) + 1 := by omega
  have i3 : (l.length : Int) ≤ (c : Int) := by omega
  have HF := hid h
  have HB := hid hb
  have HS := hid hsp
  have HV := hid hv
  have HA := hid hA1
  have HO := hid h.own
  have hsl : ∀ W, (Instr.slice 61 (.slice (some ⟨g, off, none⟩) (l.length + 1) c) (some (.int .i64 1)) none none).run Try.prog W = .ok (.slice A1 l.length (c - 1)) W := hsl
  clear h hb hsp hv hlen hc hA1 hi hz1
  go_enter Try.func48, Try.ntmps48
  go_wp2_with (first | ((with_reducible refine wp_region_plan (id := 6) (.eff [(true, 0), (false, 1), (false, 2), (false, 3), (false, 4), (false, 5), (false, 6), (false, 7), (false, 8), (false, 9), (false, 10), (false, 11), (false, 12), (false, 13), (false, 14)] 15 [0] (.eff [(false, 16), (false, 17)] 18 [] (.fin []))) ?_ ?_ ?_ ?_ ?_ ?_); kernel_rfl; kernel_rfl; kernel_rfl; kernel_rfl; (intro c a d v w h; cases d <;> exact h)) | (with_reducible refine wpPlan_eff ?_) | (with_reducible refine wpPlan_fin ?_) | (with_reducible refine wpPlan_two ?_) | (with_reducible refine wpOpPair ?_ ?_) | ((with_reducible apply wpPre_keep); rfl; intro K' hK'; go_simp; refine hK' _ _ ?_; intro f hf; clear hK' K') | ((with_reducible apply wpPre_drop); rfl; intro K' hK'; go_simp; refine hK' _ _ ?_; intro f; clear hK' K') | (with_reducible refine wpPre_nil ?_) | ((with_reducible apply wpOp_list); rfl) | (with_reducible refine heldPair ?_ ?_) | ((with_reducible refine heldH_no ?_ ?_); rfl) | (with_reducible refine heldH_yes ?_ ?_) | (with_reducible exact heldH_nil) | (unfold YAt; go_simp; done) | (at_builtin; refine wpList_app40 (ys := l) (K := fun b => Kx F d g b ∧ b < w.heap.size) (by rfl) (.tmp 29) (.tmp 36) (by rfl) (by rfl) (by rfl) (by rfl) (Enc.Spine.bare jobE 33 _ d _ _) ?hB ?hC ?hD ?_; rotate_left 3; intro v2 w2 g2 hs2 he2 hg2; obtain ⟨A2, c2, rfl, _, _⟩ := hs2.form; have HS2 := hid hs2; have HE2 := hid he2; have HG2 := hid hg2; clear hs2 hg2; obtain ⟨ex2, dx2, rfl⟩ := more_of (below_of_ext he2 (by simp [capOf])); clear he2) | (go_at_call 61; go_in) | (go_at_call 43; go_in) | (go_at_call 66; go_in) | (go_at_call 64; go_in) | (go_at_call 62; go_in))
  case hB => exact (Src_mono (HS.out.drop_src 1 (by simp) (fun h => HA.out h)) (fun b hb hl => ⟨hb, hl⟩)).below (by repeat (first | (with_reducible exact Below.refl _ _) | (with_reducible refine bl_dr ?_) | (with_reducible refine bl_drN ?_ _) | (with_reducible refine bl_al ?_ _) | (with_reducible refine bl_more ?_ _ _)))
  case hC => exact fun b hb _ => hb.1.2.1
  case hD => simp; omega
  have hfew := HF.out.few
  simp only [List.length_cons] at hfew
  refine bodyPost_ret (v := .tuple #[jobV x (.slice B x.stamp.length cb), .int .i64 0]) (by simp [results, Try.results48]; go_simp) rfl ?_
  refine cut_fin HB.out HO.out (by repeat (first | (with_reducible exact Below.refl _ _) | (with_reducible refine bl_dr ?_) | (with_reducible refine bl_drN ?_ _) | (with_reducible refine bl_al ?_ _) | (with_reducible refine bl_more ?_ _ _))) HG2.out.two HS2.out HV.out ?_ ?_ (by simpa using (show l.length ≤ 128 by omega)) (fun y hy => HF.out.ok y (List.mem_cons_of_mem _ (by simpa using hy)))
  · simp only [World.size_alloc, World.size_drew, World.size_setCell]
  · show Below (w.setCell ⟨d, 1, none⟩ (.slice A2 l.length c2)).heap.size (w.setCell ⟨d, 1, none⟩ (.slice A2 l.length c2)) _
    exact (by repeat (first | (with_reducible exact Below.refl _ _) | (with_reducible refine bl_dr ?_) | (with_reducible refine bl_drN ?_ _) | (with_reducible refine bl_al ?_ _) | (with_reducible refine bl_more ?_ _ _)))

set_option maxHeartbeats 4000000 in
theorem pop_some {F : Nat → Prop} {w : World} {d g : Nat} {l : List Job} {x : Job} (h : Dq w F d g (l ++ [x])) :
    Calls Try.prog 46 #[.pointer (some ⟨d, 0, none⟩)] w fun e w' => ∃ g' v', e = .returned (.tuple #[jobV x v', .int .i64 0]) ∧ intE.Row (Kx F d g') w' v' x.stamp ∧ Dq w' F d g' l ∧ Up d g w g' w' := by
  obtain ⟨A, c, hb, hsp, hle, hc⟩ := h.cells
  have hlen : (l ++ [x]).length = l.length + 1 := by simp
  rw [hlen] at hb hsp hle
  have hd := h.lt
  have h0 : w.cell? ⟨d, 0, none⟩ = some (.bool true) := cell_blk hb 0
  have h1 : w.cell? ⟨d, 1, none⟩ = some (.slice A (l.length + 1) c) := cell_blk hb 1
  have f1 : w.frozen? ⟨d, 1, none⟩ = false := frz_blk hb 1
  obtain ⟨off, B, cb, rfl, hgl, hv, he⟩ := Dq.elem hsp l.length (by simp)
  have hx : (l ++ [x])[l.length]'(by simp) = x := by simp
  rw [hx] at hv he
  have e0 : w.cell? ⟨g, off + l.length * 6, none⟩ = some (.int .i64 x.item) := by have := he 0 _ rfl; simpa using this
  have e1 : w.cell? ⟨g, off + l.length * 6 + 1, none⟩ = some (.bool x.undo) := by have := he 1 _ rfl; simpa using this
  have e2 : w.cell? ⟨g, off + l.length * 6 + 2, none⟩ = some (.int .i64 x.try_) := by have := he 2 _ rfl; simpa using this
  have e3 : w.cell? ⟨g, off + l.length * 6 + 3, none⟩ = some (.bool x.begun) := by have := he 3 _ rfl; simpa using this
  have e4 : w.cell? ⟨g, off + l.length * 6 + 4, none⟩ = some (.int .i64 x.token) := by have := he 4 _ rfl; simpa using this
  have e5 : w.cell? ⟨g, off + l.length * 6 + 5, none⟩ = some (.slice B x.stamp.length cb) := by have := he 5 _ rfl; simpa using this
  clear he hx
  obtain ⟨i0, hi, _, hz1, _⟩ := info_parts info32
  obtain ⟨A1, hA1, hsl⟩ := run_slice_from (P := Try.prog) 61 33 6 Try.underlying61 hi hz1 (some ⟨g, off, none⟩) (l.length + 1) c (l.length + 1) (by omega)
  have i2 : ((l.length : Int) + 1 == 0) = false := by simp; omega
  have lm : (l.length : Int) + 1 ≤ 128 := by have := h.few; simp at this; omega
  have hl1 : (0 : Int) ≤ (l.length : Int) := by omega
  have w1 : IntKind.i64.wrap 1 = 1 := by decide
  have w2 : IntKind.i64.wrap ((l.length : Int) + 1) = (l.length : Int) + 1 := IntWalk.i64_in _ (by omega)
  have i1 : (0 : Int) < (l.length : Int) + 1 := by omega
  have i3 : (l.length : Int) ≤ (c : Int) := by omega
  have HF := hid h
  have HB := hid hb
  have HS := hid hsp
  have HV := hid hv
  have HA := hid hA1
  have HO := hid h.own
  have hsl : ∀ W, (Instr.slice 61 (.slice (some ⟨g, off, none⟩) (l.length + 1) c) (some (.int .i64 (l.length + 1))) none none).run Try.prog W = .ok (.slice A1 0 (c - (l.length + 1))) W := by
    intro W; have := hsl W; rw [Nat.sub_self] at this; simpa using this
  have w3 : IntKind.i64.wrap (l.length : Int) = l.length := IntWalk.i64_in _ (by omega)
  have w4 : IntKind.i64.wrap ((l.length : Int) + 1 - 1) = l.length := by rw [show (l.length : Int) + 1 - 1 = l.length by omega]; exact w3
  have rn := fun W => Enc.run_append_none (P := Try.prog) (w := W) 61 61 61 33 i0 Try.underlying61 Try.underlying61 hi (some ⟨g, off, none⟩) l.length l.length (Nat.le_refl _) A1 (c - (l.length + 1))
  clear h hb hsp hv hlen hc hA1 hi hz1
  go_enter Try.func46, Try.ntmps46
  go_wp2_with (first | ((with_reducible refine wp_region_plan (id := 6) (.eff [(true, 0), (false, 1), (false, 2), (false, 3), (false, 4), (false, 5), (false, 6), (false, 7), (false, 8), (false, 9), (false, 10), (false, 11), (false, 12), (false, 13), (false, 14)] 15 [0] (.eff [(false, 16), (false, 17)] 18 [] (.fin []))) ?_ ?_ ?_ ?_ ?_ ?_); kernel_rfl; kernel_rfl; kernel_rfl; kernel_rfl; (intro c a d v w h; cases d <;> exact h)) | (with_reducible refine wpPlan_eff ?_) | (with_reducible refine wpPlan_fin ?_) | (with_reducible refine wpPlan_two ?_) | (with_reducible refine wpOpPair ?_ ?_) | ((with_reducible apply wpPre_keep); rfl; intro K' hK'; go_simp; refine hK' _ _ ?_; intro f hf; clear hK' K') | ((with_reducible apply wpPre_drop); rfl; intro K' hK'; go_simp; refine hK' _ _ ?_; intro f; clear hK' K') | (with_reducible refine wpPre_nil ?_) | ((with_reducible apply wpOp_list); rfl) | (with_reducible refine heldPair ?_ ?_) | ((with_reducible refine heldH_no ?_ ?_); rfl) | (with_reducible refine heldH_yes ?_ ?_) | (with_reducible exact heldH_nil) | (unfold YAt; go_simp; done) | (at_builtin; refine wpList_append_run rfl (.tmp 29) (.tmp 36) 61 61 rfl (rn _) ?_) | (go_at_call 61; go_in) | (go_at_call 43; go_in) | (go_at_call 66; go_in) | (go_at_call 64; go_in) | (go_at_call 62; go_in))
  have hfew := HF.out.few
  simp only [List.length_append, List.length_singleton] at hfew
  refine bodyPost_ret (v := .tuple #[jobV x (.slice B x.stamp.length cb), .int .i64 0]) (by simp [results, Try.results46]; go_simp) rfl ?_
  have ht := HS.out.take l.length l.length (by simp) (Nat.le_refl _) (by omega)
  rw [List.take_left] at ht
  refine pop_fin HB.out HO.out ht HV.out ?_ (by omega) (fun y hy => HF.out.ok y (List.mem_append_left _ hy))
  exact (by repeat (first | (with_reducible exact Below.refl _ _) | (with_reducible refine bl_dr ?_) | (with_reducible refine bl_drN ?_ _) | (with_reducible refine bl_al ?_ _) | (with_reducible refine bl_more ?_ _ _)))
end Go.Proofs.Ytlfdnjomjheioaa
