/- What a deque's calls do. -/
import Derived.Test.YtlfdnjomjheioaaDqA
import Derived.Test.YtlfdnjomjheioaaDraw
namespace Go.Proofs.Ytlfdnjomjheioaa
open Go.RowKit

/-- The blocks of F, but a deque's two. -/
def Kx (F : Nat → Prop) (d g : Nat) : Nat → Prop := fun b => F b ∧ b ≠ d ∧ b ≠ g
def okJob (j : Job) : Prop := j.stamp.length ≤ 100
/-- The deque at block d, its list in block g, its stamps in blocks of F, tells l. -/
structure Dq (w : World) (F : Nat → Prop) (d g : Nat) (l : List Job) : Prop where
  lt : d < w.heap.size
  few : l.length ≤ 128
  ok : ∀ j ∈ l, okJob j
  own : g = d ∨ g < w.heap.size
  at_ : ∃ v, w.heap[d]? = some (.cells #[.bool true, v] 88 (0, 0)) ∧ jobE.Spine 33 (Kx F d g) g w v l

/-- From one state of a deque to the next: all but its blocks lies as it lay. -/
structure Up (d g : Nat) (w : World) (g' : Nat) (w' : World) : Prop where
  ext : Ext (fun b => b = d ∨ b = g) w w'
  new : g' = g ∨ w.heap.size ≤ g'
theorem Up.refl (d g : Nat) (w : World) : Up d g w g w := ⟨Ext.refl _ _, .inl rfl⟩
theorem Up.of_below {d g : Nat} {w w' : World} (h : Below w.heap.size w w') : Up d g w g w' := ⟨Ext.of_below h, .inl rfl⟩
theorem Up.trans {d g g1 g2 : Nat} {w w1 w2 : World} (h : Up d g w g1 w1) (k : Up d g1 w1 g2 w2) : Up d g w g2 w2 := by
  refine ⟨h.ext.trans k.ext (fun x hx hs => ?_), ?_⟩
  · rcases hs with h1 | h1
    · exact .inl h1
    · rcases h.new with h2 | h2
      · exact .inr (by omega)
      · omega
  · have := h.ext.size
    rcases h.new with h2 | h2 <;> rcases k.new with h3 | h3
    · exact .inl (by omega)
    · exact .inr (by omega)
    · exact .inr (by omega)
    · exact .inr (by omega)
theorem Up.row {α : Type} {e : Enc α} {F : Nat → Prop} {d g g' : Nat} {w w' : World} {v : Value} {xs : List α} (h : Up d g w g' w') (hr : e.Row (Kx F d g) w v xs) : e.Row (Kx F d g') w' v xs := by
  refine (hr.mono (K' := fun b => Kx F d g b ∧ b < w.heap.size) (fun b hb hl => ⟨hb, hl⟩)).step (w1 := w') (fun b hb hl => h.ext.block b hl (fun hs => ?_)) |>.mono (fun b hb _ => ?_)
  · rcases hs with h1 | h1
    · exact hb.1.2.1 h1
    · exact hb.1.2.2 h1
  · refine ⟨hb.1.1, hb.1.2.1, ?_⟩
    rcases h.new with h2 | h2
    · rw [h2]; exact hb.1.2.2
    · omega
theorem Dq.below {F : Nat → Prop} {w w' : World} {d g : Nat} {l : List Job} (h : Dq w F d g l) (hb : Below w.heap.size w w') : Dq w' F d g l := by
  obtain ⟨v, h1, h2⟩ := h.at_
  have := hb.size
  refine ⟨by have := h.lt; omega, h.few, h.ok, h.own.imp id (fun h => by omega), v, (hb.block d h.lt).trans h1, h2.step (fun cur hc => ?_) (fun b hk hl => ⟨hk, hb.block b hl⟩)⟩
  exact (hb.block g (Array.getElem?_eq_some_iff.1 hc).1).trans hc
theorem Dq.mono {F F' : Nat → Prop} {w : World} {d g : Nat} {l : List Job} (h : Dq w F d g l) (hF : ∀ b, F b → b < w.heap.size → F' b) : Dq w F' d g l := by
  obtain ⟨v, h1, h2⟩ := h.at_
  exact ⟨h.lt, h.few, h.ok, h.own, v, h1, h2.mono (fun b hb hl => ⟨hF b hb.1 hl, hb.2⟩)⟩
/-- Writing elsewhere. -/
theorem Dq.apart {F : Nat → Prop} {w w' : World} {d g : Nat} {l : List Job} (h : Dq w F d g l) (he : Ext (fun b => ¬ F b ∧ b ≠ d ∧ b ≠ g) w w') : Dq w' F d g l := by
  obtain ⟨v, h1, h2⟩ := h.at_
  have := he.size
  refine ⟨by have := h.lt; omega, h.few, h.ok, h.own.imp id (fun h => by omega), v, (he.block d h.lt (fun h => h.2.1 rfl)).trans h1, h2.step (fun cur hc => ?_) (fun b hk hl => ⟨hk, he.block b hl (fun h => h.1 hk.1)⟩)⟩
  exact (he.block g (Array.getElem?_eq_some_iff.1 hc).1 (fun h => h.2.2 rfl)).trans hc
theorem Dq.cells {F : Nat → Prop} {w : World} {d g : Nat} {l : List Job} (h : Dq w F d g l) : ∃ A c, w.heap[d]? = some (.cells #[.bool true, .slice A l.length c] 88 (0, 0)) ∧ jobE.Spine 33 (Kx F d g) g w (.slice A l.length c) l ∧ l.length ≤ c ∧ c ≤ maxLen := by
  obtain ⟨v, h1, h2⟩ := h.at_
  obtain ⟨A, c, rfl, h3, h4⟩ := h2.form
  exact ⟨A, c, h1, h2, h3, h4⟩
theorem Dq.ne {w : World} {d g : Nat} {l : List Job} {v : Value} {K : Nat → Prop} {cs : Array Value} (h1 : w.heap[d]? = some (.cells cs 88 (0, 0))) (h2 : jobE.Spine 33 K g w v l) (hc : capOf v ≠ 0) : g ≠ d := by
  obtain ⟨cur, h⟩ := h2.type hc
  rintro rfl
  rw [h1] at h
  cases h
theorem cell_blk {w : World} {b : Nat} {cs : Array Value} {t : TypeId} {fr : Nat × Nat} (h : w.heap[b]? = some (.cells cs t fr)) (i : Nat) : w.cell? ⟨b, i, none⟩ = cs[i]? := by simp [World.cell?, h]
theorem frz_blk {w : World} {b : Nat} {cs : Array Value} {t : TypeId} (h : w.heap[b]? = some (.cells cs t (0, 0))) (i : Nat) : w.frozen? ⟨b, i, none⟩ = false := by simp [World.frozen?, h]

set_option maxHeartbeats 1000000 in
theorem new_any {F : Nat → Prop} (w : World) : Calls Try.prog 31 #[] w fun e w' => ∃ d, e = .returned (.pointer (some ⟨d, 0, none⟩)) ∧ d = w.heap.size ∧ Dq w' F d d [] ∧ Below w.heap.size w w' := by
  go_enter Try.func31, Try.ntmps31
  go_wp2
  go_ret
  refine ⟨_, rfl, rfl, ⟨by simp, by simp, by simp, .inl rfl, _, ?_, Enc.Spine.nil _ _ _ _ _⟩, (Below.refl _ _).alloc (Nat.le_refl _) _⟩
  simpa using heap_alloc_new w _

set_option maxHeartbeats 1000000 in
theorem len_any {F : Nat → Prop} {w : World} {d g : Nat} {l : List Job} (h : Dq w F d g l) : Calls Try.prog 25 #[.pointer (some ⟨d, 0, none⟩)] w fun e w' => e = .returned (.int .i64 l.length) ∧ Below w.heap.size w w' := by
  obtain ⟨A, c, hb, _, _, _⟩ := h.cells
  have hd := h.lt
  have h0 : w.cell? ⟨d, 0, none⟩ = some (.bool true) := cell_blk hb 0
  have h1 : w.cell? ⟨d, 1, none⟩ = some (.slice A l.length c) := cell_blk hb 1
  clear hb
  go_enter Try.func25, Try.ntmps25
  go_wp2
  go_ret
  exact ⟨rfl, ((Below.refl _ _).alloc (Nat.le_refl _) _).alloc (by simp) _⟩

theorem Dq.stored {F : Nat → Prop} {W2 : World} {d g' : Nat} {v2 vo : Value} {l : List Job} {K' : Nat → Prop} (hd : W2.heap[d]? = some (.cells #[.bool true, vo] 88 (0, 0))) (hs : jobE.Spine 33 K' g' W2 v2 l)
    (hk : ∀ b, K' b → b < W2.heap.size → F b ∧ b ≠ d ∧ b ≠ g') (hfew : l.length ≤ 128) (hok : ∀ j ∈ l, okJob j) (hown : g' = d ∨ g' < W2.heap.size) : Dq (W2.setCell ⟨d, 1, none⟩ v2) F d g' l := by
  have hdl : d < W2.heap.size := (Array.getElem?_eq_some_iff.1 hd).1
  refine ⟨by simpa [World.setCell] using hdl, hfew, hok, hown.imp id (fun h => by simpa [World.setCell] using h), v2, ?_, hs.step (fun cur hc => ?_) (fun b hb hl => ⟨hk b hb hl, Below.heap_setCell _ _ _ _ (hk b hb hl).2.1⟩)⟩
  · simp [World.setCell, Array.getElem?_modify, hd]
  · have hne : g' ≠ d := by rintro rfl; rw [hd] at hc; cases hc
    rw [Below.heap_setCell _ _ _ _ hne]; exact hc

/-- Behind an append onto a deque's list, and the store of it. -/
theorem Dq.appended {F : Nat → Prop} {w W3 W2 : World} {d g g2 : Nat} {l' : List Job} {v vo v2 : Value} {K : Nat → Prop} (hb : w.heap[d]? = some (.cells #[.bool true, vo] 88 (0, 0))) (hbw : Below w.heap.size w W3)
    (hown : g = d ∨ g < w.heap.size) (hne : capOf v ≠ 0 → g ≠ d) (he : Ext (fun b => b = g ∧ capOf v ≠ 0) W3 W2) (hg2 : (g2 = g ∧ W2.heap.size = W3.heap.size) ∨ (g2 = W3.heap.size ∧ W2.heap.size = W3.heap.size + 1))
    (hs : jobE.Spine 33 (fun b => K b ∧ b < W3.heap.size) g2 W2 v2 l') (hK : ∀ b, K b → b < W3.heap.size → F b ∧ b ≠ d ∧ b ≠ g) (hfew : l'.length ≤ 128) (hok : ∀ j ∈ l', okJob j) :
    Dq (W2.setCell ⟨d, 1, none⟩ v2) F d g2 l' ∧ Up d g w g2 (W2.setCell ⟨d, 1, none⟩ v2) := by
  have hd : d < w.heap.size := (Array.getElem?_eq_some_iff.1 hb).1
  have h3 := hbw.size
  have hd2 : W2.heap[d]? = some (.cells #[.bool true, vo] 88 (0, 0)) := by
    rw [he.block d (by omega) (fun h => hne h.2 h.1.symm), hbw.block d hd]; exact hb
  refine ⟨Dq.stored hd2 hs (fun b hb hl => ⟨(hK b hb.1 hb.2).1, (hK b hb.1 hb.2).2.1, ?_⟩) hfew hok ?_, ⟨?_, ?_⟩⟩
  · rcases hg2 with ⟨h, _⟩ | ⟨h, _⟩
    · rw [h]; exact (hK b hb.1 hb.2).2.2
    · have := hb.2; omega
  · rcases hg2 with ⟨h, h'⟩ | ⟨h, h'⟩
    · rcases hown with h1 | h1
      · exact .inl (h.trans h1)
      · exact .inr (by omega)
    · exact .inr (by omega)
  · refine (Ext.of_below (S := fun b => b = d ∨ b = g) hbw).trans (T := fun b => b = d ∨ b = g) ((he.mono (fun x _ h => .inr h.1)).trans (T := fun b => b = d ∨ b = g) (Ext.setCell _ _ _ (.inl rfl)) (fun _ _ h => h)) (fun _ _ h => h)
  · rcases hg2 with ⟨h, _⟩ | ⟨h, _⟩
    · exact .inl h
    · exact .inr (by omega)

theorem alloc_blk {X : World} {o : Obj} {b : Nat} (h : b = X.heap.size) : (X.alloc o).heap[b]? = some o := by subst h; exact heap_alloc_new X o
theorem job_row {K : Nat → Prop} {w : World} {b : Nat} {j : Job} {v : Value} {t : TypeId} (hb : w.heap[b]? = some (.cells (jobCells j v).toArray t (0, 0))) (hr : intE.Row K w v j.stamp) (hk : K b) : jobE.Row K w (.slice (some ⟨b, 0, none⟩) 1 1) [j] := Enc.Row.one_blk hb (jobE_mk hr) hk

set_option maxHeartbeats 4000000 in
theorem push_any {F K0 : Nat → Prop} {w : World} {d g : Nat} {l : List Job} {j : Job} {v : Value} (h : Dq w F d g l) (hj : intE.Row K0 w v j.stamp) (hok : okJob j) (hlt : l.length < 128) :
    Calls Try.prog 40 #[.pointer (some ⟨d, 0, none⟩), jobV j v] w fun e w' => ∃ g', e = .returned (.int .i64 0) ∧ Dq w' (fun b => F b ∨ w.heap.size ≤ b) d g' (l ++ [j]) ∧ Up d g w g' w' := by
  obtain ⟨A, c, hb, hsp, hle, hc⟩ := h.cells
  obtain ⟨B, cv, rfl, k1, k2⟩ := hj.form
  have hd := h.lt
  have h0 : w.cell? ⟨d, 0, none⟩ = some (.bool true) := cell_blk hb 0
  have h1 : w.cell? ⟨d, 1, none⟩ = some (.slice A l.length c) := cell_blk hb 1
  have f1 : w.frozen? ⟨d, 1, none⟩ = false := frz_blk hb 1
  have hne : ((l.length : Int) == 128) = false := by simp; omega
  have hown := h.own
  have HF := hid h
  clear h
  have HS := hid (fun (W : World) (hW : Below w.heap.size w W) => hsp.step (K' := fun b => (Kx F d g b ∧ b < w.heap.size) ∨ w.heap.size + 2 ≤ b) (w' := W) (fun cur hc => (hW.block g (Array.getElem?_eq_some_iff.1 hc).1).trans hc) (fun b hk hl => ⟨.inl ⟨hk, hl⟩, hW.block b hl⟩))
  have HJ := hid (fun (W : World) (hW : Below w.heap.size w W) => hj.below hW)
  have HG := hid (fun hc => Dq.ne hb hsp hc)
  have HB := hid hb
  have HO := hid hown
  have HC : Hid (c = 0 ∨ (d ≠ g ∧ g < w.heap.size)) := by
    by_cases hc0 : c = 0
    · exact .inl hc0
    · have hdg : d ≠ g := fun e => HG.out hc0 e.symm
      rcases hown with h | h
      · exact absurd h.symm hdg
      · exact .inr ⟨hdg, h⟩
  clear hb hown hsp hj hle hc
  rcases HC.out with rfl | ⟨hdg, hgl⟩
  · go_enter Try.func40, Try.ntmps40
    go_wp2_with (first | ((with_reducible refine wp_region_plan (id := 3) (.eff [(true, 0), (true, 1), (true, 2), (true, 3), (true, 4), (false, 5)] 6 [0, 1, 2, 3, 4] (.eff [] 7 [0, 1, 2, 3, 4] (.eff [] 8 [0] (.eff [(false, 9), (false, 10)] 11 [] (.fin []))))) ?_ ?_ ?_ ?_ ?_ ?_); kernel_rfl; kernel_rfl; kernel_rfl; kernel_rfl; (intro c a d v w h; cases d <;> exact h)) | (with_reducible refine wpPlan_eff ?_) | (with_reducible refine wpPlan_fin ?_) | (with_reducible refine wpPlan_two ?_) | (with_reducible refine wpOpPair ?_ ?_) | ((with_reducible apply wpPre_keep); rfl; intro K' hK'; go_simp; refine hK' _ _ ?_; intro f hf; clear hK' K') | ((with_reducible apply wpPre_drop); rfl; intro K' hK'; go_simp; refine hK' _ _ ?_; intro f; clear hK' K') | (with_reducible refine wpPre_nil ?_) | ((with_reducible apply wpOp_list); rfl) | (with_reducible refine heldPair ?_ ?_) | ((with_reducible refine heldH_no ?_ ?_); rfl) | (with_reducible refine heldH_yes ?_ ?_) | (with_reducible exact heldH_nil) | (unfold YAt; go_simp; done) | (go_at_call 55; refine (own_any (HJ.out _ (by repeat (first | (with_reducible exact Below.refl _ _) | (with_reducible refine bl_dr ?_) | (with_reducible refine bl_drN ?_ _) | (with_reducible refine bl_al ?_ _) | (with_reducible refine bl_more ?_ _ _)))) (by have := hok; unfold okJob at this; omega)).mono ?_; rintro e w1 ⟨v', rfl, hr, hb1⟩; obtain ⟨A', c', rfl, _, _⟩ := hr.form; obtain ⟨ex, dx, rfl⟩ := more_of hb1; clear hb1; have HR := hid hr; clear hr) | (at_builtin; refine wpList_app40 (ys := [j]) (by rfl) (.tmp 13) (.tmp 16) (by rfl) (by rfl) (by rfl) (by rfl) (HS.out _ ?hA) ?hB ?hC ?hD ?_; rotate_left 4; intro v2 w2 g2 hs2 he2 hg2; obtain ⟨A2, c2, rfl, _, _⟩ := hs2.form; have HS2 := hid hs2; have HE2 := hid he2; have HG2 := hid hg2; clear hs2 hg2; obtain ⟨ex2, dx2, rfl⟩ := more_of (below_of_ext he2 (by simp [capOf])); clear he2) | (go_at_call 43; go_in) | (go_at_call 54; go_in))
    case hA => exact (by repeat (first | (with_reducible exact Below.refl _ _) | (with_reducible refine bl_dr ?_) | (with_reducible refine bl_drN ?_ _) | (with_reducible refine bl_al ?_ _) | (with_reducible refine bl_more ?_ _ _)))
    case hD => simp; omega
    case hC =>
      intro b hb _ hbg
      rcases hb with hb | hb
      · exact hb.1.2.2 hbg
      · rcases HO.out with h | h <;> omega
    case hB => exact (job_row (v := .slice A' j.stamp.length c') (alloc_blk (by simp only [more_size, World.size_alloc, World.size_drew])) ((HR.out.alloc _).mono (fun b hb _ => .inr (by simpa using hb))) (.inr (by omega))).src
    go_ret
    have hf := Dq.appended (F := fun b => F b ∨ w.heap.size ≤ b) (l' := l ++ [j]) HB.out (by repeat (first | (with_reducible exact Below.refl _ _) | (with_reducible refine bl_dr ?_) | (with_reducible refine bl_drN ?_ _) | (with_reducible refine bl_al ?_ _) | (with_reducible refine bl_more ?_ _ _))) HO.out HG.out HE2.out HG2.out.two HS2.out (by
      intro b hb _
      rcases hb with hb | hb
      · exact ⟨.inl hb.1.1, hb.1.2⟩
      · exact ⟨.inr (by omega), by rcases HO.out with h | h <;> constructor <;> omega⟩) (by simp; omega) (by
      intro x hx
      rcases List.mem_append.1 hx with h | h
      · exact HF.out.ok x h
      · rw [List.mem_singleton.1 h]; exact hok)
    refine ⟨g2, rfl, Eq.subst (motive := fun W => Dq W (fun b => F b ∨ w.heap.size ≤ b) d g2 (l ++ [j]) ∧ Up d g w g2 W) ?_ hf⟩
    go_simp
  · go_enter Try.func40, Try.ntmps40
    go_wp2_with (first | ((with_reducible refine wp_region_plan (id := 3) (.eff [(true, 0), (true, 1), (true, 2), (true, 3), (true, 4), (false, 5)] 6 [0, 1, 2, 3, 4] (.eff [] 7 [0, 1, 2, 3, 4] (.eff [] 8 [0] (.eff [(false, 9), (false, 10)] 11 [] (.fin []))))) ?_ ?_ ?_ ?_ ?_ ?_); kernel_rfl; kernel_rfl; kernel_rfl; kernel_rfl; (intro c a d v w h; cases d <;> exact h)) | (with_reducible refine wpPlan_eff ?_) | (with_reducible refine wpPlan_fin ?_) | (with_reducible refine wpPlan_two ?_) | (with_reducible refine wpOpPair ?_ ?_) | ((with_reducible apply wpPre_keep); rfl; intro K' hK'; go_simp; refine hK' _ _ ?_; intro f hf; clear hK' K') | ((with_reducible apply wpPre_drop); rfl; intro K' hK'; go_simp; refine hK' _ _ ?_; intro f; clear hK' K') | (with_reducible refine wpPre_nil ?_) | ((with_reducible apply wpOp_list); rfl) | (with_reducible refine heldPair ?_ ?_) | ((with_reducible refine heldH_no ?_ ?_); rfl) | (with_reducible refine heldH_yes ?_ ?_) | (with_reducible exact heldH_nil) | (unfold YAt; go_simp; done) | (go_at_call 55; refine (own_any (HJ.out _ (by repeat (first | (with_reducible exact Below.refl _ _) | (with_reducible refine bl_dr ?_) | (with_reducible refine bl_drN ?_ _) | (with_reducible refine bl_al ?_ _) | (with_reducible refine bl_more ?_ _ _)))) (by have := hok; unfold okJob at this; omega)).mono ?_; rintro e w1 ⟨v', rfl, hr, hb1⟩; obtain ⟨A', c', rfl, _, _⟩ := hr.form; obtain ⟨ex, dx, rfl⟩ := more_of hb1; clear hb1; have HR := hid hr; clear hr) | (at_builtin; refine wpList_app40 (ys := [j]) (by rfl) (.tmp 13) (.tmp 16) (by rfl) (by rfl) (by rfl) (by rfl) (HS.out _ ?hA) ?hB ?hC ?hD ?_; rotate_left 4; intro v2 w2 g2 hs2 he2 hg2; obtain ⟨A2, c2, rfl, _, _⟩ := hs2.form; have HS2 := hid hs2; have HE2 := hid he2; have HG2 := hid hg2; clear hs2 hg2; obtain ⟨o2, ex2, dx2, rfl⟩ := form_of he2 (Nat.lt_of_lt_of_le hgl (Below.size (B := w.heap.size) (w := w) (by repeat (first | (with_reducible exact Below.refl _ _) | (with_reducible refine bl_dr ?_) | (with_reducible refine bl_drN ?_ _) | (with_reducible refine bl_al ?_ _) | (with_reducible refine bl_more ?_ _ _))))); clear he2) | (go_at_call 43; go_in) | (go_at_call 54; go_in))
    case hA => exact (by repeat (first | (with_reducible exact Below.refl _ _) | (with_reducible refine bl_dr ?_) | (with_reducible refine bl_drN ?_ _) | (with_reducible refine bl_al ?_ _) | (with_reducible refine bl_more ?_ _ _)))
    case hD => simp; omega
    case hC =>
      intro b hb _ hbg
      rcases hb with hb | hb
      · exact hb.1.2.2 hbg
      · rcases HO.out with h | h <;> omega
    case hB => exact (job_row (v := .slice A' j.stamp.length c') (alloc_blk (by simp only [more_size, World.size_alloc, World.size_drew])) ((HR.out.alloc _).mono (fun b hb _ => .inr (by simpa using hb))) (.inr (by omega))).src
    go_ret
    have hf := Dq.appended (F := fun b => F b ∨ w.heap.size ≤ b) (l' := l ++ [j]) HB.out (by repeat (first | (with_reducible exact Below.refl _ _) | (with_reducible refine bl_dr ?_) | (with_reducible refine bl_drN ?_ _) | (with_reducible refine bl_al ?_ _) | (with_reducible refine bl_more ?_ _ _))) HO.out HG.out HE2.out HG2.out.two HS2.out (by
      intro b hb _
      rcases hb with hb | hb
      · exact ⟨.inl hb.1.1, hb.1.2⟩
      · exact ⟨.inr (by omega), by rcases HO.out with h | h <;> constructor <;> omega⟩) (by simp; omega) (by
      intro x hx
      rcases List.mem_append.1 hx with h | h
      · exact HF.out.ok x h
      · rw [List.mem_singleton.1 h]; exact hok)
    refine ⟨g2, rfl, Eq.subst (motive := fun W => Dq W (fun b => F b ∨ w.heap.size ≤ b) d g2 (l ++ [j]) ∧ Up d g w g2 W) ?_ hf⟩
    go_simp
end Go.Proofs.Ytlfdnjomjheioaa
