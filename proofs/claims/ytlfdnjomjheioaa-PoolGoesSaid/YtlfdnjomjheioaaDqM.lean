/- The document's rows. -/
import Derived.Test.YtlfdnjomjheioaaDqL
import Derived.Test.YtlfdnjomjheioaaCut
namespace Go.Proofs.Ytlfdnjomjheioaa
open Go.RowKit

theorem app41 {K : Nat → Prop} {g : Nat} {w : World} {v x : Value} {xs ys : List Job} (h : jobE.Spine 33 K g w v xs) (hy : jobE.Src K w x ys) (hKg : ∀ b, K b → b < w.heap.size → b ≠ g) (hlen : xs.length + ys.length ≤ 4294967296) :
    ∃ v' w' g', (Builtin.append_ #[83, 83] 83 #[v, x]).run Try.prog w = .ok v' w' ∧ jobE.Spine 33 (fun b => K b ∧ b < w.heap.size) g' w' v' (xs ++ ys) ∧ Ext (fun b => b = g ∧ capOf v ≠ 0) w w' ∧ Grew g w w' v v' g' := by
  obtain ⟨i0, hi, hz0, hz1, hz2⟩ := info_parts info32
  exact h.append 83 83 83 i0 _ Try.underlying83 ⟨_, Try.underlying83⟩ hi hz0 hz1 rfl (by decide) hy hKg hlen (by rw [hz2]; decide)
theorem wpList_app41 {w : World} {ops : Array Oper} {rest : List Oper} {o : Oper} {a : Act} {Q : Exit → Act → World → Prop} {K : Nat → Prop} {g : Nat} {xs ys : List Job} {v x : Value}
    (hg : o.guard = none) (s x' : Operand) (hop : o.op = Op.call { callee := Callee.builtin Builtin.append, args := #[s, x'], argTypes := #[83, 83] }) (hty : o.type = 83)
    (hv : a.eval s = v) (hx : a.eval x' = x) (hs : jobE.Spine 33 K g w v xs) (hy : jobE.Src K w x ys) (hKg : ∀ b, K b → b < w.heap.size → b ≠ g) (hlen : xs.length + ys.length ≤ 4294967296)
    (h : ∀ v' w' g', jobE.Spine 33 (fun b => K b ∧ b < w.heap.size) g' w' v' (xs ++ ys) → Ext (fun b => b = g ∧ capOf v ≠ 0) w w' → Grew g w w' v v' g' → wpList Try.prog ops Q rest (a.put o.dst v') w') :
    wpList Try.prog ops Q (o :: rest) a w := by
  subst hv; subst hx
  obtain ⟨v', w', g', hrun, h1, h2, h3⟩ := app41 hs hy hKg hlen
  exact wpList_append_run hg s x' 83 83 hop (by rw [hty]; exact hrun) (h v' w' g' h1 h2 h3)

set_option maxHeartbeats 1000000 in
theorem ref_pop {K : Nat → Prop} {w : World} {v : Value} {l : List Job} {x : Job} (h : jobE.Row K w v (l ++ [x])) :
    Calls Try.prog 50 #[v] w fun e w' => ∃ v1 v2, e = .returned (.tuple #[v1, jobV x v2, .int .i64 0]) ∧ jobE.Row K w' v1 l ∧ intE.Row K w' v2 x.stamp ∧ Below w.heap.size w w' := by
  obtain ⟨A, c, rfl, h1, h2⟩ := h.form
  have m : maxLen ≤ 9223372036854775807 := by unfold maxLen; omega
  have hlen : (l ++ [x]).length = l.length + 1 := by simp
  rw [hlen] at h h1
  obtain ⟨b, off, B, cb, rfl, hb, _, hv, hc⟩ := Row_job h l.length (by simp)
  have hx : (l ++ [x])[l.length]'(by simp) = x := by simp
  rw [hx] at hc hv
  have e0 : w.cell? ⟨b, off + l.length * 6, none⟩ = some (.int .i64 x.item) := by have := hc 0 _ rfl; simpa using this
  have e1 : w.cell? ⟨b, off + l.length * 6 + 1, none⟩ = some (.bool x.undo) := by have := hc 1 _ rfl; simpa using this
  have e2 : w.cell? ⟨b, off + l.length * 6 + 2, none⟩ = some (.int .i64 x.try_) := by have := hc 2 _ rfl; simpa using this
  have e3 : w.cell? ⟨b, off + l.length * 6 + 3, none⟩ = some (.bool x.begun) := by have := hc 3 _ rfl; simpa using this
  have e4 : w.cell? ⟨b, off + l.length * 6 + 4, none⟩ = some (.int .i64 x.token) := by have := hc 4 _ rfl; simpa using this
  have e5 : w.cell? ⟨b, off + l.length * 6 + 5, none⟩ = some (.slice B x.stamp.length cb) := by have := hc 5 _ rfl; simpa using this
  have HR := hid h
  have HV := hid hv
  have i2 : ((l.length : Int) + 1 == 0) = false := by simp; omega
  have w3 : IntKind.i64.wrap (l.length : Int) = l.length := IntWalk.i64_in _ (by omega)
  have w4 : IntKind.i64.wrap ((l.length : Int) + 1 - 1) = l.length := by rw [show (l.length : Int) + 1 - 1 = l.length by omega]; exact w3
  have i1 : (0 : Int) ≤ (l.length : Int) := by omega
  have i3 : (l.length : Int) ≤ (c : Int) := by omega
  have i4 : (l.length : Int) < (l.length : Int) + 1 := by omega
  have HL := hid (And.intro h1 h2)
  clear h hv hc hx hlen h1 h2 m
  go_enter Try.func50, Try.ntmps50
  go_wp2_with (first | ((with_reducible refine wp_region_plan (id := 3) (.eff [(false, 0), (false, 1), (false, 2), (false, 3), (false, 4), (false, 5), (false, 6), (false, 7), (false, 8), (false, 9), (false, 10), (false, 11)] 12 [] (.fin [(false, 13)])) ?_ ?_ ?_ ?_ ?_ ?_); kernel_rfl; kernel_rfl; kernel_rfl; kernel_rfl; (intro c a d v w h; cases d <;> exact h)) | (with_reducible refine wpPlan_eff ?_) | (with_reducible refine wpPlan_fin ?_) | (with_reducible refine wpPlan_two ?_) | (with_reducible refine wpOpPair ?_ ?_) | ((with_reducible apply wpPre_keep); rfl; intro K' hK'; go_simp; refine hK' _ _ ?_; intro f hf; clear hK' K') | ((with_reducible apply wpPre_drop); rfl; intro K' hK'; go_simp; refine hK' _ _ ?_; intro f; clear hK' K') | (with_reducible refine wpPre_nil ?_) | ((with_reducible apply wpOp_list); rfl) | (with_reducible refine heldPair ?_ ?_) | ((with_reducible refine heldH_no ?_ ?_); rfl) | (with_reducible refine heldH_yes ?_ ?_) | (with_reducible exact heldH_nil) | (unfold YAt; go_simp; done))
  refine bodyPost_ret (v := .tuple #[.slice (some ⟨b, off, none⟩) l.length c, jobV x (.slice B x.stamp.length cb), .int .i64 0]) (by simp [results, Try.results50]; go_simp) rfl ⟨_, _, rfl, ?_, ?_, ?_⟩
  · have ht := HR.out.take l.length c (by simp) (by have := HL.out; omega) HL.out.2
    rw [List.take_left] at ht
    exact ht.below (by repeat (first | (with_reducible exact Below.refl _ _) | (with_reducible refine bl_dr ?_) | (with_reducible refine bl_drN ?_ _) | (with_reducible refine bl_al ?_ _) | (with_reducible refine bl_more ?_ _ _)))
  · exact HV.out.below (by repeat (first | (with_reducible exact Below.refl _ _) | (with_reducible refine bl_dr ?_) | (with_reducible refine bl_drN ?_ _) | (with_reducible refine bl_al ?_ _) | (with_reducible refine bl_more ?_ _ _)))
  · exact (by repeat (first | (with_reducible exact Below.refl _ _) | (with_reducible refine bl_dr ?_) | (with_reducible refine bl_drN ?_ _) | (with_reducible refine bl_al ?_ _) | (with_reducible refine bl_more ?_ _ _)))
set_option maxHeartbeats 1000000 in
theorem ref_steal {K : Nat → Prop} {w : World} {v : Value} {l : List Job} {x : Job} (h : jobE.Row K w v (x :: l)) :
    Calls Try.prog 51 #[v] w fun e w' => ∃ v1 v2, e = .returned (.tuple #[v1, jobV x v2, .int .i64 0]) ∧ jobE.Row K w' v1 l ∧ intE.Row K w' v2 x.stamp ∧ Below w.heap.size w w' := by
  obtain ⟨A, c, rfl, h1, h2⟩ := h.form
  have m : maxLen ≤ 9223372036854775807 := by unfold maxLen; omega
  have hlen : (x :: l).length = l.length + 1 := by simp
  rw [hlen] at h h1
  obtain ⟨b, off, B, cb, rfl, hb, _, hv, hc⟩ := Row_job h 0 (by simp)
  have hx : (x :: l)[0]'(by simp) = x := by simp
  rw [hx] at hc hv
  have e0 : w.cell? ⟨b, off, none⟩ = some (.int .i64 x.item) := by have := hc 0 _ rfl; simpa using this
  have e1 : w.cell? ⟨b, off + 1, none⟩ = some (.bool x.undo) := by have := hc 1 _ rfl; simpa using this
  have e2 : w.cell? ⟨b, off + 2, none⟩ = some (.int .i64 x.try_) := by have := hc 2 _ rfl; simpa using this
  have e3 : w.cell? ⟨b, off + 3, none⟩ = some (.bool x.begun) := by have := hc 3 _ rfl; simpa using this
  have e4 : w.cell? ⟨b, off + 4, none⟩ = some (.int .i64 x.token) := by have := hc 4 _ rfl; simpa using this
  have e5 : w.cell? ⟨b, off + 5, none⟩ = some (.slice B x.stamp.length cb) := by have := hc 5 _ rfl; simpa using this
  obtain ⟨i0, hi, _, hz1, _⟩ := info_parts info32
  obtain ⟨A1, hA1, hsl⟩ := run_slice_low (P := Try.prog) 83 33 6 Try.underlying83 hi hz1 (some ⟨b, off, none⟩) (l.length + 1) c 1 (by omega)
  have hsl : ∀ W, (Instr.slice 83 (.slice (some ⟨b, off, none⟩) (l.length + 1) c) (some (.int .i64 1)) none none).run Try.prog W = .ok (.slice A1 l.length (c - 1)) W := hsl
  have HR := hid h
  have HV := hid hv
  have HA := hid hA1
  have i2 : ((l.length : Int) + 1 == 0) = false := by simp; omega
  have i1 : (0 : Int) < (l.length : Int) + 1 := by omega
  have i3 : (l.length : Int) ≤ (c : Int) := by omega
  have HL := hid (And.intro h1 h2)
  clear h hv hc hx hlen h1 h2 m hA1 hi hz1
  go_enter Try.func51, Try.ntmps51
  go_wp2_with (first | ((with_reducible refine wp_region_plan (id := 3) (.eff [(false, 0), (false, 1), (false, 2), (false, 3), (false, 4), (false, 5)] 6 [] (.fin [(false, 7)])) ?_ ?_ ?_ ?_ ?_ ?_); kernel_rfl; kernel_rfl; kernel_rfl; kernel_rfl; (intro c a d v w h; cases d <;> exact h)) | (with_reducible refine wpPlan_eff ?_) | (with_reducible refine wpPlan_fin ?_) | (with_reducible refine wpPlan_two ?_) | (with_reducible refine wpOpPair ?_ ?_) | ((with_reducible apply wpPre_keep); rfl; intro K' hK'; go_simp; refine hK' _ _ ?_; intro f hf; clear hK' K') | ((with_reducible apply wpPre_drop); rfl; intro K' hK'; go_simp; refine hK' _ _ ?_; intro f; clear hK' K') | (with_reducible refine wpPre_nil ?_) | ((with_reducible apply wpOp_list); rfl) | (with_reducible refine heldPair ?_ ?_) | ((with_reducible refine heldH_no ?_ ?_); rfl) | (with_reducible refine heldH_yes ?_ ?_) | (with_reducible exact heldH_nil) | (unfold YAt; go_simp; done))
  refine bodyPost_ret (v := .tuple #[.slice A1 l.length (c - 1), jobV x (.slice B x.stamp.length cb), .int .i64 0]) (by simp [results, Try.results51]; go_simp) rfl ⟨_, _, rfl, ?_, ?_, ?_⟩
  · have ht := HR.out.drop (A' := A1) 1 (by simp) HA.out
    exact ht.below (by repeat (first | (with_reducible exact Below.refl _ _) | (with_reducible refine bl_dr ?_) | (with_reducible refine bl_drN ?_ _) | (with_reducible refine bl_al ?_ _) | (with_reducible refine bl_more ?_ _ _)))
  · exact HV.out.below (by repeat (first | (with_reducible exact Below.refl _ _) | (with_reducible refine bl_dr ?_) | (with_reducible refine bl_drN ?_ _) | (with_reducible refine bl_al ?_ _) | (with_reducible refine bl_more ?_ _ _)))
  · exact (by repeat (first | (with_reducible exact Below.refl _ _) | (with_reducible refine bl_dr ?_) | (with_reducible refine bl_drN ?_ _) | (with_reducible refine bl_al ?_ _) | (with_reducible refine bl_more ?_ _ _)))
set_option maxHeartbeats 1000000 in
theorem ref_pop_none {K : Nat → Prop} {w : World} {v : Value} (h : jobE.Row K w v []) :
    Calls Try.prog 50 #[v] w fun e w' => ∃ v1, e = .returned (.tuple #[v1, jobV job0 (.slice none 0 0), .int .i64 6]) ∧ jobE.Row K w' v1 [] ∧ Below w.heap.size w w' := by
  obtain ⟨A, c, rfl, h1, h2⟩ := h.form
  have HR := hid h
  clear h h1 h2
  go_enter Try.func50, Try.ntmps50
  go_wp2
  refine bodyPost_ret (v := .tuple #[.slice A 0 c, jobV job0 (.slice none 0 0), .int .i64 6]) (by simp [results, Try.results50, job0]; go_simp) rfl ⟨_, rfl, HR.out.below (by repeat (first | (with_reducible exact Below.refl _ _) | (with_reducible refine bl_dr ?_) | (with_reducible refine bl_drN ?_ _) | (with_reducible refine bl_al ?_ _) | (with_reducible refine bl_more ?_ _ _))), (by repeat (first | (with_reducible exact Below.refl _ _) | (with_reducible refine bl_dr ?_) | (with_reducible refine bl_drN ?_ _) | (with_reducible refine bl_al ?_ _) | (with_reducible refine bl_more ?_ _ _)))⟩
set_option maxHeartbeats 1000000 in
theorem ref_steal_none {K : Nat → Prop} {w : World} {v : Value} (h : jobE.Row K w v []) :
    Calls Try.prog 51 #[v] w fun e w' => ∃ v1, e = .returned (.tuple #[v1, jobV job0 (.slice none 0 0), .int .i64 6]) ∧ jobE.Row K w' v1 [] ∧ Below w.heap.size w w' := by
  obtain ⟨A, c, rfl, h1, h2⟩ := h.form
  have HR := hid h
  clear h h1 h2
  go_enter Try.func51, Try.ntmps51
  go_wp2
  refine bodyPost_ret (v := .tuple #[.slice A 0 c, jobV job0 (.slice none 0 0), .int .i64 6]) (by simp [results, Try.results51, job0]; go_simp) rfl ⟨_, rfl, HR.out.below (by repeat (first | (with_reducible exact Below.refl _ _) | (with_reducible refine bl_dr ?_) | (with_reducible refine bl_drN ?_ _) | (with_reducible refine bl_al ?_ _) | (with_reducible refine bl_more ?_ _ _))), (by repeat (first | (with_reducible exact Below.refl _ _) | (with_reducible refine bl_dr ?_) | (with_reducible refine bl_drN ?_ _) | (with_reducible refine bl_al ?_ _) | (with_reducible refine bl_more ?_ _ _)))⟩

theorem bl_dw {W X : World} {e : Array Obj} {n : Nat} (h : Below (more W e n).heap.size (more W e n) X) : Below (more W.drew e n).heap.size (more W.drew e n) X := h
theorem job_src {K : Nat → Prop} {w : World} {b : Nat} {j : Job} {v : Value} {t : TypeId} (hb : w.heap[b]? = some (.cells (jobCells j v).toArray t (0, 0))) (hr : intE.Row K w v j.stamp) : jobE.Src K w (.slice (some ⟨b, 0, none⟩) 1 1) [j] := Enc.Src.one_blk hb (jobE_mk hr)

set_option maxHeartbeats 1000000 in
theorem ref_push_full {K : Nat → Prop} {w : World} {v vj : Value} {l : List Job} {j : Job} (h : jobE.Row K w v l) (hl : l.length = 128) :
    Calls Try.prog 53 #[v, jobV j vj] w fun e w' => e = .returned (.tuple #[v, .int .i64 8]) ∧ Below w.heap.size w w' := by
  obtain ⟨A, c, rfl, h1, h2⟩ := h.form
  rw [hl] at *
  clear h h1 h2
  go_enter Try.func53, Try.ntmps53
  go_wp2
  refine bodyPost_ret (v := .tuple #[.slice A 128 c, .int .i64 8]) (by simp [results, Try.results53]) rfl ⟨rfl, (by repeat (first | (with_reducible exact Below.refl _ _) | (with_reducible refine bl_dr ?_) | (with_reducible refine bl_drN ?_ _) | (with_reducible refine bl_al ?_ _) | (with_reducible refine bl_more ?_ _ _)))⟩

set_option maxHeartbeats 1000000 in
theorem ref_push {K : Nat → Prop} {w : World} {v vj : Value} {l : List Job} {j : Job} (h : jobE.Row K w v l) (hj : intE.Row K w vj j.stamp) (hl : l.length < 128) :
    Calls Try.prog 53 #[v, jobV j vj] w fun e w' => ∃ v1, e = .returned (.tuple #[v1, .int .i64 0]) ∧ jobE.Row (fun b => K b ∨ w.heap.size ≤ b) w' v1 (l ++ [j]) ∧ Below w.heap.size w w' := by
  obtain ⟨A, c, rfl, h1, h2⟩ := h.form
  obtain ⟨B, cb, rfl, h3, h4⟩ := hj.form
  have i0 : ((l.length : Int) == 128) = false := by simp; omega
  have HR := hid h
  have HJ := hid hj
  clear h hj h1 h2 h3 h4
  go_enter Try.func53, Try.ntmps53
  go_wp2_with (first | ((with_reducible refine wp_region_plan (id := 3) (.two [(true, 1), (true, 3)] 0 [1, 3] (.two [] 2 [3] (.eff [] 4 [1] (.eff [] 5 [] (.fin [(false, 6), (false, 7)]))) 4 [1] (.eff [] 2 [3] (.eff [] 5 [] (.fin [(false, 6), (false, 7)])))) 4 [1] (.eff [] 0 [1, 3] (.eff [] 2 [3] (.eff [] 5 [] (.fin [(false, 6), (false, 7)]))))) ?_ ?_ ?_ ?_ ?_ ?_); kernel_rfl; kernel_rfl; kernel_rfl; kernel_rfl; (intro c a d v w h; cases d <;> exact h)) | (with_reducible refine wpPlan_eff ?_) | (with_reducible refine wpPlan_fin ?_) | (with_reducible refine wpPlan_two ?_) | (with_reducible refine wpOpPair ?_ ?_) | ((with_reducible apply wpPre_keep); rfl; intro K' hK'; go_simp; refine hK' _ _ ?_; intro f hf; clear hK' K') | ((with_reducible apply wpPre_drop); rfl; intro K' hK'; go_simp; refine hK' _ _ ?_; intro f; clear hK' K') | (with_reducible refine wpPre_nil ?_) | ((with_reducible apply wpOp_list); rfl) | (with_reducible refine heldPair ?_ ?_) | ((with_reducible refine heldH_no ?_ ?_); rfl) | (with_reducible refine heldH_yes ?_ ?_) | (with_reducible exact heldH_nil) | (unfold YAt; go_simp; done) | (at_builtin; refine wpList_app41 (ys := l) (K := fun b => K b ∧ b < w.heap.size) (by rfl) (.tmp 10) (.tmp 11) (by rfl) (by rfl) (by rfl) (by rfl) (Enc.Spine.bare jobE 33 _ w.heap.size _ _) (HR.out.bound.below (by repeat (first | (with_reducible exact Below.refl _ _) | (with_reducible refine bl_dr ?_) | (with_reducible refine bl_drN ?_ _) | (with_reducible refine bl_al ?_ _) | (with_reducible refine bl_more ?_ _ _)))).src (fun b hb _ => by omega) (by simp <;> omega) ?_; intro v1 w1 g1 hs1 he1 hg1; obtain ⟨A1, c1, rfl, _, _⟩ := hs1.form; obtain ⟨ex1, dx1, rfl⟩ := more_of (below_of_ext he1 (by simp [capOf])); clear he1; have HS1 := hid (fun (X : World) (hX : Below _ _ X) => (hs1.mono (K' := fun b => K b ∧ b < w.heap.size) (fun b hb _ => hb.1)).below hX); have HG1 := hid hg1; clear hs1 hg1) | (at_builtin; refine wpList_app41 (g := g1) (xs := [] ++ l) (ys := [j]) (K := fun b => K b ∧ b < w.heap.size) (by rfl) (.tmp 12) (.tmp 14) (by rfl) (by rfl) (by rfl) (by rfl) ?_ ?_ ?_ ?_ ?_; exact HS1.out _ (by first | ((repeat (first | (with_reducible exact Below.refl _ _) | (with_reducible refine bl_dr ?_) | (with_reducible refine bl_drN ?_ _) | (with_reducible refine bl_al ?_ _) | (with_reducible refine bl_more ?_ _ _))); done) | (refine bl_dw ?_; (repeat (first | (with_reducible exact Below.refl _ _) | (with_reducible refine bl_dr ?_) | (with_reducible refine bl_drN ?_ _) | (with_reducible refine bl_al ?_ _) | (with_reducible refine bl_more ?_ _ _))); done)); exact (job_src (v := .slice B j.stamp.length cb) (t := 33) (by first | exact alloc_blk (by simp only [more_size, World.size_alloc, World.size_drew]) | exact (more_heap (by simp)).trans (alloc_blk (by simp only [more_size, World.size_alloc, World.size_drew])) | exact (Below.heap_alloc _ _ _ (by simp)).trans (alloc_blk (by simp only [more_size, World.size_alloc, World.size_drew])) | exact (more_heap (by simp)).trans ((Below.heap_alloc _ _ _ (by simp)).trans (alloc_blk (by simp only [more_size, World.size_alloc, World.size_drew])))) (HJ.out.bound.below (by repeat (first | (with_reducible exact Below.refl _ _) | (with_reducible refine bl_dr ?_) | (with_reducible refine bl_drN ?_ _) | (with_reducible refine bl_al ?_ _) | (with_reducible refine bl_more ?_ _ _))))); exact (fun b hb _ => by have := HG1.out.le; simp only [more_size, World.size_alloc, World.size_drew] at this; omega); (simp <;> omega); intro v2 w2 g2 hs2 he2 hg2; obtain ⟨A2, c2, rfl, _, _⟩ := hs2.form; have HS2 := hid hs2; have HE2 := hid he2; have HG2 := hid hg2; clear hs2 he2 hg2))
  all_goals (
    refine bodyPost_ret (v := .tuple #[.slice A2 (l.length + 1) c2, .int .i64 0]) (by simp [results, Try.results53]) rfl ⟨_, rfl, ?_, ?_⟩
    · have hg := HG1.out.le
      have hg' := HG2.out.le
      simp only [more_size, World.size_alloc, World.size_drew] at hg hg'
      have hr := HS2.out.row (K' := fun b => K b ∨ w.heap.size ≤ b) (fun b hb _ => .inl hb.1.1) (.inr (by omega))
      simpa using hr
    · have hg := HG1.out.le
      simp only [more_size, World.size_alloc, World.size_drew] at hg
      exact (Below.trans (by repeat (first | (with_reducible exact Below.refl _ _) | (with_reducible refine bl_dr ?_) | (with_reducible refine bl_drN ?_ _) | (with_reducible refine bl_al ?_ _) | (with_reducible refine bl_more ?_ _ _))) ((HE2.out.toBelow (n := w.heap.size) (by simp only [more_size, World.size_alloc, World.size_drew]; omega) (fun x hx h => by have := h.1; omega)))))
end Go.Proofs.Ytlfdnjomjheioaa
