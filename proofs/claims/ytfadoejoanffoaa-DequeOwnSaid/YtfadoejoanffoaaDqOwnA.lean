/- Lists in memory of their own. -/
import Derived.Test.YtfadoejoanffoaaDqY
namespace Go.Proofs.Ytfadoejoanffoaa
open Go.RowKit
namespace Enc
/-- A row in a block of K that may be written. -/
def Own {α : Type} (d : Enc α) (E : TypeId) (K : Nat → Prop) (w : World) (v : Value) (xs : List α) : Prop := ∃ g, (capOf v ≠ 0 → K g) ∧ d.Spine E K g w v xs
variable {α : Type} {d : Enc α} {E : TypeId} {K K' : Nat → Prop} {w w1 : World} {v : Value} {xs : List α}
theorem Own.form (h : d.Own E K w v xs) : ∃ A c, v = .slice A xs.length c ∧ xs.length ≤ c ∧ c ≤ maxLen := by obtain ⟨g, _, h⟩ := h; exact h.form
theorem Own.step (h : d.Own E K w v xs) (hk : ∀ b, K b → b < w.heap.size → w1.heap[b]? = w.heap[b]?) : d.Own E K w1 v xs := by
  obtain ⟨g, hg, h⟩ := h
  refine ⟨g, hg, ?_⟩
  by_cases hc : capOf v = 0
  · exact h.empty hc
  · exact h.step (fun cur hcu => (hk g (hg hc) (Array.getElem?_eq_some_iff.1 hcu).1).trans hcu) (fun b hb hl => ⟨hb, hk b hb hl⟩)
theorem Own.below (h : d.Own E K w v xs) (hb : Below w.heap.size w w1) : d.Own E K w1 v xs := h.step (fun b _ hl => hb.block b hl)
theorem Own.alloc (h : d.Own E K w v xs) (o : Obj) : d.Own E K (w.alloc o) v xs := h.below ((Below.refl _ _).alloc (Nat.le_refl _) o)
theorem Own.mono (h : d.Own E K w v xs) (hk : ∀ b, K b → b < w.heap.size → K' b) : d.Own E K' w v xs := by
  obtain ⟨g, hg, h⟩ := h
  refine ⟨g, fun hc => ?_, h.mono hk⟩
  obtain ⟨cur, hcu⟩ := h.type hc
  exact hk g (hg hc) (Array.getElem?_eq_some_iff.1 hcu).1
theorem Own.swap {W W' : World} {e : Array Obj} {n n' : Nat} (h : d.Own E K (more W e n) v xs) (hs : W'.heap.size = W.heap.size) (hk : ∀ b, K b → W.heap.size ≤ b) : d.Own E K (more W' e n') v xs :=
  h.step (fun b hb _ => more_swap hs (hk b hb))
def own {α : Type} (d : Enc α) (E : TypeId) : Enc (List α) where
  sz := 1
  rd K w xs cs := ∃ v, cs = [v] ∧ d.Own E K w v xs
  len := by rintro K w x cs ⟨v, rfl, h⟩; rfl
  one := by
    rintro K w x cs ⟨v, rfl, h⟩ u hu
    obtain ⟨A, c, rfl, _⟩ := h.form
    simp at hu; subst hu; rfl
  step := by
    rintro K w w1 x cs hk ⟨v, rfl, h⟩; exact ⟨v, rfl, h.step hk⟩
  mono := by rintro K K' w x cs hk ⟨v, rfl, h⟩; exact ⟨v, rfl, h.mono hk⟩
end Enc

def jobU : Enc Job := Enc.iso (Enc.pair intE (Enc.pair Enc.bool (Enc.pair intE (Enc.pair Enc.bool (Enc.pair intE (Enc.own intE 3)))))) (fun j => (j.item, j.undo, j.try_, j.begun, j.token, j.stamp))
theorem jobU_open {K : Nat → Prop} {w : World} {j : Job} {cs : List Value} (h : jobU.rd K w j cs) : ∃ v, cs = jobCells j v ∧ intE.Own 3 K w v j.stamp := by
  obtain ⟨_, _, rfl, rfl, _, _, rfl, rfl, _, _, rfl, rfl, _, _, rfl, rfl, _, _, rfl, rfl, v, rfl, h⟩ := h
  exact ⟨v, rfl, h⟩
theorem jobU_mk {K : Nat → Prop} {w : World} {j : Job} {v : Value} (h : intE.Own 3 K w v j.stamp) : jobU.rd K w j (jobCells j v) :=
  ⟨[_], _, rfl, rfl, [_], _, rfl, rfl, [_], _, rfl, rfl, [_], _, rfl, rfl, [_], _, rfl, rfl, v, rfl, h⟩
theorem jobU_row {K : Nat → Prop} {w : World} {b : Nat} {j : Job} {v : Value} {t : TypeId} (hb : w.heap[b]? = some (.cells (jobCells j v).toArray t (0, 0))) (hr : intE.Own 3 K w v j.stamp) (hk : K b) : jobU.Row K w (.slice (some ⟨b, 0, none⟩) 1 1) [j] := Enc.Row.one_blk hb (jobU_mk hr) hk
theorem app40U {K : Nat → Prop} {g : Nat} {w : World} {v x : Value} {xs ys : List Job} (h : jobU.Spine 32 K g w v xs) (hy : jobU.Src K w x ys) (hKg : ∀ b, K b → b < w.heap.size → b ≠ g) (hlen : xs.length + ys.length ≤ 4294967296) :
    ∃ v' w' g', (Builtin.append_ #[40, 40] 40 #[v, x]).run Try.prog w = .ok v' w' ∧ jobU.Spine 32 (fun b => K b ∧ b < w.heap.size) g' w' v' (xs ++ ys) ∧ Ext (fun b => b = g ∧ capOf v ≠ 0) w w' ∧ Grew g w w' v v' g' := by
  obtain ⟨i0, hi, hz0, hz1, hz2⟩ := info_parts info32
  exact h.append 40 40 40 i0 _ Try.underlying40 ⟨_, Try.underlying40⟩ hi hz0 hz1 rfl (by decide) hy hKg hlen (by rw [hz2]; decide)
theorem wpList_app40U {w : World} {ops : Array Oper} {rest : List Oper} {o : Oper} {a : Act} {Q : Exit → Act → World → Prop} {K : Nat → Prop} {g : Nat} {xs ys : List Job} {v x : Value}
    (hg : o.guard = none) (s x' : Operand) (hop : o.op = Op.call { callee := Callee.builtin Builtin.append, args := #[s, x'], argTypes := #[40, 40] }) (hty : o.type = 40)
    (hv : a.eval s = v) (hx : a.eval x' = x) (hs : jobU.Spine 32 K g w v xs) (hy : jobU.Src K w x ys) (hKg : ∀ b, K b → b < w.heap.size → b ≠ g) (hlen : xs.length + ys.length ≤ 4294967296)
    (h : ∀ v' w' g', jobU.Spine 32 (fun b => K b ∧ b < w.heap.size) g' w' v' (xs ++ ys) → Ext (fun b => b = g ∧ capOf v ≠ 0) w w' → Grew g w w' v v' g' → wpList Try.prog ops Q rest (a.put o.dst v') w') :
    wpList Try.prog ops Q (o :: rest) a w := by
  subst hv; subst hx
  obtain ⟨v', w', g', hrun, h1, h2, h3⟩ := app40U hs hy hKg hlen
  exact wpList_append_run hg s x' 40 40 hop (by rw [hty]; exact hrun) (h v' w' g' h1 h2 h3)
theorem out_relU {w F : World} {g3 : Nat} {v : Value} {xs : List Job} {m : Nat} {a b : Prop} (h : jobU.Out 32 w.heap.size m g3 F v xs ∧ Below w.heap.size w F ∧ m ≤ F.heap.size) (ha : a) (hb : b) :
    jobU.Out 32 w.heap.size m g3 F v xs ∧ Below w.heap.size w F ∧ m ≤ F.heap.size ∧ a ∧ b := ⟨h.1, h.2.1, h.2.2, ha, hb⟩
set_option maxHeartbeats 1000000 in
theorem clone_free {K : Nat → Prop} {w : World} {v : Value} {xs : List Int} (h : intE.Row K w v xs) (hlen : xs.length ≤ 4294967296) :
    Calls Try.prog 37 #[v] w fun e w' => ∃ v', e = .returned v' ∧ intE.Own 3 (fun b => w.heap.size ≤ b) w' v' xs ∧ Below w.heap.size w w' := by
  obtain ⟨A, c, rfl, h1, h2⟩ := h.form
  have kn := fun (wx : World) (a : Option Addr) (n c : Nat) => Lib.run_eql_slice_nil (P := Try.prog) wx 30 3 a n c 0 0 Try.underlying30
  cases A with
  | none =>
    obtain rfl := h.nil_of_none
    go_enter Try.func37, Try.ntmps37
    go_wp2
    go_ret
    exact ⟨_, rfl, ⟨w.heap.size, fun _ => Nat.le_refl _, Enc.Spine.nil _ _ _ _ _⟩, Below.refl _ _⟩
  | some a =>
    have hy := ((h.bound).alloc (.cells #[] 3)).src
    obtain ⟨v', w', g', hrun, hsp, hext, hg'⟩ := app30 (Enc.Spine.bare intE 3 (fun b => K b ∧ b < w.heap.size) w.heap.size (w.alloc (.cells #[] 3)) (some ⟨w.heap.size, 0, none⟩)) hy (fun b hb _ => by omega) (by simpa using hlen)
    go_enter Try.func37, Try.ntmps37
    go_wp2_with (at_builtin; refine wpList_append_run rfl (.tmp 5) (.tmp 6) 30 30 rfl hrun ?_)
    go_ret
    refine ⟨_, rfl, ?_, ?_⟩
    · have hsp' : intE.Spine 3 (fun b => w.heap.size ≤ b) g' w' v' ([] ++ xs) := hsp
      have hg3 := hg'
      refine ⟨g', fun _ => ?_, hsp'⟩
      rcases hg3 with ⟨h, _⟩ | ⟨h, _⟩
      · show _ ≤ _; omega
      · simp only [World.size_alloc] at h; show _ ≤ _; omega
    · exact ((Below.refl _ _).alloc (Nat.le_refl _) _).trans (hext.toBelow (by simp) (fun x hx h => by have := h.1; omega))


set_option maxHeartbeats 1000000 in
theorem own_free {K : Nat → Prop} {w : World} {j : Job} {v : Value} (h : intE.Row K w v j.stamp) (hlen : j.stamp.length ≤ 4294967296) :
    Calls Try.prog 22 #[jobV j v] w fun e w' => ∃ v', e = .returned (jobV j v') ∧ intE.Own 3 (fun b => w.heap.size ≤ b) w' v' j.stamp ∧ Below w.heap.size w w' := by
  obtain ⟨A, c, rfl, h1, h2⟩ := h.form
  go_enter Try.func22, Try.ntmps22
  go_wp2_with (go_at_call 37; refine (clone_free ((h.alloc _).alloc _) hlen).mono ?_; rintro e w1 ⟨v', rfl, hr, hb⟩; obtain ⟨A', c', rfl, _, _⟩ := hr.form; obtain ⟨ex, dx, rfl⟩ := more_of hb; clear hb)
  refine bodyPost_ret (v := jobV j (.slice A' j.stamp.length c')) (by simp [results, Try.results22, go_sem]) rfl ⟨_, rfl, ?_, ?_⟩
  · exact ((hr.swap (by simp) (fun b hb => hb)).mono (fun b hb _ => by simp at hb; omega))
  · exact below_more (below_al (below_al (Below.refl _ _) _ (Nat.le_refl _)) _ (by simp)) (by simp; omega) _ _

set_option maxHeartbeats 4000000 in
theorem list_free {F : Nat → Prop} {w : World} {d g : Nat} {l : List Job} (h : Dq w F d g l) :
    Calls Try.prog 17 #[.pointer (some ⟨d, 0, none⟩)] w fun e w' => ∃ v', e = .returned v' ∧ jobU.Own 32 (fun b => w.heap.size ≤ b) w' v' l ∧ Below w.heap.size w w' := by
  obtain ⟨A, c, hb, hsp, hle, hc⟩ := h.cells
  have hd := h.lt
  have hfew := h.few
  have h0 : w.cell? ⟨d, 0, none⟩ = some (.bool true) := cell_blk hb 0
  have h1 : w.cell? ⟨d, 1, none⟩ = some (.slice A l.length c) := cell_blk hb 1
  have HF := hid h
  have hr : jobE.Row (fun _ => True) w (.slice A l.length c) l := hsp.row (fun _ _ _ => trivial) trivial
  have HR := hid hr
  clear h hb hsp hle hc hr
  go_enter Try.func17, Try.ntmps17
  go_wp2_with (first | (go_at_call 20; go_in) | (go_at_call 31; go_in))
  go_loopg [10] l.length (fun k i wr => ∃ (j g2 : Nat) (vo : Value), j + k = l.length ∧ i = .int .i64 j ∧ jobU.Out 32 w.heap.size (w.heap.size + 2) g2 wr vo (l.take j) ∧ Below w.heap.size w wr ∧ w.heap.size + 2 ≤ wr.heap.size ∧ wr.cell? ⟨w.heap.size + 1, 0, none⟩ = some vo ∧ wr.frozen? ⟨w.heap.size + 1, 0, none⟩ = false)
  case atStart =>
    refine ⟨0, d, .slice none 0 0, by omega, rfl, Enc.Out.start _ _ (by simp; omega) hd, (by repeat (first | (with_reducible exact Below.refl _ _) | (with_reducible refine bl_dr ?_) | (with_reducible refine bl_drN ?_ _) | (with_reducible refine bl_al ?_ _) | (with_reducible refine bl_more ?_ _ _))), by simp, ?_, ?_⟩ <;> go_simp
  case round =>
    obtain ⟨j, g2, vo, hj, rfl, ho, hbw, hsz, c1, f1⟩ := hrel
    obtain ⟨A2, c2, rfl, _, _⟩ := ho.sp.form
    have hlen : (l.take j).length = j := by rw [List.length_take]; omega
    rw [hlen] at c1 ho
    clear hlen
    have hM : w.heap.size + 1 < wr.heap.size := by omega
    have hoff := ho.off
    have hg2 : g2 < wr.heap.size := ho.lt
    have HO := hid ho
    have HW := hid hbw
    have HOF := hid hoff
    clear ho hbw hoff
    by_cases hlt : j < l.length
    · generalize hN : w.heap.size + 1 = M at *
      have HN := hid hN
      have ne1 : M ≠ g2 := by have := HOF.out; omega
      clear hN
      obtain ⟨b, off, B, cb, rfl, hbl, _, hv, hc⟩ := Row_job HR.out j hlt
      have hc := fun k u hk => cell_kept HW.out (hc k u hk)
      have e0 : wr.cell? ⟨b, off + j * 6, none⟩ = some (.int .i64 l[j].item) := by have := hc 0 _ rfl; simpa using this
      have e1 : wr.cell? ⟨b, off + j * 6 + 1, none⟩ = some (.bool l[j].undo) := by have := hc 1 _ rfl; simpa using this
      have e2 : wr.cell? ⟨b, off + j * 6 + 2, none⟩ = some (.int .i64 l[j].try_) := by have := hc 2 _ rfl; simpa using this
      have e3 : wr.cell? ⟨b, off + j * 6 + 3, none⟩ = some (.bool l[j].begun) := by have := hc 3 _ rfl; simpa using this
      have e4 : wr.cell? ⟨b, off + j * 6 + 4, none⟩ = some (.int .i64 l[j].token) := by have := hc 4 _ rfl; simpa using this
      have e5 : wr.cell? ⟨b, off + j * 6 + 5, none⟩ = some (.slice B l[j].stamp.length cb) := by have := hc 5 _ rfl; simpa using this
      have hst : okJob l[j] := HF.out.ok _ (List.getElem_mem hlt)
      have HJ := hid hst
      have HV := hid (hv.below HW.out)
      have hb2 : b < wr.heap.size := by omega
      clear hc hv h0 h1 hst
      have i1 : (j : Int) < (l.length : Int) := by omega
      have i3 : (0 : Int) ≤ (j : Int) := by omega
      have w1 : IntKind.i64.wrap ((j : Int) + 1) = ((j + 1 : Nat) : Int) := by rw [IntWalk.i64_in _ (by omega)]; rfl
      have HT := hid (List.take_succ_eq_append_getElem hlt).symm
      have HK := hid (show (l.take (j + 1)).length = j + 1 by rw [List.length_take]; omega)
      go_wp2_with (first | ((with_reducible refine wp_region_plan (id := 4) (.eff [(true, 0), (false, 1)] 2 [0] (.eff [] 3 [0] (.eff [] 4 [] (.eff [] 5 [] (.fin []))))) ?_ ?_ ?_ ?_ ?_ ?_); kernel_rfl; kernel_rfl; kernel_rfl; kernel_rfl; (intro c a d v w h; cases d <;> exact h)) | (with_reducible refine wpPlan_eff ?_) | (with_reducible refine wpPlan_fin ?_) | (with_reducible refine wpPlan_two ?_) | (with_reducible refine wpOpPair ?_ ?_) | ((with_reducible apply wpPre_keep); rfl; intro K' hK'; go_simp; refine hK' _ _ ?_; intro f hf; clear hK' K') | ((with_reducible apply wpPre_drop); rfl; intro K' hK'; go_simp; refine hK' _ _ ?_; intro f; clear hK' K') | (with_reducible refine wpPre_nil ?_) | ((with_reducible apply wpOp_list); rfl) | (with_reducible refine heldPair ?_ ?_) | ((with_reducible refine heldH_no ?_ ?_); rfl) | (with_reducible refine heldH_yes ?_ ?_) | (with_reducible exact heldH_nil) | (unfold YAt; go_simp; done) | (go_at_call 22; refine (own_free (HV.out.below (by repeat (first | (with_reducible exact Below.refl _ _) | (with_reducible refine bl_dr ?_) | (with_reducible refine bl_drN ?_ _) | (with_reducible refine bl_al ?_ _) | (with_reducible refine bl_more ?_ _ _)))) (by have := HJ.out; unfold okJob at this; omega)).mono ?_; rintro e w1 ⟨v', rfl, hr, hb1⟩; obtain ⟨A', c', rfl, _, _⟩ := hr.form; obtain ⟨ex, dx, rfl⟩ := more_of hb1; clear hb1; have HR2 := hid hr; clear hr) | (at_builtin; refine wpList_app40U (ys := [l[j]]) (by rfl) (.tmp 14) (.tmp 17) (by rfl) (by rfl) (by rfl) (by rfl) ((HO.out.below ?hA).sp) ?hB ?hC ?hD ?_; rotate_left 4; intro v2 w2 g3 hs2 he2 hg3; rw [HT.out] at hs2; obtain ⟨A3, c3, hv3, _, _⟩ := hs2.form; rw [HK.out] at hv3; subst hv3; have HS2 := hid hs2; have HE2 := hid he2; have HG2 := hid hg3; clear hs2 hg3; obtain ⟨o2, ex2, dx2, rfl⟩ := form_of he2 (Nat.lt_of_lt_of_le hg2 (Below.size (B := wr.heap.size) (w := wr) (by repeat (first | (with_reducible exact Below.refl _ _) | (with_reducible refine bl_dr ?_) | (with_reducible refine bl_drN ?_ _) | (with_reducible refine bl_al ?_ _) | (with_reducible refine bl_more ?_ _ _))))); clear he2))
      case hA => exact (by repeat (first | (with_reducible exact Below.refl _ _) | (with_reducible refine bl_dr ?_) | (with_reducible refine bl_drN ?_ _) | (with_reducible refine bl_al ?_ _) | (with_reducible refine bl_more ?_ _ _)))
      case hB => exact (jobU_row (v := .slice A' l[j].stamp.length c') (alloc_blk (by simp only [more_size, World.size_alloc, World.size_drew])) ((HR2.out.alloc _).mono (fun b hb _ => ⟨by simp only [World.size_drew, World.size_alloc] at hb; omega, by simp only [World.size_drew, World.size_alloc] at hb; omega⟩)) ⟨by omega, by omega⟩).src
      case hC => exact fun b hb _ => hb.2
      case hD => simp; omega
      go_roundg (l.length - (j + 1))
      case measure => omega
      case rel =>
        obtain ⟨q1, q2, q3⟩ := Enc.Out.round (M := M) HO.out HW.out (by repeat (first | (with_reducible exact Below.refl _ _) | (with_reducible refine bl_dr ?_) | (with_reducible refine bl_drN ?_ _) | (with_reducible refine bl_al ?_ _) | (with_reducible refine bl_more ?_ _ _))) HS2.out HE2.out HG2.out hsz (by have := HN.out; omega) (by have := HN.out; omega)
        refine ⟨j + 1, g3, .slice A3 (j + 1) c3, by omega, rfl, ?_⟩
        have hq := And.intro q1 (And.intro q2 q3)
        refine out_relU ?_ (by go_simp) (by go_simp)
        refine Eq.subst (motive := fun W => jobU.Out 32 w.heap.size (w.heap.size + 2) g3 W (.slice A3 (j + 1) c3) (l.take (j + 1)) ∧ Below w.heap.size w W ∧ w.heap.size + 2 ≤ W.heap.size) ?_ hq
        go_simp
    · obtain rfl : j = l.length := by omega
      have i1 : ¬ (l.length : Int) < l.length := by omega
      go_wp2_with (first | ((with_reducible refine wp_region_plan (id := 4) (.eff [(true, 0), (false, 1)] 2 [0] (.eff [] 3 [0] (.eff [] 4 [] (.eff [] 5 [] (.fin []))))) ?_ ?_ ?_ ?_ ?_ ?_); kernel_rfl; kernel_rfl; kernel_rfl; kernel_rfl; (intro c a d v w h; cases d <;> exact h)) | (with_reducible refine wpPlan_eff ?_) | (with_reducible refine wpPlan_fin ?_) | (with_reducible refine wpPlan_two ?_) | (with_reducible refine wpOpPair ?_ ?_) | ((with_reducible apply wpPre_keep); rfl; intro K' hK'; go_simp; refine hK' _ _ ?_; intro f hf; clear hK' K') | ((with_reducible apply wpPre_drop); rfl; intro K' hK'; go_simp; refine hK' _ _ ?_; intro f; clear hK' K') | (with_reducible refine wpPre_nil ?_) | ((with_reducible apply wpOp_list); rfl) | (with_reducible refine heldPair ?_ ?_) | ((with_reducible refine heldH_no ?_ ?_); rfl) | (with_reducible refine heldH_yes ?_ ?_) | (with_reducible exact heldH_nil) | (unfold YAt; go_simp; done) | (go_at_call 22; refine (own_free (HV.out.below (by repeat (first | (with_reducible exact Below.refl _ _) | (with_reducible refine bl_dr ?_) | (with_reducible refine bl_drN ?_ _) | (with_reducible refine bl_al ?_ _) | (with_reducible refine bl_more ?_ _ _)))) (by have := HJ.out; unfold okJob at this; omega)).mono ?_; rintro e w1 ⟨v', rfl, hr, hb1⟩; obtain ⟨A', c', rfl, _, _⟩ := hr.form; obtain ⟨ex, dx, rfl⟩ := more_of hb1; clear hb1; have HR2 := hid hr; clear hr) | (at_builtin; refine wpList_app40U (ys := [l[j]]) (by rfl) (.tmp 14) (.tmp 17) (by rfl) (by rfl) (by rfl) (by rfl) ((HO.out.below ?hA).sp) ?hB ?hC ?hD ?_; rotate_left 4; intro v2 w2 g3 hs2 he2 hg3; rw [HT.out] at hs2; obtain ⟨A3, c3, hv3, _, _⟩ := hs2.form; rw [HK.out] at hv3; subst hv3; have HS2 := hid hs2; have HE2 := hid he2; have HG2 := hid hg3; clear hs2 hg3; obtain ⟨o2, ex2, dx2, rfl⟩ := form_of he2 (Nat.lt_of_lt_of_le hg2 (Below.size (B := wr.heap.size) (w := wr) (by repeat (first | (with_reducible exact Below.refl _ _) | (with_reducible refine bl_dr ?_) | (with_reducible refine bl_drN ?_ _) | (with_reducible refine bl_al ?_ _) | (with_reducible refine bl_more ?_ _ _))))); clear he2))
      refine bodyPost_ret (v := .slice A2 l.length c2) (by simp [results, Try.results17, go_sem]) rfl ⟨_, rfl, ?_, HW.out⟩
      have ho := HO.out
      rw [List.take_length] at ho
      exact ⟨g2, fun hc => by have := ho.cap hc; omega, ho.sp.mono (fun b hb _ => by omega)⟩

end Go.Proofs.Ytfadoejoanffoaa
