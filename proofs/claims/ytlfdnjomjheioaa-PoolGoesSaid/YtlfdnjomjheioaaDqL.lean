/- Lists. -/
import Derived.Test.YtlfdnjomjheioaaDqE
import Derived.Test.YtlfdnjomjheioaaOut
namespace Go.Proofs.Ytlfdnjomjheioaa
open Go.RowKit

theorem out_rel {w F : World} {g3 : Nat} {v : Value} {xs : List Job} {m : Nat} {a b : Prop} (h : jobE.Out 33 w.heap.size m g3 F v xs ∧ Below w.heap.size w F ∧ m ≤ F.heap.size) (ha : a) (hb : b) :
    jobE.Out 33 w.heap.size m g3 F v xs ∧ Below w.heap.size w F ∧ m ≤ F.heap.size ∧ a ∧ b := ⟨h.1, h.2.1, h.2.2, ha, hb⟩

set_option maxHeartbeats 4000000 in
theorem list_any {F : Nat → Prop} {w : World} {d g : Nat} {l : List Job} (h : Dq w F d g l) :
    Calls Try.prog 41 #[.pointer (some ⟨d, 0, none⟩)] w fun e w' => ∃ v', e = .returned v' ∧ jobE.Row (fun b => w.heap.size ≤ b) w' v' l ∧ Below w.heap.size w w' := by
  obtain ⟨A, c, hb, hsp, hle, hc⟩ := h.cells
  have hd := h.lt
  have hfew := h.few
  have h0 : w.cell? ⟨d, 0, none⟩ = some (.bool true) := cell_blk hb 0
  have h1 : w.cell? ⟨d, 1, none⟩ = some (.slice A l.length c) := cell_blk hb 1
  have HF := hid h
  have hr : jobE.Row (fun _ => True) w (.slice A l.length c) l := hsp.row (fun _ _ _ => trivial) trivial
  have HR := hid hr
  clear h hb hsp hle hc hr
  go_enter Try.func41, Try.ntmps41
  go_wp2_with (first | (go_at_call 43; go_in) | (go_at_call 56; go_in))
  go_loopg [10] l.length (fun k i wr => ∃ (j g2 : Nat) (vo : Value), j + k = l.length ∧ i = .int .i64 j ∧ jobE.Out 33 w.heap.size (w.heap.size + 2) g2 wr vo (l.take j) ∧ Below w.heap.size w wr ∧ w.heap.size + 2 ≤ wr.heap.size ∧ wr.cell? ⟨w.heap.size + 1, 0, none⟩ = some vo ∧ wr.frozen? ⟨w.heap.size + 1, 0, none⟩ = false)
  case atStart =>
    refine ⟨0, d, .slice none 0 0, by omega, rfl, Enc.Out.start _ _ (by simp; omega) hd, (by repeat (first | (with_reducible exact Below.refl _ _) | (with_reducible refine bl_dr ?_) | (with_reducible refine bl_drN ?_ _) | (with_reducible refine bl_al ?_ _) | (with_reducible refine bl_more ?_ _ _))), by simp, ?_, ?_⟩ <;> go_simp
  case round =>
    obtain ⟨j, g2, vo, hj, rfl, ho, hbw, hsz, c1, f1⟩ := hrel
    obtain ⟨A2, c2, rfl, _, _⟩ := ho.sp.form
    have hlen : (l.take j).length = j := by rw [List.length_take]; omega
    rw [hlen] at c1 ho
    clear hlen
    have hM : w.heap.size + 1 < wr.heap.size := by omega
    have hoff := ho.off
    have hg2 : g2 < wr.heap.size := ho.lt
    have HO := hid ho
    have HW := hid hbw
    have HOF := hid hoff
    clear ho hbw hoff
    by_cases hlt : j < l.length
    · generalize hN : w.heap.size + 1 = M at *
      have HN := hid hN
      have ne1 : M ≠ g2 := by have := HOF.out; omega
      clear hN
      obtain ⟨b, off, B, cb, rfl, hbl, _, hv, hc⟩ := Row_job HR.out j hlt
      have hc := fun k u hk => cell_kept HW.out (hc k u hk)
      have e0 : wr.cell? ⟨b, off + j * 6, none⟩ = some (.int .i64 l[j].item) := by have := hc 0 _ rfl; simpa using this
      have e1 : wr.cell? ⟨b, off + j * 6 + 1, none⟩ = some (.bool l[j].undo) := by have := hc 1 _ rfl; simpa using this
      have e2 : wr.cell? ⟨b, off + j * 6 + 2, none⟩ = some (.int .i64 l[j].try_) := by have := hc 2 _ rfl; simpa using this
      have e3 : wr.cell? ⟨b, off + j * 6 + 3, none⟩ = some (.bool l[j].begun) := by have := hc 3 _ rfl; simpa using this
      have e4 : wr.cell? ⟨b, off + j * 6 + 4, none⟩ = some (.int .i64 l[j].token) := by have := hc 4 _ rfl; simpa using this
      have e5 : wr.cell? ⟨b, off + j * 6 + 5, none⟩ = some (.slice B l[j].stamp.length cb) := by have := hc 5 _ rfl; simpa using this
      have hst : okJob l[j] := HF.out.ok _ (List.getElem_mem hlt)
      have HJ := hid hst
      have HV := hid (hv.below HW.out)
      have hb2 : b < wr.heap.size := by omega
      clear hc hv h0 h1 hst
      have i1 : (j : Int) < (l.length : Int) := by omega
      have i3 : (0 : Int) ≤ (j : Int) := by omega
      have w1 : IntKind.i64.wrap ((j : Int) + 1) = ((j + 1 : Nat) : Int) := by rw [IntWalk.i64_in _ (by omega)]; rfl
      have HT := hid (List.take_succ_eq_append_getElem hlt).symm
      have HK := hid (show (l.take (j + 1)).length = j + 1 by rw [List.length_take]; omega)
      go_wp2_with (first | ((with_reducible refine wp_region_plan (id := 4) (.eff [(true, 0), (false, 1)] 2 [0] (.eff [] 3 [0] (.eff [] 4 [] (.eff [] 5 [] (.fin []))))) ?_ ?_ ?_ ?_ ?_ ?_); kernel_rfl; kernel_rfl; kernel_rfl; kernel_rfl; (intro c a d v w h; cases d <;> exact h)) | (with_reducible refine wpPlan_eff ?_) | (with_reducible refine wpPlan_fin ?_) | (with_reducible refine wpPlan_two ?_) | (with_reducible refine wpOpPair ?_ ?_) | ((with_reducible apply wpPre_keep); rfl; intro K' hK'; go_simp; refine hK' _ _ ?_; intro f hf; clear hK' K') | ((with_reducible apply wpPre_drop); rfl; intro K' hK'; go_simp; refine hK' _ _ ?_; intro f; clear hK' K') | (with_reducible refine wpPre_nil ?_) | ((with_reducible apply wpOp_list); rfl) | (with_reducible refine heldPair ?_ ?_) | ((with_reducible refine heldH_no ?_ ?_); rfl) | (with_reducible refine heldH_yes ?_ ?_) | (with_reducible exact heldH_nil) | (unfold YAt; go_simp; done) | (go_at_call 55; refine (own_any (HV.out.below (by repeat (first | (with_reducible exact Below.refl _ _) | (with_reducible refine bl_dr ?_) | (with_reducible refine bl_drN ?_ _) | (with_reducible refine bl_al ?_ _) | (with_reducible refine bl_more ?_ _ _)))) (by have := HJ.out; unfold okJob at this; omega)).mono ?_; rintro e w1 ⟨v', rfl, hr, hb1⟩; obtain ⟨A', c', rfl, _, _⟩ := hr.form; obtain ⟨ex, dx, rfl⟩ := more_of hb1; clear hb1; have HR2 := hid hr; clear hr) | (at_builtin; refine wpList_app40 (ys := [l[j]]) (by rfl) (.tmp 14) (.tmp 17) (by rfl) (by rfl) (by rfl) (by rfl) ((HO.out.below ?hA).sp) ?hB ?hC ?hD ?_; rotate_left 4; intro v2 w2 g3 hs2 he2 hg3; rw [HT.out] at hs2; obtain ⟨A3, c3, hv3, _, _⟩ := hs2.form; rw [HK.out] at hv3; subst hv3; have HS2 := hid hs2; have HE2 := hid he2; have HG2 := hid hg3; clear hs2 hg3; obtain ⟨o2, ex2, dx2, rfl⟩ := form_of he2 (Nat.lt_of_lt_of_le hg2 (Below.size (B := wr.heap.size) (w := wr) (by repeat (first | (with_reducible exact Below.refl _ _) | (with_reducible refine bl_dr ?_) | (with_reducible refine bl_drN ?_ _) | (with_reducible refine bl_al ?_ _) | (with_reducible refine bl_more ?_ _ _))))); clear he2))
      case hA => exact (by repeat (first | (with_reducible exact Below.refl _ _) | (with_reducible refine bl_dr ?_) | (with_reducible refine bl_drN ?_ _) | (with_reducible refine bl_al ?_ _) | (with_reducible refine bl_more ?_ _ _)))
      case hB => exact (job_row (v := .slice A' l[j].stamp.length c') (alloc_blk (by simp only [more_size, World.size_alloc, World.size_drew])) ((HR2.out.alloc _).mono (fun b hb _ => ⟨by simp only [World.size_drew, World.size_alloc] at hb; omega, by simp only [World.size_drew, World.size_alloc] at hb; omega⟩)) ⟨by omega, by omega⟩).src
      case hC => exact fun b hb _ => hb.2
      case hD => simp; omega
      go_roundg (l.length - (j + 1))
      case measure => omega
      case rel =>
        obtain ⟨q1, q2, q3⟩ := Enc.Out.round (M := M) HO.out HW.out (by repeat (first | (with_reducible exact Below.refl _ _) | (with_reducible refine bl_dr ?_) | (with_reducible refine bl_drN ?_ _) | (with_reducible refine bl_al ?_ _) | (with_reducible refine bl_more ?_ _ _))) HS2.out HE2.out HG2.out hsz (by have := HN.out; omega) (by have := HN.out; omega)
        refine ⟨j + 1, g3, .slice A3 (j + 1) c3, by omega, rfl, ?_⟩
        have hq := And.intro q1 (And.intro q2 q3)
        refine out_rel ?_ (by go_simp) (by go_simp)
        refine Eq.subst (motive := fun W => jobE.Out 33 w.heap.size (w.heap.size + 2) g3 W (.slice A3 (j + 1) c3) (l.take (j + 1)) ∧ Below w.heap.size w W ∧ w.heap.size + 2 ≤ W.heap.size) ?_ hq
        go_simp
    · obtain rfl : j = l.length := by omega
      have i1 : ¬ (l.length : Int) < l.length := by omega
      go_wp2_with (first | ((with_reducible refine wp_region_plan (id := 4) (.eff [(true, 0), (false, 1)] 2 [0] (.eff [] 3 [0] (.eff [] 4 [] (.eff [] 5 [] (.fin []))))) ?_ ?_ ?_ ?_ ?_ ?_); kernel_rfl; kernel_rfl; kernel_rfl; kernel_rfl; (intro c a d v w h; cases d <;> exact h)) | (with_reducible refine wpPlan_eff ?_) | (with_reducible refine wpPlan_fin ?_) | (with_reducible refine wpPlan_two ?_) | (with_reducible refine wpOpPair ?_ ?_) | ((with_reducible apply wpPre_keep); rfl; intro K' hK'; go_simp; refine hK' _ _ ?_; intro f hf; clear hK' K') | ((with_reducible apply wpPre_drop); rfl; intro K' hK'; go_simp; refine hK' _ _ ?_; intro f; clear hK' K') | (with_reducible refine wpPre_nil ?_) | ((with_reducible apply wpOp_list); rfl) | (with_reducible refine heldPair ?_ ?_) | ((with_reducible refine heldH_no ?_ ?_); rfl) | (with_reducible refine heldH_yes ?_ ?_) | (with_reducible exact heldH_nil) | (unfold YAt; go_simp; done) | (go_at_call 55; refine (own_any (HV.out.below (by repeat (first | (with_reducible exact Below.refl _ _) | (with_reducible refine bl_dr ?_) | (with_reducible refine bl_drN ?_ _) | (with_reducible refine bl_al ?_ _) | (with_reducible refine bl_more ?_ _ _)))) (by have := HJ.out; unfold okJob at this; omega)).mono ?_; rintro e w1 ⟨v', rfl, hr, hb1⟩; obtain ⟨A', c', rfl, _, _⟩ := hr.form; obtain ⟨ex, dx, rfl⟩ := more_of hb1; clear hb1; have HR2 := hid hr; clear hr) | (at_builtin; refine wpList_app40 (ys := [l[j]]) (by rfl) (.tmp 14) (.tmp 17) (by rfl) (by rfl) (by rfl) (by rfl) ((HO.out.below ?hA).sp) ?hB ?hC ?hD ?_; rotate_left 4; intro v2 w2 g3 hs2 he2 hg3; rw [HT.out] at hs2; obtain ⟨A3, c3, hv3, _, _⟩ := hs2.form; rw [HK.out] at hv3; subst hv3; have HS2 := hid hs2; have HE2 := hid he2; have HG2 := hid hg3; clear hs2 hg3; obtain ⟨o2, ex2, dx2, rfl⟩ := form_of he2 (Nat.lt_of_lt_of_le hg2 (Below.size (B := wr.heap.size) (w := wr) (by repeat (first | (with_reducible exact Below.refl _ _) | (with_reducible refine bl_dr ?_) | (with_reducible refine bl_drN ?_ _) | (with_reducible refine bl_al ?_ _) | (with_reducible refine bl_more ?_ _ _))))); clear he2))
      refine bodyPost_ret (v := .slice A2 l.length c2) (by simp [results, Try.results41, go_sem]) rfl ⟨_, rfl, ?_, HW.out⟩
      have ho := HO.out
      rw [List.take_length] at ho
      exact ho.row.mono (fun b hb _ => by omega)
end Go.Proofs.Ytlfdnjomjheioaa
