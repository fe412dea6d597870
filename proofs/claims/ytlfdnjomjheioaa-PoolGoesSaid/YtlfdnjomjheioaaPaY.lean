/- Both pools: a call of both. -/
import Derived.Test.YtlfdnjomjheioaaPaX
namespace Go.Proofs.Ytlfdnjomjheioaa
open Go.RowKit

def Kq (s : List Wk) (p : Nat) (ad : Nat → Ad) (r b1 b2 b3 : Nat) : Nat → Prop := fun b => ¬ Blk s p ad b ∧ ¬ Rb r b1 b2 b3 b
/-- A pool and the document's, which may differ. -/
structure Two (w0 w : World) (p : Nat) (s : List Wk) (ad : Nat → Ad) (r : Nat) (s2 : List Wk) (b1 b2 b3 : Nat) : Prop where
  pl : Pl w0.heap.size w (Kq s p ad r b1 b2 b3) p s ad
  rp : Rp w0.heap.size w (Kq s p ad r b1 b2 b3) r s2 b1 b2 b3
  sep : ∀ b, Blk s p ad b → ¬ Rb r b1 b2 b3 b
  bw : Below w0.heap.size w0 w
theorem Pl.mono {N : Nat} {w : World} {F F' : Nat → Prop} {p : Nat} {s : List Wk} {ad : Nat → Ad} (h : Pl N w F p s ad) (hF : ∀ b, F b → b < w.heap.size → F' b) (hn : ∀ b, Blk s p ad b → ¬ F' b) : Pl N w F' p s ad :=
  ⟨h.blk, h.n, h.n1, h.n2, fun i hi => (h.at_ i hi).mono hF, h.sep, h.np, fun i b hi hb => hn b (.inr ⟨i, hi, hb⟩), hn p (.inl rfl), h.ge, h.pN, h.bN⟩
theorem Pl.bge {N : Nat} {w : World} {F : Nat → Prop} {p : Nat} {s : List Wk} {ad : Nat → Ad} (h : Pl N w F p s ad) : ∀ b, Blk s p ad b → N ≤ b := by
  rintro b (rfl | ⟨i, hi, hb⟩)
  · exact h.pN
  · exact h.ge i b hi hb
theorem Rp.blt {N : Nat} {w : World} {K : Nat → Prop} {r : Nat} {s : List Wk} {b1 b2 b3 : Nat} (h : Rp N w K r s b1 b2 b3) : ∀ b, Rb r b1 b2 b3 b → b < w.heap.size ∧ N ≤ b := by
  obtain ⟨l1, l2, l3, l4⟩ := h.lt
  obtain ⟨g1, g2, g3, g4⟩ := h.ge
  rintro b (rfl | rfl | rfl | rfl)
  · exact ⟨l1, g1⟩
  · exact ⟨l2, g2⟩
  · exact ⟨l3, g3⟩
  · exact ⟨l4, g4⟩
namespace Two
variable {w0 w w1 : World} {p : Nat} {s s' : List Wk} {ad ad' : Nat → Ad} {r : Nat} {s2 s2' : List Wk} {b1 b2 b3 : Nat}
theorem below (h : Two w0 w p s ad r s2 b1 b2 b3) (hb : Below w.heap.size w w1) : Two w0 w1 p s ad r s2 b1 b2 b3 := ⟨h.pl.below hb, h.rp.below hb, h.sep, h.bw.trans (hb.mono h.bw.size)⟩
theorem pool {F' : Nat → Prop} (h : Two w0 w p s ad r s2 b1 b2 b3) (hp : Pl w0.heap.size w1 F' p s' ad') (hs : Stp s s' p (Kq s p ad r b1 b2 b3) F' ad ad' w w1) : Two w0 w1 p s' ad' r s2 b1 b2 b3 := by
  have hz := hs.ext.size
  have hR := h.rp.blt
  refine ⟨hp.mono (fun b hb hl => ⟨fun e => ?_, fun e => ?_⟩) (fun b hb hk => hk.1 hb), ?_, fun b hb e => ?_, h.bw.trans (h.pl.extb hs.ext)⟩
  · rcases e with rfl | ⟨i, hi, e⟩
    · exact hp.pF hb
    · exact hp.nF i b hi e hb
  · exact (hs.inF b (hR b e).1 hb).2 e
  · have h1 : Rp w0.heap.size w (fun b => Kq s p ad r b1 b2 b3 b ∧ b < w.heap.size) r s2 b1 b2 b3 := h.rp.mono (fun b hb hl => ⟨hb, hl⟩) (fun b hb hk => hk.1.2 hb)
    refine (h1.ext hs.ext (fun b hb e => h.sep b e hb) (fun b hb _ => hb.1.1)).mono (fun b hb _ => ⟨fun e => hb.1.1 (hs.inA b hb.2 e), hb.1.2⟩) (fun b hb hk => hk.2 hb)
  · exact h.sep b (hs.inA b (hR b e).1 hb) e
theorem ref (h : Two w0 w p s ad r s2 b1 b2 b3) (hr : RT w0.heap.size w (Kq s p ad r b1 b2 b3) r b1 b2 b3 s2' w1) : Two w0 w1 p s ad r s2' b1 b2 b3 := by
  have hB := h.pl.blt
  have hR := h.rp.blt
  refine ⟨h.pl.apart hr.2 (h.sep p (.inl rfl)) (fun i hi b hb => h.sep b (.inr ⟨i, hi, hb⟩)) (fun b hb => hb.2), hr.1.mono (fun b hb _ => ?_) (fun b hb hk => hk.2 hb), h.sep, h.bw.trans (hr.2.toBelow h.bw.size (fun x hx e => by have := (hR x e).2; omega))⟩
  rcases hb with hb | hb
  · exact hb
  · exact ⟨fun e => by have := hB b e; omega, fun e => by have := (hR b e).1; omega⟩
theorem few (h : Two w0 w p s ad r s2 b1 b2 b3) : ∀ i (hi : i < s.length), s[i].l.length ≤ 128 := fun i hi => (h.pl.at_ i hi).dq.few
theorem arg (h : Two w0 w p s ad r s2 b1 b2 b3) {v : Value} {xs : List Int} (hv : intE.Row (fun b => b < w0.heap.size) w v xs) : intE.Row (Kq s p ad r b1 b2 b3) w v xs :=
  hv.mono (fun b hb _ => ⟨fun e => by have := h.pl.bge b e; omega, fun e => by have := (h.rp.blt b e).2; omega⟩)
end Two
theorem rebase {w W w1 : World} {o : Obj} (hb : Below (w.alloc o).heap.size (w.alloc o) W) (h : Ext (fun b => b < w.heap.size) W w1) : ∃ (w2 : World) (e2 : Array Obj) (d2 : Nat), w2.heap.size = w.heap.size ∧ w1 = more (w2.alloc o) e2 d2 := by
  obtain ⟨e, d, rfl⟩ := more_of hb
  exact rebase1 h
theorem same_refl {K K' : Nat → Prop} {w : World} {j : Job} {v v' : Value} (h : intE.Row K w v j.stamp) (h' : intE.Row K' w v' j.stamp) :
    Calls Try.prog 13 #[jobV j v, jobV j v'] w fun e w' => e = .returned (.bool true) ∧ Below w.heap.size w w' :=
  (same_any h h').mono fun _ _ ⟨h1, h2⟩ => ⟨by rw [h1]; simp, h2⟩
structure PAct where
  kind : Int
  w : Int
  n : Int
  j : Job
def pactE : Enc PAct := Enc.iso (Enc.pair intE (Enc.pair intE (Enc.pair intE jobE))) (fun a => (a.kind, a.w, a.n, a.j))
abbrev pactV (a : PAct) (v : Value) : Value := .agg #[.int .i64 a.kind, .int .i64 a.w, .int .i64 a.n, .int .i64 a.j.item, .bool a.j.undo, .int .i64 a.j.try_, .bool a.j.begun, .int .i64 a.j.token, v]
def Stepped (w0 : World) (p : Nat) (r b1 b2 b3 : Nat) (s' : List Wk) (e : Ending) (w' : World) : Prop := e = .returned (.bool true) ∧ ∃ ad', Two w0 w' p s' ad' r s' b1 b2 b3

set_option maxHeartbeats 2000000 in
set_option maxRecDepth 8000 in
theorem step_put {w0 w : World} {p r b1 b2 b3 : Nat} {s : List Wk} {ad : Nat → Ad} {v : Value} {a : PAct} (h : Two w0 w p s ad r s b1 b2 b3) (hv : intE.Row (fun b => b < w0.heap.size) w v a.j.stamp) (hok : okJob a.j) (hk : a.kind = 2) :
    Calls Try.prog 17 #[.pointer (some ⟨p, 0, none⟩), .pointer (some ⟨r, 0, none⟩), pactV a v] w (Stepped w0 p r b1 b2 b3 (putM s a.w a.j).1) := by
  obtain ⟨A, c, rfl, _, _⟩ := hv.form
  have HT := hid h
  have HV := hid hv
  have HOK := hid hok
  have HN := hid h.bw.size
  clear h hv hok
  have k1 : (a.kind == 1) = false := by rw [hk]; rfl
  have k2 : (a.kind == 2) = true := by rw [hk]; rfl
  clear hk
  go_enter Try.func17, Try.ntmps17
  go_wp2_with (first | ((with_reducible refine wp_region_plan (id := 7) (.eff [(false, 0), (false, 1), (false, 2), (false, 3), (false, 4), (true, 6), (true, 7), (true, 8), (true, 9), (true, 10)] 5 [6, 7, 8, 9, 10] (.eff [] 11 [] (.fin [(false, 12), (false, 13)]))) ?_ ?_ ?_ ?_ ?_ ?_); kernel_rfl; kernel_rfl; kernel_rfl; kernel_rfl; (intro c a d v w h; cases d <;> exact h)) | ((with_reducible refine wp_region_plan (id := 9) (.eff [(false, 0), (false, 1), (false, 2), (true, 4), (true, 5), (true, 6)] 3 [4, 5, 6] (.eff [] 7 [] (.fin [(false, 8), (false, 9)]))) ?_ ?_ ?_ ?_ ?_ ?_); kernel_rfl; kernel_rfl; kernel_rfl; kernel_rfl; (intro c a d v w h; cases d <;> exact h)) | ((with_reducible refine wp_region_plan (id := 11) (.eff [(false, 0), (false, 1), (false, 2), (false, 3), (true, 5), (true, 6), (true, 7), (true, 8)] 4 [5, 6, 7, 8] (.eff [] 9 [] (.fin [(false, 10), (false, 11)]))) ?_ ?_ ?_ ?_ ?_ ?_); kernel_rfl; kernel_rfl; kernel_rfl; kernel_rfl; (intro c a d v w h; cases d <;> exact h)) | ((with_reducible refine wp_region_plan (id := 12) (.eff [(false, 0), (false, 1), (false, 2), (false, 3), (false, 4), (true, 6), (true, 7), (true, 8), (true, 9), (true, 10)] 5 [6, 7, 8, 9, 10] (.eff [] 11 [] (.fin [(false, 12), (false, 13)]))) ?_ ?_ ?_ ?_ ?_ ?_); kernel_rfl; kernel_rfl; kernel_rfl; kernel_rfl; (intro c a d v w h; cases d <;> exact h)) | (with_reducible refine wpPlan_eff ?_) | (with_reducible refine wpPlan_fin ?_) | (with_reducible refine wpPlan_two ?_) | (with_reducible refine wpOpPair ?_ ?_) | ((with_reducible apply wpPre_keep); rfl; intro K' hK'; go_simp; refine hK' _ _ ?_; intro f hf; clear hK' K') | ((with_reducible apply wpPre_drop); rfl; intro K' hK'; go_simp; refine hK' _ _ ?_; intro f; clear hK' K') | (with_reducible refine wpPre_nil ?_) | ((with_reducible apply wpOp_list); rfl) | (with_reducible refine heldPair ?_ ?_) | ((with_reducible refine heldH_no ?_ ?_); rfl) | (with_reducible refine heldH_yes ?_ ?_) | (with_reducible exact heldH_nil) | (unfold YAt; go_simp; done) | (go_at_call 20; refine (put_all (HT.out.below (by repeat (first | (with_reducible exact Below.refl _ _) | (with_reducible exact bl_mm) | (with_reducible refine bl_dr ?_) | (with_reducible refine bl_drN ?_ _) | (with_reducible refine bl_al ?_ _) | (with_reducible refine bl_more ?_ _ _)))).pl a.w (HV.out.below (by repeat (first | (with_reducible exact Below.refl _ _) | (with_reducible exact bl_mm) | (with_reducible refine bl_dr ?_) | (with_reducible refine bl_drN ?_ _) | (with_reducible refine bl_al ?_ _) | (with_reducible refine bl_more ?_ _ _)))) HOK.out).mono ?_; rintro e w1 ⟨rfl, F', ad', hp', hs'⟩; have HT1 := hid ((HT.out.below (by repeat (first | (with_reducible exact Below.refl _ _) | (with_reducible exact bl_mm) | (with_reducible refine bl_dr ?_) | (with_reducible refine bl_drN ?_ _) | (with_reducible refine bl_al ?_ _) | (with_reducible refine bl_more ?_ _ _)))).pool hp' hs'); have hv1 := (HV.out.below (by repeat (first | (with_reducible exact Below.refl _ _) | (with_reducible exact bl_mm) | (with_reducible refine bl_dr ?_) | (with_reducible refine bl_drN ?_ _) | (with_reducible refine bl_al ?_ _) | (with_reducible refine bl_more ?_ _ _)))).ext hs'.ext (fun b hb _ e => by have h1 := HT.out.pl.bge b e; omega); obtain ⟨w2, e2, d2, hz, rfl⟩ := rebase (w := w) (by repeat (first | (with_reducible exact Below.refl _ _) | (with_reducible exact bl_mm) | (with_reducible refine bl_dr ?_) | (with_reducible refine bl_drN ?_ _) | (with_reducible refine bl_al ?_ _) | (with_reducible refine bl_more ?_ _ _))) (hs'.ext.mono (fun b _ hb => HT.out.pl.blt b hb)); have HV1 := hid hv1; rw [← hz]; have HZ := hid hz; clear hp' hs' hz hv1) | (go_at_call 33; refine (rput_all (HT1.out.below (by repeat (first | (with_reducible exact Below.refl _ _) | (with_reducible exact bl_mm) | (with_reducible refine bl_dr ?_) | (with_reducible refine bl_drN ?_ _) | (with_reducible refine bl_al ?_ _) | (with_reducible refine bl_more ?_ _ _)))).rp a.w ((HT1.out.below (by repeat (first | (with_reducible exact Below.refl _ _) | (with_reducible exact bl_mm) | (with_reducible refine bl_dr ?_) | (with_reducible refine bl_drN ?_ _) | (with_reducible refine bl_al ?_ _) | (with_reducible refine bl_more ?_ _ _)))).arg (HV1.out.below (by repeat (first | (with_reducible exact Below.refl _ _) | (with_reducible exact bl_mm) | (with_reducible refine bl_dr ?_) | (with_reducible refine bl_drN ?_ _) | (with_reducible refine bl_al ?_ _) | (with_reducible refine bl_more ?_ _ _)))))).mono ?_; rintro e w3 ⟨rfl, hrt⟩; have HT2 := hid ((HT1.out.below (by repeat (first | (with_reducible exact Below.refl _ _) | (with_reducible exact bl_mm) | (with_reducible refine bl_dr ?_) | (with_reducible refine bl_drN ?_ _) | (with_reducible refine bl_al ?_ _) | (with_reducible refine bl_more ?_ _ _)))).ref hrt); clear hrt) | (rw [← HZ.out]; unfold YAt; go_simp; done))
  all_goals (go_ret; exact ⟨by simp, _, HT2.out.below (by repeat (first | (with_reducible exact Below.refl _ _) | (with_reducible exact bl_mm) | (with_reducible refine bl_dr ?_) | (with_reducible refine bl_drN ?_ _) | (with_reducible refine bl_al ?_ _) | (with_reducible refine bl_more ?_ _ _)))⟩)
set_option maxHeartbeats 2000000 in
set_option maxRecDepth 8000 in
theorem step_done {w0 w : World} {p r b1 b2 b3 : Nat} {s : List Wk} {ad : Nat → Ad} {v : Value} {a : PAct} (h : Two w0 w p s ad r s b1 b2 b3) (hv : intE.Row (fun b => b < w0.heap.size) w v a.j.stamp) (hok : okJob a.j) (hk : a.kind = 3) :
    Calls Try.prog 17 #[.pointer (some ⟨p, 0, none⟩), .pointer (some ⟨r, 0, none⟩), pactV a v] w (Stepped w0 p r b1 b2 b3 (doneM s a.w).1) := by
  obtain ⟨A, c, rfl, _, _⟩ := hv.form
  have HT := hid h
  have HV := hid hv
  have HOK := hid hok
  have HN := hid h.bw.size
  clear h hv hok
  have k1 : (a.kind == 1) = false := by rw [hk]; rfl
  have k2 : (a.kind == 2) = false := by rw [hk]; rfl
  have k3 : (a.kind == 3) = true := by rw [hk]; rfl
  clear hk
  go_enter Try.func17, Try.ntmps17
  go_wp2_with (first | ((with_reducible refine wp_region_plan (id := 7) (.eff [(false, 0), (false, 1), (false, 2), (false, 3), (false, 4), (true, 6), (true, 7), (true, 8), (true, 9), (true, 10)] 5 [6, 7, 8, 9, 10] (.eff [] 11 [] (.fin [(false, 12), (false, 13)]))) ?_ ?_ ?_ ?_ ?_ ?_); kernel_rfl; kernel_rfl; kernel_rfl; kernel_rfl; (intro c a d v w h; cases d <;> exact h)) | ((with_reducible refine wp_region_plan (id := 9) (.eff [(false, 0), (false, 1), (false, 2), (true, 4), (true, 5), (true, 6)] 3 [4, 5, 6] (.eff [] 7 [] (.fin [(false, 8), (false, 9)]))) ?_ ?_ ?_ ?_ ?_ ?_); kernel_rfl; kernel_rfl; kernel_rfl; kernel_rfl; (intro c a d v w h; cases d <;> exact h)) | ((with_reducible refine wp_region_plan (id := 11) (.eff [(false, 0), (false, 1), (false, 2), (false, 3), (true, 5), (true, 6), (true, 7), (true, 8)] 4 [5, 6, 7, 8] (.eff [] 9 [] (.fin [(false, 10), (false, 11)]))) ?_ ?_ ?_ ?_ ?_ ?_); kernel_rfl; kernel_rfl; kernel_rfl; kernel_rfl; (intro c a d v w h; cases d <;> exact h)) | ((with_reducible refine wp_region_plan (id := 12) (.eff [(false, 0), (false, 1), (false, 2), (false, 3), (false, 4), (true, 6), (true, 7), (true, 8), (true, 9), (true, 10)] 5 [6, 7, 8, 9, 10] (.eff [] 11 [] (.fin [(false, 12), (false, 13)]))) ?_ ?_ ?_ ?_ ?_ ?_); kernel_rfl; kernel_rfl; kernel_rfl; kernel_rfl; (intro c a d v w h; cases d <;> exact h)) | (with_reducible refine wpPlan_eff ?_) | (with_reducible refine wpPlan_fin ?_) | (with_reducible refine wpPlan_two ?_) | (with_reducible refine wpOpPair ?_ ?_) | ((with_reducible apply wpPre_keep); rfl; intro K' hK'; go_simp; refine hK' _ _ ?_; intro f hf; clear hK' K') | ((with_reducible apply wpPre_drop); rfl; intro K' hK'; go_simp; refine hK' _ _ ?_; intro f; clear hK' K') | (with_reducible refine wpPre_nil ?_) | ((with_reducible apply wpOp_list); rfl) | (with_reducible refine heldPair ?_ ?_) | ((with_reducible refine heldH_no ?_ ?_); rfl) | (with_reducible refine heldH_yes ?_ ?_) | (with_reducible exact heldH_nil) | (unfold YAt; go_simp; done) | (go_at_call 14; refine (done_all (HT.out.below (by repeat (first | (with_reducible exact Below.refl _ _) | (with_reducible exact bl_mm) | (with_reducible refine bl_dr ?_) | (with_reducible refine bl_drN ?_ _) | (with_reducible refine bl_al ?_ _) | (with_reducible refine bl_more ?_ _ _)))).pl a.w).mono ?_; rintro e w1 ⟨rfl, F', ad', hp', hs'⟩; have HT1 := hid ((HT.out.below (by repeat (first | (with_reducible exact Below.refl _ _) | (with_reducible exact bl_mm) | (with_reducible refine bl_dr ?_) | (with_reducible refine bl_drN ?_ _) | (with_reducible refine bl_al ?_ _) | (with_reducible refine bl_more ?_ _ _)))).pool hp' hs'); obtain ⟨w2, e2, d2, hz, rfl⟩ := rebase (w := w) (by repeat (first | (with_reducible exact Below.refl _ _) | (with_reducible exact bl_mm) | (with_reducible refine bl_dr ?_) | (with_reducible refine bl_drN ?_ _) | (with_reducible refine bl_al ?_ _) | (with_reducible refine bl_more ?_ _ _))) (hs'.ext.mono (fun b _ hb => HT.out.pl.blt b hb)); rw [← hz]; have HZ := hid hz; clear hp' hs' hz) | (go_at_call 34; refine (rdone_all (HT1.out.below (by repeat (first | (with_reducible exact Below.refl _ _) | (with_reducible exact bl_mm) | (with_reducible refine bl_dr ?_) | (with_reducible refine bl_drN ?_ _) | (with_reducible refine bl_al ?_ _) | (with_reducible refine bl_more ?_ _ _)))).rp a.w).mono ?_; rintro e w3 ⟨rfl, hrt⟩; have HT2 := hid ((HT1.out.below (by repeat (first | (with_reducible exact Below.refl _ _) | (with_reducible exact bl_mm) | (with_reducible refine bl_dr ?_) | (with_reducible refine bl_drN ?_ _) | (with_reducible refine bl_al ?_ _) | (with_reducible refine bl_more ?_ _ _)))).ref hrt); clear hrt) | (rw [← HZ.out]; unfold YAt; go_simp; done))
  all_goals (go_ret; exact ⟨by simp, _, HT2.out.below (by repeat (first | (with_reducible exact Below.refl _ _) | (with_reducible exact bl_mm) | (with_reducible refine bl_dr ?_) | (with_reducible refine bl_drN ?_ _) | (with_reducible refine bl_al ?_ _) | (with_reducible refine bl_more ?_ _ _)))⟩)
set_option maxHeartbeats 2000000 in
set_option maxRecDepth 8000 in
theorem step_drop {w0 w : World} {p r b1 b2 b3 : Nat} {s : List Wk} {ad : Nat → Ad} {v : Value} {a : PAct} (h : Two w0 w p s ad r s b1 b2 b3) (hv : intE.Row (fun b => b < w0.heap.size) w v a.j.stamp) (hok : okJob a.j) (hk : a.kind = 4) :
    Calls Try.prog 17 #[.pointer (some ⟨p, 0, none⟩), .pointer (some ⟨r, 0, none⟩), pactV a v] w (Stepped w0 p r b1 b2 b3 (s.map (fk a.j.item a.j.undo a.j.try_))) := by
  obtain ⟨A, c, rfl, _, _⟩ := hv.form
  have HT := hid h
  have HV := hid hv
  have HOK := hid hok
  have HN := hid h.bw.size
  clear h hv hok
  have k1 : (a.kind == 1) = false := by rw [hk]; rfl
  have k2 : (a.kind == 2) = false := by rw [hk]; rfl
  have k3 : (a.kind == 3) = false := by rw [hk]; rfl
  have k4 : (a.kind == 4) = true := by rw [hk]; rfl
  clear hk
  go_enter Try.func17, Try.ntmps17
  go_wp2_with (first | ((with_reducible refine wp_region_plan (id := 7) (.eff [(false, 0), (false, 1), (false, 2), (false, 3), (false, 4), (true, 6), (true, 7), (true, 8), (true, 9), (true, 10)] 5 [6, 7, 8, 9, 10] (.eff [] 11 [] (.fin [(false, 12), (false, 13)]))) ?_ ?_ ?_ ?_ ?_ ?_); kernel_rfl; kernel_rfl; kernel_rfl; kernel_rfl; (intro c a d v w h; cases d <;> exact h)) | ((with_reducible refine wp_region_plan (id := 9) (.eff [(false, 0), (false, 1), (false, 2), (true, 4), (true, 5), (true, 6)] 3 [4, 5, 6] (.eff [] 7 [] (.fin [(false, 8), (false, 9)]))) ?_ ?_ ?_ ?_ ?_ ?_); kernel_rfl; kernel_rfl; kernel_rfl; kernel_rfl; (intro c a d v w h; cases d <;> exact h)) | ((with_reducible refine wp_region_plan (id := 11) (.eff [(false, 0), (false, 1), (false, 2), (false, 3), (true, 5), (true, 6), (true, 7), (true, 8)] 4 [5, 6, 7, 8] (.eff [] 9 [] (.fin [(false, 10), (false, 11)]))) ?_ ?_ ?_ ?_ ?_ ?_); kernel_rfl; kernel_rfl; kernel_rfl; kernel_rfl; (intro c a d v w h; cases d <;> exact h)) | ((with_reducible refine wp_region_plan (id := 12) (.eff [(false, 0), (false, 1), (false, 2), (false, 3), (false, 4), (true, 6), (true, 7), (true, 8), (true, 9), (true, 10)] 5 [6, 7, 8, 9, 10] (.eff [] 11 [] (.fin [(false, 12), (false, 13)]))) ?_ ?_ ?_ ?_ ?_ ?_); kernel_rfl; kernel_rfl; kernel_rfl; kernel_rfl; (intro c a d v w h; cases d <;> exact h)) | (with_reducible refine wpPlan_eff ?_) | (with_reducible refine wpPlan_fin ?_) | (with_reducible refine wpPlan_two ?_) | (with_reducible refine wpOpPair ?_ ?_) | ((with_reducible apply wpPre_keep); rfl; intro K' hK'; go_simp; refine hK' _ _ ?_; intro f hf; clear hK' K') | ((with_reducible apply wpPre_drop); rfl; intro K' hK'; go_simp; refine hK' _ _ ?_; intro f; clear hK' K') | (with_reducible refine wpPre_nil ?_) | ((with_reducible apply wpOp_list); rfl) | (with_reducible refine heldPair ?_ ?_) | ((with_reducible refine heldH_no ?_ ?_); rfl) | (with_reducible refine heldH_yes ?_ ?_) | (with_reducible exact heldH_nil) | (unfold YAt; go_simp; done) | (go_at_call 22; refine (pdrop_any (a := a.j.item) (b := a.j.undo) (c := a.j.try_) (HT.out.below (by repeat (first | (with_reducible exact Below.refl _ _) | (with_reducible exact bl_mm) | (with_reducible refine bl_dr ?_) | (with_reducible refine bl_drN ?_ _) | (with_reducible refine bl_al ?_ _) | (with_reducible refine bl_more ?_ _ _)))).pl).mono ?_; rintro e w1 ⟨rfl, F', ad', hp', hs'⟩; have HT1 := hid ((HT.out.below (by repeat (first | (with_reducible exact Below.refl _ _) | (with_reducible exact bl_mm) | (with_reducible refine bl_dr ?_) | (with_reducible refine bl_drN ?_ _) | (with_reducible refine bl_al ?_ _) | (with_reducible refine bl_more ?_ _ _)))).pool hp' hs'); obtain ⟨w2, e2, d2, hz, rfl⟩ := rebase (w := w) (by repeat (first | (with_reducible exact Below.refl _ _) | (with_reducible exact bl_mm) | (with_reducible refine bl_dr ?_) | (with_reducible refine bl_drN ?_ _) | (with_reducible refine bl_al ?_ _) | (with_reducible refine bl_more ?_ _ _))) (hs'.ext.mono (fun b _ hb => HT.out.pl.blt b hb)); rw [← hz]; have HZ := hid hz; clear hp' hs' hz) | (go_at_call 35; refine (rdrop_any (a := a.j.item) (b := a.j.undo) (c := a.j.try_) (HT1.out.below (by repeat (first | (with_reducible exact Below.refl _ _) | (with_reducible exact bl_mm) | (with_reducible refine bl_dr ?_) | (with_reducible refine bl_drN ?_ _) | (with_reducible refine bl_al ?_ _) | (with_reducible refine bl_more ?_ _ _)))).rp HT.out.few).mono ?_; rintro e w3 ⟨rfl, hrt⟩; have HT2 := hid ((HT1.out.below (by repeat (first | (with_reducible exact Below.refl _ _) | (with_reducible exact bl_mm) | (with_reducible refine bl_dr ?_) | (with_reducible refine bl_drN ?_ _) | (with_reducible refine bl_al ?_ _) | (with_reducible refine bl_more ?_ _ _)))).ref hrt); clear hrt) | (rw [← HZ.out]; unfold YAt; go_simp; done))
  all_goals (go_ret; exact ⟨by simp, _, HT2.out.below (by repeat (first | (with_reducible exact Below.refl _ _) | (with_reducible exact bl_mm) | (with_reducible refine bl_dr ?_) | (with_reducible refine bl_drN ?_ _) | (with_reducible refine bl_al ?_ _) | (with_reducible refine bl_more ?_ _ _)))⟩)
set_option maxHeartbeats 2000000 in
set_option maxRecDepth 8000 in
theorem step_push {w0 w : World} {p r b1 b2 b3 : Nat} {s : List Wk} {ad : Nat → Ad} {v : Value} {a : PAct} (h : Two w0 w p s ad r s b1 b2 b3) (hv : intE.Row (fun b => b < w0.heap.size) w v a.j.stamp) (hok : okJob a.j) (hk1 : a.kind ≠ 1) (hk2 : a.kind ≠ 2) (hk3 : a.kind ≠ 3) (hk4 : a.kind ≠ 4) :
    Calls Try.prog 17 #[.pointer (some ⟨p, 0, none⟩), .pointer (some ⟨r, 0, none⟩), pactV a v] w (Stepped w0 p r b1 b2 b3 (pushM s a.w a.j).1) := by
  obtain ⟨A, c, rfl, _, _⟩ := hv.form
  have HT := hid h
  have HV := hid hv
  have HOK := hid hok
  have HN := hid h.bw.size
  clear h hv hok
  have k1 : (a.kind == 1) = false := by simpa using hk1
  have k2 : (a.kind == 2) = false := by simpa using hk2
  have k3 : (a.kind == 3) = false := by simpa using hk3
  have k4 : (a.kind == 4) = false := by simpa using hk4
  clear hk1 hk2 hk3 hk4
  go_enter Try.func17, Try.ntmps17
  go_wp2_with (first | ((with_reducible refine wp_region_plan (id := 7) (.eff [(false, 0), (false, 1), (false, 2), (false, 3), (false, 4), (true, 6), (true, 7), (true, 8), (true, 9), (true, 10)] 5 [6, 7, 8, 9, 10] (.eff [] 11 [] (.fin [(false, 12), (false, 13)]))) ?_ ?_ ?_ ?_ ?_ ?_); kernel_rfl; kernel_rfl; kernel_rfl; kernel_rfl; (intro c a d v w h; cases d <;> exact h)) | ((with_reducible refine wp_region_plan (id := 9) (.eff [(false, 0), (false, 1), (false, 2), (true, 4), (true, 5), (true, 6)] 3 [4, 5, 6] (.eff [] 7 [] (.fin [(false, 8), (false, 9)]))) ?_ ?_ ?_ ?_ ?_ ?_); kernel_rfl; kernel_rfl; kernel_rfl; kernel_rfl; (intro c a d v w h; cases d <;> exact h)) | ((with_reducible refine wp_region_plan (id := 11) (.eff [(false, 0), (false, 1), (false, 2), (false, 3), (true, 5), (true, 6), (true, 7), (true, 8)] 4 [5, 6, 7, 8] (.eff [] 9 [] (.fin [(false, 10), (false, 11)]))) ?_ ?_ ?_ ?_ ?_ ?_); kernel_rfl; kernel_rfl; kernel_rfl; kernel_rfl; (intro c a d v w h; cases d <;> exact h)) | ((with_reducible refine wp_region_plan (id := 12) (.eff [(false, 0), (false, 1), (false, 2), (false, 3), (false, 4), (true, 6), (true, 7), (true, 8), (true, 9), (true, 10)] 5 [6, 7, 8, 9, 10] (.eff [] 11 [] (.fin [(false, 12), (false, 13)]))) ?_ ?_ ?_ ?_ ?_ ?_); kernel_rfl; kernel_rfl; kernel_rfl; kernel_rfl; (intro c a d v w h; cases d <;> exact h)) | (with_reducible refine wpPlan_eff ?_) | (with_reducible refine wpPlan_fin ?_) | (with_reducible refine wpPlan_two ?_) | (with_reducible refine wpOpPair ?_ ?_) | ((with_reducible apply wpPre_keep); rfl; intro K' hK'; go_simp; refine hK' _ _ ?_; intro f hf; clear hK' K') | ((with_reducible apply wpPre_drop); rfl; intro K' hK'; go_simp; refine hK' _ _ ?_; intro f; clear hK' K') | (with_reducible refine wpPre_nil ?_) | ((with_reducible apply wpOp_list); rfl) | (with_reducible refine heldPair ?_ ?_) | ((with_reducible refine heldH_no ?_ ?_); rfl) | (with_reducible refine heldH_yes ?_ ?_) | (with_reducible exact heldH_nil) | (unfold YAt; go_simp; done) | (go_at_call 19; refine (push_all (HT.out.below (by repeat (first | (with_reducible exact Below.refl _ _) | (with_reducible exact bl_mm) | (with_reducible refine bl_dr ?_) | (with_reducible refine bl_drN ?_ _) | (with_reducible refine bl_al ?_ _) | (with_reducible refine bl_more ?_ _ _)))).pl a.w (HV.out.below (by repeat (first | (with_reducible exact Below.refl _ _) | (with_reducible exact bl_mm) | (with_reducible refine bl_dr ?_) | (with_reducible refine bl_drN ?_ _) | (with_reducible refine bl_al ?_ _) | (with_reducible refine bl_more ?_ _ _)))) HOK.out).mono ?_; rintro e w1 ⟨rfl, F', ad', hp', hs'⟩; have HT1 := hid ((HT.out.below (by repeat (first | (with_reducible exact Below.refl _ _) | (with_reducible exact bl_mm) | (with_reducible refine bl_dr ?_) | (with_reducible refine bl_drN ?_ _) | (with_reducible refine bl_al ?_ _) | (with_reducible refine bl_more ?_ _ _)))).pool hp' hs'); have hv1 := (HV.out.below (by repeat (first | (with_reducible exact Below.refl _ _) | (with_reducible exact bl_mm) | (with_reducible refine bl_dr ?_) | (with_reducible refine bl_drN ?_ _) | (with_reducible refine bl_al ?_ _) | (with_reducible refine bl_more ?_ _ _)))).ext hs'.ext (fun b hb _ e => by have h1 := HT.out.pl.bge b e; omega); obtain ⟨w2, e2, d2, hz, rfl⟩ := rebase (w := w) (by repeat (first | (with_reducible exact Below.refl _ _) | (with_reducible exact bl_mm) | (with_reducible refine bl_dr ?_) | (with_reducible refine bl_drN ?_ _) | (with_reducible refine bl_al ?_ _) | (with_reducible refine bl_more ?_ _ _))) (hs'.ext.mono (fun b _ hb => HT.out.pl.blt b hb)); have HV1 := hid hv1; rw [← hz]; have HZ := hid hz; clear hp' hs' hz hv1) | (go_at_call 36; refine (rpush_all (HT1.out.below (by repeat (first | (with_reducible exact Below.refl _ _) | (with_reducible exact bl_mm) | (with_reducible refine bl_dr ?_) | (with_reducible refine bl_drN ?_ _) | (with_reducible refine bl_al ?_ _) | (with_reducible refine bl_more ?_ _ _)))).rp a.w ((HT1.out.below (by repeat (first | (with_reducible exact Below.refl _ _) | (with_reducible exact bl_mm) | (with_reducible refine bl_dr ?_) | (with_reducible refine bl_drN ?_ _) | (with_reducible refine bl_al ?_ _) | (with_reducible refine bl_more ?_ _ _)))).arg (HV1.out.below (by repeat (first | (with_reducible exact Below.refl _ _) | (with_reducible exact bl_mm) | (with_reducible refine bl_dr ?_) | (with_reducible refine bl_drN ?_ _) | (with_reducible refine bl_al ?_ _) | (with_reducible refine bl_more ?_ _ _))))) HT.out.few).mono ?_; rintro e w3 ⟨rfl, hrt⟩; have HT2 := hid ((HT1.out.below (by repeat (first | (with_reducible exact Below.refl _ _) | (with_reducible exact bl_mm) | (with_reducible refine bl_dr ?_) | (with_reducible refine bl_drN ?_ _) | (with_reducible refine bl_al ?_ _) | (with_reducible refine bl_more ?_ _ _)))).ref hrt); clear hrt) | (rw [← HZ.out]; unfold YAt; go_simp; done))
  all_goals (go_ret; exact ⟨by simp, _, HT2.out.below (by repeat (first | (with_reducible exact Below.refl _ _) | (with_reducible exact bl_mm) | (with_reducible refine bl_dr ?_) | (with_reducible refine bl_drN ?_ _) | (with_reducible refine bl_al ?_ _) | (with_reducible refine bl_more ?_ _ _)))⟩)
end Go.Proofs.Ytlfdnjomjheioaa
