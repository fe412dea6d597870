/- The program's 'body'. -/
import Derived.Test.YtidilpciolladaaGj
import Derived.Defers
import Derived.Recover
/- The program's 'body'. -/
namespace Go.Proofs.Ytidilpciolladaa
open Go.RowKit

theorem info73 : (Try.prog.info? 73).map (fun i => (i.zero, i.size, i.bytes)) = some (some (.agg #[.string ⟨#[]⟩, .string ⟨#[]⟩, .slice none 0 0, .bool false, .bool false, .slice none 0 0]), 6, 88) := by kernel_rfl
theorem info71 : (Try.prog.info? 71).map (fun i => (i.zero, i.size, i.bytes)) = some (some (.agg #[.slice none 0 0]), 1, 24) := by kernel_rfl
theorem app69 {n : Nat} {K : Nat → Prop} {g : Nat} {w : World} {v x : Value} {xs ys : List Nd} (h : (nodeE n).Spine 73 K g w v xs) (hy : (nodeE n).Src K w x ys) (hKg : ∀ b, K b → b < w.heap.size → b ≠ g) (hlen : xs.length + ys.length ≤ 4294967296) :
    ∃ v' w' g', (Builtin.append_ #[69, 69] 69 #[v, x]).run Try.prog w = .ok v' w' ∧ (nodeE n).Spine 73 (fun b => K b ∧ b < w.heap.size) g' w' v' (xs ++ ys) ∧ Ext (fun b => b = g ∧ capOf v ≠ 0) w w' ∧ Grew g w w' v v' g' := by
  obtain ⟨i0, hi, hz0, hz1, hz2⟩ := info_parts info73
  exact h.append 69 69 69 i0 _ Try.underlying69 ⟨_, Try.underlying69⟩ hi hz0 (by rw [hz1, nodeE_sz]) (by rw [nodeE_sz]; rfl) (by rw [nodeE_sz]; decide) hy hKg hlen (by rw [hz2]; decide)
theorem wpList_app69 {n : Nat} {w : World} {ops : Array Oper} {rest : List Oper} {o : Oper} {a : Act} {Q : Exit → Act → World → Prop} {K : Nat → Prop} {g : Nat} {xs ys : List Nd} {v x : Value}
    (hg : o.guard = none) (s x' : Operand) (hop : o.op = Op.call { callee := Callee.builtin Builtin.append, args := #[s, x'], argTypes := #[69, 69] }) (hty : o.type = 69)
    (hv : a.eval s = v) (hx : a.eval x' = x) (hs : (nodeE n).Spine 73 K g w v xs) (hy : (nodeE n).Src K w x ys) (hKg : ∀ b, K b → b < w.heap.size → b ≠ g) (hlen : xs.length + ys.length ≤ 4294967296)
    (h : ∀ v' w' g', (nodeE n).Spine 73 (fun b => K b ∧ b < w.heap.size) g' w' v' (xs ++ ys) → Ext (fun b => b = g ∧ capOf v ≠ 0) w w' → Grew g w w' v v' g' → wpList Try.prog ops Q rest (a.put o.dst v') w') :
    wpList Try.prog ops Q (o :: rest) a w := by
  subst hv; subst hx
  obtain ⟨v', w', g', hrun, h1, h2, h3⟩ := app69 hs hy hKg hlen
  exact wpList_append_run hg s x' 69 69 hop (by rw [hty]; exact hrun) (h v' w' g' h1 h2 h3)
theorem app23b {n : Nat} {K : Nat → Prop} {g : Nat} {w : World} {v x : Value} {xs ys : List (List Nd)} (h : (bodyE n).Spine 71 K g w v xs) (hy : (bodyE n).Src K w x ys) (hKg : ∀ b, K b → b < w.heap.size → b ≠ g) (hlen : xs.length + ys.length ≤ 4294967296) :
    ∃ v' w' g', (Builtin.append_ #[23, 23] 23 #[v, x]).run Try.prog w = .ok v' w' ∧ (bodyE n).Spine 71 (fun b => K b ∧ b < w.heap.size) g' w' v' (xs ++ ys) ∧ Ext (fun b => b = g ∧ capOf v ≠ 0) w w' ∧ Grew g w w' v v' g' := by
  obtain ⟨i0, hi, hz0, hz1, hz2⟩ := info_parts info71
  exact h.append 23 23 23 i0 _ Try.underlying23 ⟨_, Try.underlying23⟩ hi hz0 hz1 rfl (by show 0 < 1; decide) hy hKg hlen (by rw [hz2]; decide)
theorem wpList_app23b {n : Nat} {w : World} {ops : Array Oper} {rest : List Oper} {o : Oper} {a : Act} {Q : Exit → Act → World → Prop} {K : Nat → Prop} {g : Nat} {xs ys : List (List Nd)} {v x : Value}
    (hg : o.guard = none) (s x' : Operand) (hop : o.op = Op.call { callee := Callee.builtin Builtin.append, args := #[s, x'], argTypes := #[23, 23] }) (hty : o.type = 23)
    (hv : a.eval s = v) (hx : a.eval x' = x) (hs : (bodyE n).Spine 71 K g w v xs) (hy : (bodyE n).Src K w x ys) (hKg : ∀ b, K b → b < w.heap.size → b ≠ g) (hlen : xs.length + ys.length ≤ 4294967296)
    (h : ∀ v' w' g', (bodyE n).Spine 71 (fun b => K b ∧ b < w.heap.size) g' w' v' (xs ++ ys) → Ext (fun b => b = g ∧ capOf v ≠ 0) w w' → Grew g w w' v v' g' → wpList Try.prog ops Q rest (a.put o.dst v') w') :
    wpList Try.prog ops Q (o :: rest) a w := by
  subst hv; subst hx
  obtain ⟨v', w', g', hrun, h1, h2, h3⟩ := app23b hs hy hKg hlen
  exact wpList_append_run hg s x' 23 23 hop (by rw [hty]; exact hrun) (h v' w' g' h1 h2 h3)
theorem pHead2_pos {sb vt : Bool} {wd : ByteArray} {t t' : List Tok} {h : Bool × Bool × ByteArray} (hp : pHead2 sb vt wd t = .ok h t') : 2 ≤ t.length := by
  unfold pHead2 at hp
  split at hp
  · rename_i h1
    split at hp
    · rename_i h2
      have := tail_len h1
      have := tail_lenN h2
      omega
    · cases hp
  · cases hp
theorem pHead_pos {t t' : List Tok} {h : Bool × Bool × ByteArray} (hp : pHead t = .ok h t') : 2 ≤ t.length := by
  have := tl_le t
  unfold pHead at hp
  split at hp
  · have := pHead2_pos hp; omega
  · split at hp
    · have := pHead2_pos hp; omega
    · exact pHead2_pos hp
theorem pNode_lt {f : Nat} {t t' : List Tok} {nd : Nd} (hp : pNode f t = .ok nd t') : t'.length < t.length := by
  have hle := (p_le f).1 t
  rw [hp] at hle
  have hle : t'.length ≤ t.length - 2 := hle
  cases f with
  | zero => rw [pNode] at hp; cases hp
  | succ f =>
    rw [pNode] at hp
    unfold nodeOf at hp
    cases hh : pHead t with
    | bad t1 => rw [hh] at hp; cases hp
    | ok h t1 => have := pHead_pos hh; omega
def BdyP (f : Nat) : Prop := ∀ (w : World) (r : Nat) (l t : List Tok), RD w r l t → 3 * t.length + 2 ≤ f → Calls Try.prog 86 #[.pointer (some ⟨r, 0, none⟩)] w (RP w r l (fun x v w' => ∃ vs, v = .agg #[vs] ∧ (nodeE f).Row (fun b => w.heap.size ≤ b) w' vs x) (pBody f t))
theorem NodP.at {f : Nat} (h : NodP f) {w : World} {r : Nat} {l t : List Tok} (hr : RD w r l t) (hl : 3 * t.length + 1 ≤ f) : Calls Try.prog 97 #[.pointer (some ⟨r, 0, none⟩)] w (RP w r l (fun nd v w' => NdV f (fun b => w.heap.size ≤ b) w' v nd) (pNode f t)) := h w r l t hr hl
/-- A body's state while it is read. -/
structure BS (w0 : World) (r : Nat) (l : List Tok) (b2 b3 N : Nat) (W : World) (t : List Tok) (v : Value) : Prop where
  ext : Ext (fun b => b = r) w0 W
  rd : RD W r l t
  box : W.heap[b3]? = some (.cells #[v] 71 (0, 0))
  res : W.heap[b2]? = some (.cells #[.slice none 0 0] 71 (0, 0))
  n2 : w0.heap.size ≤ b2
  n3 : b2 < b3
  nN : b3 < N
  size : N ≤ W.heap.size
  nr : r < w0.heap.size
theorem BS.keep {w0 : World} {r : Nat} {l : List Tok} {b2 b3 N : Nat} {W W' : World} {t t' : List Tok} {v : Value} {S : Nat → Prop} (h : BS w0 r l b2 b3 N W t v) (hx : Ext S W W') (hS : ∀ b, S b → b = r ∨ N ≤ b) (hr : RD W' r l t') : BS w0 r l b2 b3 N W' t' v := by
  have h1 := h.n2
  have h2 := h.n3
  have h3 := h.nN
  have h4 := h.nr
  have h5 := h.size
  have h6 := h.ext.size
  exact ⟨h.ext.trans hx (fun x hx hs => by rcases hS x hs with h | h <;> omega), hr, (hx.block b3 (by omega) (fun hs => by rcases hS b3 hs with h | h <;> omega)).trans h.box, (hx.block b2 (by omega) (fun hs => by rcases hS b2 hs with h | h <;> omega)).trans h.res, h1, h2, h3, Nat.le_trans h5 hx.size, h4⟩
theorem BS.set {w0 : World} {r : Nat} {l : List Tok} {b2 b3 N : Nat} {W : World} {t : List Tok} {v : Value} (h : BS w0 r l b2 b3 N W t v) (v' : Value) : BS w0 r l b2 b3 N (W.setCell ⟨b3, 0, none⟩ v') t v' := by
  have h1 := h.n2
  have h2 := h.n3
  have h3 := h.nN
  have h4 := h.nr
  have h5 := h.size
  have hs : Ext (fun b => b = b3) W (W.setCell ⟨b3, 0, none⟩ v') := Ext.setCell (S := fun b => b = b3) W ⟨b3, 0, none⟩ v' rfl
  refine ⟨h.ext.trans hs (fun x hx e => by omega), h.rd.ext hs (fun b hb e => by omega), ?_, (hs.block b2 (by omega) (by omega)).trans h.res, h1, h2, h3, Nat.le_trans h5 hs.size, h4⟩
  simp [World.setCell, Array.getElem?_modify, h.box]
theorem BS.facts {w0 : World} {r : Nat} {l : List Tok} {b2 b3 N : Nat} {W : World} {t : List Tok} {v : Value} (h : BS w0 r l b2 b3 N W t v) :
    b3 < W.heap.size ∧ W.cell? ⟨b3, 0, none⟩ = some v ∧ ∀ k, W.frozen? ⟨b3, k, none⟩ = false := by
  have h3 := h.nN
  have h5 := h.size
  exact ⟨by omega, cell_blk h.box 0, frz_blk h.box⟩
theorem BS.facts2 {w0 : World} {r : Nat} {l : List Tok} {b2 b3 N : Nat} {W : World} {t : List Tok} {v : Value} (h : BS w0 r l b2 b3 N W t v) :
    b2 < W.heap.size ∧ W.cell? ⟨b2, 0, none⟩ = some (.slice none 0 0) ∧ (∀ k, W.frozen? ⟨b2, k, none⟩ = false) ∧ b2 ≠ b3 := by
  have h2 := h.n3
  have h3 := h.nN
  have h5 := h.size
  exact ⟨by omega, cell_blk h.res 0, frz_blk h.res, by omega⟩
theorem BS.start {w : World} {r : Nat} {l t : List Tok} (h : RD w r l t) : BS w r l w.heap.size (w.heap.size + 1) (w.heap.size + 2) ((w.alloc (.cells #[.slice none 0 0] 71)).alloc (.cells #[.slice none 0 0] 71)) t (.slice none 0 0) := by
  have hb : Below w.heap.size w ((w.alloc (.cells #[.slice none 0 0] 71)).alloc (.cells #[.slice none 0 0] 71)) := (by repeat (first | (with_reducible exact Below.refl _ _) | (with_reducible exact bl_mm) | (with_reducible refine bl_dr ?_) | (with_reducible refine bl_drN ?_ _) | (with_reducible refine bl_al ?_ _) | (with_reducible refine bl_more ?_ _ _)))
  refine ⟨Ext.of_below hb, h.below hb, alloc_blk (by simp), ?_, Nat.le_refl _, Nat.lt_succ_self _, Nat.lt_succ_self _, by simp, h.lt⟩
  exact ((Below.refl _ _).alloc (Nat.le_refl _) _).block _ (by simp) |>.trans (alloc_blk rfl)
theorem rd_below {α : Type} {d : Enc α} {K : Nat → Prop} {w w' : World} {x : α} {cs : List Value} (h : d.rd K w x cs) (hb : Below w.heap.size w w') : d.rd K w' x cs := d.step (fun b _ hl => hb.block b hl) h
theorem rd_ext {α : Type} {d : Enc α} {K : Nat → Prop} {S : Nat → Prop} {w w' : World} {x : α} {cs : List Value} (h : d.rd K w x cs) (hb : Ext S w w') (hS : ∀ b, K b → b < w.heap.size → ¬ S b) : d.rd K w' x cs := d.step (fun b hk hl => hb.block b hl (hS b hk hl)) h
theorem nd_elem {f F N g : Nat} {w : World} {K : Nat → Prop} {nd : Nd} {A1 A2 : Option Addr} {c1 c2 : Nat} (h1 : Enc.str.Row K w (.slice A1 nd.after.length c1) nd.after) (h2 : (bodyE f).Row K w (.slice A2 nd.alts.length c2) nd.alts) (hf : f + 1 ≤ F) (hK : ∀ b, K b → N ≤ b ∧ b ≠ g) :
    (nodeE F).rd (fun b => N ≤ b ∧ b ≠ g) w nd (ndCells nd (.slice A1 nd.after.length c1) (.slice A2 nd.alts.length c2)) :=
  nodeE_up (f + 1) hf (nodeE_mk (h1.mono (fun b hb _ => hK b hb)) (h2.mono (fun b hb _ => hK b hb)))
set_option maxRecDepth 8000 in
set_option maxHeartbeats 8000000 in
theorem rbody_of {F : Nat} (hN : ∀ f, f ≤ F → NodP f) : BdyP (F + 1) := by
  intro w r l t h hl
  have HNP := hid hN
  have HL := hid hl
  have hst := BS.start h
  have HLEN := hid h.len
  have hacc : Acc (nodeE F) 73 (w.heap.size + 2) ((w.alloc (.cells #[.slice none 0 0] 71)).alloc (.cells #[.slice none 0 0] 71)) (w.heap.size + 1) (.slice none 0 0) [] := ⟨Enc.Spine.nil _ _ _ _ _, fun h => absurd rfl h, by simp⟩
  have HBO : Hid (pBody (F + 1) t = if isT t cL then pNodes F t.tail else .bad t) := hid (by rw [pBody])
  obtain ⟨N0, hN0⟩ : ∃ n, w.heap.size = n := ⟨_, rfl⟩
  rw [hN0] at hst hacc ⊢
  clear h hl hN
  go_enter Try.func86, Try.ntmps86
  go_upto_region 2 with (first | ((with_reducible refine wp_region_plan (id := 4) (.eff [(true, 0), (true, 1), (false, 2)] 3 [0, 1] (.eff [] 4 [0, 1] (.eff [] 5 [] (.eff [(false, 6)] 7 [] (.fin []))))) ?_ ?_ ?_ ?_ ?_ ?_); kernel_rfl; kernel_rfl; kernel_rfl; kernel_rfl; (intro c a d v w h; cases d <;> exact h)) | (with_reducible refine wpPlan_eff ?_) | (with_reducible refine wpPlan_fin ?_) | (with_reducible refine wpPlan_two ?_) | (with_reducible refine wpOpPair ?_ ?_) | ((with_reducible apply wpPre_keep); rfl; intro K' hK'; go_simp; refine hK' _ _ ?_; intro f hf; clear hK' K') | ((with_reducible apply wpPre_drop); rfl; intro K' hK'; go_simp; refine hK' _ _ ?_; intro f; clear hK' K') | (with_reducible refine wpPre_nil ?_) | ((with_reducible apply wpOp_list); rfl) | (with_reducible refine heldPair ?_ ?_) | ((with_reducible refine heldH_no ?_ ?_); rfl) | (with_reducible refine heldH_yes ?_ ?_) | (with_reducible exact heldH_nil) | (unfold YAt; go_simp; done))
  obtain ⟨W9, hW9⟩ : ∃ W, (w.alloc (.cells #[.slice none 0 0] 71)).alloc (.cells #[.slice none 0 0] 71) = W := ⟨_, rfl⟩
  rw [hW9] at hst hacc ⊢
  obtain ⟨b3, hb3⟩ : ∃ b, N0 + 1 = b := ⟨_, rfl⟩
  rw [hb3] at hst hacc ⊢
  have HS := hid hst
  have HA := hid hacc
  have HN0 := hid hN0
  clear hst hacc hW9 hb3 hN0
  cases hm : isT t cL with
  | false =>
    have HY := hid hm
    clear hm
    go_wp2_with (first | ((with_reducible refine wp_region_plan (id := 4) (.eff [(true, 0), (true, 1), (false, 2)] 3 [0, 1] (.eff [] 4 [0, 1] (.eff [] 5 [] (.eff [(false, 6)] 7 [] (.fin []))))) ?_ ?_ ?_ ?_ ?_ ?_); kernel_rfl; kernel_rfl; kernel_rfl; kernel_rfl; (intro c a d v w h; cases d <;> exact h)) | (with_reducible refine wpPlan_eff ?_) | (with_reducible refine wpPlan_fin ?_) | (with_reducible refine wpPlan_two ?_) | (with_reducible refine wpOpPair ?_ ?_) | ((with_reducible apply wpPre_keep); rfl; intro K' hK'; go_simp; refine hK' _ _ ?_; intro f hf; clear hK' K') | ((with_reducible apply wpPre_drop); rfl; intro K' hK'; go_simp; refine hK' _ _ ?_; intro f; clear hK' K') | (with_reducible refine wpPre_nil ?_) | ((with_reducible apply wpOp_list); rfl) | (with_reducible refine heldPair ?_ ?_) | ((with_reducible refine heldH_no ?_ ?_); rfl) | (with_reducible refine heldH_yes ?_ ?_) | (with_reducible exact heldH_nil) | (unfold YAt; go_simp; done) | (go_at_call 85; refine (rmark_no HS.out.rd HY.out).mono ?_; rintro e w2 ⟨rfl, hb⟩; have HX := hid (Ext.of_below (S := fun b => b = r) hb); have HS := hid (HS.out.keep (Ext.of_below (S := fun _ => False) hb) (fun _ h => h.elim) (HS.out.rd.below hb)); clear hb) | (go_at_call 67; refine must_no.mono ?_; rintro e w3 ⟨⟨te, ve, rfl⟩, hw3⟩; subst hw3))
    refine ⟨rfl, RP.bad' ?_ HS.out.ext HS.out.rd ⟨_, _, rfl⟩⟩
    rw [HBO.out, if_neg (by rw [HY.out]; decide)]
  | true =>
    have HY := hid hm
    have HM1 := hid hm
    clear hm
    go_upto_region 3 with (first | ((with_reducible refine wp_region_plan (id := 4) (.eff [(true, 0), (true, 1), (false, 2)] 3 [0, 1] (.eff [] 4 [0, 1] (.eff [] 5 [] (.eff [(false, 6)] 7 [] (.fin []))))) ?_ ?_ ?_ ?_ ?_ ?_); kernel_rfl; kernel_rfl; kernel_rfl; kernel_rfl; (intro c a d v w h; cases d <;> exact h)) | (with_reducible refine wpPlan_eff ?_) | (with_reducible refine wpPlan_fin ?_) | (with_reducible refine wpPlan_two ?_) | (with_reducible refine wpOpPair ?_ ?_) | ((with_reducible apply wpPre_keep); rfl; intro K' hK'; go_simp; refine hK' _ _ ?_; intro f hf; clear hK' K') | ((with_reducible apply wpPre_drop); rfl; intro K' hK'; go_simp; refine hK' _ _ ?_; intro f; clear hK' K') | (with_reducible refine wpPre_nil ?_) | ((with_reducible apply wpOp_list); rfl) | (with_reducible refine heldPair ?_ ?_) | ((with_reducible refine heldH_no ?_ ?_); rfl) | (with_reducible refine heldH_yes ?_ ?_) | (with_reducible exact heldH_nil) | (unfold YAt; go_simp; done) | (go_at_call 85; refine (rmark_yes HS.out.rd (by decide) HY.out).mono ?_; rintro e w2 ⟨rfl, hx, hr⟩; have HX := hid hx; have HS := hid (HS.out.keep hx (fun b h => .inl h) hr); clear hx hr) | (go_at_call 67; refine must_yes.mono ?_; rintro e w3 ⟨rfl, hw3⟩; subst hw3))
    have hlt := tail_len HM1.out
    have HA := hid (HA.out.ext HX.out (fun b h => by have := HS.out.nr; have := HN0.out; omega))
    go_loopg [] t.length (fun k wr => ∃ (f' : Nat) (t1 : List Tok) (acc : List Nd) (g : Nat) (B : Option Addr) (cb : Nat), t1.length + 1 = k ∧ f' ≤ F ∧ 3 * t1.length + 2 ≤ f' ∧ acc.length + t1.length ≤ 100000 ∧ BS w r l N0 b3 (N0 + 2) wr t1 (.slice B acc.length cb) ∧ Acc (nodeE F) 73 (N0 + 2) wr g (.slice B acc.length cb) acc ∧ pNodes F t.tail = (pNodes f' t1).map (acc ++ ·))
    case atStart =>
      exact ⟨F, t.tail, [], b3, none, 0, by omega, Nat.le_refl _, by have := HL.out; omega, by have := HLEN.out; simp only [List.length_nil]; omega, HS.out, HA.out, by cases pNodes F t.tail <;> rfl⟩
    case round =>
      obtain ⟨f', t1, acc, g, B, cb, hk, hf, hl1, hal, hs, ha, hp⟩ := hrel
      clear HX
      have HK := hid hk
      have HF := hid hf
      have HL1 := hid hl1
      have HAL := hid hal
      have HS := hid hs
      have HA := hid ha
      have HP := hid hp
      obtain ⟨xl, x0, fz⟩ := hs.facts
      clear hk hf hl1 hal hs ha hp hlt
      cases hm : isT t1 cR with
      | true =>
        have HY := hid hm
        clear hm
        have HM2 := HY
        go_upto_region 5 with (first | ((with_reducible refine wp_region_plan (id := 4) (.eff [(true, 0), (true, 1), (false, 2)] 3 [0, 1] (.eff [] 4 [0, 1] (.eff [] 5 [] (.eff [(false, 6)] 7 [] (.fin []))))) ?_ ?_ ?_ ?_ ?_ ?_); kernel_rfl; kernel_rfl; kernel_rfl; kernel_rfl; (intro c a d v w h; cases d <;> exact h)) | (with_reducible refine wpPlan_eff ?_) | (with_reducible refine wpPlan_fin ?_) | (with_reducible refine wpPlan_two ?_) | (with_reducible refine wpOpPair ?_ ?_) | ((with_reducible apply wpPre_keep); rfl; intro K' hK'; go_simp; refine hK' _ _ ?_; intro f hf; clear hK' K') | ((with_reducible apply wpPre_drop); rfl; intro K' hK'; go_simp; refine hK' _ _ ?_; intro f; clear hK' K') | (with_reducible refine wpPre_nil ?_) | ((with_reducible apply wpOp_list); rfl) | (with_reducible refine heldPair ?_ ?_) | ((with_reducible refine heldH_no ?_ ?_); rfl) | (with_reducible refine heldH_yes ?_ ?_) | (with_reducible exact heldH_nil) | (unfold YAt; go_simp; done) | (go_at_call 85; refine (rmark_yes HS.out.rd (by decide) HY.out).mono ?_; rintro e w2 ⟨rfl, hx, hr⟩; have HX := hid hx; have HS := hid (HS.out.keep hx (fun b h => .inl h) hr); clear hx hr))
        have HA := hid (HA.out.ext HX.out (fun b h => by have := HS.out.nr; have := HN0.out; omega))
        clear xl x0 fz
        obtain ⟨xl, x0, fz⟩ := HS.out.facts
        obtain ⟨yl, y0, fy, hne⟩ := HS.out.facts2
        have HPX : Hid (pNodes f' t1 = .ok [] t1.tail) := hid (by
          obtain ⟨q, rfl⟩ : ∃ q, f' = q + 1 := ⟨f' - 1, by have := HL1.out; omega⟩
          rw [pNodes, if_pos HM2.out])
        go_wp2_with (first | ((with_reducible refine wp_region_plan (id := 4) (.eff [(true, 0), (true, 1), (false, 2)] 3 [0, 1] (.eff [] 4 [0, 1] (.eff [] 5 [] (.eff [(false, 6)] 7 [] (.fin []))))) ?_ ?_ ?_ ?_ ?_ ?_); kernel_rfl; kernel_rfl; kernel_rfl; kernel_rfl; (intro c a d v w h; cases d <;> exact h)) | (with_reducible refine wpPlan_eff ?_) | (with_reducible refine wpPlan_fin ?_) | (with_reducible refine wpPlan_two ?_) | (with_reducible refine wpOpPair ?_ ?_) | ((with_reducible apply wpPre_keep); rfl; intro K' hK'; go_simp; refine hK' _ _ ?_; intro f hf; clear hK' K') | ((with_reducible apply wpPre_drop); rfl; intro K' hK'; go_simp; refine hK' _ _ ?_; intro f; clear hK' K') | (with_reducible refine wpPre_nil ?_) | ((with_reducible apply wpOp_list); rfl) | (with_reducible refine heldPair ?_ ?_) | ((with_reducible refine heldH_no ?_ ?_); rfl) | (with_reducible refine heldH_yes ?_ ?_) | (with_reducible exact heldH_nil) | (unfold YAt; go_simp; done))
        refine bodyPost_ret (v := .agg #[.slice B acc.length cb]) (by simp [results, Try.results86]; go_simp) rfl ?_
        have h6 : Ext (fun b => b = N0) w2 (w2.setCell ⟨N0, 0, none⟩ (.slice B acc.length cb)) := Ext.setCell (S := fun b => b = N0) w2 ⟨N0, 0, none⟩ _ rfl
        refine RP.ok' (a := acc) (t := t1.tail) ?_ (HS.out.ext.trans h6 (fun x hx e => by have := HN0.out; omega)) (HS.out.rd.ext h6 (fun b hb e => by have := HS.out.nr; have := HN0.out; omega)) ⟨_, rfl, ?_⟩
        · rw [HBO.out, if_pos HM1.out, HP.out, HPX.out]
          show Res.ok _ _ = _
          simp
        · exact body_up (Nat.le_succ F) (((HA.out.ext h6 (fun b h => by omega)).row).mono (fun b hb _ => by omega))
      | false =>
        have HY := hid hm
        have HM2 := hid hm
        clear hm
        go_upto_region 4 with (first | ((with_reducible refine wp_region_plan (id := 4) (.eff [(true, 0), (true, 1), (false, 2)] 3 [0, 1] (.eff [] 4 [0, 1] (.eff [] 5 [] (.eff [(false, 6)] 7 [] (.fin []))))) ?_ ?_ ?_ ?_ ?_ ?_); kernel_rfl; kernel_rfl; kernel_rfl; kernel_rfl; (intro c a d v w h; cases d <;> exact h)) | (with_reducible refine wpPlan_eff ?_) | (with_reducible refine wpPlan_fin ?_) | (with_reducible refine wpPlan_two ?_) | (with_reducible refine wpOpPair ?_ ?_) | ((with_reducible apply wpPre_keep); rfl; intro K' hK'; go_simp; refine hK' _ _ ?_; intro f hf; clear hK' K') | ((with_reducible apply wpPre_drop); rfl; intro K' hK'; go_simp; refine hK' _ _ ?_; intro f; clear hK' K') | (with_reducible refine wpPre_nil ?_) | ((with_reducible apply wpOp_list); rfl) | (with_reducible refine heldPair ?_ ?_) | ((with_reducible refine heldH_no ?_ ?_); rfl) | (with_reducible refine heldH_yes ?_ ?_) | (with_reducible exact heldH_nil) | (unfold YAt; go_simp; done) | (go_at_call 85; refine (rmark_no HS.out.rd HY.out).mono ?_; rintro e w2 ⟨rfl, hb⟩; have HX := hid (Ext.of_below (S := fun b => b = r) hb); have HS := hid (HS.out.keep (Ext.of_below (S := fun _ => False) hb) (fun _ h => h.elim) (HS.out.rd.below hb)); clear hb))
        clear xl x0 fz
        obtain ⟨xl, x0, fz⟩ := HS.out.facts
        obtain ⟨q, hq⟩ : ∃ q, f' = q + 1 := ⟨f' - 1, by have := HL1.out; omega⟩
        subst hq
        have HF2 : Hid (q ≤ F) := hid (by have := HF.out; omega)
        have HF3 := HF
        have HLN : Hid (3 * t1.length + 1 ≤ q) := hid (by have := HL1.out; omega)
        have HA := hid (HA.out.ext HX.out (fun b h => by have := HS.out.nr; have := HN0.out; omega))
        have HPX : Hid (pNodes (q + 1) t1 = (pNode q t1).bind (fun n t => (pNodes q t).bind (fun m t => .ok (n :: m) t))) := hid (by rw [pNodes, if_neg (by rw [HM2.out]; decide)])
        cases hp : pNode q t1 with
        | bad t2 =>
          have HPN := hid hp
          clear hp
          go_wp2_with (first | ((with_reducible refine wp_region_plan (id := 4) (.eff [(true, 0), (true, 1), (false, 2)] 3 [0, 1] (.eff [] 4 [0, 1] (.eff [] 5 [] (.eff [(false, 6)] 7 [] (.fin []))))) ?_ ?_ ?_ ?_ ?_ ?_); kernel_rfl; kernel_rfl; kernel_rfl; kernel_rfl; (intro c a d v w h; cases d <;> exact h)) | (with_reducible refine wpPlan_eff ?_) | (with_reducible refine wpPlan_fin ?_) | (with_reducible refine wpPlan_two ?_) | (with_reducible refine wpOpPair ?_ ?_) | ((with_reducible apply wpPre_keep); rfl; intro K' hK'; go_simp; refine hK' _ _ ?_; intro f hf; clear hK' K') | ((with_reducible apply wpPre_drop); rfl; intro K' hK'; go_simp; refine hK' _ _ ?_; intro f; clear hK' K') | (with_reducible refine wpPre_nil ?_) | ((with_reducible apply wpOp_list); rfl) | (with_reducible refine heldPair ?_ ?_) | ((with_reducible refine heldH_no ?_ ?_); rfl) | (with_reducible refine heldH_yes ?_ ?_) | (with_reducible exact heldH_nil) | (unfold YAt; go_simp; done) | (go_at_call 97; refine (NodP.at (HNP.out _ HF2.out) (HS.out.rd.below (by repeat (first | (with_reducible exact Below.refl _ _) | (with_reducible exact bl_mm) | (with_reducible refine bl_dr ?_) | (with_reducible refine bl_drN ?_ _) | (with_reducible refine bl_al ?_ _) | (with_reducible refine bl_more ?_ _ _)))) HLN.out).mono ?_; rintro e w4 hq; obtain ⟨hx, hr, ⟨te, ve, rfl⟩⟩ := hq.outB HPN.out; have hx := (Ext.of_below (S := fun b => b = r) (bl_dr (Below.refl _ w2))).trans hx (fun _ _ h => h); have HS := hid (HS.out.keep hx (fun b h => .inl h) hr); clear hx hr hq))
          refine ⟨rfl, RP.bad' ?_ HS.out.ext HS.out.rd ⟨_, _, rfl⟩⟩
          rw [HBO.out, if_pos HM1.out, HP.out, HPX.out, HPN.out]
          rfl
        | ok nd t2 =>
          have HPN := hid hp
          have hlt2 := pNode_lt hp
          have HLT2 := hid hlt2
          have HLEN2 : Hid (acc.length + [nd].length ≤ 4294967296) := hid (by have := HAL.out; simp only [List.length_cons, List.length_nil]; omega)
          clear hp hlt2
          go_wp2_with (first | ((with_reducible refine wp_region_plan (id := 4) (.eff [(true, 0), (true, 1), (false, 2)] 3 [0, 1] (.eff [] 4 [0, 1] (.eff [] 5 [] (.eff [(false, 6)] 7 [] (.fin []))))) ?_ ?_ ?_ ?_ ?_ ?_); kernel_rfl; kernel_rfl; kernel_rfl; kernel_rfl; (intro c a d v w h; cases d <;> exact h)) | (with_reducible refine wpPlan_eff ?_) | (with_reducible refine wpPlan_fin ?_) | (with_reducible refine wpPlan_two ?_) | (with_reducible refine wpOpPair ?_ ?_) | ((with_reducible apply wpPre_keep); rfl; intro K' hK'; go_simp; refine hK' _ _ ?_; intro f hf; clear hK' K') | ((with_reducible apply wpPre_drop); rfl; intro K' hK'; go_simp; refine hK' _ _ ?_; intro f; clear hK' K') | (with_reducible refine wpPre_nil ?_) | ((with_reducible apply wpOp_list); rfl) | (with_reducible refine heldPair ?_ ?_) | ((with_reducible refine heldH_no ?_ ?_); rfl) | (with_reducible refine heldH_yes ?_ ?_) | (with_reducible exact heldH_nil) | (unfold YAt; go_simp; done) | (go_at_call 97; refine (NodP.at (HNP.out _ HF2.out) (HS.out.rd.below (by repeat (first | (with_reducible exact Below.refl _ _) | (with_reducible exact bl_mm) | (with_reducible refine bl_dr ?_) | (with_reducible refine bl_drN ?_ _) | (with_reducible refine bl_al ?_ _) | (with_reducible refine bl_more ?_ _ _)))) HLN.out).mono ?_; rintro e w4 hq; obtain ⟨hx, hr, vA, rfl, ⟨A1, c1, A2, c2, rfl, hv1, hv2⟩⟩ := hq.outO HPN.out; have hx := (Ext.of_below (S := fun b => b = r) (bl_dr (Below.refl _ w2))).trans hx (fun _ _ h => h); have HRD := hid (nd_elem (F := F) (N := N0 + 2) (g := g) hv1 hv2 HF3.out (fun b hb => by have h1 := HA.out.lt; have h2 := HS.out.size; have hb : w2.heap.size ≤ b := hb; omega)); have HS := hid (HS.out.keep hx (fun b h => .inl h) hr); have HA := hid (HA.out.ext hx (fun b h => by have := HS.out.nr; have := HN0.out; omega)); clear xl x0 fz; obtain ⟨xl, x0, fz⟩ := HS.out.facts; clear hx hr hv1 hv2 hq) | (at_builtin; refine wpList_app69 (n := F) (ys := [nd]) (by rfl) (.tmp 11) (.tmp 14) (by rfl) (by rfl) (by rfl) (by rfl) (HA.out.below (by repeat (first | (with_reducible exact Below.refl _ _) | (with_reducible exact bl_mm) | (with_reducible refine bl_dr ?_) | (with_reducible refine bl_drN ?_ _) | (with_reducible refine bl_al ?_ _) | (with_reducible refine bl_more ?_ _ _)))).sp (by exact Enc.Src.one_blk (cs := ndCells nd _ _) (alloc_blk (by simp [more_size])) (rd_below HRD.out (by repeat (first | (with_reducible exact Below.refl _ _) | (with_reducible exact bl_mm) | (with_reducible refine bl_dr ?_) | (with_reducible refine bl_drN ?_ _) | (with_reducible refine bl_al ?_ _) | (with_reducible refine bl_more ?_ _ _))))) (fun b h _ => h.2) HLEN2.out ?_; intro v2 w5 g2 hs2 he2 hg2; obtain ⟨acc2, hx1⟩ : ∃ y, acc ++ [nd] = y := ⟨_, rfl⟩; rw [hx1] at hs2; have HE2 := hid hx1; clear hx1; obtain ⟨B2, cq, e2, _, _⟩ := hs2.form; subst e2; have hx5 : Ext (fun b => N0 + 2 ≤ b) w4 w5 := (Ext.of_below (bl_al (Below.refl _ w4) _)).trans ((HA.out.below (bl_al (Below.refl _ w4) _)).grew he2) (fun _ _ h => h); have HA := hid ((HA.out.below (bl_al (Below.refl _ w4) _)).grown (by have := HS.out.size; rw [World.size_alloc]; omega) hs2 he2 hg2); have HS := hid (HS.out.keep hx5 (fun b h => .inr h) (HS.out.rd.ext hx5 (fun b hb h => by have := HS.out.nr; have := HN0.out; omega))); clear xl x0 fz; obtain ⟨xl, x0, fz⟩ := HS.out.facts; clear hs2 he2 hg2 hx5))
          go_roundg (t2.length + 1)
          case measure => have := HK.out; have := HLT2.out; omega
          case rel =>
            have hs5 := HS.out.set (.slice B2 acc2.length cq)
            refine ⟨q, t2, acc2, g2, B2, cq, rfl, HF2.out, ?_, ?_, hs5, HA.out.ext (Ext.setCell (S := fun b => b = b3) w5 ⟨b3, 0, none⟩ (.slice B2 acc2.length cq) rfl) (fun b h => by have := HS.out.nN; omega), ?_⟩
            · have := HLT2.out; have := HL1.out; omega
            · rw [← HE2.out, List.length_append, List.length_singleton]; have := HAL.out; have := HLT2.out; omega
            · rw [HP.out, HPX.out, HPN.out, ← HE2.out]
              show Res.map _ ((pNodes q t2).bind _) = _
              cases pNodes q t2 with
              | ok m t => show Res.ok _ _ = Res.ok _ _; simp
              | bad t => rfl
end Go.Proofs.Ytidilpciolladaa

/- The program's 'bodies', and all of node, body, bodies. -/
namespace Go.Proofs.Ytidilpciolladaa
open Go.RowKit

theorem BdyP.at {f : Nat} (h : BdyP f) {w : World} {r : Nat} {l t : List Tok} (hr : RD w r l t) (hl : 3 * t.length + 2 ≤ f) : Calls Try.prog 86 #[.pointer (some ⟨r, 0, none⟩)] w (RP w r l (fun x v w' => ∃ vs, v = .agg #[vs] ∧ (nodeE f).Row (fun b => w.heap.size ≤ b) w' vs x) (pBody f t)) := h w r l t hr hl
theorem bd_elem {f F N g : Nat} {w : World} {K : Nat → Prop} {x : List Nd} {v : Value} (h : (nodeE f).Row K w v x) (hf : f ≤ F) (hK : ∀ b, K b → N ≤ b ∧ b ≠ g) : (bodyE F).rd (fun b => N ≤ b ∧ b ≠ g) w x [v] := ⟨v, rfl, body_up hf (h.mono (fun b hb _ => hK b hb))⟩
theorem pBody_le {f : Nat} {t t' : List Tok} {x : List Nd} (h : pBody f t = .ok x t') : t'.length ≤ t.length := by
  have := (p_le f).2.2.1 t
  rw [h] at this
  exact this
set_option maxRecDepth 8000 in
set_option maxHeartbeats 8000000 in
theorem rbodies_of {F : Nat} (hB : ∀ f, f ≤ F → BdyP f) : BodsP (F + 1) := by
  intro w r l t h hl
  have HBP := hid hB
  have HL := hid hl
  have HLEN := hid h.len
  have HNR := hid h.lt
  have HBO : Hid (pBodies (F + 1) t = if isT t cLb then (pBody F t.tail).bind (fun b t => (pMoreB F t).bind (fun m t => if isT t cRb then .ok (b :: m) t.tail else .bad t)) else .bad t) := hid (by rw [pBodies])
  have HR := hid h
  have HX := hid (Ext.refl (fun b => b = r) w)
  obtain ⟨N0, hN0⟩ : ∃ n, w.heap.size = n := ⟨_, rfl⟩
  have HN0 := hid hN0
  rw [hN0]
  clear h hl hB hN0
  cases hm : isT t cLb with
  | false =>
    have HY := hid hm
    clear hm
    go_enter Try.func70, Try.ntmps70
    go_wp2_with (first | (go_at_call 85; refine (rmark_no HR.out HY.out).mono ?_; rintro e w2 ⟨rfl, hb⟩; have HX := hid (HX.out.trans (T := fun _ => False) (Ext.of_below hb) (fun _ _ h => h.elim)); have HR := hid (HR.out.below hb); clear hb) | (go_at_call 67; refine must_no.mono ?_; rintro e w3 ⟨⟨te, ve, rfl⟩, hw3⟩; subst hw3))
    refine ⟨rfl, RP.bad' ?_ HX.out HR.out ⟨_, _, rfl⟩⟩
    rw [HBO.out, if_neg (by rw [HY.out]; decide)]
  | true =>
  have HY := hid hm
  have HM1 := hid hm
  clear hm
  go_enter Try.func70, Try.ntmps70
  go_upto_region 2 with (first | (go_at_call 85; refine (rmark_yes HR.out (by decide) HY.out).mono ?_; rintro e w2 ⟨rfl, hx, hr⟩; have HX := hid (HX.out.trans hx (fun _ _ h => h)); have HXL := hid hx; have HR := hid hr; clear hx hr) | (go_at_call 67; refine must_yes.mono ?_; rintro e w3 ⟨rfl, hw3⟩; subst hw3))
  have hlt := tail_len HM1.out
  have HLT := hid hlt
  have HF2 : Hid (F ≤ F) := hid (Nat.le_refl F)
  have HLN : Hid (3 * t.tail.length + 2 ≤ F) := hid (by have := HL.out; omega)
  clear hlt
  cases hp : pBody F t.tail with
  | bad t2 =>
    have HPN := hid hp
    clear hp
    go_wp2_with (first | (go_at_call 86; refine (BdyP.at (HBP.out _ HF2.out) HR.out HLN.out).mono ?_; rintro e w4 hq; obtain ⟨hx, hr, ⟨te, ve, rfl⟩⟩ := hq.outB HPN.out; have HX := hid (HX.out.trans hx (fun _ _ h => h)); have HR := hid hr; clear hx hr hq))
    refine ⟨rfl, RP.bad' ?_ HX.out HR.out ⟨_, _, rfl⟩⟩
    rw [HBO.out, if_pos HM1.out, HPN.out]
    rfl
  | ok x0 t2 =>
    have HPN := hid hp
    have HLE2 := hid (pBody_le hp)
    have HBO2 : Hid (pBodies (F + 1) t = ((pMoreB F t2).map (x0 :: ·)).bind (fun m t => if isT t cRb then .ok m t.tail else .bad t)) := hid (by
      rw [HBO.out, if_pos HM1.out, hp]
      show (pMoreB F t2).bind _ = _
      cases pMoreB F t2 <;> rfl)
    clear hp
    go_wp2_with (first | (go_at_call 86; refine (BdyP.at (HBP.out _ HF2.out) HR.out HLN.out).mono ?_; rintro e w4 hq; obtain ⟨hx, hr, vA, rfl, ⟨vs, rfl, hv⟩⟩ := hq.outO HPN.out; obtain ⟨AB, cbb, rfl, _, _⟩ := hv.form; have HV := hid hv; have HSZ := hid HX.out.size; have HXC := hid hx; have HX := hid (HX.out.trans hx (fun _ _ h => h)); have HR := hid hr; clear hx hr hv hq))
    go_loopg [3] t2.length (fun k va wr => ∃ (f' : Nat) (t1 : List Tok) (acc : List (List Nd)) (g : Nat) (B : Option Addr) (cb : Nat), t1.length = k ∧ f' ≤ F ∧ 3 * t1.length + 2 ≤ f' ∧ acc.length + t1.length ≤ 100000 ∧ va = .slice B acc.length cb ∧ Ext (fun b => b = r) w wr ∧ RD wr r l t1 ∧ Acc (bodyE F) 71 N0 wr g (.slice B acc.length cb) acc ∧ (pMoreB F t2).map (x0 :: ·) = (pMoreB f' t1).map (acc ++ ·))
    case atStart =>
      have hx4 : Below w4.heap.size w4 (w4.alloc (.cells #[.slice AB x0.length cbb] 71)) := bl_al (Below.refl _ w4) _
      have h1 := HSZ.out
      have h2 := HXC.out.size
      have h3 := HN0.out
      refine ⟨F, t2, [x0], w4.heap.size, _, 1, rfl, Nat.le_refl _, by have := HLE2.out; have := HLN.out; omega, by have := HLE2.out; have := HLEN.out; have := HLT.out; simp only [List.length_cons, List.length_nil]; omega, rfl, HX.out.trans (T := fun _ => False) (Ext.of_below hx4) (fun _ _ h => h.elim), HR.out.below hx4, ?_, rfl⟩
      refine Acc.lit (cs := [.slice AB x0.length cbb]) (alloc_blk rfl) (rd_below (d := bodyE F) ⟨_, rfl, HV.out.mono (fun b hb _ => by have hb : _ ≤ b := hb; omega)⟩ hx4) (by omega)
    case round =>
      obtain ⟨f', t1, acc, g, B, cb, hk, hf, hl1, hal, rfl, hx, hr, ha, hp⟩ := hrel
      clear HX HR HV HF2 HLN HXL
      have HK := hid hk
      have HF := hid hf
      have HL1 := hid hl1
      have HAL := hid hal
      have HX := hid hx
      have HR := hid hr
      have HA := hid ha
      have HP := hid hp
      clear hk hf hl1 hal hx hr ha hp
      obtain ⟨q, hq⟩ : ∃ q, f' = q + 1 := ⟨f' - 1, by have := HL1.out; omega⟩
      subst hq
      cases hw : isT t1 wd7 with
      | false =>
        have HY := hid hw
        have HPX : Hid (pMoreB (q + 1) t1 = .ok [] t1) := hid (by rw [pMoreB, if_neg (by rw [hw]; decide)])
        clear hw
        go_upto_region 5 with (first | (go_at_call 68; refine (rword_no HR.out HY.out).mono ?_; rintro e w2 ⟨rfl, hb⟩; have HX := hid (HX.out.trans (T := fun _ => False) (Ext.of_below hb) (fun _ _ h => h.elim)); have HA := hid (HA.out.below hb); have HR := hid (HR.out.below hb); clear hb))
        cases hm : isT t1 cRb with
        | false =>
          have HY := hid hm
          clear hm
          go_wp2_with (first | (go_at_call 85; refine (rmark_no HR.out HY.out).mono ?_; rintro e w2 ⟨rfl, hb⟩; have HX := hid (HX.out.trans (T := fun _ => False) (Ext.of_below hb) (fun _ _ h => h.elim)); have HR := hid (HR.out.below hb); clear hb) | (go_at_call 67; refine must_no.mono ?_; rintro e w3 ⟨⟨te, ve, rfl⟩, hw3⟩; subst hw3))
          refine ⟨rfl, RP.bad' (t := t1) ?_ HX.out HR.out ⟨_, _, rfl⟩⟩
          rw [HBO2.out, HP.out, HPX.out]
          show (if isT t1 cRb then Res.ok _ _ else Res.bad _) = _
          rw [if_neg (by rw [HY.out]; decide)]
        | true =>
          have HY := hid hm
          have HM2 := hid hm
          clear hm
          go_wp2_with (first | (go_at_call 85; refine (rmark_yes HR.out (by decide) HY.out).mono ?_; rintro e w2 ⟨rfl, hx, hr⟩; have HX := hid (HX.out.trans hx (fun _ _ h => h)); have HA := hid (HA.out.ext hx (fun b h => by have := HNR.out; have := HN0.out; omega)); have HR := hid hr; clear hx hr) | (go_at_call 67; refine must_yes.mono ?_; rintro e w3 ⟨rfl, hw3⟩; subst hw3))
          go_ret
          refine RP.ok' (a := acc) (t := t1.tail) ?_ HX.out HR.out ?_
          · rw [HBO2.out, HP.out, HPX.out]
            show (if isT t1 cRb then Res.ok _ _ else Res.bad _) = _
            rw [if_pos HM2.out]
            simp
          · exact alts_up (Nat.le_succ F) HA.out.row
      | true =>
        have HY := hid hw
        have HPX : Hid (pMoreB (q + 1) t1 = (pBody q t1.tail).bind (fun b t => (pMoreB q t).bind (fun m t => .ok (b :: m) t))) := hid (by rw [pMoreB, if_pos hw])
        have HLT1 := hid (tail_len hw)
        have HF2 : Hid (q ≤ F) := hid (by have := HF.out; omega)
        have HLN : Hid (3 * t1.tail.length + 2 ≤ q) := hid (by have := HL1.out; have := HLT1.out; omega)
        clear hw
        go_upto_region 4 with (first | (go_at_call 68; refine (rword_yes HR.out (by rfl) HY.out).mono ?_; rintro e w2 ⟨rfl, hx, hr⟩; have HX := hid (HX.out.trans hx (fun _ _ h => h)); have HA := hid (HA.out.ext hx (fun b h => by have := HNR.out; have := HN0.out; omega)); have HR := hid hr; clear hx hr))
        cases hp : pBody q t1.tail with
        | bad t3 =>
          have HPN := hid hp
          clear hp
          go_wp2_with (first | (go_at_call 86; refine (BdyP.at (HBP.out _ HF2.out) HR.out HLN.out).mono ?_; rintro e w4 hq; obtain ⟨hx, hr, ⟨te, ve, rfl⟩⟩ := hq.outB HPN.out; have HX := hid (HX.out.trans hx (fun _ _ h => h)); have HR := hid hr; clear hx hr hq))
          refine ⟨rfl, RP.bad' (t := t3) ?_ HX.out HR.out ⟨_, _, rfl⟩⟩
          rw [HBO2.out, HP.out, HPX.out, HPN.out]
          rfl
        | ok x t3 =>
          have HPN := hid hp
          have HLE3 := hid (pBody_le hp)
          have HLEN2 : Hid (acc.length + [x].length ≤ 4294967296) := hid (by have := HAL.out; simp only [List.length_cons, List.length_nil]; omega)
          clear hp
          go_wp2_with (first | (go_at_call 86; refine (BdyP.at (HBP.out _ HF2.out) HR.out HLN.out).mono ?_; rintro e w4 hq; obtain ⟨hx, hr, vA, rfl, ⟨vs, rfl, hv⟩⟩ := hq.outO HPN.out; obtain ⟨AB, cbb, rfl, _, _⟩ := hv.form; have HV := hid hv; have HSZ := hid HX.out.size; have HXC := hid hx; have HRD := hid (bd_elem (F := F) (N := N0) (g := g) hv HF2.out (fun b hb => by have h1 := HA.out.lt; have h2 := HX.out.size; have h3 := HN0.out; have hb : w2.heap.size ≤ b := hb; omega)); have HA := hid (HA.out.ext hx (fun b h => by have := HNR.out; have := HN0.out; omega)); have HX := hid (HX.out.trans hx (fun _ _ h => h)); have HR := hid hr; clear hx hr hv hq) | (at_builtin; refine wpList_app23b (n := F) (ys := [x]) (by rfl) (.tmp 12) (.tmp 15) (by rfl) (by rfl) (by rfl) (by rfl) (HA.out.below (by repeat (first | (with_reducible exact Below.refl _ _) | (with_reducible exact bl_mm) | (with_reducible refine bl_dr ?_) | (with_reducible refine bl_drN ?_ _) | (with_reducible refine bl_al ?_ _) | (with_reducible refine bl_more ?_ _ _)))).sp (by exact Enc.Src.one_blk (cs := [.slice AB x.length cbb]) (alloc_blk (by simp [more_size])) (rd_below HRD.out (by repeat (first | (with_reducible exact Below.refl _ _) | (with_reducible exact bl_mm) | (with_reducible refine bl_dr ?_) | (with_reducible refine bl_drN ?_ _) | (with_reducible refine bl_al ?_ _) | (with_reducible refine bl_more ?_ _ _))))) (fun b h _ => h.2) HLEN2.out ?_; intro v2 w5 g2 hs2 he2 hg2; obtain ⟨acc2, hx1⟩ : ∃ y, acc ++ [x] = y := ⟨_, rfl⟩; rw [hx1] at hs2; have HE2 := hid hx1; clear hx1; obtain ⟨B2, cq, e2, _, _⟩ := hs2.form; subst e2; have hx5 : Ext (fun b => N0 ≤ b) w4 w5 := (Ext.of_below (bl_al (Below.refl _ w4) _)).trans ((HA.out.below (bl_al (Below.refl _ w4) _)).grew he2) (fun _ _ h => h); have HA := hid ((HA.out.below (bl_al (Below.refl _ w4) _)).grown (by have := HX.out.size; have := HN0.out; rw [World.size_alloc]; omega) hs2 he2 hg2); have HX := hid (HX.out.trans hx5 (fun x hx h => by have := HN0.out; omega)); have HR := hid (HR.out.ext hx5 (fun b hb h => by have := HNR.out; have := HN0.out; omega)); clear hs2 he2 hg2 hx5))
          go_roundg t3.length
          case measure => have := HK.out; have := HLE3.out; have := HLT1.out; omega
          case rel =>
            refine ⟨q, t3, acc2, g2, B2, cq, rfl, HF2.out, by have := HLE3.out; have := HLN.out; omega, ?_, rfl, HX.out, HR.out, HA.out, ?_⟩
            · rw [← HE2.out, List.length_append, List.length_singleton]; have := HAL.out; have := HLT1.out; have := HLE3.out; omega
            · rw [HP.out, HPX.out, HPN.out, ← HE2.out]
              show Res.map _ ((pMoreB q t3).bind _) = _
              cases pMoreB q t3 with
              | ok m t => show Res.ok _ _ = Res.ok _ _; simp
              | bad t => rfl
theorem reader_all : ∀ F, NodP F ∧ BodsP F ∧ BdyP F := by
  intro F
  induction F using Nat.strongRecOn with
  | ind F ih =>
    cases F with
    | zero => exact ⟨fun w r l t _ h => by omega, fun w r l t _ h => by omega, fun w r l t _ h => by omega⟩
    | succ F =>
      exact ⟨rnode_of (ih F (Nat.lt_succ_self F)).2.1, rbodies_of (fun f hf => (ih f (Nat.lt_succ_of_le hf)).2.2), rbody_of (fun f hf => (ih f (Nat.lt_succ_of_le hf)).1)⟩
def sagaK (nm : ByteArray) (al : List (List Nd)) : List Tok → Res (ByteArray × List (List Nd))
  | [] => .ok (nm, al) []
  | x :: t => .bad (x :: t)
/-- A saga, and the end. -/
def pSaga (f : Nat) (t : List Tok) : Res (ByteArray × List (List Nd)) :=
  if isT t wd0 then (if isN t.tail then (pBodies f t.tail.tail).bind (sagaK (txN t.tail)) else .bad t.tail) else .bad t
end Go.Proofs.Ytidilpciolladaa

/- The program's 'saga'. -/
namespace Go.Proofs.Ytidilpciolladaa
open Go.RowKit

/-- A saga's state while it is read. -/
structure SS (w0 : World) (r : Nat) (l : List Tok) (b2 : Nat) (W : World) (t : List Tok) : Prop where
  ext : Ext (fun b => b = r) w0 W
  rd : RD W r l t
  res : W.heap[b2]? = some (.cells #[.string ⟨#[]⟩, .slice none 0 0] 25 (0, 0))
  n2 : w0.heap.size ≤ b2
  nr : r < w0.heap.size
theorem SS.call {w0 : World} {r : Nat} {l : List Tok} {b2 : Nat} {W W' : World} {t t' : List Tok} (h : SS w0 r l b2 W t) (hx : Ext (fun b => b = r) W W') (hr : RD W' r l t') : SS w0 r l b2 W' t' := by
  have h1 := h.n2
  have h4 := h.nr
  exact ⟨h.ext.trans hx (fun _ _ h => h), hr, (hx.block b2 (Array.getElem?_eq_some_iff.1 h.res).1 (by omega)).trans h.res, h1, h4⟩
theorem SS.below {w0 : World} {r : Nat} {l : List Tok} {b2 : Nat} {W W' : World} {t : List Tok} (h : SS w0 r l b2 W t) (hb : Below W.heap.size W W') : SS w0 r l b2 W' t := h.call (Ext.of_below hb) (h.rd.below hb)
theorem SS.facts2 {w0 : World} {r : Nat} {l : List Tok} {b2 : Nat} {W : World} {t : List Tok} (h : SS w0 r l b2 W t) : b2 < W.heap.size ∧ W.cell? ⟨b2, 0, none⟩ = some (.string ⟨#[]⟩) ∧ W.cell? ⟨b2, 1, none⟩ = some (.slice none 0 0) ∧ ∀ k, W.frozen? ⟨b2, k, none⟩ = false :=
  ⟨(Array.getElem?_eq_some_iff.1 h.res).1, cell_blk h.res 0, cell_blk h.res 1, frz_blk h.res⟩
theorem SS.start {w : World} {r : Nat} {l t : List Tok} (h : RD w r l t) : SS w r l w.heap.size (w.alloc (.cells #[.string ⟨#[]⟩, .slice none 0 0] 25)) t := by
  have hb : Below w.heap.size w (w.alloc (.cells #[.string ⟨#[]⟩, .slice none 0 0] 25)) := (by repeat (first | (with_reducible exact Below.refl _ _) | (with_reducible exact bl_mm) | (with_reducible refine bl_dr ?_) | (with_reducible refine bl_drN ?_ _) | (with_reducible refine bl_al ?_ _) | (with_reducible refine bl_more ?_ _ _)))
  exact ⟨Ext.of_below hb, h.below hb, alloc_blk rfl, Nat.le_refl _, h.lt⟩
/-- .. and its own box. -/
structure BX (r b2 b3 : Nat) (W : World) (c0 c1 : Value) : Prop where
  box : W.heap[b3]? = some (.cells #[c0, c1] 25 (0, 0))
  n2 : b2 < b3
  nr : r < b2
theorem BX.call {r b2 b3 : Nat} {W W' : World} {c0 c1 : Value} (h : BX r b2 b3 W c0 c1) (hx : Ext (fun b => b = r) W W') : BX r b2 b3 W' c0 c1 := by
  have h1 := h.n2
  have h2 := h.nr
  exact ⟨(hx.block b3 (Array.getElem?_eq_some_iff.1 h.box).1 (by omega)).trans h.box, h1, h2⟩
theorem BX.facts {r b2 b3 : Nat} {W : World} {c0 c1 : Value} (h : BX r b2 b3 W c0 c1) : b3 < W.heap.size ∧ W.cell? ⟨b3, 0, none⟩ = some c0 ∧ W.cell? ⟨b3, 1, none⟩ = some c1 ∧ ∀ k, W.frozen? ⟨b3, k, none⟩ = false :=
  ⟨(Array.getElem?_eq_some_iff.1 h.box).1, cell_blk h.box 0, cell_blk h.box 1, frz_blk h.box⟩
theorem SS.set {w0 : World} {r : Nat} {l : List Tok} {b2 b3 : Nat} {W : World} {t : List Tok} (h : SS w0 r l b2 W t) (hb : b2 < b3) (k : Nat) (v : Value) : SS w0 r l b2 (W.setCell ⟨b3, k, none⟩ v) t := by
  have h1 := h.n2
  have h4 := h.nr
  have hs : Ext (fun b => b = b3) W (W.setCell ⟨b3, k, none⟩ v) := Ext.setCell (S := fun b => b = b3) W ⟨b3, k, none⟩ v rfl
  exact ⟨h.ext.trans hs (fun x hx e => by omega), h.rd.ext hs (fun b hb e => by omega), (hs.block b2 (Array.getElem?_eq_some_iff.1 h.res).1 (by omega)).trans h.res, h1, h4⟩
theorem BX.set1 {r b2 b3 : Nat} {W : World} {c0 c1 : Value} (h : BX r b2 b3 W c0 c1) (v : Value) : BX r b2 b3 (W.setCell ⟨b3, 1, none⟩ v) c0 v := by
  refine ⟨?_, h.n2, h.nr⟩
  simp [World.setCell, Array.getElem?_modify, h.box]
theorem taEx : ∃ o1 o2 o3, (∀ (W : World) (u : ByteArray), (Instr.typeAssert (.iface 129 (.string u)) 111 110 false).run Try.prog W = .halt (.panic (.iface 15 (.pointer (some ⟨W.heap.size, 0, none⟩)))) (W.alloc o1)) ∧ (∀ (W : World) (u : ByteArray), (Instr.typeAssert (.iface 108 (.string u)) 111 110 false).run Try.prog W = .halt (.panic (.iface 15 (.pointer (some ⟨W.heap.size, 0, none⟩)))) (W.alloc o2)) ∧ (∀ (W : World) (u : ByteArray), (Instr.typeAssert (.iface 127 (.string u)) 111 110 false).run Try.prog W = .halt (.panic (.iface 15 (.pointer (some ⟨W.heap.size, 0, none⟩)))) (W.alloc o3)) :=
  ⟨.cells #[typeHandle Try.prog 111, typeHandle Try.prog 129, typeHandle Try.prog 110, strVal ""] 145, .cells #[typeHandle Try.prog 111, typeHandle Try.prog 108, typeHandle Try.prog 110, strVal ""] 145, .cells #[typeHandle Try.prog 111, typeHandle Try.prog 127, typeHandle Try.prog 110, strVal ""] 145,
    fun _ _ => by simp [Instr.typeAssert, go_sem, runtimePanic, elemOf, run_underlying Try.underlying15], fun _ _ => by simp [Instr.typeAssert, go_sem, runtimePanic, elemOf, run_underlying Try.underlying15], fun _ _ => by simp [Instr.typeAssert, go_sem, runtimePanic, elemOf, run_underlying Try.underlying15]⟩
theorem look_end {x : Tok} {t : List Tok} : (∃ u, lookV (x :: t) = .iface 129 (.string u)) ∨ (∃ u, lookV (x :: t) = .iface 108 (.string u)) ∨ ∃ u, lookV (x :: t) = .iface 127 (.string u) := by
  unfold lookV
  by_cases hk : x.kind = 2
  · exact .inl ⟨x.text, by simp only [if_pos hk]⟩
  · cases hw : wordB x.text with
    | true => exact .inr (.inl ⟨x.text, by simp only [if_neg hk, hw, if_true]⟩)
    | false => exact .inr (.inr ⟨x.text, by simp only [if_neg hk, hw, Bool.false_eq_true, if_false]⟩)
set_option maxRecDepth 8000 in
set_option maxHeartbeats 8000000 in
theorem rsaga_any {f : Nat} {w : World} {r : Nat} {l t : List Tok} (h : RD w r l t) (hl : 3 * t.length + 2 ≤ f) : Calls Try.prog 43 #[.pointer (some ⟨r, 0, none⟩)] w (RP w r l (fun g v w' => ∃ vs, v = .agg #[.string g.1, vs] ∧ (bodyE f).Row (fun b => w.heap.size ≤ b) w' vs g.2) (pSaga f t)) := by
  have HB := hid (reader_all f).2.1
  have HL := hid hl
  have hst := SS.start h
  obtain ⟨N0, hN0⟩ : ∃ n, w.heap.size = n := ⟨_, rfl⟩
  rw [hN0] at hst ⊢
  have HN0 := hid hN0
  obtain ⟨o1, o2, o3, ta1, ta2, ta3⟩ := taEx
  have ta4 := taE
  have HT1 := hid ta1
  have HT2 := hid ta2
  have HT3 := hid ta3
  have HT4 := hid ta4
  clear h hl ta1 ta2 ta3 ta4
  go_enter Try.func43, Try.ntmps43
  go_upto_region 1 with (fail)
  obtain ⟨W9, hW9⟩ : ∃ W, w.alloc (.cells #[.string ⟨#[]⟩, .slice none 0 0] 25) = W := ⟨_, rfl⟩
  rw [hW9] at hst ⊢
  have HS := hid hst
  clear hst hW9 hN0
  cases hw : isT t wd0 with
  | false =>
    have HY := hid hw
    clear hw
    go_wp2_with (first | (go_at_call 68; refine (rword_no HS.out.rd HY.out).mono ?_; rintro e w2 ⟨rfl, hb⟩; have HS := hid (HS.out.below hb); clear hb) | (go_at_call 67; refine must_no.mono ?_; rintro e w3 ⟨⟨te, ve, rfl⟩, hw3⟩; subst hw3))
    refine ⟨rfl, RP.bad' ?_ HS.out.ext HS.out.rd ⟨_, _, rfl⟩⟩
    unfold pSaga
    rw [if_neg (by rw [HY.out]; decide)]
  | true =>
  have HY := hid hw
  have HW1 := hid hw
  clear hw
  go_upto_region 2 with (first | (go_at_call 68; refine (rword_yes HS.out.rd (by rfl) HY.out).mono ?_; rintro e w2 ⟨rfl, hx, hr⟩; have HS := hid (HS.out.call hx hr); clear hx hr) | (go_at_call 67; refine must_yes.mono ?_; rintro e w3 ⟨rfl, hw3⟩; subst hw3))
  cases hn : isN t.tail with
  | false =>
    have HY := hid hn
    clear hn
    go_wp2_with (first | (go_at_call 69; refine (rname_no HS.out.rd HY.out).mono ?_; rintro e w2 ⟨⟨te, ve, rfl⟩, hb⟩; have HS := hid (HS.out.below hb); clear hb))
    refine ⟨rfl, RP.bad' ?_ HS.out.ext HS.out.rd ⟨_, _, rfl⟩⟩
    unfold pSaga
    rw [if_pos HW1.out, if_neg (by rw [HY.out]; decide)]
  | true =>
  have HY := hid hn
  have HN1 := hid hn
  clear hn
  go_upto_region 3 with (first | (go_at_call 69; refine (rname_yes HS.out.rd HY.out).mono ?_; rintro e w2 ⟨rfl, hx, hr⟩; have HS := hid (HS.out.call hx hr); clear hx hr))
  obtain ⟨nm, hnm⟩ : ∃ y, txN t.tail = y := ⟨_, rfl⟩
  rw [hnm]
  have hs8 := HS.out.below (bl_al (Below.refl _ w2) (.cells #[.string nm, .slice none 0 0] 25))
  have hbx : BX r N0 w2.heap.size (w2.alloc (.cells #[.string nm, .slice none 0 0] 25)) (.string nm) (.slice none 0 0) := ⟨alloc_blk rfl, by have := HS.out.facts2.1; omega, by have := HS.out.nr; have := HN0.out; omega⟩
  obtain ⟨W8, hW8⟩ : ∃ W, w2.alloc (.cells #[.string nm, .slice none 0 0] 25) = W := ⟨_, rfl⟩
  have hb8 : w2.heap.size < W8.heap.size := by rw [← hW8]; simp
  rw [hW8] at hs8 hbx ⊢
  obtain ⟨b3, hb3⟩ : ∃ b, w2.heap.size = b := ⟨_, rfl⟩
  rw [hb3] at hbx hb8 ⊢
  clear HS
  have HS := hid hs8
  have HBX := hid hbx
  have HB8 := hid hb8
  have HSE : Hid (pSaga f t = (pBodies f t.tail.tail).bind (sagaK nm)) := hid (by
    unfold pSaga
    rw [if_pos HW1.out, if_pos HN1.out, hnm])
  obtain ⟨xl, x0, x1, fz⟩ := hbx.facts
  have HLB : Hid (3 * t.tail.tail.length + 2 ≤ f) := hid (by have h1 := tl_le t; have h2 := tl_le t.tail; have := HL.out; omega)
  clear hs8 hbx hW8 hb3 hnm hb8
  cases hp : pBodies f t.tail.tail with
  | bad t4 =>
    have HPB := hid hp
    clear hp
    go_wp2_with (first | (go_at_call 70; refine (BodsP.at HB.out HS.out.rd HLB.out).mono ?_; rintro e w2 hq; obtain ⟨hx, hr, ⟨te, ve, rfl⟩⟩ := hq.outB HPB.out; have HS := hid (HS.out.call hx hr); clear hx hr hq))
    refine ⟨rfl, RP.bad' ?_ HS.out.ext HS.out.rd ⟨_, _, rfl⟩⟩
    rw [HSE.out, HPB.out]
    rfl
  | ok al t4 =>
    have HPB := hid hp
    clear hp
    go_upto_region 4 with (first | (go_at_call 70; refine (BodsP.at HB.out HS.out.rd HLB.out).mono ?_; rintro e w2 hq; obtain ⟨hx, hr, vA, rfl, hv⟩ := hq.outO HPB.out; obtain ⟨AL, cl, rfl, _, _⟩ := hv.form; have HAL := hid hv; have HS := hid (HS.out.call hx hr); have HBX := hid (HBX.out.call hx); clear xl x0 x1 fz; obtain ⟨xl, x0, x1, fz⟩ := HBX.out.facts; clear hx hr hv hq))
    have hs7 := HS.out.set HBX.out.n2 1 (.slice AL al.length cl)
    have hbx7 := HBX.out.set1 (.slice AL al.length cl)
    have hal7 := HAL.out.ext (Ext.setCell (S := fun b => b = b3) w2 ⟨b3, 1, none⟩ (.slice AL al.length cl) rfl) (fun b hb _ e => by have := HB8.out; have hb : W8.heap.size ≤ b := hb; omega)
    obtain ⟨W7, hW7⟩ : ∃ W, World.setCell w2 ⟨b3, 1, none⟩ (.slice AL al.length cl) = W := ⟨_, rfl⟩
    rw [hW7] at hs7 hbx7 hal7 ⊢
    clear HS HBX HAL xl x0 x1 fz
    have HS := hid hs7
    have HBX := hid hbx7
    have HAL := hid hal7
    obtain ⟨xl, x0, x1, fz⟩ := hbx7.facts
    clear hs7 hbx7 hal7 hW7
    cases t4 with
    | nil =>
      have HLK : Hid (lookV [] = .iface 110 (.agg #[])) := hid rfl
      have hta := HT4.out
      go_upto_region 5 with (first | (go_at_call 71; refine (look_any HS.out.rd).mono ?_; rw [HLK.out]; rintro e w6 ⟨rfl, hb⟩; have HS := hid (HS.out.below hb); have HBX := hid (HBX.out.call (Ext.of_below hb)); have HAL := hid (HAL.out.below hb); clear xl x0 x1 fz; obtain ⟨xl, x0, x1, fz⟩ := HBX.out.facts; clear hb))
      obtain ⟨yl, y0, y1, fy⟩ := HS.out.facts2
      have hne : N0 ≠ b3 := by have := HBX.out.n2; omega
      go_wp2
      refine bodyPost_ret (v := .agg #[.string nm, .slice AL al.length cl]) (by simp [results, Try.results43]; go_simp) rfl ?_
      have h6 : Ext (fun b => b = N0) w6 ((w6.setCell ⟨N0, 0, none⟩ (.string nm)).setCell ⟨N0, 1, none⟩ (.slice AL al.length cl)) := (Ext.setCell (S := fun b => b = N0) w6 ⟨N0, 0, none⟩ _ rfl).trans (Ext.setCell (S := fun b => b = N0) _ ⟨N0, 1, none⟩ _ rfl) (fun _ _ h => h)
      refine RP.ok' (a := (nm, al)) (t := []) ?_ (HS.out.ext.trans h6 (fun x hx e => by have := HN0.out; omega)) (HS.out.rd.ext h6 (fun b hb e => by have := HS.out.nr; have := HN0.out; omega)) ⟨_, rfl, ?_⟩
      · rw [HSE.out, HPB.out]; rfl
      · exact (HAL.out.ext h6 (fun b hb _ e => by have hb : W8.heap.size ≤ b := hb; have := HB8.out; have := HBX.out.n2; omega)).mono (fun b hb _ => by have hb : W8.heap.size ≤ b := hb; have := HB8.out; have := HBX.out.n2; omega)
    | cons x t4 =>
      rcases look_end (x := x) (t := t4) with ⟨u, hu⟩ | ⟨u, hu⟩ | ⟨u, hu⟩
      · have hta := HT1.out
        have HLK := hid hu
        clear hu
        go_wp2_with (first | (go_at_call 71; refine (look_any HS.out.rd).mono ?_; rw [HLK.out]; rintro e w6 ⟨rfl, hb⟩; have HS := hid (HS.out.below hb); have HBX := hid (HBX.out.call (Ext.of_below hb)); have HAL := hid (HAL.out.below hb); clear xl x0 x1 fz; obtain ⟨xl, x0, x1, fz⟩ := HBX.out.facts; clear hb))
        refine ⟨rfl, RP.bad' (t := x :: t4) ?_ (HS.out.below (bl_al (Below.refl _ w6) _)).ext (HS.out.below (bl_al (Below.refl _ w6) _)).rd ⟨_, _, rfl⟩⟩
        rw [HSE.out, HPB.out]
        rfl
      · have hta := HT2.out
        have HLK := hid hu
        clear hu
        go_wp2_with (first | (go_at_call 71; refine (look_any HS.out.rd).mono ?_; rw [HLK.out]; rintro e w6 ⟨rfl, hb⟩; have HS := hid (HS.out.below hb); have HBX := hid (HBX.out.call (Ext.of_below hb)); have HAL := hid (HAL.out.below hb); clear xl x0 x1 fz; obtain ⟨xl, x0, x1, fz⟩ := HBX.out.facts; clear hb))
        refine ⟨rfl, RP.bad' (t := x :: t4) ?_ (HS.out.below (bl_al (Below.refl _ w6) _)).ext (HS.out.below (bl_al (Below.refl _ w6) _)).rd ⟨_, _, rfl⟩⟩
        rw [HSE.out, HPB.out]
        rfl
      · have hta := HT3.out
        have HLK := hid hu
        clear hu
        go_wp2_with (first | (go_at_call 71; refine (look_any HS.out.rd).mono ?_; rw [HLK.out]; rintro e w6 ⟨rfl, hb⟩; have HS := hid (HS.out.below hb); have HBX := hid (HBX.out.call (Ext.of_below hb)); have HAL := hid (HAL.out.below hb); clear xl x0 x1 fz; obtain ⟨xl, x0, x1, fz⟩ := HBX.out.facts; clear hb))
        refine ⟨rfl, RP.bad' (t := x :: t4) ?_ (HS.out.below (bl_al (Below.refl _ w6) _)).ext (HS.out.below (bl_al (Below.refl _ w6) _)).rd ⟨_, _, rfl⟩⟩
        rw [HSE.out, HPB.out]
        rfl
end Go.Proofs.Ytidilpciolladaa

/- try: what gives up is caught. -/
namespace Go.Proofs.Ytidilpciolladaa
open Go.RowKit

theorem lt_of_cell {w : World} {p : Addr} {v : Value} (h : w.cell? p = some v) : p.block < w.heap.size := by
  unfold World.cell? at h
  cases ho : w.heap[p.block]? with
  | none => simp [ho] at h
  | some x => exact (Array.getElem?_eq_some_iff.1 ho).1
set_option maxHeartbeats 1000000 in
theorem catch_idle (p q : Addr) (w : World) :
    CallsD Try.prog 42 #[.pointer (some p), .pointer (some q)] .returning w fun e u' w' => e = .returned (.tuple #[]) ∧ u' = .returning ∧ w' = w := by
  refine callsD_of_wpS Try.func42 rfl fun c₀ cs hu => ?_
  apply wpS_seq
  apply wpS_region
  simp [wpOpsS, go_sem, recoverD, hu, Try.ntmps42, Exit.thenS]
  refine wpS_of_wp ?_
  simp only [Array.replicate_succ, Array.replicate_zero, List.push_toArray, List.append_toArray, List.nil_append, List.cons_append, List.setIfInBounds_toArray, List.set_cons_succ, List.set_cons_zero]
  go_wp2
  cases c₀
  simp_all [bodyPostS, results, Try.results42]
set_option maxHeartbeats 1000000 in
theorem catch_some (b c : Nat) (w : World) (T : TypeId) (x u0 u1 u2 : Value) (h0 : w.cell? ⟨b, 0, none⟩ = some u0) (h1 : w.cell? ⟨b, 1, none⟩ = some u1) (h2 : w.cell? ⟨c, 0, none⟩ = some u2) (hz : ∀ k, w.frozen? ⟨b, k, none⟩ = false) (hz2 : ∀ k, w.frozen? ⟨c, k, none⟩ = false) (hne : b ≠ c) (older : List PanicEntry) :
    CallsD Try.prog 42 #[.pointer (some ⟨b, 0, none⟩), .pointer (some ⟨c, 0, none⟩)] (.panicking ({ v := .iface T x, recovered := false } :: older)) w fun e u' w' => e = .returned (.tuple #[]) ∧ u' = .panicking ({ v := .iface T x, recovered := true } :: older) ∧
      w' = ((w.setCell ⟨b, 0, none⟩ (.string ⟨#[]⟩)).setCell ⟨b, 1, none⟩ (.slice none 0 0)).setCell ⟨c, 0, none⟩ (.bool false) := by
  have hb : b < w.heap.size := lt_of_cell h0
  have hc : c < w.heap.size := lt_of_cell h2
  refine callsD_of_wpS Try.func42 rfl fun c₀ cs hu => ?_
  apply wpS_seq
  apply wpS_region
  simp [wpOpsS, go_sem, recoverD, hu, Try.ntmps42, Exit.thenS]
  refine wpS_of_wp ?_
  simp only [Array.replicate_succ, Array.replicate_zero, List.push_toArray, List.append_toArray, List.nil_append, List.cons_append, List.setIfInBounds_toArray, List.set_cons_succ, List.set_cons_zero]
  go_wp2
  simp [bodyPostS, results, Try.results42]
theorem three_ext (W : World) (b c : Nat) (u v x : Value) : Ext (fun q => q = b ∨ q = c) W (((W.setCell ⟨b, 0, none⟩ u).setCell ⟨b, 1, none⟩ v).setCell ⟨c, 0, none⟩ x) :=
  ((Ext.setCell (S := fun q => q = b ∨ q = c) W ⟨b, 0, none⟩ u (.inl rfl)).trans (Ext.setCell (S := fun q => q = b ∨ q = c) _ ⟨b, 1, none⟩ v (.inl rfl)) (fun _ _ h => h)).trans (Ext.setCell (S := fun q => q = b ∨ q = c) _ ⟨c, 0, none⟩ x (.inr rfl)) (fun _ _ h => h)
/-- What 'try' tells. -/
def TryQ (f : Nat) (w : World) (r : Nat) (l t : List Tok) (e : Ending) (w' : World) : Prop :=
  Ext (fun b => b = r) w w' ∧ match pSaga f t with
    | .ok g t' => RD w' r l t' ∧ ∃ vs, e = .returned (.tuple #[.agg #[.string g.1, vs], .bool true]) ∧ (bodyE f).Row (fun b => w.heap.size ≤ b) w' vs g.2
    | .bad t' => RD w' r l t' ∧ e = .returned (.tuple #[.agg #[.string ⟨#[]⟩, .slice none 0 0], .bool false])
theorem box_kept {w W : World} {b : Nat} {cs : Array Value} {ty : TypeId} {S : Nat → Prop} (h : w.heap[b]? = some (.cells cs ty (0, 0))) (hx : Ext S w W) (hS : ¬ S b) : W.heap[b]? = some (.cells cs ty (0, 0)) := (hx.block b (Array.getElem?_eq_some_iff.1 h).1 hS).trans h
set_option maxHeartbeats 4000000 in
theorem try_any {f : Nat} {w : World} {r : Nat} {l t : List Tok} (h : RD w r l t) (hl : 3 * t.length + 2 ≤ f) : Calls Try.prog 24 #[.pointer (some ⟨r, 0, none⟩)] w (TryQ f w r l t) := by
  have hmf : ∀ (fn : Fn) (first cap : Array Value) (w : World), (Instr.makeFunc fn first cap).run Try.prog w = .ok (.func fn first cap) w := fun _ _ _ _ => rfl
  have HL := hid hl
  have hlt := h.lt
  have hbl : Below w.heap.size w ((w.alloc (.cells #[.string ⟨#[]⟩, .slice none 0 0] 25)).alloc (.cells #[.bool false] 4)) := (by repeat (first | (with_reducible exact Below.refl _ _) | (with_reducible exact bl_mm) | (with_reducible refine bl_dr ?_) | (with_reducible refine bl_drN ?_ _) | (with_reducible refine bl_al ?_ _) | (with_reducible refine bl_more ?_ _ _)))
  have hr := h.below hbl
  have hb2 : ((w.alloc (.cells #[.string ⟨#[]⟩, .slice none 0 0] 25)).alloc (.cells #[.bool false] 4)).heap[w.heap.size]? = some (.cells #[.string ⟨#[]⟩, .slice none 0 0] 25 (0, 0)) := ((Below.refl _ _).alloc (Nat.le_refl _) _).block _ (by simp) |>.trans (alloc_blk rfl)
  have hb3 : ((w.alloc (.cells #[.string ⟨#[]⟩, .slice none 0 0] 25)).alloc (.cells #[.bool false] 4)).heap[w.heap.size + 1]? = some (.cells #[.bool false] 4 (0, 0)) := alloc_blk (by simp)
  go_enter_defers Try.func24, Try.ntmps24
  go_upto_region 1 with (fail)
  obtain ⟨W9, hW9⟩ : ∃ W, (w.alloc (.cells #[.string ⟨#[]⟩, .slice none 0 0] 25)).alloc (.cells #[.bool false] 4) = W := ⟨_, rfl⟩
  obtain ⟨b2, hn2⟩ : ∃ b, w.heap.size = b := ⟨_, rfl⟩
  obtain ⟨b3, hn3⟩ : ∃ b, b2 + 1 = b := ⟨_, rfl⟩
  rw [hW9] at hbl hr hb2 hb3 ⊢
  rw [hn2] at hb2 hb3 ⊢
  rw [hn3] at hb3 ⊢
  have HR := hid hr
  have HB2 := hid hb2
  have HB3 := hid hb3
  have HBX := hid hb2
  have HBY := hid hb3
  have HBL := hid hbl
  have HN2 := hid hn2
  have HN3 := hid hn3
  have HNR : Hid (r < b2 ∧ b2 < b3) := hid (by omega)
  have hne : b2 ≠ b3 := by omega
  clear h hr hb2 hb3 hbl hn2 hn3 hl hlt hW9
  cases hp : pSaga f t with
  | ok g t' =>
    have HPS := hid hp
    clear hp
    go_wp2_with (first | (go_at_call 43; refine (rsaga_any HR.out HL.out).mono ?_; rintro e w2 hq; obtain ⟨hx, hr, vA, rfl, ⟨vs, rfl, hv⟩⟩ := hq.outO HPS.out; obtain ⟨AL, cl, rfl, _, _⟩ := hv.form; have HAL := hid hv; have HX := hid hx; have HR2 := hid hr; have hb2 := box_kept HB2.out hx (by have := HNR.out; omega); have hb3 := box_kept HB3.out hx (by have := HNR.out; omega); have HB2 := hid hb2; have HB3 := hid hb3; have x0 := cell_blk hb2 0; have x1 := cell_blk hb2 1; have fz := frz_blk hb2; have y0 := cell_blk hb3 0; have fy := frz_blk hb3; have xl := (Array.getElem?_eq_some_iff.1 hb2).1; have yl := (Array.getElem?_eq_some_iff.1 hb3).1; clear hx hr hv hq hb2 hb3))
    refine leaves_cons (f := 42) (args := #[.pointer (some ⟨b2, 0, none⟩), .pointer (some ⟨b3, 0, none⟩)]) (by simp) (by simp [go_sem]) ?_
    refine (catch_idle ⟨b2, 0, none⟩ ⟨b3, 0, none⟩ _).mono ?_
    rintro e u' w'' ⟨rfl, rfl, rfl⟩
    simp [Leaves, settle, results, Try.results24, go_sem, x0, x1, y0, hne, Ne.symm hne]
    have h3 := three_ext w2 b2 b3 (.string g.fst) (.slice AL g.snd.length cl) (.bool true)
    have hn2 := HN2.out
    have hnr := HNR.out
    have hbl := HBL.out
    have hext : Ext (fun b => b = r) w W9 := Ext.of_below hbl
    unfold TryQ
    rw [HPS.out]
    refine ⟨(hext.trans HX.out (fun _ _ h => h)).trans h3 (fun x hx h => by omega), HR2.out.ext h3 (fun b hb h => by omega), _, rfl, (HAL.out.ext h3 (fun b hb _ h => ?_)).mono (fun b hb _ => ?_)⟩
    · have hb : W9.heap.size ≤ b := hb
      have h1 := (Array.getElem?_eq_some_iff.1 HBX.out).1
      have h2 := (Array.getElem?_eq_some_iff.1 HBY.out).1
      omega
    · have hb : W9.heap.size ≤ b := hb
      have := hbl.size
      show w.heap.size ≤ b
      omega
  | bad t' =>
    have HPS := hid hp
    clear hp
    go_wp2_with (first | (go_at_call 43; refine (rsaga_any HR.out HL.out).mono ?_; rintro e w2 hq; obtain ⟨hx, hr, ⟨te, ve, rfl⟩⟩ := hq.outB HPS.out; have HX := hid hx; have HR2 := hid hr; have hb2 := box_kept HB2.out hx (by have := HNR.out; omega); have hb3 := box_kept HB3.out hx (by have := HNR.out; omega); have HB2 := hid hb2; have HB3 := hid hb3; have x0 := cell_blk hb2 0; have x1 := cell_blk hb2 1; have fz := frz_blk hb2; have y0 := cell_blk hb3 0; have fy := frz_blk hb3; have xl := (Array.getElem?_eq_some_iff.1 hb2).1; have yl := (Array.getElem?_eq_some_iff.1 hb3).1; clear hx hr hq hb2 hb3))
    refine leaves_cons (f := 42) (args := #[.pointer (some ⟨b2, 0, none⟩), .pointer (some ⟨b3, 0, none⟩)]) (by simp) (by simp [go_sem]) ?_
    refine (catch_some b2 b3 w2 te ve _ _ _ x0 x1 y0 fz fy hne []).mono ?_
    rintro e u' w'' ⟨rfl, rfl, rfl⟩
    simp [Leaves, settle, results, Try.results24, go_sem, x0, x1, y0, hne, Ne.symm hne]
    have h3 := three_ext w2 b2 b3 (.string ⟨#[]⟩) (.slice none 0 0) (.bool false)
    have hn2 := HN2.out
    have hnr := HNR.out
    have hbl := HBL.out
    have hext : Ext (fun b => b = r) w W9 := Ext.of_below hbl
    unfold TryQ
    rw [HPS.out]
    exact ⟨(hext.trans HX.out (fun _ _ h => h)).trans h3 (fun x hx h => by omega), HR2.out.ext h3 (fun b hb h => by omega), rfl⟩
end Go.Proofs.Ytidilpciolladaa
