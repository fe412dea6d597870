/- What a disk's calls do: appending. -/
import Derived.Test.YtnobbehoojgfcaaDkE
namespace Go.Proofs.Ytnobbehoojgfcaa
open Go.RowKit

theorem info5 : (Try.prog.info? 5).map (fun i => (i.zero, i.size, i.bytes)) = some (some (.int .u8 0), 1, 1) := by kernel_rfl
theorem app33 {K : Nat → Prop} {g : Nat} {w : World} {v x : Value} {xs ys : List UInt8} (h : u8E.Spine 5 K g w v xs) (hy : u8E.Src K w x ys) (hKg : ∀ b, K b → b < w.heap.size → b ≠ g) (hlen : xs.length + ys.length ≤ 4294967296) :
    ∃ v' w' g', (Builtin.append_ #[33, 33] 33 #[v, x]).run Try.prog w = .ok v' w' ∧ u8E.Spine 5 (fun b => K b ∧ b < w.heap.size) g' w' v' (xs ++ ys) ∧ Ext (fun b => b = g ∧ capOf v ≠ 0) w w' ∧ Grew g w w' v v' g' := by
  obtain ⟨i0, hi, hz0, hz1, hz2⟩ := info_parts info5
  exact h.append 33 33 33 i0 _ Try.underlying33 ⟨_, Try.underlying33⟩ hi hz0 hz1 rfl (by decide) hy hKg hlen (by rw [hz2]; decide)
theorem wpList_app33 {w : World} {ops : Array Oper} {rest : List Oper} {o : Oper} {a : Act} {Q : Exit → Act → World → Prop} {K : Nat → Prop} {g : Nat} {xs ys : List UInt8} {v x : Value}
    (hg : o.guard = none) (s x' : Operand) (hop : o.op = Op.call { callee := Callee.builtin Builtin.append, args := #[s, x'], argTypes := #[33, 33] }) (hty : o.type = 33)
    (hv : a.eval s = v) (hx : a.eval x' = x) (hs : u8E.Spine 5 K g w v xs) (hy : u8E.Src K w x ys) (hKg : ∀ b, K b → b < w.heap.size → b ≠ g) (hlen : xs.length + ys.length ≤ 4294967296)
    (h : ∀ v' w' g', u8E.Spine 5 (fun b => K b ∧ b < w.heap.size) g' w' v' (xs ++ ys) → Ext (fun b => b = g ∧ capOf v ≠ 0) w w' → Grew g w w' v v' g' → wpList Try.prog ops Q rest (a.put o.dst v') w') :
    wpList Try.prog ops Q (o :: rest) a w := by
  subst hv; subst hx
  obtain ⟨v', w', g', hrun, h1, h2, h3⟩ := app33 hs hy hKg hlen
  exact wpList_append_run hg s x' 33 33 hop (by rw [hty]; exact hrun) (h v' w' g' h1 h2 h3)
theorem src_any {K K' : Nat → Prop} {w : World} {v : Value} {l : List UInt8} (h : u8E.Src K w v l) : u8E.Src K' w v l := h
theorem app_eq {s : DS} {i : Nat} (hi : i < s.fs.length) (l : List UInt8) : s.app i l = { s with fs := s.fs.set i ⟨s.fs[i].b ++ l, s.fs[i].synced⟩, room := s.room - l.length } := by unfold DS.app; simp [hi]

set_option maxHeartbeats 1000000 in
theorem doApp {w : World} {d : Nat} {G : Nat → Prop} {s : DS} {i bB bD : Nat} {C : Int} {B : Option Addr} {cb : Nat} {l : List UInt8} {K : Nat → Prop} (h : Dk w d G s) (hs : s.Ok C) (hC : C ≤ 1000000000) (hi : i < s.fs.length) (hl : u8E.Row K w (.slice B l.length cb) l) (hfit : (l.length : Int) ≤ s.room)
    (hB : w.heap[bB]? = some (.cells #[.slice B l.length cb] 33 (0, 0))) (hD : w.heap[bD]? = some (.cells #[.pointer (some ⟨d, 0, none⟩)] 25 (0, 0))) :
    Calls Try.prog 43 #[.pointer (some ⟨d, i * 2, none⟩), .pointer (some ⟨bB, 0, none⟩), .pointer (some ⟨bD, 0, none⟩)] w fun e w' => e = .returned (.tuple #[]) ∧ Dk w' d (fun b => G b ∨ w.heap.size ≤ b) (s.app i l) ∧ Ext (fun b => b = d ∨ G b) w w' := by
  have h2 := h.room
  have f1 := h.frz 131
  have f2 := h.frz (i * 2)
  obtain ⟨g, ⟨v, c1, c3, h3, h4⟩, hput⟩ := h.take i hi
  obtain ⟨A, c, rfl, h5, h6⟩ := h3.form
  have hd := h.lt
  obtain ⟨dcur, hdb, _⟩ := h.blk
  have b1 : w.cell? ⟨bB, 0, none⟩ = some (.slice B l.length cb) := cell_blk hB 0
  have b2 : w.cell? ⟨bD, 0, none⟩ = some (.pointer (some ⟨d, 0, none⟩)) := cell_blk hD 0
  have hbd : (bB = d) = False := by simp only [eq_iff_iff, iff_false]; rintro rfl; rw [hdb] at hB; cases hB
  have hbd' : (d = bB) = False := by simp only [eq_iff_iff, iff_false]; rintro rfl; rw [hdb] at hB; cases hB
  have hdd : (bD = d) = False := by simp only [eq_iff_iff, iff_false]; rintro rfl; rw [hdb] at hD; cases hD
  have hdd' : (d = bD) = False := by simp only [eq_iff_iff, iff_false]; rintro rfl; rw [hdb] at hD; cases hD
  have HDG : Hid (¬ (d = g ∧ capOf (.slice A s.fs[i].b.length c) ≠ 0)) := hid (fun e => e.2 (spine_not_d h.blk (e.1 ▸ h3)))
  have HBG : Hid (¬ (bB = g ∧ capOf (.slice A s.fs[i].b.length c) ≠ 0)) := hid (fun e => by obtain ⟨cur, hcur⟩ := h3.type e.2; rw [← e.1, hB] at hcur; cases hcur)
  have HCG : Hid (¬ (bD = g ∧ capOf (.slice A s.fs[i].b.length c) ≠ 0)) := hid (fun e => by obtain ⟨cur, hcur⟩ := h3.type e.2; rw [← e.1, hD] at hcur; cases hcur)
  have hlen := hs.len (List.getElem_mem hi)
  have hrc := hs.roomC
  have HLEN := hid (show s.fs[i].b.length + l.length ≤ 4294967296 by omega)
  have w1 : IntKind.i64.wrap (s.room - (l.length : Int)) = s.room - (l.length : Int) := IntWalk.i64_in _ (by omega)
  obtain ⟨x0, x1, x2, x3, x4, x5, x6, x7, x8, x9, x10, x11, x12, x13, x14, x15⟩ := offs hi hs.n2
  have HP := hid hput
  have H3 := hid h3
  have HD := hid h
  have HN2 := hid hs.n2
  have HL := hid hl
  have HG := hid h4
  have hn0 := h.n
  have hn1 := h.fuse
  have hn2 := h.down
  clear h hs h3 h4 hput h5 h6 hl hB hD hdb hlen hrc hfit hC
  go_enter Try.func43, Try.ntmps43
  go_wp2_with (first | ((with_reducible refine wp_region_plan (id := 0) (.eff [(true, 0), (false, 1), (false, 2), (false, 3), (false, 4), (false, 5)] 6 [0] (.eff [(false, 7), (false, 8)] 9 [] (.fin []))) ?_ ?_ ?_ ?_ ?_ ?_); kernel_rfl; kernel_rfl; kernel_rfl; kernel_rfl; (intro c a d v w h; cases d <;> exact h)) | ((with_reducible refine wp_region_plan (id := 1) (.eff [(false, 0), (false, 1), (false, 2), (false, 3), (false, 4), (false, 5), (false, 6), (false, 7), (false, 8)] 9 [] (.fin [])) ?_ ?_ ?_ ?_ ?_ ?_); kernel_rfl; kernel_rfl; kernel_rfl; kernel_rfl; (intro c a d v w h; cases d <;> exact h)) | (with_reducible refine wpPlan_eff ?_) | (with_reducible refine wpPlan_fin ?_) | (with_reducible refine wpPlan_two ?_) | (with_reducible refine wpOpPair ?_ ?_) | ((with_reducible apply wpPre_keep); rfl; intro K' hK'; go_simp; refine hK' _ _ ?_; intro f hf; clear hK' K') | ((with_reducible apply wpPre_drop); rfl; intro K' hK'; go_simp; refine hK' _ _ ?_; intro f; clear hK' K') | (with_reducible refine wpPre_nil ?_) | ((with_reducible apply wpOp_list); rfl) | (with_reducible refine heldPair ?_ ?_) | ((with_reducible refine heldH_no ?_ ?_); rfl) | (with_reducible refine heldH_yes ?_ ?_) | (with_reducible exact heldH_nil) | (unfold YAt; go_simp; done) | (at_builtin; refine wpList_app33 (K := fun _ => False) (g := g) (xs := s.fs[i].b) (ys := l) (by rfl) (.tmp 8) (.tmp 9) (by rfl) (by rfl) (by rfl) (by rfl) (H3.out.below (by repeat (first | (with_reducible exact Below.refl _ _) | (with_reducible exact bl_mm) | (with_reducible refine bl_dr ?_) | (with_reducible refine bl_drN ?_ _) | (with_reducible refine bl_al ?_ _) | (with_reducible refine bl_more ?_ _ _)))) (src_any (HL.out.src.below (by repeat (first | (with_reducible exact Below.refl _ _) | (with_reducible exact bl_mm) | (with_reducible refine bl_dr ?_) | (with_reducible refine bl_drN ?_ _) | (with_reducible refine bl_al ?_ _) | (with_reducible refine bl_more ?_ _ _))))) (fun b hb _ => hb.elim) HLEN.out ?_; intro v2 w2 g2 hs2 he2 hg2; obtain ⟨A2, c2, rfl, _, _⟩ := hs2.form; have d1 := ext_cell he2 h2 HDG.out; have d2 := ext_cell he2 c1 HDG.out; have d3 := ext_frz he2 hd f1 HDG.out; have d4 := ext_frz he2 hd f2 HDG.out; have d5 := ext_cell he2 b1 HBG.out; have d6 := ext_cell he2 b2 HCG.out; have hd2 : d < w2.heap.size := Nat.lt_of_lt_of_le hd he2.size; have HS2 := hid hs2; have HE2 := hid he2; have HG2 := hid hg2; clear hs2 he2 hg2))
  go_end0
  have hn65 := HN2.out
  have he2 : Ext (fun b => b = g ∧ capOf (.slice A s.fs[i].b.length c) ≠ 0) w w2 := ⟨HE2.out.os, HE2.out.tape, HE2.out.output, HE2.out.size, HE2.out.block⟩
  have hlen2 : (s.fs[i].b ++ l).length = s.fs[i].b.length + l.length := by simp
  have hE1 : Ext (fun b => b = d ∨ b = g) w2 (((w2.setCell ⟨d, i * 2, none⟩ (.slice A2 (s.fs[i].b.length + l.length) c2)).setCell ⟨d, 131, none⟩ (.int .i64 (s.room - (l.length : Int)))).drew) := (by repeat (first | (with_reducible exact Ext.refl _ _) | (with_reducible refine ex_dr ?_) | (with_reducible refine ex_drN ?_ _) | (with_reducible refine ex_al ?_ _) | (with_reducible refine ex_more ?_ _ _) | (with_reducible refine Ext.set ?_ _ _ _ (by first | exact rfl | exact .inl rfl | exact .inr rfl))))
  have hE : Ext (fun b => b = d ∨ b = g) w (((w2.setCell ⟨d, i * 2, none⟩ (.slice A2 (s.fs[i].b.length + l.length) c2)).setCell ⟨d, 131, none⟩ (.int .i64 (s.room - (l.length : Int)))).drew) := (he2.mono (T := fun b => b = d ∨ b = g) (fun x _ h => .inr h.1)).trans hE1 (fun _ _ h => h)
  have hblk2 : Blk w2 d := by
    obtain ⟨cur, h1, h2⟩ := HD.out.blk
    exact ⟨cur, (he2.block d hd HDG.out).trans h1, h2⟩
  have hw2 := he2.size
  refine ⟨rfl, ?_, (he2.mono (T := fun b => b = d ∨ G b) (fun x hx h => ?_)).trans ((by repeat (first | (with_reducible exact Ext.refl _ _) | (with_reducible refine ex_dr ?_) | (with_reducible refine ex_drN ?_ _) | (with_reducible refine ex_al ?_ _) | (with_reducible refine ex_more ?_ _ _) | (with_reducible refine Ext.set ?_ _ _ _ (by first | exact rfl | exact .inl rfl | exact .inr rfl)))) : Ext (fun b => b = d) w2 _) (fun _ _ h => .inl h)⟩
  · rw [app_eq hi]
    refine HP.out _ _ g2 _ _ _ _ (fun _ h _ => .inl h) hE (fun o ho k1 k2 => ?_) (blk_set (blk_set hblk2)) ?_ ?_ ?_ ?_ ?_ ?_ HN2.out
    · exact ((cell_off (by omega)).trans (cell_off (fun e => k1 e.symm))).trans (World.cell?_of_block (w := w) (he2.block d hd HDG.out))
    · exact ((cell_off (by omega)).trans (cell_off (by omega))).trans (ext_cell he2 hn0 HDG.out)
    · exact World.cell?_setCell_same (h := (cell_off (by omega)).trans d1) ..
    · exact ((cell_off (by omega)).trans (cell_off (by omega))).trans (ext_cell he2 hn1 HDG.out)
    · exact ((cell_off (by omega)).trans (cell_off (by omega))).trans (ext_cell he2 hn2 HDG.out)
    · refine ⟨.slice A2 (s.fs[i].b.length + l.length) c2, (cell_off (by omega)).trans (World.cell?_setCell_same (h := d2) ..), ((cell_off (by omega)).trans (cell_off (by omega))).trans (ext_cell he2 c3 HDG.out), ?_, ?_⟩
      · have hs := HS2.out
        rw [hlen2] at hs
        by_cases hc : c2 = 0
        · exact hs.empty hc
        · exact hs.step (fun cur hcur => (((by repeat (first | (with_reducible exact Ext.refl _ _) | (with_reducible refine ex_dr ?_) | (with_reducible refine ex_drN ?_ _) | (with_reducible refine ex_al ?_ _) | (with_reducible refine ex_more ?_ _ _) | (with_reducible refine Ext.set ?_ _ _ _ (by first | exact rfl | exact .inl rfl | exact .inr rfl)))) : Ext (fun b => b = d) w2 _).block g2 (Array.getElem?_eq_some_iff.1 hcur).1 (fun e => by have e' : g2 = d := e; have hs' := hs; rw [e'] at hs'; exact hc (spine_not_d hblk2 hs'))).trans hcur) (fun b hb _ => hb.1.elim)
      · rcases HG2.out with ⟨h, h', _⟩ | ⟨h, h'⟩
        · rw [h]
          exact HG.out.imp id (fun h => ⟨.inl h.1, by simp; omega⟩)
        · exact .inr ⟨.inr (by rw [h]; exact Nat.le_refl _), by rw [h]; simp at h' ⊢; omega⟩
    · rcases HG2.out with ⟨h, _⟩ | ⟨h, _⟩
      · exact .inl h
      · exact .inr (.inr (by rw [h]; exact Nat.le_refl _))
  · rcases HG.out with h4 | h4
    · exact .inl (h.1.trans h4)
    · exact .inr (by rw [h.1]; exact h4.1)

theorem DS.Ok.burn {s : DS} {C : Int} (h : s.Ok C) (hf : s.fuse ≠ 0) : s.burn.Ok C := by
  unfold DS.burn
  by_cases h0 : 0 < s.fuse
  · rw [if_pos h0]
    exact ⟨h.room, h.tot, h.n1, h.n2, h.sync, by show -1 ≤ s.fuse - 1; omega, by have := h.fuse2; show s.fuse - 1 ≤ _; omega⟩
  · rw [if_neg h0]; exact h
theorem alloc_blk2 {X : World} {o o' : Obj} {b : Nat} (h : b = X.heap.size) : ((X.alloc o).alloc o').heap[b]? = some o := by
  subst h
  rw [Below.heap_alloc _ _ _ (by simp)]
  exact heap_alloc_new X o
set_option maxHeartbeats 1000000 in
theorem append_burn {w : World} {d : Nat} {G K : Nat → Prop} {s : DS} {i : Nat} {C : Int} {B : Option Addr} {cb : Nat} {l : List UInt8} (h : Dk w d G s) (hs : s.Ok C) (hC : C ≤ 1000000000) (hdn : s.down = false) (hi : i < s.fs.length) (hf : 0 < s.fuse) (hl : u8E.Row K w (.slice B l.length cb) l) (hKd : ∀ b, K b → b ≠ d) (hfit : ¬ s.room < (l.length : Int)) :
    Calls Try.prog 23 #[.pointer (some ⟨d, 0, none⟩), .int .i64 i, .slice B l.length cb] w fun e w' => e = .returned (.int .i64 0) ∧ Dk w' d (fun b => G b ∨ w.heap.size ≤ b) (s.burn.app i l) ∧ Ext (fun b => b = d ∨ G b) w w' := by
  have h1 := h.down
  have h2 := h.room
  have k3 := h.fuse
  have f1 := h.frz 132
  obtain ⟨g, ⟨v, c1, c2, h3, h4⟩, _⟩ := h.take i hi
  obtain ⟨A, c, rfl, h5, h6⟩ := h3.form
  have hd := h.lt
  rw [hdn] at h1
  have hn : 1 ≤ s.fs.length := by omega
  have i1 : (0 : Int) ≤ (i : Int) := by omega
  have i2 : (i : Int) < 65 := by have := hs.n2; omega
  have j1 : (s.fuse == 0) = false := by simp; omega
  have j3 : 0 < s.fuse := hf
  have j2 : IntKind.i64.wrap (s.fuse - 1) = s.fuse - 1 := IntWalk.i64_in _ (by have := hs.fuse1; have := hs.fuse2; omega)
  have HFIT := hid (show (l.length : Int) ≤ s.room by omega)
  obtain ⟨x0, x1, x2, x3, x4, x5, x6, x7, x8, x9, x10, x11, x12, x13, x14, x15⟩ := offs hi hs.n2
  have HD := hid h
  have HN := hid hn
  have HI := hid hi
  have HN65 := hid hs.n2
  have HO := hid hs
  have HC := hid hC
  have HF := hid hf
  have HL := hid hl
  have HK := hid hKd
  clear h hn hdn h3 h4 h5 h6 hf hs hC hl hKd
  have HO2 : Hid (0 < s.fuse → DS.Ok { s with fuse := s.fuse - 1 } C) := hid (fun hp => ⟨HO.out.room, HO.out.tot, HO.out.n1, HO.out.n2, HO.out.sync, by have := HO.out.fuse1; show -1 ≤ s.fuse - 1; omega, by have := HO.out.fuse2; show s.fuse - 1 ≤ _; omega⟩)
  go_enter Try.func23, Try.ntmps23
  go_wp2_with (first | ((with_reducible refine wp_region_plan (id := 1) (.fin [(false, 0), (false, 1), (false, 2), (false, 3), (false, 4), (false, 5), (false, 6)]) ?_ ?_ ?_ ?_ ?_ ?_); kernel_rfl; kernel_rfl; kernel_rfl; kernel_rfl; (intro c a d v w h; cases d <;> exact h)) | (with_reducible refine wpPlan_eff ?_) | (with_reducible refine wpPlan_fin ?_) | (with_reducible refine wpPlan_two ?_) | (with_reducible refine wpOpPair ?_ ?_) | ((with_reducible apply wpPre_keep); rfl; intro K' hK'; go_simp; refine hK' _ _ ?_; intro f hf; clear hK' K') | ((with_reducible apply wpPre_drop); rfl; intro K' hK'; go_simp; refine hK' _ _ ?_; intro f; clear hK' K') | (with_reducible refine wpPre_nil ?_) | ((with_reducible apply wpOp_list); rfl) | (with_reducible refine heldPair ?_ ?_) | ((with_reducible refine heldH_no ?_ ?_); rfl) | (with_reducible refine heldH_yes ?_ ?_) | (with_reducible exact heldH_nil) | (unfold YAt; go_simp; done) | (go_at_call 38; go_in) | (go_at_call 35; refine (made_any (HD.out.below (by repeat (first | (with_reducible exact Below.refl _ _) | (with_reducible exact bl_mm) | (with_reducible refine bl_dr ?_) | (with_reducible refine bl_drN ?_ _) | (with_reducible refine bl_al ?_ _) | (with_reducible refine bl_more ?_ _ _)))) HN.out).mono ?_; rintro e w1 ⟨rfl, hb1⟩; obtain ⟨ex, dx, rfl⟩ := more_of hb1; clear hb1) | (go_at_call 33; refine (has_yes (HD.out.below (by repeat (first | (with_reducible exact Below.refl _ _) | (with_reducible exact bl_mm) | (with_reducible refine bl_dr ?_) | (with_reducible refine bl_drN ?_ _) | (with_reducible refine bl_al ?_ _) | (with_reducible refine bl_more ?_ _ _)))) i HI.out).mono ?_; rintro e w1 ⟨rfl, hb1⟩; obtain ⟨ex, dx, rfl⟩ := more_of hb1; clear hb1) | (go_at_call 42; go_in) | (go_at_call 43; refine (doApp (C := C) (bB := w.heap.size + 1) (bD := w.heap.size) ((HD.out.setFuse HN65.out (s.fuse - 1)).below (by repeat (first | (with_reducible exact Below.refl _ _) | (with_reducible exact bl_mm) | (with_reducible refine bl_dr ?_) | (with_reducible refine bl_drN ?_ _) | (with_reducible refine bl_al ?_ _) | (with_reducible refine bl_more ?_ _ _)))) (HO2.out HF.out) HC.out HI.out ((HL.out.step (w1 := w.setCell ⟨d, 132, none⟩ (.int .i64 (s.fuse - 1))) (fun b hb _ => Below.heap_setCell _ _ _ _ (HK.out b hb))).below (by repeat (first | (with_reducible exact Below.refl _ _) | (with_reducible exact bl_mm) | (with_reducible refine bl_dr ?_) | (with_reducible refine bl_drN ?_ _) | (with_reducible refine bl_al ?_ _) | (with_reducible refine bl_more ?_ _ _)))) HFIT.out ((more_heap (by simp only [more_size, World.size_alloc, World.size_setCell]; omega)).trans ((more_heap (by simp only [more_size, World.size_alloc, World.size_setCell]; omega)).trans (alloc_blk (by simp only [more_size, World.size_alloc, World.size_setCell])))) ((more_heap (by simp only [more_size, World.size_alloc, World.size_setCell]; omega)).trans ((more_heap (by simp only [more_size, World.size_alloc, World.size_setCell]; omega)).trans (alloc_blk2 (by simp only [more_size, World.size_alloc, World.size_setCell]))))).mono ?_; rintro e w3 ⟨rfl, hq, he⟩; have HQ := hid hq; have HE := hid he; clear hq he))
  go_ret
  refine ⟨rfl, ?_, Ext.trans (by repeat (first | (with_reducible exact Ext.refl _ _) | (with_reducible refine ex_dr ?_) | (with_reducible refine ex_drN ?_ _) | (with_reducible refine ex_al ?_ _) | (with_reducible refine ex_more ?_ _ _) | (with_reducible refine Ext.set ?_ _ _ _ (by first | exact rfl | exact .inl rfl | exact .inr rfl)))) HE.out (fun _ _ h => h)⟩
  rw [burn_yes HF.out]
  exact HQ.out.mono (fun b hb _ => hb.imp id (fun h => by simp only [more_size, World.size_alloc, World.size_setCell] at h; omega))
set_option maxHeartbeats 1000000 in
theorem append_bare {w : World} {d : Nat} {G K : Nat → Prop} {s : DS} {i : Nat} {C : Int} {B : Option Addr} {cb : Nat} {l : List UInt8} (h : Dk w d G s) (hs : s.Ok C) (hC : C ≤ 1000000000) (hdn : s.down = false) (hi : i < s.fs.length) (hf : s.fuse < 0) (hl : u8E.Row K w (.slice B l.length cb) l) (hKd : ∀ b, K b → b ≠ d) (hfit : ¬ s.room < (l.length : Int)) :
    Calls Try.prog 23 #[.pointer (some ⟨d, 0, none⟩), .int .i64 i, .slice B l.length cb] w fun e w' => e = .returned (.int .i64 0) ∧ Dk w' d (fun b => G b ∨ w.heap.size ≤ b) (s.burn.app i l) ∧ Ext (fun b => b = d ∨ G b) w w' := by
  have h1 := h.down
  have h2 := h.room
  have k3 := h.fuse
  have f1 := h.frz 132
  obtain ⟨g, ⟨v, c1, c2, h3, h4⟩, _⟩ := h.take i hi
  obtain ⟨A, c, rfl, h5, h6⟩ := h3.form
  have hd := h.lt
  rw [hdn] at h1
  have hn : 1 ≤ s.fs.length := by omega
  have i1 : (0 : Int) ≤ (i : Int) := by omega
  have i2 : (i : Int) < 65 := by have := hs.n2; omega
  have j1 : (s.fuse == 0) = false := by simp; omega
  have j3 : s.fuse < 0 := hf
  have j2 : IntKind.i64.wrap (s.fuse - 1) = s.fuse - 1 := IntWalk.i64_in _ (by have := hs.fuse1; have := hs.fuse2; omega)
  have HFIT := hid (show (l.length : Int) ≤ s.room by omega)
  obtain ⟨x0, x1, x2, x3, x4, x5, x6, x7, x8, x9, x10, x11, x12, x13, x14, x15⟩ := offs hi hs.n2
  have HD := hid h
  have HN := hid hn
  have HI := hid hi
  have HN65 := hid hs.n2
  have HO := hid hs
  have HC := hid hC
  have HF := hid hf
  have HL := hid hl
  have HK := hid hKd
  clear h hn hdn h3 h4 h5 h6 hf hs hC hl hKd
  have HO2 : Hid (0 < s.fuse → DS.Ok { s with fuse := s.fuse - 1 } C) := hid (fun hp => ⟨HO.out.room, HO.out.tot, HO.out.n1, HO.out.n2, HO.out.sync, by have := HO.out.fuse1; show -1 ≤ s.fuse - 1; omega, by have := HO.out.fuse2; show s.fuse - 1 ≤ _; omega⟩)
  go_enter Try.func23, Try.ntmps23
  go_wp2_with (first | ((with_reducible refine wp_region_plan (id := 1) (.fin [(false, 0), (false, 1), (false, 2), (false, 3), (false, 4), (false, 5), (false, 6)]) ?_ ?_ ?_ ?_ ?_ ?_); kernel_rfl; kernel_rfl; kernel_rfl; kernel_rfl; (intro c a d v w h; cases d <;> exact h)) | (with_reducible refine wpPlan_eff ?_) | (with_reducible refine wpPlan_fin ?_) | (with_reducible refine wpPlan_two ?_) | (with_reducible refine wpOpPair ?_ ?_) | ((with_reducible apply wpPre_keep); rfl; intro K' hK'; go_simp; refine hK' _ _ ?_; intro f hf; clear hK' K') | ((with_reducible apply wpPre_drop); rfl; intro K' hK'; go_simp; refine hK' _ _ ?_; intro f; clear hK' K') | (with_reducible refine wpPre_nil ?_) | ((with_reducible apply wpOp_list); rfl) | (with_reducible refine heldPair ?_ ?_) | ((with_reducible refine heldH_no ?_ ?_); rfl) | (with_reducible refine heldH_yes ?_ ?_) | (with_reducible exact heldH_nil) | (unfold YAt; go_simp; done) | (go_at_call 38; go_in) | (go_at_call 35; refine (made_any (HD.out.below (by repeat (first | (with_reducible exact Below.refl _ _) | (with_reducible exact bl_mm) | (with_reducible refine bl_dr ?_) | (with_reducible refine bl_drN ?_ _) | (with_reducible refine bl_al ?_ _) | (with_reducible refine bl_more ?_ _ _)))) HN.out).mono ?_; rintro e w1 ⟨rfl, hb1⟩; obtain ⟨ex, dx, rfl⟩ := more_of hb1; clear hb1) | (go_at_call 33; refine (has_yes (HD.out.below (by repeat (first | (with_reducible exact Below.refl _ _) | (with_reducible exact bl_mm) | (with_reducible refine bl_dr ?_) | (with_reducible refine bl_drN ?_ _) | (with_reducible refine bl_al ?_ _) | (with_reducible refine bl_more ?_ _ _)))) i HI.out).mono ?_; rintro e w1 ⟨rfl, hb1⟩; obtain ⟨ex, dx, rfl⟩ := more_of hb1; clear hb1) | (go_at_call 42; go_in) | (go_at_call 43; refine (doApp (C := C) (bB := w.heap.size + 1) (bD := w.heap.size) (HD.out.below (by repeat (first | (with_reducible exact Below.refl _ _) | (with_reducible exact bl_mm) | (with_reducible refine bl_dr ?_) | (with_reducible refine bl_drN ?_ _) | (with_reducible refine bl_al ?_ _) | (with_reducible refine bl_more ?_ _ _)))) HO.out HC.out HI.out (HL.out.below (by repeat (first | (with_reducible exact Below.refl _ _) | (with_reducible exact bl_mm) | (with_reducible refine bl_dr ?_) | (with_reducible refine bl_drN ?_ _) | (with_reducible refine bl_al ?_ _) | (with_reducible refine bl_more ?_ _ _)))) HFIT.out ((more_heap (by simp only [more_size, World.size_alloc, World.size_setCell]; omega)).trans ((more_heap (by simp only [more_size, World.size_alloc, World.size_setCell]; omega)).trans (alloc_blk (by simp only [more_size, World.size_alloc, World.size_setCell])))) ((more_heap (by simp only [more_size, World.size_alloc, World.size_setCell]; omega)).trans ((more_heap (by simp only [more_size, World.size_alloc, World.size_setCell]; omega)).trans (alloc_blk2 (by simp only [more_size, World.size_alloc, World.size_setCell]))))).mono ?_; rintro e w3 ⟨rfl, hq, he⟩; have HQ := hid hq; have HE := hid he; clear hq he))
  go_ret
  refine ⟨rfl, ?_, Ext.trans (by repeat (first | (with_reducible exact Ext.refl _ _) | (with_reducible refine ex_dr ?_) | (with_reducible refine ex_drN ?_ _) | (with_reducible refine ex_al ?_ _) | (with_reducible refine ex_more ?_ _ _) | (with_reducible refine Ext.set ?_ _ _ _ (by first | exact rfl | exact .inl rfl | exact .inr rfl)))) HE.out (fun _ _ h => h)⟩
  rw [burn_no HF.out]
  exact HQ.out.mono (fun b hb _ => hb.imp id (fun h => by simp only [more_size, World.size_alloc, World.size_setCell] at h; omega))
end Go.Proofs.Ytnobbehoojgfcaa
