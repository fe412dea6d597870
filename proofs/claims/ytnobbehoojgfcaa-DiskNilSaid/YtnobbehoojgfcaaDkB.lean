/- Files written. -/
import Derived.Test.YtnobbehoojgfcaaDkA
namespace Go.Proofs.Ytnobbehoojgfcaa
open Go.RowKit

theorem spine_not_d {w : World} {d : Nat} {v : Value} {b : List UInt8} {K : Nat → Prop} (h : Blk w d) (hs : u8E.Spine 5 K d w v b) : capOf v = 0 := by
  apply Classical.byContradiction
  intro hc
  obtain ⟨cur, h1, _⟩ := h
  obtain ⟨cur', h2⟩ := hs.type hc
  rw [h1] at h2
  cases h2
theorem Ext.drew {S : Nat → Prop} {a b : World} (h : Ext S a b) : Ext S a b.drew := ⟨h.os, h.tape, h.output, h.size, h.block⟩
theorem Ext.set {S : Nat → Prop} {a b : World} (h : Ext S a b) (k o : Nat) (v : Value) (hS : S k) : Ext S a (b.setCell ⟨k, o, none⟩ v) := h.trans (Ext.setCell (S := S) b ⟨k, o, none⟩ v hS) (fun _ _ h => h)
theorem ex_al {S : Nat → Prop} {a b : World} (h : Ext S a b) (o : Obj) : Ext S a (b.alloc o) := h.trans (Ext.alloc S b o) (fun _ _ h => h)
theorem ex_dr {S : Nat → Prop} {a b : World} (h : Ext S a b) : Ext S a b.drew := h.drew
theorem ex_drN {S : Nat → Prop} {a b : World} (h : Ext S a b) (n : Nat) : Ext S a (b.drewN n) := h.trans (Ext.drewN S b n) (fun _ _ h => h)
theorem ex_more {S : Nat → Prop} {a b : World} (h : Ext S a b) (e : Array Obj) (n : Nat) : Ext S a (more b e n) := h.trans (Ext.of_below (S := S) (more_below b e n)) (fun _ _ h => h)
theorem cell_off {w : World} {d o p : Nat} {v : Value} (h : o ≠ p) : (w.setCell ⟨d, o, none⟩ v).cell? ⟨d, p, none⟩ = w.cell? ⟨d, p, none⟩ := World.cell?_setCell_other (h := fun e => h (by cases e; rfl)) ..
/-- One file taken out; put back. -/
theorem Dk.take {w : World} {d : Nat} {G : Nat → Prop} {s : DS} (h : Dk w d G s) (i : Nat) (hi : i < s.fs.length) :
    ∃ g, FileAt w d G g i s.fs[i] ∧ ∀ (w' : World) (G' : Nat → Prop) (g' : Nat) (f' : DF) (room' fuse' : Int) (down' : Bool), (∀ b, G b → b < w.heap.size → G' b) → Ext (fun b => b = d ∨ b = g) w w' →
      (∀ o, o < 130 → o ≠ i * 2 → o ≠ i * 2 + 1 → w'.cell? ⟨d, o, none⟩ = w.cell? ⟨d, o, none⟩) → Blk w' d →
      w'.cell? ⟨d, 130, none⟩ = some (.int .i64 s.fs.length) → w'.cell? ⟨d, 131, none⟩ = some (.int .i64 room') → w'.cell? ⟨d, 132, none⟩ = some (.int .i64 fuse') → w'.cell? ⟨d, 133, none⟩ = some (.bool down') →
      FileAt w' d G' g' i f' → (g' = g ∨ g' = d ∨ w.heap.size ≤ g') → s.fs.length ≤ 65 → Dk w' d G' { fs := s.fs.set i f', room := room', fuse := fuse', down := down' } := by
  obtain ⟨gs, h3, h4⟩ := h.rows
  refine ⟨gs i, h3 i hi, fun w' G' g' f' room' fuse' down' hG he ho hb c0 c1 c2 c3 hf hg hn => ⟨hb, by simpa using c0, c1, c2, c3, fun k => if k = i then g' else gs k, fun k hk => ?_, fun a b ha hb' hab hg2 => ?_⟩⟩
  · have hk' : k < s.fs.length := by simpa using hk
    by_cases hki : k = i
    · subst hki
      simp only [if_true, List.getElem_set_self]
      exact hf
    · simp only [if_neg hki]
      rw [List.getElem_set_ne (fun e => hki e.symm)]
      obtain ⟨v, k1, k2, k3, k4⟩ := h3 k hk'
      have hs := he.size
      refine ⟨v, (ho _ (by omega) (by omega) (by omega)).trans k1, (ho _ (by omega) (by omega) (by omega)).trans k2, ?_, k4.imp id (fun h => ⟨hG _ h.1 h.2, by omega⟩)⟩
      by_cases hc : capOf v = 0
      · exact k3.empty hc
      · have hd : gs k ≠ d := fun e => hc (spine_not_d h.blk (e ▸ k3))
        exact k3.step (fun cur hcur => (he.block _ (Array.getElem?_eq_some_iff.1 hcur).1 (fun e => by
          rcases e with e | e
          · exact hd e
          · exact hd (h4 k i hk' hi hki e))).trans hcur) (fun b hb _ => hb.elim)
  · have ha' : a < s.fs.length := by simpa using ha
    have hb2 : b < s.fs.length := by simpa using hb'
    have lt : ∀ k, k < s.fs.length → gs k = d ∨ gs k < w.heap.size := fun k hk => by
      obtain ⟨v, _, _, _, k4⟩ := h3 k hk
      exact k4.imp id (fun h => h.2)
    have hd := h.lt
    by_cases hai : a = i
    · have hbi : b ≠ i := by omega
      subst hai
      simp only [if_true, if_neg hbi] at hg2 ⊢
      rcases hg with hg | hg | hg
      · rw [hg]; exact h4 a b ha' hb2 hab (by rw [← hg]; exact hg2)
      · exact hg
      · rcases lt b hb2 with h5 | h5 <;> omega
    · simp only [if_neg hai] at hg2 ⊢
      by_cases hbi : b = i
      · subst hbi
        simp only [if_true] at hg2
        rcases hg with hg | hg | hg
        · exact h4 a b ha' hb2 hab (by rw [← hg]; exact hg2)
        · rw [hg2]; exact hg
        · rcases lt a ha' with h5 | h5 <;> omega
      · simp only [if_neg hbi] at hg2
        exact h4 a b ha' hb2 hab hg2

theorem offs {i n : Nat} (hi : i < n) (hn : n ≤ 65) : ((i * 2 = 130) = False) ∧ ((130 = i * 2) = False) ∧ ((i * 2 + 1 = 130) = False) ∧ ((130 = i * 2 + 1) = False) ∧ ((i * 2 = 131) = False) ∧ ((131 = i * 2) = False) ∧ ((i * 2 + 1 = 131) = False) ∧ ((131 = i * 2 + 1) = False) ∧ ((i * 2 = 132) = False) ∧ ((132 = i * 2) = False) ∧ ((i * 2 + 1 = 132) = False) ∧ ((132 = i * 2 + 1) = False) ∧ ((i * 2 = 133) = False) ∧ ((133 = i * 2) = False) ∧ ((i * 2 + 1 = 133) = False) ∧ ((133 = i * 2 + 1) = False) := by
  refine ⟨?_, ?_, ?_, ?_, ?_, ?_, ?_, ?_, ?_, ?_, ?_, ?_, ?_, ?_, ?_, ?_⟩ <;> (simp only [eq_iff_iff, iff_false]; omega)
def DS.keep (s : DS) (i n : Nat) : DS := { s with room := s.room + ((s.fs.getD i ⟨[], 0⟩).b.length - n : Int), fs := s.fs.set i ⟨(s.fs.getD i ⟨[], 0⟩).b.take n, n⟩ }
set_option maxHeartbeats 1000000 in
theorem keep_any {w : World} {d : Nat} {G : Nat → Prop} {s : DS} {C : Int} (h : Dk w d G s) (hs : s.Ok C) (hC : C ≤ 1000000000000) (i : Nat) (hi : i < s.fs.length) (n : Nat) (hn : n ≤ s.fs[i].b.length) :
    Calls Try.prog 36 #[.pointer (some ⟨d, 0, none⟩), .pointer (some ⟨d, i * 2, none⟩), .int .i64 n] w fun e w' => e = .returned (.tuple #[]) ∧ Dk w' d G (s.keep i n) ∧ Ext (fun b => b = d) w w' := by
  obtain ⟨g, ⟨v, h1, h2, h3, h4⟩, hput⟩ := h.take i hi
  obtain ⟨A, c, rfl, h5, h6⟩ := h3.form
  have hroom := h.room
  have hfr := h.frz
  have hd := h.lt
  have f1 := hfr 131
  have f2 := hfr (i * 2)
  have f3 := hfr (i * 2 + 1)
  have hr1 := hs.roomC
  have hr0 := hs.room
  have hl := hs.len (List.getElem_mem hi)
  have m : (maxLen : Int) ≤ 9223372036854775807 := by unfold maxLen; omega
  have i1 : (0 : Int) ≤ (n : Int) := by omega
  have i2 : (n : Int) ≤ (c : Int) := by omega
  have w1 : IntKind.i64.wrap ((s.fs[i].b.length : Int) - (n : Int)) = (s.fs[i].b.length : Int) - (n : Int) := IntWalk.i64_in _ (by omega)
  have w2 : IntKind.i64.wrap (s.room + ((s.fs[i].b.length : Int) - (n : Int))) = s.room + ((s.fs[i].b.length : Int) - (n : Int)) := IntWalk.i64_in _ (by omega)
  obtain ⟨x0, x1, x2, x3, x4, x5, x6, x7, x8, x9, x10, x11, x12, x13, x14, x15⟩ := offs hi hs.n2
  have hn0 := h.n
  have hn1 := h.fuse
  have hn2 := h.down
  have hblk := h.blk
  have HB := hid hblk
  have HN2 := hid hs.n2
  have HG := hid h4
  clear hblk
  have HP := hid hput
  have HD := hid h
  have H3 := hid h3
  clear h hs hput hfr h3 h5 h6 m hr1 hr0 hl
  go_enter Try.func36, Try.ntmps36
  go_wp2_with (first | ((with_reducible refine wp_region_plan (id := 0) (.eff [(false, 0), (false, 1), (false, 2), (false, 3), (false, 4), (false, 5), (false, 6), (false, 7), (false, 8), (false, 9), (false, 10), (false, 11), (false, 12), (false, 13)] 14 [] (.fin [])) ?_ ?_ ?_ ?_ ?_ ?_); kernel_rfl; kernel_rfl; kernel_rfl; kernel_rfl; (intro c a d v w h; cases d <;> exact h)) | (with_reducible refine wpPlan_eff ?_) | (with_reducible refine wpPlan_fin ?_) | (with_reducible refine wpPlan_two ?_) | (with_reducible refine wpOpPair ?_ ?_) | ((with_reducible apply wpPre_keep); rfl; intro K' hK'; go_simp; refine hK' _ _ ?_; intro f hf; clear hK' K') | ((with_reducible apply wpPre_drop); rfl; intro K' hK'; go_simp; refine hK' _ _ ?_; intro f; clear hK' K') | (with_reducible refine wpPre_nil ?_) | ((with_reducible apply wpOp_list); rfl) | (with_reducible refine heldPair ?_ ?_) | ((with_reducible refine heldH_no ?_ ?_); rfl) | (with_reducible refine heldH_yes ?_ ?_) | (with_reducible exact heldH_nil) | (unfold YAt; go_simp; done))
  go_end0
  have hE : Ext (fun b => b = d) w ((((w.setCell ⟨d, 131, none⟩ (.int .i64 (s.room + ((s.fs[i].b.length : Int) - (n : Int))))).setCell ⟨d, i * 2, none⟩ (.slice A n n)).setCell ⟨d, i * 2 + 1, none⟩ (.int .i64 (n : Int))).drew) := (((Ext.refl (fun b => b = d) w).set d _ _ rfl).set d _ _ rfl |>.set d _ _ rfl).drew
  have hK : s.keep i n = { fs := s.fs.set i ⟨s.fs[i].b.take n, n⟩, room := s.room + ((s.fs[i].b.length : Int) - (n : Int)), fuse := s.fuse, down := s.down } := by
    unfold DS.keep; simp [hi]
  refine ⟨rfl, ?_, hE⟩
  rw [hK]
  refine HP.out _ _ g _ _ _ _ (fun _ h _ => h) (hE.mono (fun _ _ h => .inl h)) (fun o ho h1 h2 => ?_) ?_ ?_ ?_ ?_ ?_ ?_ (.inl rfl) HN2.out
  · exact (cell_off (fun e => h2 e.symm)).trans ((cell_off (fun e => h1 e.symm)).trans (cell_off (by omega)))
  · exact blk_set (blk_set (blk_set HB.out))
  · go_simp
  · go_simp
  · go_simp
  · go_simp
  · refine ⟨.slice A n n, by go_simp, by go_simp, ?_, HG.out.imp id (fun h => ⟨h.1, by go_simp⟩)⟩
    have ht := H3.out.take n n hn (Nat.le_refl _) (by have := i2; omega)
    by_cases hc : n = 0
    · subst hc; exact ht.empty rfl
    · exact ht.step (fun cur hcur => (hE.block g (Array.getElem?_eq_some_iff.1 hcur).1 (fun e => by
        have := spine_not_d HB.out (e ▸ ht)
        exact hc this)).trans hcur) (fun b hb _ => hb.elim)

theorem Dk.set {w : World} {d : Nat} {G : Nat → Prop} {s : DS} (h : Dk w d G s) (hn : s.fs.length ≤ 65) (o : Nat) (v : Value) (hv : v.oneCell' = true) (ho : 130 < o) (room' fuse' : Int) (down' : Bool)
    (h1 : (w.setCell ⟨d, o, none⟩ v).cell? ⟨d, 131, none⟩ = some (.int .i64 room')) (h2 : (w.setCell ⟨d, o, none⟩ v).cell? ⟨d, 132, none⟩ = some (.int .i64 fuse')) (h3 : (w.setCell ⟨d, o, none⟩ v).cell? ⟨d, 133, none⟩ = some (.bool down')) :
    Dk (w.setCell ⟨d, o, none⟩ v) d G { fs := s.fs, room := room', fuse := fuse', down := down' } := by
  obtain ⟨gs, h4, h5⟩ := h.rows
  refine ⟨blk_set h.blk hv, (cell_off (by omega)).trans h.n, h1, h2, h3, gs, fun i hi => ?_, h5⟩
  have hi' : i < s.fs.length := hi
  obtain ⟨x, k1, k2, k3, k4⟩ := h4 i hi
  refine ⟨x, (cell_off (by omega)).trans k1, (cell_off (by omega)).trans k2, ?_, k4.imp id (fun h => ⟨h.1, by simpa using h.2⟩)⟩
  by_cases hc : capOf x = 0
  · exact k3.empty hc
  · refine k3.step (fun cur hcur => ?_) (fun b hb _ => hb.elim)
    have hne : gs i ≠ d := fun e => hc (spine_not_d h.blk (e ▸ k3))
    rw [Below.heap_setCell _ _ _ _ hne]; exact hcur
theorem Dk.setFuse {w : World} {d : Nat} {G : Nat → Prop} {s : DS} (h : Dk w d G s) (hn : s.fs.length ≤ 65) (f : Int) : Dk (w.setCell ⟨d, 132, none⟩ (.int .i64 f)) d G { s with fuse := f } :=
  h.set hn _ _ rfl (by omega) _ _ _ ((cell_off (by omega)).trans h.room) (World.cell?_setCell_same (h := h.fuse) ..) ((cell_off (by omega)).trans h.down)
theorem Dk.setDown {w : World} {d : Nat} {G : Nat → Prop} {s : DS} (h : Dk w d G s) (hn : s.fs.length ≤ 65) (f : Bool) : Dk (w.setCell ⟨d, 133, none⟩ (.bool f)) d G { s with down := f } :=
  h.set hn _ _ rfl (by omega) _ _ _ ((cell_off (by omega)).trans h.room) ((cell_off (by omega)).trans h.fuse) (World.cell?_setCell_same (h := h.down) ..)
theorem Dk.setRoom {w : World} {d : Nat} {G : Nat → Prop} {s : DS} (h : Dk w d G s) (hn : s.fs.length ≤ 65) (f : Int) : Dk (w.setCell ⟨d, 131, none⟩ (.int .i64 f)) d G { s with room := f } :=
  h.set hn _ _ rfl (by omega) _ _ _ (World.cell?_setCell_same (h := h.room) ..) ((cell_off (by omega)).trans h.fuse) ((cell_off (by omega)).trans h.down)
end Go.Proofs.Ytnobbehoojgfcaa
