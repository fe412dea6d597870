/- Copies. -/
import Derived.Test.YtnobbehoojgfcaaDkH
namespace Go.Proofs.Ytnobbehoojgfcaa
open Go.RowKit

theorem alloc_setRow (w : World) (b : Nat) (old cs : Array Value) (t : TypeId) (h : b = w.heap.size) : (w.alloc (.cells old t)).setRow b cs = w.alloc (.cells cs t) := by
  subst h
  simp only [World.alloc, World.setRow, World.mk.injEq, and_true, true_and]
  apply Array.ext_getElem?
  intro i
  rw [Array.getElem?_modify]
  by_cases hi : w.heap.size = i
  · subst hi; simp
  · simp only [if_neg hi, Array.getElem?_push]
    split
    · exact absurd (by assumption) (by omega)
    · rfl
/-- Rows by which one may tell where they lie. -/
def Fresh (w : World) (c N j : Nat) : Prop := ∀ i, i < j → ∀ A len cap, w.cell? ⟨c, i * 2, none⟩ = some (.slice A len cap) → cap ≠ 0 → ∀ p, A = some p → N ≤ p.block
theorem Dk.fresh {w : World} {c N : Nat} {G : Nat → Prop} {s : DS} (h : Dk w c G s) (hf : Fresh w c N s.fs.length) : Dk w c (fun b => N ≤ b) s := by
  obtain ⟨gs, h3, h4⟩ := h.rows
  have key : ∀ i (hi : i < s.fs.length), ∃ g, FileAt w c (fun b => N ≤ b) g i s.fs[i] ∧ (g = c ∨ g = gs i) := by
    intro i hi
    obtain ⟨v, k1, k2, k3, k4⟩ := h3 i hi
    obtain ⟨A, cap, rfl, _, _⟩ := k3.form
    by_cases hc : cap = 0
    · exact ⟨c, ⟨_, k1, k2, k3.empty hc, .inl rfl⟩, .inl rfl⟩
    · have hA := k3
      obtain ⟨A', c', he, _, _, h9⟩ := hA
      obtain ⟨rfl, _, rfl⟩ := Value.slice.inj he
      obtain ⟨off, cur, cs, rfl, hb, _⟩ := h9 hc
      exact ⟨gs i, ⟨_, k1, k2, k3, .inr ⟨hf i hi _ _ _ k1 hc _ rfl, (Array.getElem?_eq_some_iff.1 hb).1⟩⟩, .inr rfl⟩
  refine ⟨h.blk, h.n, h.room, h.fuse, h.down, fun i => if hi : i < s.fs.length then Classical.choose (key i hi) else c, fun i hi => ?_, fun i j hi hj hij hg => ?_⟩
  · simp only [dif_pos hi]; exact (Classical.choose_spec (key i hi)).1
  · simp only [dif_pos hi, dif_pos hj] at hg ⊢
    rcases (Classical.choose_spec (key i hi)).2 with h5 | h5
    · exact h5
    · rcases (Classical.choose_spec (key j hj)).2 with h6 | h6
      · rw [hg]; exact h6
      · have h7 := h4 i j hi hj hij (by rw [← h5, ← h6]; exact hg)
        rw [h5, h7] at *
theorem Dk.dup {w W : World} {d c : Nat} {G : Nat → Prop} {s : DS} {cur : Array Value} (h : Dk w d G s) (hb : w.heap[d]? = some (.cells cur 55 (0, 0))) (hW : Below w.heap.size w W) (hc : W.heap[c]? = some (.cells cur 55 (0, 0))) (hge : w.heap.size ≤ c) : Dk W c (fun _ => True) s := by
  obtain ⟨cur', k1, k2, k3⟩ := h.blk
  obtain rfl : cur' = cur := by rw [hb] at k1; cases k1; rfl
  have hcell : ∀ o v, w.cell? ⟨d, o, none⟩ = some v → W.cell? ⟨c, o, none⟩ = some v := fun o v hv => by rw [cell_blk hb] at hv; rw [cell_blk hc]; exact hv
  obtain ⟨gs, h3, h4⟩ := h.rows
  have hlt := h.lt
  have hsz := hW.size
  refine ⟨⟨cur', hc, k2, k3⟩, hcell _ _ h.n, hcell _ _ h.room, hcell _ _ h.fuse, hcell _ _ h.down, fun i => if gs i = d then c else gs i, fun i hi => ?_, fun i j hi hj hij hg => ?_⟩
  · obtain ⟨v, m1, m2, m3, m4⟩ := h3 i hi
    by_cases hd : gs i = d
    · simp only [if_pos hd]
      rw [hd] at m3
      exact ⟨v, hcell _ _ m1, hcell _ _ m2, m3.empty (spine_not_d h.blk m3), .inl rfl⟩
    · simp only [if_neg hd]
      exact ⟨v, hcell _ _ m1, hcell _ _ m2, m3.below hW, .inr ⟨trivial, by have := m4.resolve_left hd; omega⟩⟩
  · have lt : ∀ k, k < s.fs.length → gs k < w.heap.size := fun k hk => by
      obtain ⟨v, _, _, _, m4⟩ := h3 k hk
      rcases m4 with m4 | m4
      · omega
      · exact m4.2
    by_cases hd : gs i = d
    · simp only [if_pos hd]
    · by_cases hd2 : gs j = d
      · simp only [if_neg hd, if_pos hd2] at hg
        have := lt i hi
        omega
      · simp only [if_neg hd, if_neg hd2] at hg
        exact absurd (h4 i j hi hj hij hg) hd

theorem cell_in {w : World} {c o p : Nat} {v : Value} {ex : Array Obj} {n : Nat} (hc : c < w.heap.size) : (more (w.setCell ⟨c, o, none⟩ v) ex n).cell? ⟨c, p, none⟩ = (w.setCell ⟨c, o, none⟩ v).cell? ⟨c, p, none⟩ := more_cell (by simpa using hc)
theorem Dk.reRow {w : World} {c : Nat} {G : Nat → Prop} {s : DS} (h : Dk w c G s) (hn : s.fs.length ≤ 65) {j : Nat} (hj : j < s.fs.length) {ex : Array Obj} {n g1 cap : Nat} {A1 : Option Addr}
    (hs : u8E.Spine 5 (fun _ => False) g1 (more w ex n) (.slice A1 s.fs[j].b.length cap) s.fs[j].b) (hg : w.heap.size ≤ g1) : Dk (more (w.setCell ⟨c, j * 2, none⟩ (.slice A1 s.fs[j].b.length cap)) ex n) c (fun _ => True) s := by
  obtain ⟨g, ⟨v, c1, c2, h3, h4⟩, hput⟩ := h.take j hj
  have hc := h.lt
  have hE : Ext (fun b => b = c) w (more (w.setCell ⟨c, j * 2, none⟩ (.slice A1 s.fs[j].b.length cap)) ex n) := (by repeat (first | (with_reducible exact Ext.refl _ _) | (with_reducible refine ex_dr ?_) | (with_reducible refine ex_drN ?_ _) | (with_reducible refine ex_al ?_ _) | (with_reducible refine ex_more ?_ _ _) | (with_reducible refine Ext.set ?_ _ _ _ (by first | exact rfl | exact .inl rfl | exact .inr rfl))))
  have hcl : ∀ o, o ≠ j * 2 → (more (w.setCell ⟨c, j * 2, none⟩ (.slice A1 s.fs[j].b.length cap)) ex n).cell? ⟨c, o, none⟩ = w.cell? ⟨c, o, none⟩ := fun o ho => (cell_in hc).trans (cell_off (fun e => ho e.symm))
  have hblk : Blk (more (w.setCell ⟨c, j * 2, none⟩ (.slice A1 s.fs[j].b.length cap)) ex n) c := by
    obtain ⟨cur, k1, k2⟩ := blk_set (o := j * 2) (v := .slice A1 s.fs[j].b.length cap) h.blk
    exact ⟨cur, (more_heap (by simpa using hc)).trans k1, k2⟩
  have hcell : (more (w.setCell ⟨c, j * 2, none⟩ (.slice A1 s.fs[j].b.length cap)) ex n).cell? ⟨c, j * 2, none⟩ = some (.slice A1 s.fs[j].b.length cap) := (cell_in hc).trans (World.cell?_setCell_same (h := c1) ..)
  have hfin : ∀ g', FileAt (more (w.setCell ⟨c, j * 2, none⟩ (.slice A1 s.fs[j].b.length cap)) ex n) c (fun _ => True) g' j s.fs[j] → (g' = g ∨ g' = c ∨ w.heap.size ≤ g') → Dk (more (w.setCell ⟨c, j * 2, none⟩ (.slice A1 s.fs[j].b.length cap)) ex n) c (fun _ => True) s := by
    intro g' hf hgg
    have := hput _ _ g' s.fs[j] s.room s.fuse s.down (fun _ _ _ => trivial) (hE.mono (fun _ _ h => .inl h)) (fun o _ h1 _ => hcl o h1) hblk ((hcl _ (by omega)).trans h.n) ((hcl _ (by omega)).trans h.room) ((hcl _ (by omega)).trans h.fuse) ((hcl _ (by omega)).trans h.down) hf hgg hn
    rw [List.set_getElem_self] at this
    exact this
  by_cases hcap : cap = 0
  · exact hfin c ⟨_, hcell, (hcl _ (by omega)).trans c2, hs.empty hcap, .inl rfl⟩ (.inr (.inl rfl))
  · refine hfin g1 ⟨_, hcell, (hcl _ (by omega)).trans c2, hs.step (fun cur hcur => ?_) (fun b hb _ => hb.elim), .inr ⟨trivial, ?_⟩⟩ (.inr (.inr hg))
    · rw [more_swap (W := w) (d := n) (by simp) hg]; exact hcur
    · obtain ⟨cur, hcur⟩ := hs.type hcap
      have := (Array.getElem?_eq_some_iff.1 hcur).1
      simp only [more_size, World.size_setCell] at this ⊢
      exact this
theorem Fresh.step {w : World} {c N j : Nat} {ex : Array Obj} {n g1 cap len : Nat} {A1 : Option Addr} {xs : List UInt8} {W : World} (h : Fresh w c N j) (hc : c < w.heap.size) (hv : ∃ u, w.cell? ⟨c, j * 2, none⟩ = some u)
    (hs : u8E.Spine 5 (fun _ => False) g1 W (.slice A1 len cap) xs) (hg : N ≤ g1) : Fresh (more (w.setCell ⟨c, j * 2, none⟩ (.slice A1 len cap)) ex n) c N (j + 1) := by
  intro i hi A l k hcell hk p hp
  obtain ⟨u, hv⟩ := hv
  rw [cell_in hc] at hcell
  by_cases hij : i = j
  · subst hij
    rw [World.cell?_setCell_same (h := hv)] at hcell
    cases hcell
    obtain ⟨A', c', he, _, _, h9⟩ := hs
    obtain ⟨rfl, _, rfl⟩ := Value.slice.inj he
    obtain ⟨off, cur, cs, rfl, _⟩ := h9 hk
    cases hp
    exact hg
  · rw [cell_off (by omega)] at hcell
    exact h i (by omega) A l k hcell hk p hp

set_option maxRecDepth 8000 in
set_option maxHeartbeats 2000000 in
theorem copy_any {w : World} {d : Nat} {G : Nat → Prop} {s : DS} {C : Int} (h : Dk w d G s) (hs : s.Ok C) (hC : C ≤ 1000000000) :
    Calls Try.prog 26 #[.pointer (some ⟨d, 0, none⟩)] w fun e w' => ∃ c, e = .returned (.pointer (some ⟨c, 0, none⟩)) ∧ w.heap.size ≤ c ∧ Dk w' c (fun b => w.heap.size ≤ b) s ∧ Below w.heap.size w w' := by
  obtain ⟨cur, k1, k2, k3⟩ := h.blk
  have hd := h.lt
  have hz := zero55
  have HD := hid h
  have HN := hid hs.n1
  have HN2 := hid hs.n2
  have HS := hid hs
  have HC := hid hC
  have hinfo : (Try.prog.info? 55).map (·.size) = some cur.size := by rw [k2]; kernel_rfl
  have HB := hid (And.intro k1 (And.intro k2 hinfo))
  have HONE := hid k3
  clear h hs hC k1 k2 k3 hinfo
  go_enter Try.func26, Try.ntmps26
  go_wp2_with (first | (go_at_call 35; refine (made_any (HD.out.below (by repeat (first | (with_reducible exact Below.refl _ _) | (with_reducible exact bl_mm) | (with_reducible refine bl_dr ?_) | (with_reducible refine bl_drN ?_ _) | (with_reducible refine bl_al ?_ _) | (with_reducible refine bl_more ?_ _ _)))) HN.out).mono ?_; rintro e w1 ⟨rfl, hb1⟩; obtain ⟨ex, dx, rfl⟩ := more_of hb1; clear hb1) | (refine wpList_load_row rfl 55 (.tmp 9) rfl d rfl 55 cur (0, 0) _ ((more_heap hd).trans HB.out.1) Try.underlying55 rfl HB.out.2.2 ?_) | (refine wpList_store_row rfl 55 (.tmp 3) (.tmp 10) rfl _ cur rfl rfl 55 zs55 (alloc_blk (by simp only [more_size])) HB.out.2.2 (by rw [zs_size, HB.out.2.1]) (Array.all_eq_true_iff_forall_mem.2 (fun u hu => HONE.out u (by simpa using hu))) ?_; rw [alloc_setRow _ _ _ _ _ (by simp only [more_size])]; obtain ⟨W, hW⟩ : ∃ W, W = (more w ex dx).alloc (.cells cur 55) := ⟨_, rfl⟩; obtain ⟨cc, hc⟩ : ∃ cc, cc = w.heap.size + ex.size := ⟨_, rfl⟩; rw [← hW, ← hc]; have hbw : Below w.heap.size w W := hW ▸ (show Below w.heap.size w ((more w ex dx).alloc (.cells cur 55)) from (by repeat (first | (with_reducible exact Below.refl _ _) | (with_reducible exact bl_mm) | (with_reducible refine bl_dr ?_) | (with_reducible refine bl_drN ?_ _) | (with_reducible refine bl_al ?_ _) | (with_reducible refine bl_more ?_ _ _)))); have hcc : W.heap[cc]? = some (.cells cur 55 (0, 0)) := hW ▸ (alloc_blk (hc.trans (by simp only [more_size]))); have hge : w.heap.size ≤ cc := (by omega); have hq := HD.out.dup HB.out.1 hbw hcc hge; have hn := hq.n; have HQ := hid hq; have HW := hid hbw; have HGE := hid hge; clear hW hc hbw hcc hge hq))
  go_loopg [13] s.fs.length (fun k i wr => ∃ j : Nat, j + k = s.fs.length ∧ i = .int .i64 j ∧ Dk wr cc (fun _ => True) s ∧ Below w.heap.size w wr ∧ Fresh wr cc w.heap.size j)
  case atStart => exact ⟨0, by omega, rfl, HQ.out, HW.out, fun i hi => by omega⟩
  case round =>
    obtain ⟨j, hj, rfl, hq, hb, hf⟩ := hrel
    have HQ := hid hq
    have HJ := hid hj
    have HBW := hid hb
    have HF := hid hf
    clear HW
    by_cases hlt : j < s.fs.length
    · obtain ⟨g, ⟨v, c1, c2, h3, h4⟩, hput⟩ := hq.take j hlt
      obtain ⟨A, c, rfl, -, -⟩ := h3.form
      have f1 := hq.frz (j * 2)
      have hcl := hq.lt
      have i1 : (j : Int) < (s.fs.length : Int) := by omega
      have i2 : (0 : Int) ≤ (j : Int) := by omega
      have i3 : (j : Int) < 65 := by have := HN2.out; omega
      have w1 : IntKind.i64.wrap ((j : Int) + 1) = ((j + 1 : Nat) : Int) := by rw [IntWalk.i64_in _ (by omega)]; rfl
      have HL := hid (show s.fs[j].b.length ≤ 4294967296 by have := HS.out.len (List.getElem_mem hlt); have := HC.out; omega)
      have HP := hid hput
      have H3 := hid h3
      have C2 := hid c2
      clear hq hb hf hput h3 h4 hj c2
      go_wp2_with (first | (go_at_call 34; refine (clone_bytes ((spine_src H3.out).below (by repeat (first | (with_reducible exact Below.refl _ _) | (with_reducible exact bl_mm) | (with_reducible refine bl_dr ?_) | (with_reducible refine bl_drN ?_ _) | (with_reducible refine bl_al ?_ _) | (with_reducible refine bl_more ?_ _ _)))) HL.out).mono ?_; rintro e w1 ⟨v1, g1, rfl, hs1, hg1, hb1⟩; obtain ⟨A1, c1', rfl, _, _⟩ := hs1.form; obtain ⟨ex, dx, rfl⟩ := more_of hb1; clear hb1; have HS1 := hid hs1; have HG1 := hid hg1; clear hs1 hg1))
      go_roundg (s.fs.length - (j + 1))
      case measure => have := HJ.out; omega
      case rel =>
        refine ⟨j + 1, by have := HJ.out; omega, rfl, HQ.out.reRow HN2.out hlt HS1.out HG1.out, ?_, HF.out.step hcl ⟨_, c1⟩ HS1.out (Nat.le_trans HBW.out.size HG1.out)⟩
        exact Ext.toBelow (S := fun b => b = cc) (Ext.trans (Ext.of_below HBW.out) ((by repeat (first | (with_reducible exact Ext.refl _ _) | (with_reducible refine ex_dr ?_) | (with_reducible refine ex_drN ?_ _) | (with_reducible refine ex_al ?_ _) | (with_reducible refine ex_more ?_ _ _) | (with_reducible refine Ext.set ?_ _ _ _ (by first | exact rfl | exact .inl rfl | exact .inr rfl)))) : Ext (fun b => b = cc) wr _) (fun _ _ h => h)) (Nat.le_refl _) (fun x hx e => by have := HGE.out; have e' : x = cc := e; omega)
    · obtain rfl : j = s.fs.length := by omega
      have i1 : ¬ (s.fs.length : Int) < (s.fs.length : Int) := by omega
      clear hq hb hf hj
      go_wp2
      go_ret
      exact ⟨cc, rfl, HGE.out, (HQ.out.below (by repeat (first | (with_reducible exact Below.refl _ _) | (with_reducible exact bl_mm) | (with_reducible refine bl_dr ?_) | (with_reducible refine bl_drN ?_ _) | (with_reducible refine bl_al ?_ _) | (with_reducible refine bl_more ?_ _ _)))).fresh HF.out, HBW.out⟩
end Go.Proofs.Ytnobbehoojgfcaa
