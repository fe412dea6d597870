/- The document's disk. -/
import Derived.Test.YtnobbehoojgfcaaDkI
namespace Go.Proofs.Ytnobbehoojgfcaa
open Go.RowKit

def bs (l : List UInt8) : ByteArray := ⟨l.toArray⟩
@[go_sem] theorem bs_size (l : List UInt8) : (bs l).size = l.length := by simp [bs, ByteArray.size]
theorem bs_append (a b : List UInt8) : bs a ++ bs b = bs (a ++ b) := by
  apply ByteArray.ext
  simp [bs]
structure Rk (w : World) (r gF : Nat) (s : DS) : Prop where
  blk : ∃ cur, w.heap[r]? = some (.cells cur 60 (0, 0))
  f : w.cell? ⟨r, 0, none⟩ = some (.slice (some ⟨gF, 0, none⟩) s.fs.length s.fs.length)
  room : w.cell? ⟨r, 1, none⟩ = some (.int .i64 s.room)
  fuse : w.cell? ⟨r, 2, none⟩ = some (.int .i64 s.fuse)
  down : w.cell? ⟨r, 3, none⟩ = some (.bool s.down)
  row : ∃ cur, w.heap[gF]? = some (.cells cur 64 (0, 0))
  files : ∀ i (h : i < s.fs.length), w.cell? ⟨gF, i * 2, none⟩ = some (.string (bs s.fs[i].b)) ∧ w.cell? ⟨gF, i * 2 + 1, none⟩ = some (.int .i64 s.fs[i].synced)
theorem Rk.ext {w w' : World} {r gF : Nat} {S : Nat → Prop} {s : DS} (h : Rk w r gF s) (he : Ext S w w') (hr : ¬ S r) (hg : ¬ S gF) : Rk w' r gF s := by
  obtain ⟨c1, h1⟩ := h.blk
  obtain ⟨c2, h2⟩ := h.row
  exact ⟨⟨c1, (he.block r (Array.getElem?_eq_some_iff.1 h1).1 hr).trans h1⟩, ext_cell he h.f hr, ext_cell he h.room hr, ext_cell he h.fuse hr, ext_cell he h.down hr, ⟨c2, (he.block gF (Array.getElem?_eq_some_iff.1 h2).1 hg).trans h2⟩, fun i hi => ⟨ext_cell he (h.files i hi).1 hg, ext_cell he (h.files i hi).2 hg⟩⟩
theorem Rk.below {w w' : World} {r gF : Nat} {s : DS} (h : Rk w r gF s) (hb : Below w.heap.size w w') : Rk w' r gF s := by
  obtain ⟨c1, h1⟩ := h.blk
  obtain ⟨c2, h2⟩ := h.row
  exact ⟨⟨c1, (hb.block r (Array.getElem?_eq_some_iff.1 h1).1).trans h1⟩, cell_kept hb h.f, cell_kept hb h.room, cell_kept hb h.fuse, cell_kept hb h.down, ⟨c2, (hb.block gF (Array.getElem?_eq_some_iff.1 h2).1).trans h2⟩, fun i hi => ⟨cell_kept hb (h.files i hi).1, cell_kept hb (h.files i hi).2⟩⟩
theorem Rk.lt {w : World} {r gF : Nat} {s : DS} (h : Rk w r gF s) : r < w.heap.size ∧ gF < w.heap.size := by
  obtain ⟨c1, h1⟩ := h.blk
  obtain ⟨c2, h2⟩ := h.row
  exact ⟨(Array.getElem?_eq_some_iff.1 h1).1, (Array.getElem?_eq_some_iff.1 h2).1⟩
theorem Rk.ne {w : World} {r gF : Nat} {s : DS} (h : Rk w r gF s) : r ≠ gF := by
  obtain ⟨c1, h1⟩ := h.blk
  obtain ⟨c2, h2⟩ := h.row
  rintro rfl
  rw [h1] at h2; cases h2
theorem Rk.frz {w : World} {r gF : Nat} {s : DS} (h : Rk w r gF s) (i : Nat) : w.frozen? ⟨r, i, none⟩ = false ∧ w.frozen? ⟨gF, i, none⟩ = false := by
  obtain ⟨c1, h1⟩ := h.blk
  obtain ⟨c2, h2⟩ := h.row
  exact ⟨frz_blk h1 i, frz_blk h2 i⟩
theorem cell_blk_ne {w : World} {b o b' p : Nat} {v : Value} (h : b ≠ b') : (w.setCell ⟨b, o, none⟩ v).cell? ⟨b', p, none⟩ = w.cell? ⟨b', p, none⟩ := World.cell?_setCell_other (h := fun e => h (by cases e; rfl)) ..
theorem any_set {w : World} {b o : Nat} {v : Value} {t : TypeId} {b' : Nat} (h : ∃ cur, w.heap[b']? = some (.cells cur t (0, 0))) : ∃ cur, (w.setCell ⟨b, o, none⟩ v).heap[b']? = some (.cells cur t (0, 0)) := by
  obtain ⟨cur, h⟩ := h
  by_cases hb : b' = b
  · subst hb; exact ⟨cur.setIfInBounds o v, by simp [World.setCell, Array.getElem?_modify, h]⟩
  · exact ⟨cur, by rw [Below.heap_setCell _ _ _ _ hb]; exact h⟩
theorem Rk.setRoom {w : World} {r gF : Nat} {s : DS} (h : Rk w r gF s) (x : Int) : Rk (w.setCell ⟨r, 1, none⟩ (.int .i64 x)) r gF { s with room := x } :=
  ⟨any_set h.blk, (cell_off (by omega)).trans h.f, World.cell?_setCell_same (h := h.room) .., (cell_off (by omega)).trans h.fuse, (cell_off (by omega)).trans h.down, any_set h.row, fun i hi => ⟨(cell_blk_ne h.ne).trans (h.files i hi).1, (cell_blk_ne h.ne).trans (h.files i hi).2⟩⟩
theorem Rk.setFuse {w : World} {r gF : Nat} {s : DS} (h : Rk w r gF s) (x : Int) : Rk (w.setCell ⟨r, 2, none⟩ (.int .i64 x)) r gF { s with fuse := x } :=
  ⟨any_set h.blk, (cell_off (by omega)).trans h.f, (cell_off (by omega)).trans h.room, World.cell?_setCell_same (h := h.fuse) .., (cell_off (by omega)).trans h.down, any_set h.row, fun i hi => ⟨(cell_blk_ne h.ne).trans (h.files i hi).1, (cell_blk_ne h.ne).trans (h.files i hi).2⟩⟩
theorem Rk.setDown {w : World} {r gF : Nat} {s : DS} (h : Rk w r gF s) (x : Bool) : Rk (w.setCell ⟨r, 3, none⟩ (.bool x)) r gF { s with down := x } :=
  ⟨any_set h.blk, (cell_off (by omega)).trans h.f, (cell_off (by omega)).trans h.room, (cell_off (by omega)).trans h.fuse, World.cell?_setCell_same (h := h.down) .., any_set h.row, fun i hi => ⟨(cell_blk_ne h.ne).trans (h.files i hi).1, (cell_blk_ne h.ne).trans (h.files i hi).2⟩⟩
theorem Rk.setStr {w : World} {r gF : Nat} {s : DS} (h : Rk w r gF s) (i : Nat) (hi : i < s.fs.length) (l : List UInt8) : Rk (w.setCell ⟨gF, i * 2, none⟩ (.string (bs l))) r gF { s with fs := s.fs.set i ⟨l, s.fs[i].synced⟩ } := by
  refine ⟨any_set h.blk, ?_, (cell_blk_ne h.ne.symm).trans h.room, (cell_blk_ne h.ne.symm).trans h.fuse, (cell_blk_ne h.ne.symm).trans h.down, any_set h.row, fun k hk => ?_⟩
  · simpa using (cell_blk_ne h.ne.symm).trans h.f
  · have hk' : k < s.fs.length := by simpa using hk
    obtain ⟨h1, h2⟩ := h.files k hk'
    by_cases hki : i = k
    · subst hki
      simp only [List.getElem_set_self]
      exact ⟨World.cell?_setCell_same (h := h1) .., (cell_off (by omega)).trans h2⟩
    · simp only [List.getElem_set_ne hki]
      exact ⟨(cell_off (by omega)).trans h1, (cell_off (by omega)).trans h2⟩
theorem Rk.setSync {w : World} {r gF : Nat} {s : DS} (h : Rk w r gF s) (i : Nat) (hi : i < s.fs.length) (n : Nat) : Rk (w.setCell ⟨gF, i * 2 + 1, none⟩ (.int .i64 (n : Int))) r gF { s with fs := s.fs.set i ⟨s.fs[i].b, n⟩ } := by
  refine ⟨any_set h.blk, ?_, (cell_blk_ne h.ne.symm).trans h.room, (cell_blk_ne h.ne.symm).trans h.fuse, (cell_blk_ne h.ne.symm).trans h.down, any_set h.row, fun k hk => ?_⟩
  · simpa using (cell_blk_ne h.ne.symm).trans h.f
  · have hk' : k < s.fs.length := by simpa using hk
    obtain ⟨h1, h2⟩ := h.files k hk'
    by_cases hki : i = k
    · subst hki
      simp only [List.getElem_set_self]
      exact ⟨(cell_off (by omega)).trans h1, World.cell?_setCell_same (h := h2) ..⟩
    · simp only [List.getElem_set_ne hki]
      exact ⟨(cell_off (by omega)).trans h1, (cell_off (by omega)).trans h2⟩
set_option maxHeartbeats 1000000 in
theorem rburn_off {w : World} {r gF : Nat} {s : DS} {C : Int} (h : Rk w r gF s) (hs : s.Ok C) (hdn : s.down = false) (hf : s.fuse = 0) :
    Calls Try.prog 45 #[.pointer (some ⟨r, 0, none⟩)] w fun e w' => e = .returned (.bool true) ∧ Rk w' r gF ({ s with down := true }) ∧ Ext (fun b => b = r) w w' := by
  have h1 := h.fuse
  have h2 := h.down
  have f1 := (h.frz 2).1
  have f2 := (h.frz 3).1
  rw [hdn] at h2
  have j1 : (s.fuse == 0) = true := (by simp [hf])
  have j3 : ¬ 0 < s.fuse := by omega
  have j2 : IntKind.i64.wrap (s.fuse - 1) = s.fuse - 1 := IntWalk.i64_in _ (by have := hs.fuse1; have := hs.fuse2; omega)
  have hr := h.lt.1
  have HR := hid h
  have HF := hid hf
  clear h hs hdn hf
  go_enter Try.func45, Try.ntmps45
  go_wp2
  go_ret
  refine ⟨rfl, ?_, (by repeat (first | (with_reducible exact Ext.refl _ _) | (with_reducible refine ex_dr ?_) | (with_reducible refine ex_drN ?_ _) | (with_reducible refine ex_al ?_ _) | (with_reducible refine ex_more ?_ _ _) | (with_reducible refine Ext.set ?_ _ _ _ (by first | exact rfl | exact .inl rfl | exact .inr rfl))))⟩
  exact (HR.out.setDown true).below (by repeat (first | (with_reducible exact Below.refl _ _) | (with_reducible exact bl_mm) | (with_reducible refine bl_dr ?_) | (with_reducible refine bl_drN ?_ _) | (with_reducible refine bl_al ?_ _) | (with_reducible refine bl_more ?_ _ _)))
set_option maxHeartbeats 1000000 in
theorem rburn_burn {w : World} {r gF : Nat} {s : DS} {C : Int} (h : Rk w r gF s) (hs : s.Ok C) (hdn : s.down = false) (hf : 0 < s.fuse) :
    Calls Try.prog 45 #[.pointer (some ⟨r, 0, none⟩)] w fun e w' => e = .returned (.bool false) ∧ Rk w' r gF (s.burn) ∧ Ext (fun b => b = r) w w' := by
  have h1 := h.fuse
  have h2 := h.down
  have f1 := (h.frz 2).1
  have f2 := (h.frz 3).1
  rw [hdn] at h2
  have j1 : (s.fuse == 0) = false := (by simp; omega)
  have j3 : 0 < s.fuse := by omega
  have j2 : IntKind.i64.wrap (s.fuse - 1) = s.fuse - 1 := IntWalk.i64_in _ (by have := hs.fuse1; have := hs.fuse2; omega)
  have hr := h.lt.1
  have HR := hid h
  have HF := hid hf
  clear h hs hdn hf
  go_enter Try.func45, Try.ntmps45
  go_wp2
  go_ret
  refine ⟨rfl, ?_, (by repeat (first | (with_reducible exact Ext.refl _ _) | (with_reducible refine ex_dr ?_) | (with_reducible refine ex_drN ?_ _) | (with_reducible refine ex_al ?_ _) | (with_reducible refine ex_more ?_ _ _) | (with_reducible refine Ext.set ?_ _ _ _ (by first | exact rfl | exact .inl rfl | exact .inr rfl))))⟩
  (rw [burn_yes HF.out]; exact (HR.out.setFuse (s.fuse - 1)).below (by repeat (first | (with_reducible exact Below.refl _ _) | (with_reducible exact bl_mm) | (with_reducible refine bl_dr ?_) | (with_reducible refine bl_drN ?_ _) | (with_reducible refine bl_al ?_ _) | (with_reducible refine bl_more ?_ _ _))))
set_option maxHeartbeats 1000000 in
theorem rburn_bare {w : World} {r gF : Nat} {s : DS} {C : Int} (h : Rk w r gF s) (hs : s.Ok C) (hdn : s.down = false) (hf : s.fuse < 0) :
    Calls Try.prog 45 #[.pointer (some ⟨r, 0, none⟩)] w fun e w' => e = .returned (.bool false) ∧ Rk w' r gF (s.burn) ∧ Ext (fun b => b = r) w w' := by
  have h1 := h.fuse
  have h2 := h.down
  have f1 := (h.frz 2).1
  have f2 := (h.frz 3).1
  rw [hdn] at h2
  have j1 : (s.fuse == 0) = false := (by simp; omega)
  have j3 : ¬ 0 < s.fuse := by omega
  have j2 : IntKind.i64.wrap (s.fuse - 1) = s.fuse - 1 := IntWalk.i64_in _ (by have := hs.fuse1; have := hs.fuse2; omega)
  have hr := h.lt.1
  have HR := hid h
  have HF := hid hf
  clear h hs hdn hf
  go_enter Try.func45, Try.ntmps45
  go_wp2
  go_ret
  refine ⟨rfl, ?_, (by repeat (first | (with_reducible exact Ext.refl _ _) | (with_reducible refine ex_dr ?_) | (with_reducible refine ex_drN ?_ _) | (with_reducible refine ex_al ?_ _) | (with_reducible refine ex_more ?_ _ _) | (with_reducible refine Ext.set ?_ _ _ _ (by first | exact rfl | exact .inl rfl | exact .inr rfl))))⟩
  (rw [burn_no HF.out]; exact HR.out.below (by repeat (first | (with_reducible exact Below.refl _ _) | (with_reducible exact bl_mm) | (with_reducible refine bl_dr ?_) | (with_reducible refine bl_drN ?_ _) | (with_reducible refine bl_al ?_ _) | (with_reducible refine bl_more ?_ _ _))))
end Go.Proofs.Ytnobbehoojgfcaa
