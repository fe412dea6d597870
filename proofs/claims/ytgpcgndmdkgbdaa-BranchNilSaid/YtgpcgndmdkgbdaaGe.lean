/- The document's disk. -/
import Derived.Test.YtgpcgndmdkgbdaaGd
import Derived.Laws.MakeOwn
import Derived.Laws.BytesArg
/- The document's disk. -/
namespace Go.Proofs.Ytgpcgndmdkgbdaa
open Go.RowKit

def bs (l : List UInt8) : ByteArray := ⟨l.toArray⟩
@[go_sem] theorem bs_size (l : List UInt8) : (bs l).size = l.length := by simp [bs, ByteArray.size]
theorem bs_append (a b : List UInt8) : bs a ++ bs b = bs (a ++ b) := by
  apply ByteArray.ext
  simp [bs]
structure Rk (w : World) (r gF : Nat) (s : DS) : Prop where
  blk : ∃ cur, w.heap[r]? = some (.cells cur 106 (0, 0))
  f : w.cell? ⟨r, 0, none⟩ = some (.slice (some ⟨gF, 0, none⟩) s.fs.length s.fs.length)
  room : w.cell? ⟨r, 1, none⟩ = some (.int .i64 s.room)
  fuse : w.cell? ⟨r, 2, none⟩ = some (.int .i64 s.fuse)
  down : w.cell? ⟨r, 3, none⟩ = some (.bool s.down)
  row : ∃ cur, w.heap[gF]? = some (.cells cur 103 (0, 0))
  files : ∀ i (h : i < s.fs.length), w.cell? ⟨gF, i * 2, none⟩ = some (.string (bs s.fs[i].b)) ∧ w.cell? ⟨gF, i * 2 + 1, none⟩ = some (.int .i64 s.fs[i].synced)
theorem Rk.ext {w w' : World} {r gF : Nat} {S : Nat → Prop} {s : DS} (h : Rk w r gF s) (he : Ext S w w') (hr : ¬ S r) (hg : ¬ S gF) : Rk w' r gF s := by
  obtain ⟨c1, h1⟩ := h.blk
  obtain ⟨c2, h2⟩ := h.row
  exact ⟨⟨c1, (he.block r (Array.getElem?_eq_some_iff.1 h1).1 hr).trans h1⟩, ext_cell he h.f hr, ext_cell he h.room hr, ext_cell he h.fuse hr, ext_cell he h.down hr, ⟨c2, (he.block gF (Array.getElem?_eq_some_iff.1 h2).1 hg).trans h2⟩, fun i hi => ⟨ext_cell he (h.files i hi).1 hg, ext_cell he (h.files i hi).2 hg⟩⟩
theorem Rk.below {w w' : World} {r gF : Nat} {s : DS} (h : Rk w r gF s) (hb : Below w.heap.size w w') : Rk w' r gF s := by
  obtain ⟨c1, h1⟩ := h.blk
  obtain ⟨c2, h2⟩ := h.row
  exact ⟨⟨c1, (hb.block r (Array.getElem?_eq_some_iff.1 h1).1).trans h1⟩, cell_kept hb h.f, cell_kept hb h.room, cell_kept hb h.fuse, cell_kept hb h.down, ⟨c2, (hb.block gF (Array.getElem?_eq_some_iff.1 h2).1).trans h2⟩, fun i hi => ⟨cell_kept hb (h.files i hi).1, cell_kept hb (h.files i hi).2⟩⟩
theorem Rk.lt {w : World} {r gF : Nat} {s : DS} (h : Rk w r gF s) : r < w.heap.size ∧ gF < w.heap.size := by
  obtain ⟨c1, h1⟩ := h.blk
  obtain ⟨c2, h2⟩ := h.row
  exact ⟨(Array.getElem?_eq_some_iff.1 h1).1, (Array.getElem?_eq_some_iff.1 h2).1⟩
theorem Rk.ne {w : World} {r gF : Nat} {s : DS} (h : Rk w r gF s) : r ≠ gF := by
  obtain ⟨c1, h1⟩ := h.blk
  obtain ⟨c2, h2⟩ := h.row
  rintro rfl
  rw [h1] at h2; cases h2
theorem Rk.frz {w : World} {r gF : Nat} {s : DS} (h : Rk w r gF s) (i : Nat) : w.frozen? ⟨r, i, none⟩ = false ∧ w.frozen? ⟨gF, i, none⟩ = false := by
  obtain ⟨c1, h1⟩ := h.blk
  obtain ⟨c2, h2⟩ := h.row
  exact ⟨frz_blk h1 i, frz_blk h2 i⟩
theorem cell_blk_ne {w : World} {b o b' p : Nat} {v : Value} (h : b ≠ b') : (w.setCell ⟨b, o, none⟩ v).cell? ⟨b', p, none⟩ = w.cell? ⟨b', p, none⟩ := World.cell?_setCell_other (h := fun e => h (by cases e; rfl)) ..
theorem any_set {w : World} {b o : Nat} {v : Value} {t : TypeId} {b' : Nat} (h : ∃ cur, w.heap[b']? = some (.cells cur t (0, 0))) : ∃ cur, (w.setCell ⟨b, o, none⟩ v).heap[b']? = some (.cells cur t (0, 0)) := by
  obtain ⟨cur, h⟩ := h
  by_cases hb : b' = b
  · subst hb; exact ⟨cur.setIfInBounds o v, by simp [World.setCell, Array.getElem?_modify, h]⟩
  · exact ⟨cur, by rw [Below.heap_setCell _ _ _ _ hb]; exact h⟩
theorem Rk.setRoom {w : World} {r gF : Nat} {s : DS} (h : Rk w r gF s) (x : Int) : Rk (w.setCell ⟨r, 1, none⟩ (.int .i64 x)) r gF { s with room := x } :=
  ⟨any_set h.blk, (cell_off (by omega)).trans h.f, World.cell?_setCell_same (h := h.room) .., (cell_off (by omega)).trans h.fuse, (cell_off (by omega)).trans h.down, any_set h.row, fun i hi => ⟨(cell_blk_ne h.ne).trans (h.files i hi).1, (cell_blk_ne h.ne).trans (h.files i hi).2⟩⟩
theorem Rk.setFuse {w : World} {r gF : Nat} {s : DS} (h : Rk w r gF s) (x : Int) : Rk (w.setCell ⟨r, 2, none⟩ (.int .i64 x)) r gF { s with fuse := x } :=
  ⟨any_set h.blk, (cell_off (by omega)).trans h.f, (cell_off (by omega)).trans h.room, World.cell?_setCell_same (h := h.fuse) .., (cell_off (by omega)).trans h.down, any_set h.row, fun i hi => ⟨(cell_blk_ne h.ne).trans (h.files i hi).1, (cell_blk_ne h.ne).trans (h.files i hi).2⟩⟩
theorem Rk.setDown {w : World} {r gF : Nat} {s : DS} (h : Rk w r gF s) (x : Bool) : Rk (w.setCell ⟨r, 3, none⟩ (.bool x)) r gF { s with down := x } :=
  ⟨any_set h.blk, (cell_off (by omega)).trans h.f, (cell_off (by omega)).trans h.room, (cell_off (by omega)).trans h.fuse, World.cell?_setCell_same (h := h.down) .., any_set h.row, fun i hi => ⟨(cell_blk_ne h.ne).trans (h.files i hi).1, (cell_blk_ne h.ne).trans (h.files i hi).2⟩⟩
theorem Rk.setStr {w : World} {r gF : Nat} {s : DS} (h : Rk w r gF s) (i : Nat) (hi : i < s.fs.length) (l : List UInt8) : Rk (w.setCell ⟨gF, i * 2, none⟩ (.string (bs l))) r gF { s with fs := s.fs.set i ⟨l, s.fs[i].synced⟩ } := by
  refine ⟨any_set h.blk, ?_, (cell_blk_ne h.ne.symm).trans h.room, (cell_blk_ne h.ne.symm).trans h.fuse, (cell_blk_ne h.ne.symm).trans h.down, any_set h.row, fun k hk => ?_⟩
  · simpa using (cell_blk_ne h.ne.symm).trans h.f
  · have hk' : k < s.fs.length := by simpa using hk
    obtain ⟨h1, h2⟩ := h.files k hk'
    by_cases hki : i = k
    · subst hki
      simp only [List.getElem_set_self]
      exact ⟨World.cell?_setCell_same (h := h1) .., (cell_off (by omega)).trans h2⟩
    · simp only [List.getElem_set_ne hki]
      exact ⟨(cell_off (by omega)).trans h1, (cell_off (by omega)).trans h2⟩
theorem Rk.setSync {w : World} {r gF : Nat} {s : DS} (h : Rk w r gF s) (i : Nat) (hi : i < s.fs.length) (n : Nat) : Rk (w.setCell ⟨gF, i * 2 + 1, none⟩ (.int .i64 (n : Int))) r gF { s with fs := s.fs.set i ⟨s.fs[i].b, n⟩ } := by
  refine ⟨any_set h.blk, ?_, (cell_blk_ne h.ne.symm).trans h.room, (cell_blk_ne h.ne.symm).trans h.fuse, (cell_blk_ne h.ne.symm).trans h.down, any_set h.row, fun k hk => ?_⟩
  · simpa using (cell_blk_ne h.ne.symm).trans h.f
  · have hk' : k < s.fs.length := by simpa using hk
    obtain ⟨h1, h2⟩ := h.files k hk'
    by_cases hki : i = k
    · subst hki
      simp only [List.getElem_set_self]
      exact ⟨(cell_off (by omega)).trans h1, World.cell?_setCell_same (h := h2) ..⟩
    · simp only [List.getElem_set_ne hki]
      exact ⟨(cell_off (by omega)).trans h1, (cell_off (by omega)).trans h2⟩
set_option maxHeartbeats 1000000 in
theorem rburn_off {w : World} {r gF : Nat} {s : DS} {C : Int} (h : Rk w r gF s) (hs : s.Ok C) (hdn : s.down = false) (hf : s.fuse = 0) :
    Calls Try.prog 77 #[.pointer (some ⟨r, 0, none⟩)] w fun e w' => e = .returned (.bool true) ∧ Rk w' r gF ({ s with down := true }) ∧ Ext (fun b => b = r) w w' := by
  have h1 := h.fuse
  have h2 := h.down
  have f1 := (h.frz 2).1
  have f2 := (h.frz 3).1
  rw [hdn] at h2
  have j1 : (s.fuse == 0) = true := (by simp [hf])
  have j3 : ¬ 0 < s.fuse := by omega
  have j2 : IntKind.i64.wrap (s.fuse - 1) = s.fuse - 1 := IntWalk.i64_in _ (by have := hs.fuse1; have := hs.fuse2; omega)
  have hr := h.lt.1
  have HR := hid h
  have HF := hid hf
  clear h hs hdn hf
  go_enter Try.func77, Try.ntmps77
  go_wp2
  go_ret
  refine ⟨rfl, ?_, (by repeat (first | (with_reducible exact Ext.refl _ _) | (with_reducible refine ex_dr ?_) | (with_reducible refine ex_drN ?_ _) | (with_reducible refine ex_al ?_ _) | (with_reducible refine ex_more ?_ _ _) | (with_reducible refine Ext.set ?_ _ _ _ (by first | exact rfl | exact .inl rfl | exact .inr rfl))))⟩
  exact (HR.out.setDown true).below (by repeat (first | (with_reducible exact Below.refl _ _) | (with_reducible exact bl_mm) | (with_reducible refine bl_dr ?_) | (with_reducible refine bl_drN ?_ _) | (with_reducible refine bl_al ?_ _) | (with_reducible refine bl_more ?_ _ _)))
set_option maxHeartbeats 1000000 in
theorem rburn_burn {w : World} {r gF : Nat} {s : DS} {C : Int} (h : Rk w r gF s) (hs : s.Ok C) (hdn : s.down = false) (hf : 0 < s.fuse) :
    Calls Try.prog 77 #[.pointer (some ⟨r, 0, none⟩)] w fun e w' => e = .returned (.bool false) ∧ Rk w' r gF (s.burn) ∧ Ext (fun b => b = r) w w' := by
  have h1 := h.fuse
  have h2 := h.down
  have f1 := (h.frz 2).1
  have f2 := (h.frz 3).1
  rw [hdn] at h2
  have j1 : (s.fuse == 0) = false := (by simp; omega)
  have j3 : 0 < s.fuse := by omega
  have j2 : IntKind.i64.wrap (s.fuse - 1) = s.fuse - 1 := IntWalk.i64_in _ (by have := hs.fuse1; have := hs.fuse2; omega)
  have hr := h.lt.1
  have HR := hid h
  have HF := hid hf
  clear h hs hdn hf
  go_enter Try.func77, Try.ntmps77
  go_wp2
  go_ret
  refine ⟨rfl, ?_, (by repeat (first | (with_reducible exact Ext.refl _ _) | (with_reducible refine ex_dr ?_) | (with_reducible refine ex_drN ?_ _) | (with_reducible refine ex_al ?_ _) | (with_reducible refine ex_more ?_ _ _) | (with_reducible refine Ext.set ?_ _ _ _ (by first | exact rfl | exact .inl rfl | exact .inr rfl))))⟩
  (rw [burn_yes HF.out]; exact (HR.out.setFuse (s.fuse - 1)).below (by repeat (first | (with_reducible exact Below.refl _ _) | (with_reducible exact bl_mm) | (with_reducible refine bl_dr ?_) | (with_reducible refine bl_drN ?_ _) | (with_reducible refine bl_al ?_ _) | (with_reducible refine bl_more ?_ _ _))))
set_option maxHeartbeats 1000000 in
theorem rburn_bare {w : World} {r gF : Nat} {s : DS} {C : Int} (h : Rk w r gF s) (hs : s.Ok C) (hdn : s.down = false) (hf : s.fuse < 0) :
    Calls Try.prog 77 #[.pointer (some ⟨r, 0, none⟩)] w fun e w' => e = .returned (.bool false) ∧ Rk w' r gF (s.burn) ∧ Ext (fun b => b = r) w w' := by
  have h1 := h.fuse
  have h2 := h.down
  have f1 := (h.frz 2).1
  have f2 := (h.frz 3).1
  rw [hdn] at h2
  have j1 : (s.fuse == 0) = false := (by simp; omega)
  have j3 : ¬ 0 < s.fuse := by omega
  have j2 : IntKind.i64.wrap (s.fuse - 1) = s.fuse - 1 := IntWalk.i64_in _ (by have := hs.fuse1; have := hs.fuse2; omega)
  have hr := h.lt.1
  have HR := hid h
  have HF := hid hf
  clear h hs hdn hf
  go_enter Try.func77, Try.ntmps77
  go_wp2
  go_ret
  refine ⟨rfl, ?_, (by repeat (first | (with_reducible exact Ext.refl _ _) | (with_reducible refine ex_dr ?_) | (with_reducible refine ex_drN ?_ _) | (with_reducible refine ex_al ?_ _) | (with_reducible refine ex_more ?_ _ _) | (with_reducible refine Ext.set ?_ _ _ _ (by first | exact rfl | exact .inl rfl | exact .inr rfl))))⟩
  (rw [burn_no HF.out]; exact HR.out.below (by repeat (first | (with_reducible exact Below.refl _ _) | (with_reducible exact bl_mm) | (with_reducible refine bl_dr ?_) | (with_reducible refine bl_drN ?_ _) | (with_reducible refine bl_al ?_ _) | (with_reducible refine bl_more ?_ _ _))))
end Go.Proofs.Ytgpcgndmdkgbdaa

/- What the document's calls do. -/
namespace Go.Proofs.Ytgpcgndmdkgbdaa
open Go.RowKit

theorem rburn_any {w : World} {r gF : Nat} {s : DS} {C : Int} (h : Rk w r gF s) (hs : s.Ok C) (hdn : s.down = false) (hf : s.fuse ≠ 0) :
    Calls Try.prog 77 #[.pointer (some ⟨r, 0, none⟩)] w fun e w' => e = .returned (.bool false) ∧ ∃ f', s.burn = { s with fuse := f' } ∧ Rk w' r gF { s with fuse := f' } ∧ Ext (fun b => b = r) w w' := by
  by_cases h0 : 0 < s.fuse
  · refine (rburn_burn h hs hdn h0).mono ?_
    rintro e w' ⟨h1, h2, h3⟩
    rw [burn_yes h0] at h2
    exact ⟨h1, _, burn_yes h0, h2, h3⟩
  · have h1 : s.fuse < 0 := by omega
    refine (rburn_bare h hs hdn h1).mono ?_
    rintro e w' ⟨h2, h3, h4⟩
    rw [burn_no h1] at h3
    exact ⟨h2, s.fuse, burn_no h1, h3, h4⟩
set_option maxHeartbeats 1000000 in
theorem rhas_yes {w : World} {r gF : Nat} {s : DS} (h : Rk w r gF s) (i : Nat) (hi : i < s.fs.length) : Calls Try.prog 76 #[.pointer (some ⟨r, 0, none⟩), .int .i64 i] w fun e w' => e = .returned (.bool true) ∧ Below w.heap.size w w' := by
  have h1 := h.f
  have i1 : (i : Int) < (s.fs.length : Int) := by omega
  have i2 : (0 : Int) ≤ (i : Int) := by omega
  clear h hi
  go_enter Try.func76, Try.ntmps76
  go_wp2
  go_ret
  exact ⟨rfl, (by repeat (first | (with_reducible exact Below.refl _ _) | (with_reducible exact bl_mm) | (with_reducible refine bl_dr ?_) | (with_reducible refine bl_drN ?_ _) | (with_reducible refine bl_al ?_ _) | (with_reducible refine bl_more ?_ _ _)))⟩
set_option maxHeartbeats 1000000 in
theorem rhas_no {w : World} {r gF : Nat} {s : DS} (h : Rk w r gF s) (i : Int) (hi : i < 0 ∨ s.fs.length ≤ i) : Calls Try.prog 76 #[.pointer (some ⟨r, 0, none⟩), .int .i64 i] w fun e w' => e = .returned (.bool false) ∧ Below w.heap.size w w' := by
  have h1 := h.f
  clear h
  rcases hi with hi | hi
  · have i2 : ¬ (0 : Int) ≤ i := by omega
    go_enter Try.func76, Try.ntmps76
    go_wp2
    go_ret
    exact ⟨rfl, (by repeat (first | (with_reducible exact Below.refl _ _) | (with_reducible exact bl_mm) | (with_reducible refine bl_dr ?_) | (with_reducible refine bl_drN ?_ _) | (with_reducible refine bl_al ?_ _) | (with_reducible refine bl_more ?_ _ _)))⟩
  · have i2 : (0 : Int) ≤ i := by omega
    have i1 : decide (i < (s.fs.length : Int)) = false := by simp; omega
    clear hi
    go_enter Try.func76, Try.ntmps76
    go_wp2
    go_ret
    exact ⟨rfl, (by repeat (first | (with_reducible exact Below.refl _ _) | (with_reducible exact bl_mm) | (with_reducible refine bl_dr ?_) | (with_reducible refine bl_drN ?_ _) | (with_reducible refine bl_al ?_ _) | (with_reducible refine bl_more ?_ _ _)))⟩

/-- A call that writes: what becomes of the disk, and the answer. -/
def doW (s : DS) (i : Int) (may : Nat → Int) (act : DS → Nat → DS) : DS × Int :=
  if s.down = true then (s, 9) else if i < 0 ∨ (s.fs.length : Int) ≤ i then (s, 2) else if may i.toNat ≠ 0 then (s, may i.toNat) else if s.fuse = 0 then ({ s with down := true }, 9) else (act s.burn i.toNat, 0)
def appR (s : DS) (i : Int) (l : List UInt8) : DS × Int := doW s i (fun _ => if s.room < (l.length : Int) then 8 else 0) (fun s i => s.app i l)
def syncR (s : DS) (i : Int) : DS × Int := doW s i (fun _ => 0) (fun s i => s.sync i)
def cutR (s : DS) (i n : Int) : DS × Int := doW s i (fun k => if n < 0 ∨ ((s.fs.getD k ⟨[], 0⟩).b.length : Int) < n then 2 else 0) (fun s k => s.keep k n.toNat)
/-- Its ways. -/
inductive Way (s : DS) (i : Int) (may : Nat → Int) (act : DS → Nat → DS) : DS × Int → Prop
  | down (h : s.down = true) : Way s i may act (s, 9)
  | none (h : s.down = false) (hi : i < 0 ∨ (s.fs.length : Int) ≤ i) : Way s i may act (s, 2)
  | may (k : Nat) (h : s.down = false) (hk : i = k) (hi : k < s.fs.length) (hm : may k ≠ 0) : Way s i may act (s, may k)
  | off (k : Nat) (h : s.down = false) (hk : i = k) (hi : k < s.fs.length) (hm : may k = 0) (hf : s.fuse = 0) : Way s i may act ({ s with down := true }, 9)
  | done (k : Nat) (h : s.down = false) (hk : i = k) (hi : k < s.fs.length) (hm : may k = 0) (hf : s.fuse ≠ 0) : Way s i may act (act s.burn k, 0)
theorem doW_way (s : DS) (i : Int) (may : Nat → Int) (act : DS → Nat → DS) : Way s i may act (doW s i may act) := by
  unfold doW
  by_cases h1 : s.down = true
  · rw [if_pos h1]; exact .down h1
  · rw [if_neg h1]
    have h1' : s.down = false := by simpa using h1
    by_cases h2 : i < 0 ∨ (s.fs.length : Int) ≤ i
    · rw [if_pos h2]; exact .none h1' h2
    · rw [if_neg h2]
      obtain ⟨k, rfl⟩ : ∃ k : Nat, i = k := ⟨i.toNat, by omega⟩
      have hk : k < s.fs.length := by omega
      simp only [Int.toNat_natCast]
      by_cases h3 : may k ≠ 0
      · rw [if_pos h3]; exact .may k h1' rfl hk h3
      · rw [if_neg h3]
        have h3' : may k = 0 := by simpa using h3
        by_cases h4 : s.fuse = 0
        · rw [if_pos h4]; exact .off k h1' rfl hk h3' h4
        · rw [if_neg h4]; exact .done k h1' rfl hk h3' h4

set_option maxHeartbeats 1000000 in
theorem rapp_down {w : World} {r gF : Nat} {s : DS} {i : Int} {l : List UInt8} (h : Rk w r gF s) (hdn : s.down = true) :
    Calls Try.prog 47 #[.pointer (some ⟨r, 0, none⟩), .int .i64 i, .string (bs l)] w fun e w' => e = .returned (.int .i64 9) ∧ Below w.heap.size w w' := by
  have h1 := h.down
  rw [hdn] at h1
  clear h hdn
  go_enter Try.func47, Try.ntmps47
  go_wp2_with (first | ((with_reducible refine wp_region_plan (id := 9) (.eff [(false, 0), (false, 1), (false, 2), (false, 3), (false, 4), (false, 5), (false, 6), (false, 7), (false, 8), (false, 9), (false, 10), (false, 11), (false, 12), (false, 13), (false, 14), (false, 15), (false, 16)] 17 [] (.fin [])) ?_ ?_ ?_ ?_ ?_ ?_); kernel_rfl; kernel_rfl; kernel_rfl; kernel_rfl; (intro c a d v w h; cases d <;> exact h)) | (with_reducible refine wpPlan_eff ?_) | (with_reducible refine wpPlan_fin ?_) | (with_reducible refine wpPlan_two ?_) | (with_reducible refine wpOpPair ?_ ?_) | ((with_reducible apply wpPre_keep); rfl; intro K' hK'; go_simp; refine hK' _ _ ?_; intro f hf; clear hK' K') | ((with_reducible apply wpPre_drop); rfl; intro K' hK'; go_simp; refine hK' _ _ ?_; intro f; clear hK' K') | (with_reducible refine wpPre_nil ?_) | ((with_reducible apply wpOp_list); rfl) | (with_reducible refine heldPair ?_ ?_) | ((with_reducible refine heldH_no ?_ ?_); rfl) | (with_reducible refine heldH_yes ?_ ?_) | (with_reducible exact heldH_nil) | (unfold YAt; go_simp; done))
  go_ret
  exact ⟨rfl, (by repeat (first | (with_reducible exact Below.refl _ _) | (with_reducible exact bl_mm) | (with_reducible refine bl_dr ?_) | (with_reducible refine bl_drN ?_ _) | (with_reducible refine bl_al ?_ _) | (with_reducible refine bl_more ?_ _ _)))⟩
set_option maxHeartbeats 1000000 in
theorem rsync_down {w : World} {r gF : Nat} {s : DS} {i : Int} (h : Rk w r gF s) (hdn : s.down = true) :
    Calls Try.prog 45 #[.pointer (some ⟨r, 0, none⟩), .int .i64 i] w fun e w' => e = .returned (.int .i64 9) ∧ Below w.heap.size w w' := by
  have h1 := h.down
  rw [hdn] at h1
  clear h hdn
  go_enter Try.func45, Try.ntmps45
  go_wp2_with (first | ((with_reducible refine wp_region_plan (id := 7) (.eff [(false, 0), (false, 1), (false, 2), (false, 3), (false, 4), (false, 5), (false, 6), (false, 7), (false, 8), (false, 9), (false, 10), (false, 11), (false, 12), (false, 13), (false, 14), (false, 15)] 16 [] (.fin [])) ?_ ?_ ?_ ?_ ?_ ?_); kernel_rfl; kernel_rfl; kernel_rfl; kernel_rfl; (intro c a d v w h; cases d <;> exact h)) | (with_reducible refine wpPlan_eff ?_) | (with_reducible refine wpPlan_fin ?_) | (with_reducible refine wpPlan_two ?_) | (with_reducible refine wpOpPair ?_ ?_) | ((with_reducible apply wpPre_keep); rfl; intro K' hK'; go_simp; refine hK' _ _ ?_; intro f hf; clear hK' K') | ((with_reducible apply wpPre_drop); rfl; intro K' hK'; go_simp; refine hK' _ _ ?_; intro f; clear hK' K') | (with_reducible refine wpPre_nil ?_) | ((with_reducible apply wpOp_list); rfl) | (with_reducible refine heldPair ?_ ?_) | ((with_reducible refine heldH_no ?_ ?_); rfl) | (with_reducible refine heldH_yes ?_ ?_) | (with_reducible exact heldH_nil) | (unfold YAt; go_simp; done))
  go_ret
  exact ⟨rfl, (by repeat (first | (with_reducible exact Below.refl _ _) | (with_reducible exact bl_mm) | (with_reducible refine bl_dr ?_) | (with_reducible refine bl_drN ?_ _) | (with_reducible refine bl_al ?_ _) | (with_reducible refine bl_more ?_ _ _)))⟩
set_option maxHeartbeats 1000000 in
theorem rcut_down {w : World} {r gF : Nat} {s : DS} {i n : Int} (h : Rk w r gF s) (hdn : s.down = true) :
    Calls Try.prog 75 #[.pointer (some ⟨r, 0, none⟩), .int .i64 i, .int .i64 n] w fun e w' => e = .returned (.int .i64 9) ∧ Below w.heap.size w w' := by
  have h1 := h.down
  rw [hdn] at h1
  clear h hdn
  go_enter Try.func75, Try.ntmps75
  go_wp2_with (first | ((with_reducible refine wp_region_plan (id := 7) (.eff [(false, 0), (false, 1), (false, 2), (false, 3), (false, 4), (false, 5), (false, 6), (false, 7), (false, 8), (false, 9), (false, 10), (false, 11), (false, 12), (false, 13), (false, 14), (false, 15), (false, 16), (false, 17), (false, 18)] 19 [] (.fin [])) ?_ ?_ ?_ ?_ ?_ ?_); kernel_rfl; kernel_rfl; kernel_rfl; kernel_rfl; (intro c a d v w h; cases d <;> exact h)) | ((with_reducible refine wp_region_plan (id := 8) (.eff [(false, 0), (false, 1), (false, 2), (false, 3), (false, 4), (false, 5), (false, 6), (false, 7), (false, 8), (false, 9), (false, 10), (false, 11), (false, 12), (false, 13), (false, 14), (false, 15), (false, 16), (false, 17)] 18 [] (.fin [])) ?_ ?_ ?_ ?_ ?_ ?_); kernel_rfl; kernel_rfl; kernel_rfl; kernel_rfl; (intro c a d v w h; cases d <;> exact h)) | (with_reducible refine wpPlan_eff ?_) | (with_reducible refine wpPlan_fin ?_) | (with_reducible refine wpPlan_two ?_) | (with_reducible refine wpOpPair ?_ ?_) | ((with_reducible apply wpPre_keep); rfl; intro K' hK'; go_simp; refine hK' _ _ ?_; intro f hf; clear hK' K') | ((with_reducible apply wpPre_drop); rfl; intro K' hK'; go_simp; refine hK' _ _ ?_; intro f; clear hK' K') | (with_reducible refine wpPre_nil ?_) | ((with_reducible apply wpOp_list); rfl) | (with_reducible refine heldPair ?_ ?_) | ((with_reducible refine heldH_no ?_ ?_); rfl) | (with_reducible refine heldH_yes ?_ ?_) | (with_reducible exact heldH_nil) | (unfold YAt; go_simp; done))
  go_ret
  exact ⟨rfl, (by repeat (first | (with_reducible exact Below.refl _ _) | (with_reducible exact bl_mm) | (with_reducible refine bl_dr ?_) | (with_reducible refine bl_drN ?_ _) | (with_reducible refine bl_al ?_ _) | (with_reducible refine bl_more ?_ _ _)))⟩
set_option maxHeartbeats 1000000 in
theorem rapp_none {w : World} {r gF : Nat} {s : DS} {i : Int} {l : List UInt8} (h : Rk w r gF s) (hdn : s.down = false) (hi : i < 0 ∨ s.fs.length ≤ i) :
    Calls Try.prog 47 #[.pointer (some ⟨r, 0, none⟩), .int .i64 i, .string (bs l)] w fun e w' => e = .returned (.int .i64 2) ∧ Below w.heap.size w w' := by
  have h1 := h.down
  rw [hdn] at h1
  have HR := hid h
  have HI := hid hi
  clear h hdn hi
  go_enter Try.func47, Try.ntmps47
  go_wp2_with (first | ((with_reducible refine wp_region_plan (id := 9) (.eff [(false, 0), (false, 1), (false, 2), (false, 3), (false, 4), (false, 5), (false, 6), (false, 7), (false, 8), (false, 9), (false, 10), (false, 11), (false, 12), (false, 13), (false, 14), (false, 15), (false, 16)] 17 [] (.fin [])) ?_ ?_ ?_ ?_ ?_ ?_); kernel_rfl; kernel_rfl; kernel_rfl; kernel_rfl; (intro c a d v w h; cases d <;> exact h)) | (with_reducible refine wpPlan_eff ?_) | (with_reducible refine wpPlan_fin ?_) | (with_reducible refine wpPlan_two ?_) | (with_reducible refine wpOpPair ?_ ?_) | ((with_reducible apply wpPre_keep); rfl; intro K' hK'; go_simp; refine hK' _ _ ?_; intro f hf; clear hK' K') | ((with_reducible apply wpPre_drop); rfl; intro K' hK'; go_simp; refine hK' _ _ ?_; intro f; clear hK' K') | (with_reducible refine wpPre_nil ?_) | ((with_reducible apply wpOp_list); rfl) | (with_reducible refine heldPair ?_ ?_) | ((with_reducible refine heldH_no ?_ ?_); rfl) | (with_reducible refine heldH_yes ?_ ?_) | (with_reducible exact heldH_nil) | (unfold YAt; go_simp; done) | (go_at_call 76; refine (rhas_no (HR.out.below (by repeat (first | (with_reducible exact Below.refl _ _) | (with_reducible exact bl_mm) | (with_reducible refine bl_dr ?_) | (with_reducible refine bl_drN ?_ _) | (with_reducible refine bl_al ?_ _) | (with_reducible refine bl_more ?_ _ _)))) _ HI.out).mono ?_; rintro e w1 ⟨rfl, hb1⟩; obtain ⟨ex, dx, rfl⟩ := more_of hb1; clear hb1))
  go_ret
  exact ⟨rfl, (by repeat (first | (with_reducible exact Below.refl _ _) | (with_reducible exact bl_mm) | (with_reducible refine bl_dr ?_) | (with_reducible refine bl_drN ?_ _) | (with_reducible refine bl_al ?_ _) | (with_reducible refine bl_more ?_ _ _)))⟩
set_option maxHeartbeats 1000000 in
theorem rsync_none {w : World} {r gF : Nat} {s : DS} {i : Int} (h : Rk w r gF s) (hdn : s.down = false) (hi : i < 0 ∨ s.fs.length ≤ i) :
    Calls Try.prog 45 #[.pointer (some ⟨r, 0, none⟩), .int .i64 i] w fun e w' => e = .returned (.int .i64 2) ∧ Below w.heap.size w w' := by
  have h1 := h.down
  rw [hdn] at h1
  have HR := hid h
  have HI := hid hi
  clear h hdn hi
  go_enter Try.func45, Try.ntmps45
  go_wp2_with (first | ((with_reducible refine wp_region_plan (id := 7) (.eff [(false, 0), (false, 1), (false, 2), (false, 3), (false, 4), (false, 5), (false, 6), (false, 7), (false, 8), (false, 9), (false, 10), (false, 11), (false, 12), (false, 13), (false, 14), (false, 15)] 16 [] (.fin [])) ?_ ?_ ?_ ?_ ?_ ?_); kernel_rfl; kernel_rfl; kernel_rfl; kernel_rfl; (intro c a d v w h; cases d <;> exact h)) | (with_reducible refine wpPlan_eff ?_) | (with_reducible refine wpPlan_fin ?_) | (with_reducible refine wpPlan_two ?_) | (with_reducible refine wpOpPair ?_ ?_) | ((with_reducible apply wpPre_keep); rfl; intro K' hK'; go_simp; refine hK' _ _ ?_; intro f hf; clear hK' K') | ((with_reducible apply wpPre_drop); rfl; intro K' hK'; go_simp; refine hK' _ _ ?_; intro f; clear hK' K') | (with_reducible refine wpPre_nil ?_) | ((with_reducible apply wpOp_list); rfl) | (with_reducible refine heldPair ?_ ?_) | ((with_reducible refine heldH_no ?_ ?_); rfl) | (with_reducible refine heldH_yes ?_ ?_) | (with_reducible exact heldH_nil) | (unfold YAt; go_simp; done) | (go_at_call 76; refine (rhas_no (HR.out.below (by repeat (first | (with_reducible exact Below.refl _ _) | (with_reducible exact bl_mm) | (with_reducible refine bl_dr ?_) | (with_reducible refine bl_drN ?_ _) | (with_reducible refine bl_al ?_ _) | (with_reducible refine bl_more ?_ _ _)))) _ HI.out).mono ?_; rintro e w1 ⟨rfl, hb1⟩; obtain ⟨ex, dx, rfl⟩ := more_of hb1; clear hb1))
  go_ret
  exact ⟨rfl, (by repeat (first | (with_reducible exact Below.refl _ _) | (with_reducible exact bl_mm) | (with_reducible refine bl_dr ?_) | (with_reducible refine bl_drN ?_ _) | (with_reducible refine bl_al ?_ _) | (with_reducible refine bl_more ?_ _ _)))⟩
set_option maxHeartbeats 1000000 in
theorem rcut_none {w : World} {r gF : Nat} {s : DS} {i n : Int} (h : Rk w r gF s) (hdn : s.down = false) (hi : i < 0 ∨ s.fs.length ≤ i) :
    Calls Try.prog 75 #[.pointer (some ⟨r, 0, none⟩), .int .i64 i, .int .i64 n] w fun e w' => e = .returned (.int .i64 2) ∧ Below w.heap.size w w' := by
  have h1 := h.down
  rw [hdn] at h1
  have HR := hid h
  have HI := hid hi
  clear h hdn hi
  go_enter Try.func75, Try.ntmps75
  go_wp2_with (first | ((with_reducible refine wp_region_plan (id := 7) (.eff [(false, 0), (false, 1), (false, 2), (false, 3), (false, 4), (false, 5), (false, 6), (false, 7), (false, 8), (false, 9), (false, 10), (false, 11), (false, 12), (false, 13), (false, 14), (false, 15), (false, 16), (false, 17), (false, 18)] 19 [] (.fin [])) ?_ ?_ ?_ ?_ ?_ ?_); kernel_rfl; kernel_rfl; kernel_rfl; kernel_rfl; (intro c a d v w h; cases d <;> exact h)) | ((with_reducible refine wp_region_plan (id := 8) (.eff [(false, 0), (false, 1), (false, 2), (false, 3), (false, 4), (false, 5), (false, 6), (false, 7), (false, 8), (false, 9), (false, 10), (false, 11), (false, 12), (false, 13), (false, 14), (false, 15), (false, 16), (false, 17)] 18 [] (.fin [])) ?_ ?_ ?_ ?_ ?_ ?_); kernel_rfl; kernel_rfl; kernel_rfl; kernel_rfl; (intro c a d v w h; cases d <;> exact h)) | (with_reducible refine wpPlan_eff ?_) | (with_reducible refine wpPlan_fin ?_) | (with_reducible refine wpPlan_two ?_) | (with_reducible refine wpOpPair ?_ ?_) | ((with_reducible apply wpPre_keep); rfl; intro K' hK'; go_simp; refine hK' _ _ ?_; intro f hf; clear hK' K') | ((with_reducible apply wpPre_drop); rfl; intro K' hK'; go_simp; refine hK' _ _ ?_; intro f; clear hK' K') | (with_reducible refine wpPre_nil ?_) | ((with_reducible apply wpOp_list); rfl) | (with_reducible refine heldPair ?_ ?_) | ((with_reducible refine heldH_no ?_ ?_); rfl) | (with_reducible refine heldH_yes ?_ ?_) | (with_reducible exact heldH_nil) | (unfold YAt; go_simp; done) | (go_at_call 76; refine (rhas_no (HR.out.below (by repeat (first | (with_reducible exact Below.refl _ _) | (with_reducible exact bl_mm) | (with_reducible refine bl_dr ?_) | (with_reducible refine bl_drN ?_ _) | (with_reducible refine bl_al ?_ _) | (with_reducible refine bl_more ?_ _ _)))) _ HI.out).mono ?_; rintro e w1 ⟨rfl, hb1⟩; obtain ⟨ex, dx, rfl⟩ := more_of hb1; clear hb1))
  go_ret
  exact ⟨rfl, (by repeat (first | (with_reducible exact Below.refl _ _) | (with_reducible exact bl_mm) | (with_reducible refine bl_dr ?_) | (with_reducible refine bl_drN ?_ _) | (with_reducible refine bl_al ?_ _) | (with_reducible refine bl_more ?_ _ _)))⟩
set_option maxHeartbeats 1000000 in
theorem rapp_full {w : World} {r gF : Nat} {s : DS} {i : Nat} {l : List UInt8} (h : Rk w r gF s) (hdn : s.down = false) (hi : i < s.fs.length) (hfull : s.room < (l.length : Int)) :
    Calls Try.prog 47 #[.pointer (some ⟨r, 0, none⟩), .int .i64 i, .string (bs l)] w fun e w' => e = .returned (.int .i64 8) ∧ Below w.heap.size w w' := by
  have h1 := h.down
  have h2 := h.room
  have h3 := h.f
  obtain ⟨h4, h5⟩ := h.files i hi
  obtain ⟨l1, l2⟩ := h.lt
  rw [hdn] at h1
  have i1 : (i : Int) < (s.fs.length : Int) := by omega
  have i2 : (0 : Int) ≤ (i : Int) := by omega
  have HR := hid h
  have HI := hid hi
  clear h hdn
  go_enter Try.func47, Try.ntmps47
  go_wp2_with (first | ((with_reducible refine wp_region_plan (id := 9) (.eff [(false, 0), (false, 1), (false, 2), (false, 3), (false, 4), (false, 5), (false, 6), (false, 7), (false, 8), (false, 9), (false, 10), (false, 11), (false, 12), (false, 13), (false, 14), (false, 15), (false, 16)] 17 [] (.fin [])) ?_ ?_ ?_ ?_ ?_ ?_); kernel_rfl; kernel_rfl; kernel_rfl; kernel_rfl; (intro c a d v w h; cases d <;> exact h)) | (with_reducible refine wpPlan_eff ?_) | (with_reducible refine wpPlan_fin ?_) | (with_reducible refine wpPlan_two ?_) | (with_reducible refine wpOpPair ?_ ?_) | ((with_reducible apply wpPre_keep); rfl; intro K' hK'; go_simp; refine hK' _ _ ?_; intro f hf; clear hK' K') | ((with_reducible apply wpPre_drop); rfl; intro K' hK'; go_simp; refine hK' _ _ ?_; intro f; clear hK' K') | (with_reducible refine wpPre_nil ?_) | ((with_reducible apply wpOp_list); rfl) | (with_reducible refine heldPair ?_ ?_) | ((with_reducible refine heldH_no ?_ ?_); rfl) | (with_reducible refine heldH_yes ?_ ?_) | (with_reducible exact heldH_nil) | (unfold YAt; go_simp; done) | (go_at_call 76; refine (rhas_yes (HR.out.below (by repeat (first | (with_reducible exact Below.refl _ _) | (with_reducible exact bl_mm) | (with_reducible refine bl_dr ?_) | (with_reducible refine bl_drN ?_ _) | (with_reducible refine bl_al ?_ _) | (with_reducible refine bl_more ?_ _ _)))) i HI.out).mono ?_; rintro e w1 ⟨rfl, hb1⟩; obtain ⟨ex, dx, rfl⟩ := more_of hb1; clear hb1))
  go_ret
  exact ⟨rfl, (by repeat (first | (with_reducible exact Below.refl _ _) | (with_reducible exact bl_mm) | (with_reducible refine bl_dr ?_) | (with_reducible refine bl_drN ?_ _) | (with_reducible refine bl_al ?_ _) | (with_reducible refine bl_more ?_ _ _)))⟩
set_option maxHeartbeats 1000000 in
theorem rcut_low {w : World} {r gF : Nat} {s : DS} {i : Nat} {n : Int} (h : Rk w r gF s) (hdn : s.down = false) (hi : i < s.fs.length) (hlow : n < 0) :
    Calls Try.prog 75 #[.pointer (some ⟨r, 0, none⟩), .int .i64 i, .int .i64 n] w fun e w' => e = .returned (.int .i64 2) ∧ Below w.heap.size w w' := by
  have h1 := h.down
  have h2 := h.room
  have h3 := h.f
  obtain ⟨h4, h5⟩ := h.files i hi
  obtain ⟨l1, l2⟩ := h.lt
  rw [hdn] at h1
  have i1 : (i : Int) < (s.fs.length : Int) := by omega
  have i2 : (0 : Int) ≤ (i : Int) := by omega
  have HR := hid h
  have HI := hid hi
  clear h hdn
  go_enter Try.func75, Try.ntmps75
  go_wp2_with (first | ((with_reducible refine wp_region_plan (id := 7) (.eff [(false, 0), (false, 1), (false, 2), (false, 3), (false, 4), (false, 5), (false, 6), (false, 7), (false, 8), (false, 9), (false, 10), (false, 11), (false, 12), (false, 13), (false, 14), (false, 15), (false, 16), (false, 17), (false, 18)] 19 [] (.fin [])) ?_ ?_ ?_ ?_ ?_ ?_); kernel_rfl; kernel_rfl; kernel_rfl; kernel_rfl; (intro c a d v w h; cases d <;> exact h)) | ((with_reducible refine wp_region_plan (id := 8) (.eff [(false, 0), (false, 1), (false, 2), (false, 3), (false, 4), (false, 5), (false, 6), (false, 7), (false, 8), (false, 9), (false, 10), (false, 11), (false, 12), (false, 13), (false, 14), (false, 15), (false, 16), (false, 17)] 18 [] (.fin [])) ?_ ?_ ?_ ?_ ?_ ?_); kernel_rfl; kernel_rfl; kernel_rfl; kernel_rfl; (intro c a d v w h; cases d <;> exact h)) | (with_reducible refine wpPlan_eff ?_) | (with_reducible refine wpPlan_fin ?_) | (with_reducible refine wpPlan_two ?_) | (with_reducible refine wpOpPair ?_ ?_) | ((with_reducible apply wpPre_keep); rfl; intro K' hK'; go_simp; refine hK' _ _ ?_; intro f hf; clear hK' K') | ((with_reducible apply wpPre_drop); rfl; intro K' hK'; go_simp; refine hK' _ _ ?_; intro f; clear hK' K') | (with_reducible refine wpPre_nil ?_) | ((with_reducible apply wpOp_list); rfl) | (with_reducible refine heldPair ?_ ?_) | ((with_reducible refine heldH_no ?_ ?_); rfl) | (with_reducible refine heldH_yes ?_ ?_) | (with_reducible exact heldH_nil) | (unfold YAt; go_simp; done) | (go_at_call 76; refine (rhas_yes (HR.out.below (by repeat (first | (with_reducible exact Below.refl _ _) | (with_reducible exact bl_mm) | (with_reducible refine bl_dr ?_) | (with_reducible refine bl_drN ?_ _) | (with_reducible refine bl_al ?_ _) | (with_reducible refine bl_more ?_ _ _)))) i HI.out).mono ?_; rintro e w1 ⟨rfl, hb1⟩; obtain ⟨ex, dx, rfl⟩ := more_of hb1; clear hb1))
  go_ret
  exact ⟨rfl, (by repeat (first | (with_reducible exact Below.refl _ _) | (with_reducible exact bl_mm) | (with_reducible refine bl_dr ?_) | (with_reducible refine bl_drN ?_ _) | (with_reducible refine bl_al ?_ _) | (with_reducible refine bl_more ?_ _ _)))⟩
set_option maxHeartbeats 1000000 in
theorem rcut_high {w : World} {r gF : Nat} {s : DS} {i : Nat} {n : Int} (h : Rk w r gF s) (hdn : s.down = false) (hi : i < s.fs.length) (hlow : ¬ n < 0) (hhigh : (s.fs[i].b.length : Int) < n) :
    Calls Try.prog 75 #[.pointer (some ⟨r, 0, none⟩), .int .i64 i, .int .i64 n] w fun e w' => e = .returned (.int .i64 2) ∧ Below w.heap.size w w' := by
  have h1 := h.down
  have h2 := h.room
  have h3 := h.f
  obtain ⟨h4, h5⟩ := h.files i hi
  obtain ⟨l1, l2⟩ := h.lt
  rw [hdn] at h1
  have i1 : (i : Int) < (s.fs.length : Int) := by omega
  have i2 : (0 : Int) ≤ (i : Int) := by omega
  have HR := hid h
  have HI := hid hi
  clear h hdn
  go_enter Try.func75, Try.ntmps75
  go_wp2_with (first | ((with_reducible refine wp_region_plan (id := 7) (.eff [(false, 0), (false, 1), (false, 2), (false, 3), (false, 4), (false, 5), (false, 6), (false, 7), (false, 8), (false, 9), (false, 10), (false, 11), (false, 12), (false, 13), (false, 14), (false, 15), (false, 16), (false, 17), (false, 18)] 19 [] (.fin [])) ?_ ?_ ?_ ?_ ?_ ?_); kernel_rfl; kernel_rfl; kernel_rfl; kernel_rfl; (intro c a d v w h; cases d <;> exact h)) | ((with_reducible refine wp_region_plan (id := 8) (.eff [(false, 0), (false, 1), (false, 2), (false, 3), (false, 4), (false, 5), (false, 6), (false, 7), (false, 8), (false, 9), (false, 10), (false, 11), (false, 12), (false, 13), (false, 14), (false, 15), (false, 16), (false, 17)] 18 [] (.fin [])) ?_ ?_ ?_ ?_ ?_ ?_); kernel_rfl; kernel_rfl; kernel_rfl; kernel_rfl; (intro c a d v w h; cases d <;> exact h)) | (with_reducible refine wpPlan_eff ?_) | (with_reducible refine wpPlan_fin ?_) | (with_reducible refine wpPlan_two ?_) | (with_reducible refine wpOpPair ?_ ?_) | ((with_reducible apply wpPre_keep); rfl; intro K' hK'; go_simp; refine hK' _ _ ?_; intro f hf; clear hK' K') | ((with_reducible apply wpPre_drop); rfl; intro K' hK'; go_simp; refine hK' _ _ ?_; intro f; clear hK' K') | (with_reducible refine wpPre_nil ?_) | ((with_reducible apply wpOp_list); rfl) | (with_reducible refine heldPair ?_ ?_) | ((with_reducible refine heldH_no ?_ ?_); rfl) | (with_reducible refine heldH_yes ?_ ?_) | (with_reducible exact heldH_nil) | (unfold YAt; go_simp; done) | (go_at_call 76; refine (rhas_yes (HR.out.below (by repeat (first | (with_reducible exact Below.refl _ _) | (with_reducible exact bl_mm) | (with_reducible refine bl_dr ?_) | (with_reducible refine bl_drN ?_ _) | (with_reducible refine bl_al ?_ _) | (with_reducible refine bl_more ?_ _ _)))) i HI.out).mono ?_; rintro e w1 ⟨rfl, hb1⟩; obtain ⟨ex, dx, rfl⟩ := more_of hb1; clear hb1))
  go_ret
  exact ⟨rfl, (by repeat (first | (with_reducible exact Below.refl _ _) | (with_reducible exact bl_mm) | (with_reducible refine bl_dr ?_) | (with_reducible refine bl_drN ?_ _) | (with_reducible refine bl_al ?_ _) | (with_reducible refine bl_more ?_ _ _)))⟩
set_option maxHeartbeats 1000000 in
theorem rapp_off {w : World} {r gF : Nat} {s : DS} {i : Nat} {C : Int} {l : List UInt8} (h : Rk w r gF s) (hs : s.Ok C) (hdn : s.down = false) (hi : i < s.fs.length) (hf : s.fuse = 0) (hfits : ¬ s.room < (l.length : Int)) :
    Calls Try.prog 47 #[.pointer (some ⟨r, 0, none⟩), .int .i64 i, .string (bs l)] w fun e w' => e = .returned (.int .i64 9) ∧ Rk w' r gF { s with down := true } ∧ Ext (fun b => b = r ∨ b = gF) w w' := by
  have h1 := h.down
  have h2 := h.room
  have h3 := h.f
  obtain ⟨h4, h5⟩ := h.files i hi
  obtain ⟨l1, l2⟩ := h.lt
  rw [hdn] at h1
  have i1 : (i : Int) < (s.fs.length : Int) := by omega
  have i2 : (0 : Int) ≤ (i : Int) := by omega
  have HR := hid h
  have HI := hid hi
  have HS := hid hs
  have HDN := hid hdn
  have HF := hid hf
  clear h hdn hs hf
  go_enter Try.func47, Try.ntmps47
  go_wp2_with (first | ((with_reducible refine wp_region_plan (id := 9) (.eff [(false, 0), (false, 1), (false, 2), (false, 3), (false, 4), (false, 5), (false, 6), (false, 7), (false, 8), (false, 9), (false, 10), (false, 11), (false, 12), (false, 13), (false, 14), (false, 15), (false, 16)] 17 [] (.fin [])) ?_ ?_ ?_ ?_ ?_ ?_); kernel_rfl; kernel_rfl; kernel_rfl; kernel_rfl; (intro c a d v w h; cases d <;> exact h)) | (with_reducible refine wpPlan_eff ?_) | (with_reducible refine wpPlan_fin ?_) | (with_reducible refine wpPlan_two ?_) | (with_reducible refine wpOpPair ?_ ?_) | ((with_reducible apply wpPre_keep); rfl; intro K' hK'; go_simp; refine hK' _ _ ?_; intro f hf; clear hK' K') | ((with_reducible apply wpPre_drop); rfl; intro K' hK'; go_simp; refine hK' _ _ ?_; intro f; clear hK' K') | (with_reducible refine wpPre_nil ?_) | ((with_reducible apply wpOp_list); rfl) | (with_reducible refine heldPair ?_ ?_) | ((with_reducible refine heldH_no ?_ ?_); rfl) | (with_reducible refine heldH_yes ?_ ?_) | (with_reducible exact heldH_nil) | (unfold YAt; go_simp; done) | (go_at_call 76; refine (rhas_yes (HR.out.below (by repeat (first | (with_reducible exact Below.refl _ _) | (with_reducible exact bl_mm) | (with_reducible refine bl_dr ?_) | (with_reducible refine bl_drN ?_ _) | (with_reducible refine bl_al ?_ _) | (with_reducible refine bl_more ?_ _ _)))) i HI.out).mono ?_; rintro e w1 ⟨rfl, hb1⟩; obtain ⟨ex, dx, rfl⟩ := more_of hb1; clear hb1) | (go_at_call 77; refine (rburn_off (HR.out.below (by repeat (first | (with_reducible exact Below.refl _ _) | (with_reducible exact bl_mm) | (with_reducible refine bl_dr ?_) | (with_reducible refine bl_drN ?_ _) | (with_reducible refine bl_al ?_ _) | (with_reducible refine bl_more ?_ _ _)))) HS.out HDN.out HF.out).mono ?_; rintro e w1 ⟨rfl, hq, he⟩; have HQ := hid hq; have HE := hid he; clear hq he))
  go_ret
  exact ⟨rfl, HQ.out.below (by repeat (first | (with_reducible exact Below.refl _ _) | (with_reducible exact bl_mm) | (with_reducible refine bl_dr ?_) | (with_reducible refine bl_drN ?_ _) | (with_reducible refine bl_al ?_ _) | (with_reducible refine bl_more ?_ _ _))), (Ext.trans (S := fun b => b = r ∨ b = gF) (by repeat (first | (with_reducible exact Ext.refl _ _) | (with_reducible refine ex_dr ?_) | (with_reducible refine ex_drN ?_ _) | (with_reducible refine ex_al ?_ _) | (with_reducible refine ex_more ?_ _ _) | (with_reducible refine Ext.set ?_ _ _ _ (by first | exact rfl | exact .inl rfl | exact .inr rfl)))) HE.out (fun _ _ h => .inl h)).trans ((by repeat (first | (with_reducible exact Ext.refl _ _) | (with_reducible refine ex_dr ?_) | (with_reducible refine ex_drN ?_ _) | (with_reducible refine ex_al ?_ _) | (with_reducible refine ex_more ?_ _ _) | (with_reducible refine Ext.set ?_ _ _ _ (by first | exact rfl | exact .inl rfl | exact .inr rfl)))) : Ext (fun b => b = r ∨ b = gF) _ _) (fun _ _ h => h)⟩
set_option maxHeartbeats 1000000 in
theorem rsync_off {w : World} {r gF : Nat} {s : DS} {i : Nat} {C : Int}  (h : Rk w r gF s) (hs : s.Ok C) (hdn : s.down = false) (hi : i < s.fs.length) (hf : s.fuse = 0)  :
    Calls Try.prog 45 #[.pointer (some ⟨r, 0, none⟩), .int .i64 i] w fun e w' => e = .returned (.int .i64 9) ∧ Rk w' r gF { s with down := true } ∧ Ext (fun b => b = r ∨ b = gF) w w' := by
  have h1 := h.down
  have h2 := h.room
  have h3 := h.f
  obtain ⟨h4, h5⟩ := h.files i hi
  obtain ⟨l1, l2⟩ := h.lt
  rw [hdn] at h1
  have i1 : (i : Int) < (s.fs.length : Int) := by omega
  have i2 : (0 : Int) ≤ (i : Int) := by omega
  have HR := hid h
  have HI := hid hi
  have HS := hid hs
  have HDN := hid hdn
  have HF := hid hf
  clear h hdn hs hf
  go_enter Try.func45, Try.ntmps45
  go_wp2_with (first | ((with_reducible refine wp_region_plan (id := 7) (.eff [(false, 0), (false, 1), (false, 2), (false, 3), (false, 4), (false, 5), (false, 6), (false, 7), (false, 8), (false, 9), (false, 10), (false, 11), (false, 12), (false, 13), (false, 14), (false, 15)] 16 [] (.fin [])) ?_ ?_ ?_ ?_ ?_ ?_); kernel_rfl; kernel_rfl; kernel_rfl; kernel_rfl; (intro c a d v w h; cases d <;> exact h)) | (with_reducible refine wpPlan_eff ?_) | (with_reducible refine wpPlan_fin ?_) | (with_reducible refine wpPlan_two ?_) | (with_reducible refine wpOpPair ?_ ?_) | ((with_reducible apply wpPre_keep); rfl; intro K' hK'; go_simp; refine hK' _ _ ?_; intro f hf; clear hK' K') | ((with_reducible apply wpPre_drop); rfl; intro K' hK'; go_simp; refine hK' _ _ ?_; intro f; clear hK' K') | (with_reducible refine wpPre_nil ?_) | ((with_reducible apply wpOp_list); rfl) | (with_reducible refine heldPair ?_ ?_) | ((with_reducible refine heldH_no ?_ ?_); rfl) | (with_reducible refine heldH_yes ?_ ?_) | (with_reducible exact heldH_nil) | (unfold YAt; go_simp; done) | (go_at_call 76; refine (rhas_yes (HR.out.below (by repeat (first | (with_reducible exact Below.refl _ _) | (with_reducible exact bl_mm) | (with_reducible refine bl_dr ?_) | (with_reducible refine bl_drN ?_ _) | (with_reducible refine bl_al ?_ _) | (with_reducible refine bl_more ?_ _ _)))) i HI.out).mono ?_; rintro e w1 ⟨rfl, hb1⟩; obtain ⟨ex, dx, rfl⟩ := more_of hb1; clear hb1) | (go_at_call 77; refine (rburn_off (HR.out.below (by repeat (first | (with_reducible exact Below.refl _ _) | (with_reducible exact bl_mm) | (with_reducible refine bl_dr ?_) | (with_reducible refine bl_drN ?_ _) | (with_reducible refine bl_al ?_ _) | (with_reducible refine bl_more ?_ _ _)))) HS.out HDN.out HF.out).mono ?_; rintro e w1 ⟨rfl, hq, he⟩; have HQ := hid hq; have HE := hid he; clear hq he))
  go_ret
  exact ⟨rfl, HQ.out.below (by repeat (first | (with_reducible exact Below.refl _ _) | (with_reducible exact bl_mm) | (with_reducible refine bl_dr ?_) | (with_reducible refine bl_drN ?_ _) | (with_reducible refine bl_al ?_ _) | (with_reducible refine bl_more ?_ _ _))), (Ext.trans (S := fun b => b = r ∨ b = gF) (by repeat (first | (with_reducible exact Ext.refl _ _) | (with_reducible refine ex_dr ?_) | (with_reducible refine ex_drN ?_ _) | (with_reducible refine ex_al ?_ _) | (with_reducible refine ex_more ?_ _ _) | (with_reducible refine Ext.set ?_ _ _ _ (by first | exact rfl | exact .inl rfl | exact .inr rfl)))) HE.out (fun _ _ h => .inl h)).trans ((by repeat (first | (with_reducible exact Ext.refl _ _) | (with_reducible refine ex_dr ?_) | (with_reducible refine ex_drN ?_ _) | (with_reducible refine ex_al ?_ _) | (with_reducible refine ex_more ?_ _ _) | (with_reducible refine Ext.set ?_ _ _ _ (by first | exact rfl | exact .inl rfl | exact .inr rfl)))) : Ext (fun b => b = r ∨ b = gF) _ _) (fun _ _ h => h)⟩
set_option maxHeartbeats 1000000 in
theorem rcut_off {w : World} {r gF : Nat} {s : DS} {i : Nat} {C : Int} {n : Nat} (h : Rk w r gF s) (hs : s.Ok C) (hdn : s.down = false) (hi : i < s.fs.length) (hf : s.fuse = 0) (hlow : ¬ (n : Int) < 0) (hhigh : ¬ (s.fs[i].b.length : Int) < (n : Int)) :
    Calls Try.prog 75 #[.pointer (some ⟨r, 0, none⟩), .int .i64 i, .int .i64 n] w fun e w' => e = .returned (.int .i64 9) ∧ Rk w' r gF { s with down := true } ∧ Ext (fun b => b = r ∨ b = gF) w w' := by
  have h1 := h.down
  have h2 := h.room
  have h3 := h.f
  obtain ⟨h4, h5⟩ := h.files i hi
  obtain ⟨l1, l2⟩ := h.lt
  rw [hdn] at h1
  have i1 : (i : Int) < (s.fs.length : Int) := by omega
  have i2 : (0 : Int) ≤ (i : Int) := by omega
  have HR := hid h
  have HI := hid hi
  have HS := hid hs
  have HDN := hid hdn
  have HF := hid hf
  clear h hdn hs hf
  go_enter Try.func75, Try.ntmps75
  go_wp2_with (first | ((with_reducible refine wp_region_plan (id := 7) (.eff [(false, 0), (false, 1), (false, 2), (false, 3), (false, 4), (false, 5), (false, 6), (false, 7), (false, 8), (false, 9), (false, 10), (false, 11), (false, 12), (false, 13), (false, 14), (false, 15), (false, 16), (false, 17), (false, 18)] 19 [] (.fin [])) ?_ ?_ ?_ ?_ ?_ ?_); kernel_rfl; kernel_rfl; kernel_rfl; kernel_rfl; (intro c a d v w h; cases d <;> exact h)) | ((with_reducible refine wp_region_plan (id := 8) (.eff [(false, 0), (false, 1), (false, 2), (false, 3), (false, 4), (false, 5), (false, 6), (false, 7), (false, 8), (false, 9), (false, 10), (false, 11), (false, 12), (false, 13), (false, 14), (false, 15), (false, 16), (false, 17)] 18 [] (.fin [])) ?_ ?_ ?_ ?_ ?_ ?_); kernel_rfl; kernel_rfl; kernel_rfl; kernel_rfl; (intro c a d v w h; cases d <;> exact h)) | (with_reducible refine wpPlan_eff ?_) | (with_reducible refine wpPlan_fin ?_) | (with_reducible refine wpPlan_two ?_) | (with_reducible refine wpOpPair ?_ ?_) | ((with_reducible apply wpPre_keep); rfl; intro K' hK'; go_simp; refine hK' _ _ ?_; intro f hf; clear hK' K') | ((with_reducible apply wpPre_drop); rfl; intro K' hK'; go_simp; refine hK' _ _ ?_; intro f; clear hK' K') | (with_reducible refine wpPre_nil ?_) | ((with_reducible apply wpOp_list); rfl) | (with_reducible refine heldPair ?_ ?_) | ((with_reducible refine heldH_no ?_ ?_); rfl) | (with_reducible refine heldH_yes ?_ ?_) | (with_reducible exact heldH_nil) | (unfold YAt; go_simp; done) | (go_at_call 76; refine (rhas_yes (HR.out.below (by repeat (first | (with_reducible exact Below.refl _ _) | (with_reducible exact bl_mm) | (with_reducible refine bl_dr ?_) | (with_reducible refine bl_drN ?_ _) | (with_reducible refine bl_al ?_ _) | (with_reducible refine bl_more ?_ _ _)))) i HI.out).mono ?_; rintro e w1 ⟨rfl, hb1⟩; obtain ⟨ex, dx, rfl⟩ := more_of hb1; clear hb1) | (go_at_call 77; refine (rburn_off (HR.out.below (by repeat (first | (with_reducible exact Below.refl _ _) | (with_reducible exact bl_mm) | (with_reducible refine bl_dr ?_) | (with_reducible refine bl_drN ?_ _) | (with_reducible refine bl_al ?_ _) | (with_reducible refine bl_more ?_ _ _)))) HS.out HDN.out HF.out).mono ?_; rintro e w1 ⟨rfl, hq, he⟩; have HQ := hid hq; have HE := hid he; clear hq he))
  go_ret
  exact ⟨rfl, HQ.out.below (by repeat (first | (with_reducible exact Below.refl _ _) | (with_reducible exact bl_mm) | (with_reducible refine bl_dr ?_) | (with_reducible refine bl_drN ?_ _) | (with_reducible refine bl_al ?_ _) | (with_reducible refine bl_more ?_ _ _))), (Ext.trans (S := fun b => b = r ∨ b = gF) (by repeat (first | (with_reducible exact Ext.refl _ _) | (with_reducible refine ex_dr ?_) | (with_reducible refine ex_drN ?_ _) | (with_reducible refine ex_al ?_ _) | (with_reducible refine ex_more ?_ _ _) | (with_reducible refine Ext.set ?_ _ _ _ (by first | exact rfl | exact .inl rfl | exact .inr rfl)))) HE.out (fun _ _ h => .inl h)).trans ((by repeat (first | (with_reducible exact Ext.refl _ _) | (with_reducible refine ex_dr ?_) | (with_reducible refine ex_drN ?_ _) | (with_reducible refine ex_al ?_ _) | (with_reducible refine ex_more ?_ _ _) | (with_reducible refine Ext.set ?_ _ _ _ (by first | exact rfl | exact .inl rfl | exact .inr rfl)))) : Ext (fun b => b = r ∨ b = gF) _ _) (fun _ _ h => h)⟩
end Go.Proofs.Ytgpcgndmdkgbdaa

/- What the document's calls do: what is done. -/
namespace Go.Proofs.Ytgpcgndmdkgbdaa
open Go.RowKit

theorem bs_take (l : List UInt8) (n : Nat) : (bs l).extract 0 n = bs (l.take n) := by
  apply ByteArray.ext
  rw [ByteArray.data_extract]
  simp [bs]
theorem keep_eq {s : DS} {i : Nat} (hi : i < s.fs.length) (n : Nat) : s.keep i n = { s with room := s.room + ((s.fs[i].b.length : Int) - n), fs := s.fs.set i ⟨s.fs[i].b.take n, n⟩ } := by unfold DS.keep; simp [hi]
set_option maxHeartbeats 1000000 in
theorem rsync_done {w : World} {r gF : Nat} {s : DS} {i : Nat} {C : Int}  (h : Rk w r gF s) (hs : s.Ok C) (_hC : C ≤ 1000000000) (hdn : s.down = false) (hi : i < s.fs.length) (hf : s.fuse ≠ 0)  :
    Calls Try.prog 45 #[.pointer (some ⟨r, 0, none⟩), .int .i64 i] w fun e w' => e = .returned (.int .i64 0) ∧ Rk w' r gF (s.burn.sync i) ∧ Ext (fun b => b = r ∨ b = gF) w w' := by
  have h1 := h.down
  have h2 := h.room
  have h3 := h.f
  obtain ⟨h4, h5⟩ := h.files i hi
  obtain ⟨l1, l2⟩ := h.lt
  have n1 : (r = gF) = False := by simp only [eq_iff_iff, iff_false]; exact h.ne
  have n2 : (gF = r) = False := by simp only [eq_iff_iff, iff_false]; exact h.ne.symm
  rw [hdn] at h1
  have i1 : (i : Int) < (s.fs.length : Int) := by omega
  have i2 : (0 : Int) ≤ (i : Int) := by omega
  have hlen := hs.len (List.getElem_mem hi)
  have hrc := hs.roomC
  have hr0 := hs.room
  skip
  have HR := hid h
  have HI := hid hi
  have HS := hid hs
  have HDN := hid hdn
  have HF := hid hf
  clear h hdn hs hf hlen hrc hr0 _hC
  go_enter Try.func45, Try.ntmps45
  go_wp2_with (first | ((with_reducible refine wp_region_plan (id := 7) (.eff [(false, 0), (false, 1), (false, 2), (false, 3), (false, 4), (false, 5), (false, 6), (false, 7), (false, 8), (false, 9), (false, 10), (false, 11), (false, 12), (false, 13), (false, 14), (false, 15)] 16 [] (.fin [])) ?_ ?_ ?_ ?_ ?_ ?_); kernel_rfl; kernel_rfl; kernel_rfl; kernel_rfl; (intro c a d v w h; cases d <;> exact h)) | (with_reducible refine wpPlan_eff ?_) | (with_reducible refine wpPlan_fin ?_) | (with_reducible refine wpPlan_two ?_) | (with_reducible refine wpOpPair ?_ ?_) | ((with_reducible apply wpPre_keep); rfl; intro K' hK'; go_simp; refine hK' _ _ ?_; intro f hf; clear hK' K') | ((with_reducible apply wpPre_drop); rfl; intro K' hK'; go_simp; refine hK' _ _ ?_; intro f; clear hK' K') | (with_reducible refine wpPre_nil ?_) | ((with_reducible apply wpOp_list); rfl) | (with_reducible refine heldPair ?_ ?_) | ((with_reducible refine heldH_no ?_ ?_); rfl) | (with_reducible refine heldH_yes ?_ ?_) | (with_reducible exact heldH_nil) | (unfold YAt; go_simp; done) | (go_at_call 76; refine (rhas_yes (HR.out.below (by repeat (first | (with_reducible exact Below.refl _ _) | (with_reducible exact bl_mm) | (with_reducible refine bl_dr ?_) | (with_reducible refine bl_drN ?_ _) | (with_reducible refine bl_al ?_ _) | (with_reducible refine bl_more ?_ _ _)))) i HI.out).mono ?_; rintro e w1 ⟨rfl, hb1⟩; obtain ⟨ex, dx, rfl⟩ := more_of hb1; clear hb1) | (go_at_call 77; refine (rburn_any (HR.out.below (by repeat (first | (with_reducible exact Below.refl _ _) | (with_reducible exact bl_mm) | (with_reducible refine bl_dr ?_) | (with_reducible refine bl_drN ?_ _) | (with_reducible refine bl_al ?_ _) | (with_reducible refine bl_more ?_ _ _)))) HS.out HDN.out HF.out).mono ?_; rintro e w3 ⟨rfl, f', hf', hq, he⟩; have g0 : w3.cell? ⟨r, 0, none⟩ = some (.slice (some ⟨gF, 0, none⟩) s.fs.length s.fs.length) := hq.f; have g1 : w3.cell? ⟨r, 1, none⟩ = some (.int .i64 s.room) := hq.room; have g2 : w3.cell? ⟨gF, i * 2, none⟩ = some (.string (bs (s.fs[i]'hi).b)) := (hq.files i HI.out).1; have g3 : w3.cell? ⟨gF, i * 2 + 1, none⟩ = some (.int .i64 (s.fs[i]'hi).synced) := (hq.files i HI.out).2; have g4 := (hq.frz 1).1; have g5 := (hq.frz (i * 2)).2; have g6 := (hq.frz (i * 2 + 1)).2; obtain ⟨g7, g8⟩ := hq.lt; have HQ := hid hq; have HE := hid he; have HF' := hid hf'; clear hq he hf'))
  go_ret
  refine ⟨rfl, ?_, (Ext.trans (S := fun b => b = r ∨ b = gF) (by repeat (first | (with_reducible exact Ext.refl _ _) | (with_reducible refine ex_dr ?_) | (with_reducible refine ex_drN ?_ _) | (with_reducible refine ex_al ?_ _) | (with_reducible refine ex_more ?_ _ _) | (with_reducible refine Ext.set ?_ _ _ _ (by first | exact rfl | exact .inl rfl | exact .inr rfl)))) HE.out (fun _ _ h => .inl h)).trans ((by repeat (first | (with_reducible exact Ext.refl _ _) | (with_reducible refine ex_dr ?_) | (with_reducible refine ex_drN ?_ _) | (with_reducible refine ex_al ?_ _) | (with_reducible refine ex_more ?_ _ _) | (with_reducible refine Ext.set ?_ _ _ _ (by first | exact rfl | exact .inl rfl | exact .inr rfl)))) : Ext (fun b => b = r ∨ b = gF) _ _) (fun _ _ h => h)⟩
  rw [HF'.out, sync_eq (s := { s with fuse := f' }) HI.out]
  exact (HQ.out.setSync i HI.out (s.fs[i]'hi).b.length).below (by repeat (first | (with_reducible exact Below.refl _ _) | (with_reducible exact bl_mm) | (with_reducible refine bl_dr ?_) | (with_reducible refine bl_drN ?_ _) | (with_reducible refine bl_al ?_ _) | (with_reducible refine bl_more ?_ _ _)))
theorem Rk.setFile {w : World} {r gF : Nat} {s : DS} (h : Rk w r gF s) (i : Nat) (hi : i < s.fs.length) (l : List UInt8) (n : Nat) : Rk ((w.setCell ⟨gF, i * 2, none⟩ (.string (bs l))).setCell ⟨gF, i * 2 + 1, none⟩ (.int .i64 (n : Int))) r gF { s with fs := s.fs.set i ⟨l, n⟩ } := by
  have h1 := (h.setStr i hi l).setSync i (by simpa using hi) n
  simp only [List.set_set, List.getElem_set_self] at h1
  exact h1
set_option maxHeartbeats 1000000 in
theorem rcut_done {w : World} {r gF : Nat} {s : DS} {i : Nat} {C : Int} {n : Nat} (h : Rk w r gF s) (hs : s.Ok C) (hC : C ≤ 1000000000) (hdn : s.down = false) (hi : i < s.fs.length) (hf : s.fuse ≠ 0) (hhigh : n ≤ s.fs[i].b.length) :
    Calls Try.prog 75 #[.pointer (some ⟨r, 0, none⟩), .int .i64 i, .int .i64 n] w fun e w' => e = .returned (.int .i64 0) ∧ Rk w' r gF (s.burn.keep i n) ∧ Ext (fun b => b = r ∨ b = gF) w w' := by
  have h1 := h.down
  have h2 := h.room
  have h3 := h.f
  obtain ⟨h4, h5⟩ := h.files i hi
  obtain ⟨l1, l2⟩ := h.lt
  have n1 : (r = gF) = False := by simp only [eq_iff_iff, iff_false]; exact h.ne
  have n2 : (gF = r) = False := by simp only [eq_iff_iff, iff_false]; exact h.ne.symm
  rw [hdn] at h1
  have i1 : (i : Int) < (s.fs.length : Int) := by omega
  have i2 : (0 : Int) ≤ (i : Int) := by omega
  have hlen := hs.len (List.getElem_mem hi)
  have hrc := hs.roomC
  have hr0 := hs.room
  (have j1 : ¬ (s.fs[i].b.length : Int) < (n : Int) := (by omega); have j2 : IntKind.i64.wrap (s.room + (s.fs[i].b.length : Int)) = s.room + (s.fs[i].b.length : Int) := IntWalk.i64_in _ (by omega); have j3 : IntKind.i64.wrap (s.room + (s.fs[i].b.length : Int) - (n : Int)) = s.room + ((s.fs[i].b.length : Int) - (n : Int)) := (by rw [IntWalk.i64_in _ (by omega)]; omega); have j4 := bs_take s.fs[i].b n; have j5 : (0 : Int) ≤ (n : Int) := (by omega); have j6 : (n : Int) ≤ (s.fs[i].b.length : Int) := (by omega); have j7 : decide ((n : Int) < 0) = false := (by simp); have j8 : decide (s.fs[i].b.length < n) = false := (by simpa using hhigh); have j9 : ¬ s.fs[i].b.length < n := (by omega))
  have HR := hid h
  have HI := hid hi
  have HS := hid hs
  have HDN := hid hdn
  have HF := hid hf
  clear h hdn hs hf hlen hrc hr0 hC
  go_enter Try.func75, Try.ntmps75
  go_wp2_with (first | ((with_reducible refine wp_region_plan (id := 7) (.eff [(false, 0), (false, 1), (false, 2), (false, 3), (false, 4), (false, 5), (false, 6), (false, 7), (false, 8), (false, 9), (false, 10), (false, 11), (false, 12), (false, 13), (false, 14), (false, 15), (false, 16), (false, 17), (false, 18)] 19 [] (.fin [])) ?_ ?_ ?_ ?_ ?_ ?_); kernel_rfl; kernel_rfl; kernel_rfl; kernel_rfl; (intro c a d v w h; cases d <;> exact h)) | ((with_reducible refine wp_region_plan (id := 8) (.eff [(false, 0), (false, 1), (false, 2), (false, 3), (false, 4), (false, 5), (false, 6), (false, 7), (false, 8), (false, 9), (false, 10), (false, 11), (false, 12), (false, 13), (false, 14), (false, 15), (false, 16), (false, 17)] 18 [] (.fin [])) ?_ ?_ ?_ ?_ ?_ ?_); kernel_rfl; kernel_rfl; kernel_rfl; kernel_rfl; (intro c a d v w h; cases d <;> exact h)) | (with_reducible refine wpPlan_eff ?_) | (with_reducible refine wpPlan_fin ?_) | (with_reducible refine wpPlan_two ?_) | (with_reducible refine wpOpPair ?_ ?_) | ((with_reducible apply wpPre_keep); rfl; intro K' hK'; go_simp; refine hK' _ _ ?_; intro f hf; clear hK' K') | ((with_reducible apply wpPre_drop); rfl; intro K' hK'; go_simp; refine hK' _ _ ?_; intro f; clear hK' K') | (with_reducible refine wpPre_nil ?_) | ((with_reducible apply wpOp_list); rfl) | (with_reducible refine heldPair ?_ ?_) | ((with_reducible refine heldH_no ?_ ?_); rfl) | (with_reducible refine heldH_yes ?_ ?_) | (with_reducible exact heldH_nil) | (unfold YAt; go_simp; done) | (go_at_call 76; refine (rhas_yes (HR.out.below (by repeat (first | (with_reducible exact Below.refl _ _) | (with_reducible exact bl_mm) | (with_reducible refine bl_dr ?_) | (with_reducible refine bl_drN ?_ _) | (with_reducible refine bl_al ?_ _) | (with_reducible refine bl_more ?_ _ _)))) i HI.out).mono ?_; rintro e w1 ⟨rfl, hb1⟩; obtain ⟨ex, dx, rfl⟩ := more_of hb1; clear hb1) | (go_at_call 77; refine (rburn_any (HR.out.below (by repeat (first | (with_reducible exact Below.refl _ _) | (with_reducible exact bl_mm) | (with_reducible refine bl_dr ?_) | (with_reducible refine bl_drN ?_ _) | (with_reducible refine bl_al ?_ _) | (with_reducible refine bl_more ?_ _ _)))) HS.out HDN.out HF.out).mono ?_; rintro e w3 ⟨rfl, f', hf', hq, he⟩; have g0 : w3.cell? ⟨r, 0, none⟩ = some (.slice (some ⟨gF, 0, none⟩) s.fs.length s.fs.length) := hq.f; have g1 : w3.cell? ⟨r, 1, none⟩ = some (.int .i64 s.room) := hq.room; have g2 : w3.cell? ⟨gF, i * 2, none⟩ = some (.string (bs (s.fs[i]'hi).b)) := (hq.files i HI.out).1; have g3 : w3.cell? ⟨gF, i * 2 + 1, none⟩ = some (.int .i64 (s.fs[i]'hi).synced) := (hq.files i HI.out).2; have g4 := (hq.frz 1).1; have g5 := (hq.frz (i * 2)).2; have g6 := (hq.frz (i * 2 + 1)).2; obtain ⟨g7, g8⟩ := hq.lt; have HQ := hid hq; have HE := hid he; have HF' := hid hf'; clear hq he hf'))
  go_ret
  refine ⟨rfl, ?_, (Ext.trans (S := fun b => b = r ∨ b = gF) (by repeat (first | (with_reducible exact Ext.refl _ _) | (with_reducible refine ex_dr ?_) | (with_reducible refine ex_drN ?_ _) | (with_reducible refine ex_al ?_ _) | (with_reducible refine ex_more ?_ _ _) | (with_reducible refine Ext.set ?_ _ _ _ (by first | exact rfl | exact .inl rfl | exact .inr rfl)))) HE.out (fun _ _ h => .inl h)).trans ((by repeat (first | (with_reducible exact Ext.refl _ _) | (with_reducible refine ex_dr ?_) | (with_reducible refine ex_drN ?_ _) | (with_reducible refine ex_al ?_ _) | (with_reducible refine ex_more ?_ _ _) | (with_reducible refine Ext.set ?_ _ _ _ (by first | exact rfl | exact .inl rfl | exact .inr rfl)))) : Ext (fun b => b = r ∨ b = gF) _ _) (fun _ _ h => h)⟩
  rw [HF'.out, keep_eq (s := { s with fuse := f' }) HI.out]
  exact ((HQ.out.setRoom (s.room + (((s.fs[i]'hi).b.length : Int) - (n : Int)))).setFile i HI.out ((s.fs[i]'hi).b.take n) n).below (by repeat (first | (with_reducible exact Below.refl _ _) | (with_reducible exact bl_mm) | (with_reducible refine bl_dr ?_) | (with_reducible refine bl_drN ?_ _) | (with_reducible refine bl_al ?_ _) | (with_reducible refine bl_more ?_ _ _)))
set_option maxHeartbeats 1000000 in
theorem rapp_done {w : World} {r gF : Nat} {s : DS} {i : Nat} {C : Int} {l : List UInt8} (h : Rk w r gF s) (hs : s.Ok C) (hC : C ≤ 1000000000) (hdn : s.down = false) (hi : i < s.fs.length) (hf : s.fuse ≠ 0) (hfit : (l.length : Int) ≤ s.room) :
    Calls Try.prog 47 #[.pointer (some ⟨r, 0, none⟩), .int .i64 i, .string (bs l)] w fun e w' => e = .returned (.int .i64 0) ∧ Rk w' r gF (s.burn.app i l) ∧ Ext (fun b => b = r ∨ b = gF) w w' := by
  have h1 := h.down
  have h2 := h.room
  have h3 := h.f
  obtain ⟨h4, h5⟩ := h.files i hi
  obtain ⟨l1, l2⟩ := h.lt
  have n1 : (r = gF) = False := by simp only [eq_iff_iff, iff_false]; exact h.ne
  have n2 : (gF = r) = False := by simp only [eq_iff_iff, iff_false]; exact h.ne.symm
  rw [hdn] at h1
  have i1 : (i : Int) < (s.fs.length : Int) := by omega
  have i2 : (0 : Int) ≤ (i : Int) := by omega
  have hlen := hs.len (List.getElem_mem hi)
  have hrc := hs.roomC
  have hr0 := hs.room
  (have j1 : ¬ s.room < (l.length : Int) := (by omega); have j2 : IntKind.i64.wrap (s.room - (l.length : Int)) = s.room - (l.length : Int) := IntWalk.i64_in _ (by omega); have j3 : decide (s.room < (l.length : Int)) = false := (by simpa using hfit); have j4 : ∀ W, (Op.stringOp .add (bs s.fs[i].b) (bs l)).run Try.prog W = .ok (.string (bs (s.fs[i].b ++ l))) W := fun W => (by rw [run_string_add_sum W _ _ (by rw [bs_size, bs_size]; omega), bs_append]))
  have HR := hid h
  have HI := hid hi
  have HS := hid hs
  have HDN := hid hdn
  have HF := hid hf
  clear h hdn hs hf hlen hrc hr0 hC
  go_enter Try.func47, Try.ntmps47
  go_wp2_with (first | ((with_reducible refine wp_region_plan (id := 9) (.eff [(false, 0), (false, 1), (false, 2), (false, 3), (false, 4), (false, 5), (false, 6), (false, 7), (false, 8), (false, 9), (false, 10), (false, 11), (false, 12), (false, 13), (false, 14), (false, 15), (false, 16)] 17 [] (.fin [])) ?_ ?_ ?_ ?_ ?_ ?_); kernel_rfl; kernel_rfl; kernel_rfl; kernel_rfl; (intro c a d v w h; cases d <;> exact h)) | (with_reducible refine wpPlan_eff ?_) | (with_reducible refine wpPlan_fin ?_) | (with_reducible refine wpPlan_two ?_) | (with_reducible refine wpOpPair ?_ ?_) | ((with_reducible apply wpPre_keep); rfl; intro K' hK'; go_simp; refine hK' _ _ ?_; intro f hf; clear hK' K') | ((with_reducible apply wpPre_drop); rfl; intro K' hK'; go_simp; refine hK' _ _ ?_; intro f; clear hK' K') | (with_reducible refine wpPre_nil ?_) | ((with_reducible apply wpOp_list); rfl) | (with_reducible refine heldPair ?_ ?_) | ((with_reducible refine heldH_no ?_ ?_); rfl) | (with_reducible refine heldH_yes ?_ ?_) | (with_reducible exact heldH_nil) | (unfold YAt; go_simp; done) | (go_at_call 76; refine (rhas_yes (HR.out.below (by repeat (first | (with_reducible exact Below.refl _ _) | (with_reducible exact bl_mm) | (with_reducible refine bl_dr ?_) | (with_reducible refine bl_drN ?_ _) | (with_reducible refine bl_al ?_ _) | (with_reducible refine bl_more ?_ _ _)))) i HI.out).mono ?_; rintro e w1 ⟨rfl, hb1⟩; obtain ⟨ex, dx, rfl⟩ := more_of hb1; clear hb1) | (go_at_call 77; refine (rburn_any (HR.out.below (by repeat (first | (with_reducible exact Below.refl _ _) | (with_reducible exact bl_mm) | (with_reducible refine bl_dr ?_) | (with_reducible refine bl_drN ?_ _) | (with_reducible refine bl_al ?_ _) | (with_reducible refine bl_more ?_ _ _)))) HS.out HDN.out HF.out).mono ?_; rintro e w3 ⟨rfl, f', hf', hq, he⟩; have g0 : w3.cell? ⟨r, 0, none⟩ = some (.slice (some ⟨gF, 0, none⟩) s.fs.length s.fs.length) := hq.f; have g1 : w3.cell? ⟨r, 1, none⟩ = some (.int .i64 s.room) := hq.room; have g2 : w3.cell? ⟨gF, i * 2, none⟩ = some (.string (bs (s.fs[i]'hi).b)) := (hq.files i HI.out).1; have g3 : w3.cell? ⟨gF, i * 2 + 1, none⟩ = some (.int .i64 (s.fs[i]'hi).synced) := (hq.files i HI.out).2; have g4 := (hq.frz 1).1; have g5 := (hq.frz (i * 2)).2; have g6 := (hq.frz (i * 2 + 1)).2; obtain ⟨g7, g8⟩ := hq.lt; have HQ := hid hq; have HE := hid he; have HF' := hid hf'; clear hq he hf'))
  go_ret
  refine ⟨rfl, ?_, (Ext.trans (S := fun b => b = r ∨ b = gF) (by repeat (first | (with_reducible exact Ext.refl _ _) | (with_reducible refine ex_dr ?_) | (with_reducible refine ex_drN ?_ _) | (with_reducible refine ex_al ?_ _) | (with_reducible refine ex_more ?_ _ _) | (with_reducible refine Ext.set ?_ _ _ _ (by first | exact rfl | exact .inl rfl | exact .inr rfl)))) HE.out (fun _ _ h => .inl h)).trans ((by repeat (first | (with_reducible exact Ext.refl _ _) | (with_reducible refine ex_dr ?_) | (with_reducible refine ex_drN ?_ _) | (with_reducible refine ex_al ?_ _) | (with_reducible refine ex_more ?_ _ _) | (with_reducible refine Ext.set ?_ _ _ _ (by first | exact rfl | exact .inl rfl | exact .inr rfl)))) : Ext (fun b => b = r ∨ b = gF) _ _) (fun _ _ h => h)⟩
  rw [HF'.out, app_eq (s := { s with fuse := f' }) HI.out]
  exact ((HQ.out.setStr i HI.out ((s.fs[i]'hi).b ++ l)).setRoom (s.room - (l.length : Int))).below (by repeat (first | (with_reducible exact Below.refl _ _) | (with_reducible exact bl_mm) | (with_reducible refine bl_dr ?_) | (with_reducible refine bl_drN ?_ _) | (with_reducible refine bl_al ?_ _) | (with_reducible refine bl_more ?_ _ _)))
end Go.Proofs.Ytgpcgndmdkgbdaa

/- The document's disk: the rest. -/
namespace Go.Proofs.Ytgpcgndmdkgbdaa
open Go.RowKit

set_option maxHeartbeats 1000000 in
theorem rnew_bad {w : World} {n r : Int} (h : n < 1 ∨ 65 < n ∨ r < 0 ∨ 1048576 < r) : Calls Try.prog 34 #[.int .i64 n, .int .i64 r] w fun e w' => e = .returned (.tuple #[.pointer none, .int .i64 2]) ∧ Below w.heap.size w w' := by
  by_cases h1 : n < 1
  · clear h
    go_enter Try.func34, Try.ntmps34
    go_wp2
    go_ret2
    exact ⟨rfl, (by repeat (first | (with_reducible exact Below.refl _ _) | (with_reducible exact bl_mm) | (with_reducible refine bl_dr ?_) | (with_reducible refine bl_drN ?_ _) | (with_reducible refine bl_al ?_ _) | (with_reducible refine bl_more ?_ _ _)))⟩
  · by_cases h2 : 65 < n
    · clear h
      go_enter Try.func34, Try.ntmps34
      go_wp2
      go_ret2
      exact ⟨rfl, (by repeat (first | (with_reducible exact Below.refl _ _) | (with_reducible exact bl_mm) | (with_reducible refine bl_dr ?_) | (with_reducible refine bl_drN ?_ _) | (with_reducible refine bl_al ?_ _) | (with_reducible refine bl_more ?_ _ _)))⟩
    · by_cases h3 : r < 0
      · clear h
        go_enter Try.func34, Try.ntmps34
        go_wp2
        go_ret2
        exact ⟨rfl, (by repeat (first | (with_reducible exact Below.refl _ _) | (with_reducible exact bl_mm) | (with_reducible refine bl_dr ?_) | (with_reducible refine bl_drN ?_ _) | (with_reducible refine bl_al ?_ _) | (with_reducible refine bl_more ?_ _ _)))⟩
      · have h4 : 1048576 < r := by omega
        clear h
        go_enter Try.func34, Try.ntmps34
        go_wp2
        go_ret2
        exact ⟨rfl, (by repeat (first | (with_reducible exact Below.refl _ _) | (with_reducible exact bl_mm) | (with_reducible refine bl_dr ?_) | (with_reducible refine bl_drN ?_ _) | (with_reducible refine bl_al ?_ _) | (with_reducible refine bl_more ?_ _ _)))⟩
theorem info64 : (Try.prog.info? 103).map (fun i => (i.zero, i.size, i.bytes)) = some (some (.agg #[.string ByteArray.empty, .int .i64 0]), 2, 24) := by kernel_rfl
def mk (n : Nat) : Array Value := madeCells #[.string ByteArray.empty, .int .i64 0] (n * 2)
theorem mk_size (n : Nat) : (mk n).size = n * 2 := size_madeCells _ _
theorem mk_at {n i : Nat} (h : i < n) : (mk n)[i * 2]? = some (.string (bs [])) ∧ (mk n)[i * 2 + 1]? = some (.int .i64 0) := by
  unfold mk madeCells
  have h1 : i * 2 < n * 2 := by omega
  have h2 : i * 2 + 1 < n * 2 := by omega
  constructor
  · simp [h1]
    try rfl
  · simp [h2]
    try (rw [show (i * 2 + 1) % 2 = 1 by omega]; rfl)
theorem make_any {n : Nat} (h : n ≤ 65) (W : World) : (Instr.makeSlice 104 (.int .i64 n) (.int .i64 n)).run Try.prog W = .ok (.slice (some ⟨W.heap.size, 0, none⟩) n n) (W.alloc (.cells (mk n) 103)) := by
  obtain ⟨i0, hi, hz0, hz1, hz2⟩ := info_parts info64
  have := run_make (P := Try.prog) W 104 103 i0 _ Try.underlying104 hi hz0 .i64 .i64 (n : Int) n (by omega) (Int.le_refl _) (by rw [hz2]; omega) (by omega)
  rw [hz1] at this
  simpa [mk, Value.cells] using this
def RNew (w : World) (s : DS) (e : Ending) (w' : World) : Prop := ∃ d g, e = .returned (.tuple #[.pointer (some ⟨d, 0, none⟩), .int .i64 0]) ∧ w.heap.size ≤ d ∧ w.heap.size ≤ g ∧ Rk w' d g s ∧ Below w.heap.size w w'
set_option maxHeartbeats 1000000 in
theorem rnew_any {w : World} {n : Nat} {r : Int} (h1 : 1 ≤ n) (h2 : n ≤ 65) (h3 : 0 ≤ r) (h4 : r ≤ 1048576) : Calls Try.prog 34 #[.int .i64 n, .int .i64 r] w (RNew w { fs := fs0 n, room := r, fuse := -1, down := false }) := by
  have i1 : ¬ (n : Int) < 1 := by omega
  have i2 : ¬ (65 : Int) < (n : Int) := by omega
  have i3 : ¬ r < 0 := by omega
  have i4 : ¬ 1048576 < r := by omega
  have i5 : (0 : Int) ≤ (n : Int) := by omega
  have hmk := make_any h2
  have hfl : (fs0 n).length = n := by simp [fs0]
  go_enter Try.func34, Try.ntmps34
  go_wp2
  go_ret2
  refine ⟨w.heap.size + 1, w.heap.size, rfl, by omega, Nat.le_refl _, ⟨⟨_, alloc_blk (by simp only [World.size_alloc])⟩, ?_, ?_, ?_, ?_, ⟨mk n, ?_⟩, fun i hi => ?_⟩, (by repeat (first | (with_reducible exact Below.refl _ _) | (with_reducible exact bl_mm) | (with_reducible refine bl_dr ?_) | (with_reducible refine bl_drN ?_ _) | (with_reducible refine bl_al ?_ _) | (with_reducible refine bl_more ?_ _ _)))⟩
  · rw [hfl]; go_simp
  · go_simp
  · go_simp
  · go_simp
  · exact (Below.heap_alloc _ _ _ (by simp)).trans (alloc_blk rfl)
  · have hi' : i < n := by rw [← hfl]; exact hi
    obtain ⟨k1, k2⟩ := mk_at hi'
    have hf : (fs0 n)[i]'(by rw [hfl]; exact hi') = ⟨[], 0⟩ := by simp [fs0]
    have hb : ((w.alloc (.cells (mk n) 103)).alloc (.cells #[.slice (some ⟨w.heap.size, 0, none⟩) n n, .int .i64 r, .int .i64 (-1), .bool false] 106)).heap[w.heap.size]? = some (.cells (mk n) 103 (0, 0)) := (Below.heap_alloc _ _ _ (by simp)).trans (alloc_blk rfl)
    show _ = some (Value.string (bs ((fs0 n)[i]'(by rw [hfl]; exact hi')).b)) ∧ _ = some (Value.int .i64 (((fs0 n)[i]'(by rw [hfl]; exact hi')).synced : Int))
    rw [hf]
    exact ⟨(cell_blk hb _).trans k1, (cell_blk hb _).trans k2⟩
set_option maxHeartbeats 1000000 in
theorem rarm_down {w : World} {r gF : Nat} {s : DS} (h : Rk w r gF s) (n : Int) (hdn : s.down = true) :
    Calls Try.prog 46 #[.pointer (some ⟨r, 0, none⟩), .int .i64 n] w fun e w' => e = .returned (.int .i64 9) ∧ Below w.heap.size w w' := by
  have h1 := h.down
  rw [hdn] at h1
  clear h hdn
  go_enter Try.func46, Try.ntmps46
  go_wp2
  go_ret
  exact ⟨rfl, (by repeat (first | (with_reducible exact Below.refl _ _) | (with_reducible exact bl_mm) | (with_reducible refine bl_dr ?_) | (with_reducible refine bl_drN ?_ _) | (with_reducible refine bl_al ?_ _) | (with_reducible refine bl_more ?_ _ _)))⟩
set_option maxHeartbeats 1000000 in
theorem rarm_any {w : World} {r gF : Nat} {s : DS} (h : Rk w r gF s) (n : Int) (hdn : s.down = false) :
    Calls Try.prog 46 #[.pointer (some ⟨r, 0, none⟩), .int .i64 n] w fun e w' => e = .returned (.int .i64 0) ∧ Rk w' r gF { s with fuse := max n (-1) } ∧ Ext (fun b => b = r ∨ b = gF) w w' := by
  have h1 := h.down
  have h2 := h.fuse
  have f1 := (h.frz 2).1
  rw [hdn] at h1
  have HR := hid h
  clear h hdn
  go_enter Try.func46, Try.ntmps46
  go_wp2
  all_goals (
    go_ret
    refine ⟨rfl, ?_, (by repeat (first | (with_reducible exact Ext.refl _ _) | (with_reducible refine ex_dr ?_) | (with_reducible refine ex_drN ?_ _) | (with_reducible refine ex_al ?_ _) | (with_reducible refine ex_more ?_ _ _) | (with_reducible refine Ext.set ?_ _ _ _ (by first | exact rfl | exact .inl rfl | exact .inr rfl))))⟩
    first
    | (rw [show max n (-1) = -1 by omega]; exact (HR.out.setFuse (-1)).below (by repeat (first | (with_reducible exact Below.refl _ _) | (with_reducible exact bl_mm) | (with_reducible refine bl_dr ?_) | (with_reducible refine bl_drN ?_ _) | (with_reducible refine bl_al ?_ _) | (with_reducible refine bl_more ?_ _ _))))
    | (rw [show max n (-1) = n by omega]; exact (HR.out.setFuse n).below (by repeat (first | (with_reducible exact Below.refl _ _) | (with_reducible exact bl_mm) | (with_reducible refine bl_dr ?_) | (with_reducible refine bl_drN ?_ _) | (with_reducible refine bl_al ?_ _) | (with_reducible refine bl_more ?_ _ _)))))
end Go.Proofs.Ytgpcgndmdkgbdaa

/- The document's crash. -/
namespace Go.Proofs.Ytgpcgndmdkgbdaa
open Go.RowKit

set_option maxRecDepth 8000 in
set_option maxHeartbeats 2000000 in
theorem rcrash_any {w : World} {r gF : Nat} {K : Nat → Prop} {s : DS} {C : Int} {v : Value} {ks : List Int} (h : Rk w r gF s) (hs : s.Ok C) (hC : C ≤ 1000000000) (hk : intE.Row K w v ks) (hKd : ∀ b, K b → b ≠ r ∧ b ≠ gF) :
    Calls Try.prog 44 #[.pointer (some ⟨r, 0, none⟩), v] w fun e w' => e = .returned (.tuple #[]) ∧ Rk w' r gF (s.crash ks) ∧ Ext (fun b => b = r ∨ b = gF) w w' := by
  obtain ⟨A, c, rfl, hl1, hl2⟩ := hk.form
  have n1 : (r = gF) = False := by simp only [eq_iff_iff, iff_false]; exact h.ne
  have n2 : (gF = r) = False := by simp only [eq_iff_iff, iff_false]; exact h.ne.symm
  have HR := hid h
  have HS := hid hs
  have HC2 := hid hC
  have HRW0 := hid hk
  have HKD := hid hKd
  clear h hs hC hk hKd hl1 hl2
  go_enter Try.func44, Try.ntmps44
  go_wp2_with (first | ((with_reducible refine wp_region_plan (id := 3) (.fin [(false, 0), (false, 1), (false, 2), (false, 3), (false, 4), (false, 5), (false, 6), (false, 7), (false, 8), (false, 9), (false, 10), (false, 11), (false, 12), (false, 13), (false, 14), (false, 15), (false, 16), (false, 17), (false, 18)]) ?_ ?_ ?_ ?_ ?_ ?_); kernel_rfl; kernel_rfl; kernel_rfl; kernel_rfl; (intro c a d v w h; cases d <;> exact h)) | ((with_reducible refine wp_region_plan (id := 8) (.eff [(false, 0), (false, 1), (false, 2), (false, 3), (false, 4), (false, 5), (false, 6), (false, 7), (false, 8), (false, 9), (false, 10), (false, 11), (false, 12), (false, 13), (false, 14), (false, 15), (false, 16), (false, 17), (false, 18)] 19 [] (.fin [])) ?_ ?_ ?_ ?_ ?_ ?_); kernel_rfl; kernel_rfl; kernel_rfl; kernel_rfl; (intro c a d v w h; cases d <;> exact h)) | ((with_reducible refine wp_region_plan (id := 9) (.eff [(false, 0), (false, 1), (false, 2), (false, 3), (false, 4), (false, 5), (false, 6), (false, 7), (false, 8), (false, 9), (false, 10), (false, 11), (false, 12), (false, 13), (false, 14), (false, 15), (false, 16), (false, 17)] 18 [] (.fin [])) ?_ ?_ ?_ ?_ ?_ ?_); kernel_rfl; kernel_rfl; kernel_rfl; kernel_rfl; (intro c a d v w h; cases d <;> exact h)) | (with_reducible refine wpPlan_eff ?_) | (with_reducible refine wpPlan_fin ?_) | (with_reducible refine wpPlan_two ?_) | (with_reducible refine wpOpPair ?_ ?_) | ((with_reducible apply wpPre_keep); rfl; intro K' hK'; go_simp; refine hK' _ _ ?_; intro f hf; clear hK' K') | ((with_reducible apply wpPre_drop); rfl; intro K' hK'; go_simp; refine hK' _ _ ?_; intro f; clear hK' K') | (with_reducible refine wpPre_nil ?_) | ((with_reducible apply wpOp_list); rfl) | (with_reducible refine heldPair ?_ ?_) | ((with_reducible refine heldH_no ?_ ?_); rfl) | (with_reducible refine heldH_yes ?_ ?_) | (with_reducible exact heldH_nil) | (unfold YAt; go_simp; done))
  go_loopg [4] s.fs.length (fun k i wr => ∃ j : Nat, j + k = s.fs.length ∧ i = .int .i64 j ∧ Rk wr r gF (crashN s ks j) ∧ Ext (fun b => b = r ∨ b = gF) w wr)
  case atStart => exact ⟨0, by omega, rfl, HR.out.below (by repeat (first | (with_reducible exact Below.refl _ _) | (with_reducible exact bl_mm) | (with_reducible refine bl_dr ?_) | (with_reducible refine bl_drN ?_ _) | (with_reducible refine bl_al ?_ _) | (with_reducible refine bl_more ?_ _ _))), (by repeat (first | (with_reducible exact Ext.refl _ _) | (with_reducible refine ex_dr ?_) | (with_reducible refine ex_drN ?_ _) | (with_reducible refine ex_al ?_ _) | (with_reducible refine ex_more ?_ _ _) | (with_reducible refine Ext.set ?_ _ _ _ (by first | exact rfl | exact .inl rfl | exact .inr rfl))))⟩
  case round =>
    obtain ⟨j, hj, rfl, hq, he⟩ := hrel
    have HQ := hid hq
    have HE := hid he
    have HK := hid hj
    have hf := hq.f
    rw [crash_len] at hf
    have hroom := hq.room
    obtain ⟨l1, l2⟩ := hq.lt
    have f1 := (hq.frz 1).1
    have f2 := (hq.frz (j * 2)).2
    have f3 := (hq.frz (j * 2 + 1)).2
    have hrow := HRW0.out.ext he (fun b hb _ => by have := HKD.out b hb; omega)
    by_cases hlt : j < s.fs.length
    · have hlt2 : j < (crashN s ks j).fs.length := by rw [crash_len]; exact hlt
      obtain ⟨c1, c2⟩ := hq.files j hlt2
      rw [crash_file s ks hlt] at c1 c2
      have HFILE := hid (crash_file s ks hlt)
      have i1 : (j : Int) < (s.fs.length : Int) := by omega
      have i2 : (0 : Int) ≤ (j : Int) := by omega
      have w1 : IntKind.i64.wrap ((j : Int) + 1) = ((j + 1 : Nat) : Int) := by rw [IntWalk.i64_in _ (by have := HS.out.n2; omega)]; rfl
      have hsy := HS.out.sync _ (List.getElem_mem hlt)
      have hln := HS.out.len (List.getElem_mem hlt)
      have hok := crash_ok HS.out ks j (by omega)
      have hr0 := hok.room
      have hrc := hok.roomC
      obtain ⟨R, hR⟩ : ∃ R, R = (crashN s ks j).room := ⟨_, rfl⟩
      rw [← hR] at hroom hr0 hrc
      have HRR := hid hR
      have HJ := hid (And.intro hlt hlt2)
      have HRW := hid hrow
      have hC2 := HC2.out
      have w0 : IntKind.i64.wrap (R + ((s.fs[j]'hlt).b.length : Int)) = R + ((s.fs[j]'hlt).b.length : Int) := IntWalk.i64_in _ (by omega)
      have w2 : IntKind.i64.wrap (((s.fs[j]'hlt).b.length : Int) - ((s.fs[j]'hlt).synced : Int)) = ((s.fs[j]'hlt).b.length : Int) - ((s.fs[j]'hlt).synced : Int) := IntWalk.i64_in _ (by omega)
      clear hq he hj hrow hok hR
      by_cases hk : j < ks.length
      · obtain ⟨bb, off, rfl, hbl, hKb, k1⟩ := Row_int HRW.out j hk
        obtain ⟨hKb1, hKb2⟩ := HKD.out bb hKb
        have y1 : (bb = r) = False := by simp only [eq_iff_iff, iff_false]; exact hKb1
        have y2 : (r = bb) = False := by simp only [eq_iff_iff, iff_false]; exact hKb1.symm
        have y3 : (bb = gF) = False := by simp only [eq_iff_iff, iff_false]; exact hKb2
        have y4 : (gF = bb) = False := by simp only [eq_iff_iff, iff_false]; exact hKb2.symm
        clear hKb hKb1 hKb2
        have j1 : (j : Int) < (ks.length : Int) := by omega
        by_cases hneg : ks[j] < 0
        · obtain ⟨m, hm⟩ : ∃ m, m = (s.fs[j]'hlt).synced := ⟨_, rfl⟩
          have HCUT : Hid (cutN (s.fs[j]'hlt) ks[j]? = m) := hid (by rw [hm]; simp [cutN, hk]; omega)
          rw [← hm] at c2 w2
          have w3 : ¬ ((s.fs[j]'hlt).b.length : Int) - (m : Int) < 0 := by omega
          have w4 : IntKind.i64.wrap (m : Int) = (m : Int) := IntWalk.i64_in _ (by omega)
          have w5 : IntKind.i64.wrap (R + ((s.fs[j]'hlt).b.length : Int) - (m : Int)) = R + (((s.fs[j]'hlt).b.length : Int) - (m : Int)) := by rw [IntWalk.i64_in _ (by omega)]; omega
          have w6 := bs_take (s.fs[j]'hlt).b m
          have w7 : (m : Int) ≤ ((s.fs[j]'hlt).b.length : Int) := by omega
          clear hm hsy hln hC2 hr0 hrc
          go_wp2_with (first | ((with_reducible refine wp_region_plan (id := 3) (.fin [(false, 0), (false, 1), (false, 2), (false, 3), (false, 4), (false, 5), (false, 6), (false, 7), (false, 8), (false, 9), (false, 10), (false, 11), (false, 12), (false, 13), (false, 14), (false, 15), (false, 16), (false, 17), (false, 18)]) ?_ ?_ ?_ ?_ ?_ ?_); kernel_rfl; kernel_rfl; kernel_rfl; kernel_rfl; (intro c a d v w h; cases d <;> exact h)) | ((with_reducible refine wp_region_plan (id := 8) (.eff [(false, 0), (false, 1), (false, 2), (false, 3), (false, 4), (false, 5), (false, 6), (false, 7), (false, 8), (false, 9), (false, 10), (false, 11), (false, 12), (false, 13), (false, 14), (false, 15), (false, 16), (false, 17), (false, 18)] 19 [] (.fin [])) ?_ ?_ ?_ ?_ ?_ ?_); kernel_rfl; kernel_rfl; kernel_rfl; kernel_rfl; (intro c a d v w h; cases d <;> exact h)) | ((with_reducible refine wp_region_plan (id := 9) (.eff [(false, 0), (false, 1), (false, 2), (false, 3), (false, 4), (false, 5), (false, 6), (false, 7), (false, 8), (false, 9), (false, 10), (false, 11), (false, 12), (false, 13), (false, 14), (false, 15), (false, 16), (false, 17)] 18 [] (.fin [])) ?_ ?_ ?_ ?_ ?_ ?_); kernel_rfl; kernel_rfl; kernel_rfl; kernel_rfl; (intro c a d v w h; cases d <;> exact h)) | (with_reducible refine wpPlan_eff ?_) | (with_reducible refine wpPlan_fin ?_) | (with_reducible refine wpPlan_two ?_) | (with_reducible refine wpOpPair ?_ ?_) | ((with_reducible apply wpPre_keep); rfl; intro K' hK'; go_simp; refine hK' _ _ ?_; intro f hf; clear hK' K') | ((with_reducible apply wpPre_drop); rfl; intro K' hK'; go_simp; refine hK' _ _ ?_; intro f; clear hK' K') | (with_reducible refine wpPre_nil ?_) | ((with_reducible apply wpOp_list); rfl) | (with_reducible refine heldPair ?_ ?_) | ((with_reducible refine heldH_no ?_ ?_); rfl) | (with_reducible refine heldH_yes ?_ ?_) | (with_reducible exact heldH_nil) | (unfold YAt; go_simp; done))
          all_goals (
            go_roundg (s.fs.length - (j + 1))
            case measure => have := HK.out; omega
            case rel => exact ⟨j + 1, by have := HK.out; omega, rfl, by rw [crash_next (m := m) HJ.out.1 HCUT.out, keep_eq HJ.out.2, HFILE.out, ← HRR.out]; exact ((HQ.out.setRoom (R + (((s.fs[j]'hlt).b.length : Int) - (m : Int)))).setFile j HJ.out.2 ((s.fs[j]'hlt).b.take m) m).below (by repeat (first | (with_reducible exact Below.refl _ _) | (with_reducible exact bl_mm) | (with_reducible refine bl_dr ?_) | (with_reducible refine bl_drN ?_ _) | (with_reducible refine bl_al ?_ _) | (with_reducible refine bl_more ?_ _ _))), HE.out.trans ((by repeat (first | (with_reducible exact Ext.refl _ _) | (with_reducible refine ex_dr ?_) | (with_reducible refine ex_drN ?_ _) | (with_reducible refine ex_al ?_ _) | (with_reducible refine ex_more ?_ _ _) | (with_reducible refine Ext.set ?_ _ _ _ (by first | exact rfl | exact .inl rfl | exact .inr rfl)))) : Ext (fun b => b = r ∨ b = gF) wr _) (fun _ _ h => h)⟩)
        · by_cases hbig : ((s.fs[j]'hlt).b.length : Int) - ((s.fs[j]'hlt).synced : Int) < ks[j]
          · obtain ⟨m, hm⟩ : ∃ m, m = (s.fs[j]'hlt).b.length := ⟨_, rfl⟩
            have HCUT : Hid (cutN (s.fs[j]'hlt) ks[j]? = m) := hid (by rw [hm]; simp [cutN, hk]; omega)
            have w3 : IntKind.i64.wrap (((s.fs[j]'hlt).b.length : Int) - ((s.fs[j]'hlt).synced : Int) + ((s.fs[j]'hlt).synced : Int)) = (m : Int) := by rw [IntWalk.i64_in _ (by omega)]; omega
            have w4 : IntKind.i64.wrap ((s.fs[j]'hlt).b.length : Int) = (m : Int) := by rw [IntWalk.i64_in _ (by omega)]; omega
            have w5 : IntKind.i64.wrap (R + ((s.fs[j]'hlt).b.length : Int) - (m : Int)) = R + (((s.fs[j]'hlt).b.length : Int) - (m : Int)) := by rw [IntWalk.i64_in _ (by omega)]; omega
            have w6 := bs_take (s.fs[j]'hlt).b m
            have w7 : (m : Int) ≤ ((s.fs[j]'hlt).b.length : Int) := by omega
            clear hm hsy hln hC2 hr0 hrc
            go_wp2_with (first | ((with_reducible refine wp_region_plan (id := 3) (.fin [(false, 0), (false, 1), (false, 2), (false, 3), (false, 4), (false, 5), (false, 6), (false, 7), (false, 8), (false, 9), (false, 10), (false, 11), (false, 12), (false, 13), (false, 14), (false, 15), (false, 16), (false, 17), (false, 18)]) ?_ ?_ ?_ ?_ ?_ ?_); kernel_rfl; kernel_rfl; kernel_rfl; kernel_rfl; (intro c a d v w h; cases d <;> exact h)) | ((with_reducible refine wp_region_plan (id := 8) (.eff [(false, 0), (false, 1), (false, 2), (false, 3), (false, 4), (false, 5), (false, 6), (false, 7), (false, 8), (false, 9), (false, 10), (false, 11), (false, 12), (false, 13), (false, 14), (false, 15), (false, 16), (false, 17), (false, 18)] 19 [] (.fin [])) ?_ ?_ ?_ ?_ ?_ ?_); kernel_rfl; kernel_rfl; kernel_rfl; kernel_rfl; (intro c a d v w h; cases d <;> exact h)) | ((with_reducible refine wp_region_plan (id := 9) (.eff [(false, 0), (false, 1), (false, 2), (false, 3), (false, 4), (false, 5), (false, 6), (false, 7), (false, 8), (false, 9), (false, 10), (false, 11), (false, 12), (false, 13), (false, 14), (false, 15), (false, 16), (false, 17)] 18 [] (.fin [])) ?_ ?_ ?_ ?_ ?_ ?_); kernel_rfl; kernel_rfl; kernel_rfl; kernel_rfl; (intro c a d v w h; cases d <;> exact h)) | (with_reducible refine wpPlan_eff ?_) | (with_reducible refine wpPlan_fin ?_) | (with_reducible refine wpPlan_two ?_) | (with_reducible refine wpOpPair ?_ ?_) | ((with_reducible apply wpPre_keep); rfl; intro K' hK'; go_simp; refine hK' _ _ ?_; intro f hf; clear hK' K') | ((with_reducible apply wpPre_drop); rfl; intro K' hK'; go_simp; refine hK' _ _ ?_; intro f; clear hK' K') | (with_reducible refine wpPre_nil ?_) | ((with_reducible apply wpOp_list); rfl) | (with_reducible refine heldPair ?_ ?_) | ((with_reducible refine heldH_no ?_ ?_); rfl) | (with_reducible refine heldH_yes ?_ ?_) | (with_reducible exact heldH_nil) | (unfold YAt; go_simp; done))
            all_goals (
              go_roundg (s.fs.length - (j + 1))
              case measure => have := HK.out; omega
              case rel => exact ⟨j + 1, by have := HK.out; omega, rfl, by rw [crash_next (m := m) HJ.out.1 HCUT.out, keep_eq HJ.out.2, HFILE.out, ← HRR.out]; exact ((HQ.out.setRoom (R + (((s.fs[j]'hlt).b.length : Int) - (m : Int)))).setFile j HJ.out.2 ((s.fs[j]'hlt).b.take m) m).below (by repeat (first | (with_reducible exact Below.refl _ _) | (with_reducible exact bl_mm) | (with_reducible refine bl_dr ?_) | (with_reducible refine bl_drN ?_ _) | (with_reducible refine bl_al ?_ _) | (with_reducible refine bl_more ?_ _ _))), HE.out.trans ((by repeat (first | (with_reducible exact Ext.refl _ _) | (with_reducible refine ex_dr ?_) | (with_reducible refine ex_drN ?_ _) | (with_reducible refine ex_al ?_ _) | (with_reducible refine ex_more ?_ _ _) | (with_reducible refine Ext.set ?_ _ _ _ (by first | exact rfl | exact .inl rfl | exact .inr rfl)))) : Ext (fun b => b = r ∨ b = gF) wr _) (fun _ _ h => h)⟩)
          · obtain ⟨q, hq⟩ : ∃ q : Nat, ks[j] = (q : Int) := ⟨ks[j].toNat, by omega⟩
            obtain ⟨m, hm⟩ : ∃ m, m = (s.fs[j]'hlt).synced + q := ⟨_, rfl⟩
            have HCUT : Hid (cutN (s.fs[j]'hlt) ks[j]? = m) := hid (by rw [hm]; simp [cutN, hk, hq]; omega)
            have w3 : IntKind.i64.wrap ((q : Int) + ((s.fs[j]'hlt).synced : Int)) = (m : Int) := by rw [IntWalk.i64_in _ (by omega)]; omega
            rw [hq] at k1 hbig hneg
            clear hq
            have w5 : IntKind.i64.wrap (R + ((s.fs[j]'hlt).b.length : Int) - (m : Int)) = R + (((s.fs[j]'hlt).b.length : Int) - (m : Int)) := by rw [IntWalk.i64_in _ (by omega)]; omega
            have w6 := bs_take (s.fs[j]'hlt).b m
            have w7 : (m : Int) ≤ ((s.fs[j]'hlt).b.length : Int) := by omega
            clear hm hsy hln hC2 hr0 hrc
            go_wp2_with (first | ((with_reducible refine wp_region_plan (id := 3) (.fin [(false, 0), (false, 1), (false, 2), (false, 3), (false, 4), (false, 5), (false, 6), (false, 7), (false, 8), (false, 9), (false, 10), (false, 11), (false, 12), (false, 13), (false, 14), (false, 15), (false, 16), (false, 17), (false, 18)]) ?_ ?_ ?_ ?_ ?_ ?_); kernel_rfl; kernel_rfl; kernel_rfl; kernel_rfl; (intro c a d v w h; cases d <;> exact h)) | ((with_reducible refine wp_region_plan (id := 8) (.eff [(false, 0), (false, 1), (false, 2), (false, 3), (false, 4), (false, 5), (false, 6), (false, 7), (false, 8), (false, 9), (false, 10), (false, 11), (false, 12), (false, 13), (false, 14), (false, 15), (false, 16), (false, 17), (false, 18)] 19 [] (.fin [])) ?_ ?_ ?_ ?_ ?_ ?_); kernel_rfl; kernel_rfl; kernel_rfl; kernel_rfl; (intro c a d v w h; cases d <;> exact h)) | ((with_reducible refine wp_region_plan (id := 9) (.eff [(false, 0), (false, 1), (false, 2), (false, 3), (false, 4), (false, 5), (false, 6), (false, 7), (false, 8), (false, 9), (false, 10), (false, 11), (false, 12), (false, 13), (false, 14), (false, 15), (false, 16), (false, 17)] 18 [] (.fin [])) ?_ ?_ ?_ ?_ ?_ ?_); kernel_rfl; kernel_rfl; kernel_rfl; kernel_rfl; (intro c a d v w h; cases d <;> exact h)) | (with_reducible refine wpPlan_eff ?_) | (with_reducible refine wpPlan_fin ?_) | (with_reducible refine wpPlan_two ?_) | (with_reducible refine wpOpPair ?_ ?_) | ((with_reducible apply wpPre_keep); rfl; intro K' hK'; go_simp; refine hK' _ _ ?_; intro f hf; clear hK' K') | ((with_reducible apply wpPre_drop); rfl; intro K' hK'; go_simp; refine hK' _ _ ?_; intro f; clear hK' K') | (with_reducible refine wpPre_nil ?_) | ((with_reducible apply wpOp_list); rfl) | (with_reducible refine heldPair ?_ ?_) | ((with_reducible refine heldH_no ?_ ?_); rfl) | (with_reducible refine heldH_yes ?_ ?_) | (with_reducible exact heldH_nil) | (unfold YAt; go_simp; done))
            all_goals (
              go_roundg (s.fs.length - (j + 1))
              case measure => have := HK.out; omega
              case rel => exact ⟨j + 1, by have := HK.out; omega, rfl, by rw [crash_next (m := m) HJ.out.1 HCUT.out, keep_eq HJ.out.2, HFILE.out, ← HRR.out]; exact ((HQ.out.setRoom (R + (((s.fs[j]'hlt).b.length : Int) - (m : Int)))).setFile j HJ.out.2 ((s.fs[j]'hlt).b.take m) m).below (by repeat (first | (with_reducible exact Below.refl _ _) | (with_reducible exact bl_mm) | (with_reducible refine bl_dr ?_) | (with_reducible refine bl_drN ?_ _) | (with_reducible refine bl_al ?_ _) | (with_reducible refine bl_more ?_ _ _))), HE.out.trans ((by repeat (first | (with_reducible exact Ext.refl _ _) | (with_reducible refine ex_dr ?_) | (with_reducible refine ex_drN ?_ _) | (with_reducible refine ex_al ?_ _) | (with_reducible refine ex_more ?_ _ _) | (with_reducible refine Ext.set ?_ _ _ _ (by first | exact rfl | exact .inl rfl | exact .inr rfl)))) : Ext (fun b => b = r ∨ b = gF) wr _) (fun _ _ h => h)⟩)
      · have j1 : ¬ (j : Int) < (ks.length : Int) := by omega
        obtain ⟨m, hm⟩ : ∃ m, m = (s.fs[j]'hlt).synced := ⟨_, rfl⟩
        have HCUT : Hid (cutN (s.fs[j]'hlt) ks[j]? = m) := hid (by rw [hm]; simp [cutN, hk])
        rw [← hm] at c2 w2
        have w4 : IntKind.i64.wrap (m : Int) = (m : Int) := IntWalk.i64_in _ (by omega)
        have w5 : IntKind.i64.wrap (R + ((s.fs[j]'hlt).b.length : Int) - (m : Int)) = R + (((s.fs[j]'hlt).b.length : Int) - (m : Int)) := by rw [IntWalk.i64_in _ (by omega)]; omega
        have w6 := bs_take (s.fs[j]'hlt).b m
        have w7 : (m : Int) ≤ ((s.fs[j]'hlt).b.length : Int) := by omega
        clear hm hsy hln hC2 hr0 hrc
        go_wp2_with (first | ((with_reducible refine wp_region_plan (id := 3) (.fin [(false, 0), (false, 1), (false, 2), (false, 3), (false, 4), (false, 5), (false, 6), (false, 7), (false, 8), (false, 9), (false, 10), (false, 11), (false, 12), (false, 13), (false, 14), (false, 15), (false, 16), (false, 17), (false, 18)]) ?_ ?_ ?_ ?_ ?_ ?_); kernel_rfl; kernel_rfl; kernel_rfl; kernel_rfl; (intro c a d v w h; cases d <;> exact h)) | ((with_reducible refine wp_region_plan (id := 8) (.eff [(false, 0), (false, 1), (false, 2), (false, 3), (false, 4), (false, 5), (false, 6), (false, 7), (false, 8), (false, 9), (false, 10), (false, 11), (false, 12), (false, 13), (false, 14), (false, 15), (false, 16), (false, 17), (false, 18)] 19 [] (.fin [])) ?_ ?_ ?_ ?_ ?_ ?_); kernel_rfl; kernel_rfl; kernel_rfl; kernel_rfl; (intro c a d v w h; cases d <;> exact h)) | ((with_reducible refine wp_region_plan (id := 9) (.eff [(false, 0), (false, 1), (false, 2), (false, 3), (false, 4), (false, 5), (false, 6), (false, 7), (false, 8), (false, 9), (false, 10), (false, 11), (false, 12), (false, 13), (false, 14), (false, 15), (false, 16), (false, 17)] 18 [] (.fin [])) ?_ ?_ ?_ ?_ ?_ ?_); kernel_rfl; kernel_rfl; kernel_rfl; kernel_rfl; (intro c a d v w h; cases d <;> exact h)) | (with_reducible refine wpPlan_eff ?_) | (with_reducible refine wpPlan_fin ?_) | (with_reducible refine wpPlan_two ?_) | (with_reducible refine wpOpPair ?_ ?_) | ((with_reducible apply wpPre_keep); rfl; intro K' hK'; go_simp; refine hK' _ _ ?_; intro f hf; clear hK' K') | ((with_reducible apply wpPre_drop); rfl; intro K' hK'; go_simp; refine hK' _ _ ?_; intro f; clear hK' K') | (with_reducible refine wpPre_nil ?_) | ((with_reducible apply wpOp_list); rfl) | (with_reducible refine heldPair ?_ ?_) | ((with_reducible refine heldH_no ?_ ?_); rfl) | (with_reducible refine heldH_yes ?_ ?_) | (with_reducible exact heldH_nil) | (unfold YAt; go_simp; done))
        all_goals (
          go_roundg (s.fs.length - (j + 1))
          case measure => have := HK.out; omega
          case rel => exact ⟨j + 1, by have := HK.out; omega, rfl, by rw [crash_next (m := m) HJ.out.1 HCUT.out, keep_eq HJ.out.2, HFILE.out, ← HRR.out]; exact ((HQ.out.setRoom (R + (((s.fs[j]'hlt).b.length : Int) - (m : Int)))).setFile j HJ.out.2 ((s.fs[j]'hlt).b.take m) m).below (by repeat (first | (with_reducible exact Below.refl _ _) | (with_reducible exact bl_mm) | (with_reducible refine bl_dr ?_) | (with_reducible refine bl_drN ?_ _) | (with_reducible refine bl_al ?_ _) | (with_reducible refine bl_more ?_ _ _))), HE.out.trans ((by repeat (first | (with_reducible exact Ext.refl _ _) | (with_reducible refine ex_dr ?_) | (with_reducible refine ex_drN ?_ _) | (with_reducible refine ex_al ?_ _) | (with_reducible refine ex_more ?_ _ _) | (with_reducible refine Ext.set ?_ _ _ _ (by first | exact rfl | exact .inl rfl | exact .inr rfl)))) : Ext (fun b => b = r ∨ b = gF) wr _) (fun _ _ h => h)⟩)
    · obtain rfl : j = s.fs.length := by omega
      have i1 : ¬ (s.fs.length : Int) < (s.fs.length : Int) := by omega
      have f4 := (hq.frz 2).1
      have f5 := (hq.frz 3).1
      have k1 := hq.fuse
      have k2 := hq.down
      clear hq he hj hrow
      go_wp2_with (first | ((with_reducible refine wp_region_plan (id := 3) (.fin [(false, 0), (false, 1), (false, 2), (false, 3), (false, 4), (false, 5), (false, 6), (false, 7), (false, 8), (false, 9), (false, 10), (false, 11), (false, 12), (false, 13), (false, 14), (false, 15), (false, 16), (false, 17), (false, 18)]) ?_ ?_ ?_ ?_ ?_ ?_); kernel_rfl; kernel_rfl; kernel_rfl; kernel_rfl; (intro c a d v w h; cases d <;> exact h)) | ((with_reducible refine wp_region_plan (id := 8) (.eff [(false, 0), (false, 1), (false, 2), (false, 3), (false, 4), (false, 5), (false, 6), (false, 7), (false, 8), (false, 9), (false, 10), (false, 11), (false, 12), (false, 13), (false, 14), (false, 15), (false, 16), (false, 17), (false, 18)] 19 [] (.fin [])) ?_ ?_ ?_ ?_ ?_ ?_); kernel_rfl; kernel_rfl; kernel_rfl; kernel_rfl; (intro c a d v w h; cases d <;> exact h)) | ((with_reducible refine wp_region_plan (id := 9) (.eff [(false, 0), (false, 1), (false, 2), (false, 3), (false, 4), (false, 5), (false, 6), (false, 7), (false, 8), (false, 9), (false, 10), (false, 11), (false, 12), (false, 13), (false, 14), (false, 15), (false, 16), (false, 17)] 18 [] (.fin [])) ?_ ?_ ?_ ?_ ?_ ?_); kernel_rfl; kernel_rfl; kernel_rfl; kernel_rfl; (intro c a d v w h; cases d <;> exact h)) | (with_reducible refine wpPlan_eff ?_) | (with_reducible refine wpPlan_fin ?_) | (with_reducible refine wpPlan_two ?_) | (with_reducible refine wpOpPair ?_ ?_) | ((with_reducible apply wpPre_keep); rfl; intro K' hK'; go_simp; refine hK' _ _ ?_; intro f hf; clear hK' K') | ((with_reducible apply wpPre_drop); rfl; intro K' hK'; go_simp; refine hK' _ _ ?_; intro f; clear hK' K') | (with_reducible refine wpPre_nil ?_) | ((with_reducible apply wpOp_list); rfl) | (with_reducible refine heldPair ?_ ?_) | ((with_reducible refine heldH_no ?_ ?_); rfl) | (with_reducible refine heldH_yes ?_ ?_) | (with_reducible exact heldH_nil) | (unfold YAt; go_simp; done))
      go_end0
      refine ⟨rfl, ?_, HE.out.trans ((by repeat (first | (with_reducible exact Ext.refl _ _) | (with_reducible refine ex_dr ?_) | (with_reducible refine ex_drN ?_ _) | (with_reducible refine ex_al ?_ _) | (with_reducible refine ex_more ?_ _ _) | (with_reducible refine Ext.set ?_ _ _ _ (by first | exact rfl | exact .inl rfl | exact .inr rfl)))) : Ext (fun b => b = r ∨ b = gF) wr _) (fun _ _ h => h)⟩
      exact ((HQ.out.setFuse (-1)).setDown false).below (by repeat (first | (with_reducible exact Below.refl _ _) | (with_reducible exact bl_mm) | (with_reducible refine bl_dr ?_) | (with_reducible refine bl_drN ?_ _) | (with_reducible refine bl_al ?_ _) | (with_reducible refine bl_more ?_ _ _)))
end Go.Proofs.Ytgpcgndmdkgbdaa

/- Each call, whatever its way. -/
namespace Go.Proofs.Ytgpcgndmdkgbdaa
open Go.RowKit

def DkTo (w : World) (d : Nat) (G : Nat → Prop) (p : DS × Int) (e : Ending) (w' : World) : Prop := e = .returned (.int .i64 p.2) ∧ Dk w' d (fun b => G b ∨ w.heap.size ≤ b) p.1 ∧ Ext (fun b => b = d ∨ G b) w w'
def RkTo (w : World) (r gF : Nat) (p : DS × Int) (e : Ending) (w' : World) : Prop := e = .returned (.int .i64 p.2) ∧ Rk w' r gF p.1 ∧ Ext (fun b => b = r ∨ b = gF) w w'
theorem dkTo_below {w w' : World} {d : Nat} {G : Nat → Prop} {s : DS} {c : Int} {e : Ending} (h : Dk w d G s) (he : e = .returned (.int .i64 c)) (hb : Below w.heap.size w w') : DkTo w d G (s, c) e w' := ⟨he, (h.below hb).mono (fun _ h _ => .inl h), Ext.of_below hb⟩
theorem dkTo_ext {w w' : World} {d : Nat} {G : Nat → Prop} {s : DS} {c : Int} {e : Ending} (he : e = .returned (.int .i64 c)) (h : Dk w' d G s) (hb : Ext (fun b => b = d) w w') : DkTo w d G (s, c) e w' := ⟨he, h.mono (fun _ h _ => .inl h), hb.mono (fun _ _ h => .inl h)⟩
theorem rkTo_below {w w' : World} {r gF : Nat} {s : DS} {c : Int} {e : Ending} (h : Rk w r gF s) (he : e = .returned (.int .i64 c)) (hb : Below w.heap.size w w') : RkTo w r gF (s, c) e w' := ⟨he, h.below hb, Ext.of_below hb⟩

theorem sync_all {w : World} {d : Nat} {G : Nat → Prop} {s : DS} {C : Int} (h : Dk w d G s) (hs : s.Ok C) (hC : C ≤ 1000000000) (i : Int) : Calls Try.prog 28 #[.pointer (some ⟨d, 0, none⟩), .int .i64 i] w (DkTo w d G (syncR s i)) := by
  unfold syncR
  generalize hp : doW s i (fun _ => 0) (fun s i => s.sync i) = p
  have hw := doW_way s i (fun _ => 0) (fun s i => s.sync i)
  rw [hp] at hw
  cases hw with
  | down h1 => exact (sync_down h hs.n1 h1).mono fun e w' ⟨h2, h3⟩ => dkTo_below h h2 h3
  | none h1 h2 => exact (sync_none h hs.n1 h1 h2).mono fun e w' ⟨h2, h3⟩ => dkTo_below h h2 h3
  | may k h1 hk hi hm => exact absurd rfl hm
  | off k h1 hk hi hm hf => subst hk; exact (sync_off h h1 hi hs.n2 hf).mono fun e w' ⟨h2, h3, h4⟩ => dkTo_ext h2 h3 h4
  | done k h1 hk hi hm hf =>
    subst hk
    by_cases h0 : 0 < s.fuse
    · exact (sync_burn h hs (by omega) h1 hi h0).mono fun e w' ⟨h2, h3, h4⟩ => dkTo_ext h2 h3 h4
    · exact (sync_bare h hs (by omega) h1 hi (by omega)).mono fun e w' ⟨h2, h3, h4⟩ => dkTo_ext h2 h3 h4
theorem rsync_all {w : World} {r gF : Nat} {s : DS} {C : Int} (h : Rk w r gF s) (hs : s.Ok C) (hC : C ≤ 1000000000) (i : Int) : Calls Try.prog 45 #[.pointer (some ⟨r, 0, none⟩), .int .i64 i] w (RkTo w r gF (syncR s i)) := by
  unfold syncR
  generalize hp : doW s i (fun _ => 0) (fun s i => s.sync i) = p
  have hw := doW_way s i (fun _ => 0) (fun s i => s.sync i)
  rw [hp] at hw
  cases hw with
  | down h1 => exact (rsync_down h h1).mono fun e w' ⟨h2, h3⟩ => rkTo_below h h2 h3
  | none h1 h2 => exact (rsync_none h h1 h2).mono fun e w' ⟨h2, h3⟩ => rkTo_below h h2 h3
  | may k h1 hk hi hm => exact absurd rfl hm
  | off k h1 hk hi hm hf => subst hk; exact (rsync_off h hs h1 hi hf).mono fun e w' ⟨h2, h3, h4⟩ => ⟨h2, h3, h4⟩
  | done k h1 hk hi hm hf => subst hk; exact (rsync_done h hs hC h1 hi hf).mono fun e w' ⟨h2, h3, h4⟩ => ⟨h2, h3, h4⟩
theorem cut_may {s : DS} {k : Nat} {n : Int} (hi : k < s.fs.length) : (if n < 0 ∨ ((s.fs.getD k ⟨[], 0⟩).b.length : Int) < n then (2 : Int) else 0) = if n < 0 ∨ (s.fs[k].b.length : Int) < n then 2 else 0 := by simp [hi]
theorem cut_all {w : World} {d : Nat} {G : Nat → Prop} {s : DS} {C : Int} (h : Dk w d G s) (hs : s.Ok C) (hC : C ≤ 1000000000) (i n : Int) : Calls Try.prog 36 #[.pointer (some ⟨d, 0, none⟩), .int .i64 i, .int .i64 n] w (DkTo w d G (cutR s i n)) := by
  unfold cutR
  generalize hp : doW s i (fun k => if n < 0 ∨ ((s.fs.getD k ⟨[], 0⟩).b.length : Int) < n then 2 else 0) (fun s k => s.keep k n.toNat) = p
  have hw := doW_way s i (fun k => if n < 0 ∨ ((s.fs.getD k ⟨[], 0⟩).b.length : Int) < n then 2 else 0) (fun s k => s.keep k n.toNat)
  rw [hp] at hw
  cases hw with
  | down h1 => exact (cut_down h hs.n1 h1).mono fun e w' ⟨h2, h3⟩ => dkTo_below h h2 h3
  | none h1 h2 => exact (cut_none h hs.n1 h1 h2).mono fun e w' ⟨h2, h3⟩ => dkTo_below h h2 h3
  | may k h1 hk hi hm =>
    subst hk
    simp only [cut_may hi] at hm ⊢
    by_cases hlow : n < 0
    · rw [if_pos (.inl hlow)]; exact (cut_low h h1 hi hs.n2 hlow).mono fun e w' ⟨h2, h3⟩ => dkTo_below h h2 h3
    · by_cases hhigh : (s.fs[k].b.length : Int) < n
      · rw [if_pos (.inr hhigh)]; exact (cut_high h h1 hi hs.n2 hlow hhigh).mono fun e w' ⟨h2, h3⟩ => dkTo_below h h2 h3
      · rw [if_neg (by omega)] at hm; exact absurd rfl hm
  | off k h1 hk hi hm hf =>
    subst hk
    simp only [cut_may hi] at hm
    have hc : ¬ (n < 0 ∨ (s.fs[k].b.length : Int) < n) := fun hc => by rw [if_pos hc] at hm; cases hm
    obtain ⟨m, rfl⟩ : ∃ m : Nat, n = m := ⟨n.toNat, by omega⟩
    exact (cut_off h h1 hi hs.n2 hf (by omega) (by omega)).mono fun e w' ⟨h2, h3, h4⟩ => dkTo_ext h2 h3 h4
  | done k h1 hk hi hm hf =>
    subst hk
    simp only [cut_may hi] at hm
    have hc : ¬ (n < 0 ∨ (s.fs[k].b.length : Int) < n) := fun hc => by rw [if_pos hc] at hm; cases hm
    obtain ⟨m, rfl⟩ : ∃ m : Nat, n = m := ⟨n.toNat, by omega⟩
    simp only [Int.toNat_natCast]
    by_cases h0 : 0 < s.fuse
    · exact (cut_burn h hs (by omega) h1 hi h0 (by omega)).mono fun e w' ⟨h2, h3, h4⟩ => dkTo_ext h2 h3 h4
    · exact (cut_bare h hs (by omega) h1 hi (by omega) (by omega)).mono fun e w' ⟨h2, h3, h4⟩ => dkTo_ext h2 h3 h4
theorem rcut_all {w : World} {r gF : Nat} {s : DS} {C : Int} (h : Rk w r gF s) (hs : s.Ok C) (hC : C ≤ 1000000000) (i n : Int) : Calls Try.prog 75 #[.pointer (some ⟨r, 0, none⟩), .int .i64 i, .int .i64 n] w (RkTo w r gF (cutR s i n)) := by
  unfold cutR
  generalize hp : doW s i (fun k => if n < 0 ∨ ((s.fs.getD k ⟨[], 0⟩).b.length : Int) < n then 2 else 0) (fun s k => s.keep k n.toNat) = p
  have hw := doW_way s i (fun k => if n < 0 ∨ ((s.fs.getD k ⟨[], 0⟩).b.length : Int) < n then 2 else 0) (fun s k => s.keep k n.toNat)
  rw [hp] at hw
  cases hw with
  | down h1 => exact (rcut_down h h1).mono fun e w' ⟨h2, h3⟩ => rkTo_below h h2 h3
  | none h1 h2 => exact (rcut_none h h1 h2).mono fun e w' ⟨h2, h3⟩ => rkTo_below h h2 h3
  | may k h1 hk hi hm =>
    subst hk
    simp only [cut_may hi] at hm ⊢
    by_cases hlow : n < 0
    · rw [if_pos (.inl hlow)]; exact (rcut_low h h1 hi hlow).mono fun e w' ⟨h2, h3⟩ => rkTo_below h h2 h3
    · by_cases hhigh : (s.fs[k].b.length : Int) < n
      · rw [if_pos (.inr hhigh)]; exact (rcut_high h h1 hi hlow hhigh).mono fun e w' ⟨h2, h3⟩ => rkTo_below h h2 h3
      · rw [if_neg (by omega)] at hm; exact absurd rfl hm
  | off k h1 hk hi hm hf =>
    subst hk
    simp only [cut_may hi] at hm
    have hc : ¬ (n < 0 ∨ (s.fs[k].b.length : Int) < n) := fun hc => by rw [if_pos hc] at hm; cases hm
    obtain ⟨m, rfl⟩ : ∃ m : Nat, n = m := ⟨n.toNat, by omega⟩
    exact (rcut_off h hs h1 hi hf (by omega) (by omega)).mono fun e w' ⟨h2, h3, h4⟩ => ⟨h2, h3, h4⟩
  | done k h1 hk hi hm hf =>
    subst hk
    simp only [cut_may hi] at hm
    have hc : ¬ (n < 0 ∨ (s.fs[k].b.length : Int) < n) := fun hc => by rw [if_pos hc] at hm; cases hm
    obtain ⟨m, rfl⟩ : ∃ m : Nat, n = m := ⟨n.toNat, by omega⟩
    simp only [Int.toNat_natCast]
    exact (rcut_done h hs hC h1 hi hf (by omega)).mono fun e w' ⟨h2, h3, h4⟩ => ⟨h2, h3, h4⟩
theorem append_all {w : World} {d : Nat} {G K : Nat → Prop} {s : DS} {C : Int} {B : Option Addr} {cb : Nat} {l : List UInt8} (h : Dk w d G s) (hs : s.Ok C) (hC : C ≤ 1000000000) (i : Int) (hl : u8E.Row K w (.slice B l.length cb) l) (hKd : ∀ b, K b → b ≠ d) :
    Calls Try.prog 37 #[.pointer (some ⟨d, 0, none⟩), .int .i64 i, .slice B l.length cb] w (DkTo w d G (appR s i l)) := by
  unfold appR
  generalize hp : doW s i (fun _ => if s.room < (l.length : Int) then 8 else 0) (fun s i => s.app i l) = p
  have hw := doW_way s i (fun _ => if s.room < (l.length : Int) then 8 else 0) (fun s i => s.app i l)
  rw [hp] at hw
  cases hw with
  | down h1 => exact (append_down h hs.n1 h1).mono fun e w' ⟨h2, h3⟩ => dkTo_below h h2 h3
  | none h1 h2 => exact (append_none h hs.n1 h1 h2).mono fun e w' ⟨h2, h3⟩ => dkTo_below h h2 h3
  | may k h1 hk hi hm =>
    subst hk
    by_cases hlow : s.room < (l.length : Int)
    · rw [if_pos hlow]; exact (append_full h h1 hi hs.n2 hlow).mono fun e w' ⟨h2, h3⟩ => dkTo_below h h2 h3
    · rw [if_neg hlow] at hm; exact absurd rfl hm
  | off k h1 hk hi hm hf =>
    subst hk
    have hc : ¬ s.room < (l.length : Int) := fun hc => by rw [if_pos hc] at hm; cases hm
    exact (append_off h h1 hi hs.n2 hf hc).mono fun e w' ⟨h2, h3, h4⟩ => dkTo_ext h2 h3 h4
  | done k h1 hk hi hm hf =>
    subst hk
    have hc : ¬ s.room < (l.length : Int) := fun hc => by rw [if_pos hc] at hm; cases hm
    by_cases h0 : 0 < s.fuse
    · exact (append_burn h hs hC h1 hi h0 hl hKd hc).mono fun e w' ⟨h2, h3, h4⟩ => ⟨h2, h3, h4⟩
    · exact (append_bare h hs hC h1 hi (by omega) hl hKd hc).mono fun e w' ⟨h2, h3, h4⟩ => ⟨h2, h3, h4⟩
theorem rapp_all {w : World} {r gF : Nat} {s : DS} {C : Int} {l : List UInt8} (h : Rk w r gF s) (hs : s.Ok C) (hC : C ≤ 1000000000) (i : Int) :
    Calls Try.prog 47 #[.pointer (some ⟨r, 0, none⟩), .int .i64 i, .string (bs l)] w (RkTo w r gF (appR s i l)) := by
  unfold appR
  generalize hp : doW s i (fun _ => if s.room < (l.length : Int) then 8 else 0) (fun s i => s.app i l) = p
  have hw := doW_way s i (fun _ => if s.room < (l.length : Int) then 8 else 0) (fun s i => s.app i l)
  rw [hp] at hw
  cases hw with
  | down h1 => exact (rapp_down h h1).mono fun e w' ⟨h2, h3⟩ => rkTo_below h h2 h3
  | none h1 h2 => exact (rapp_none h h1 h2).mono fun e w' ⟨h2, h3⟩ => rkTo_below h h2 h3
  | may k h1 hk hi hm =>
    subst hk
    by_cases hlow : s.room < (l.length : Int)
    · rw [if_pos hlow]; exact (rapp_full h h1 hi hlow).mono fun e w' ⟨h2, h3⟩ => rkTo_below h h2 h3
    · rw [if_neg hlow] at hm; exact absurd rfl hm
  | off k h1 hk hi hm hf =>
    subst hk
    have hc : ¬ s.room < (l.length : Int) := fun hc => by rw [if_pos hc] at hm; cases hm
    exact (rapp_off h hs h1 hi hf hc).mono fun e w' ⟨h2, h3, h4⟩ => ⟨h2, h3, h4⟩
  | done k h1 hk hi hm hf =>
    subst hk
    have hc : ¬ s.room < (l.length : Int) := fun hc => by rw [if_pos hc] at hm; cases hm
    exact (rapp_done h hs hC h1 hi hf (by omega)).mono fun e w' ⟨h2, h3, h4⟩ => ⟨h2, h3, h4⟩
def armR (s : DS) (n : Int) : DS × Int := if s.down = true then (s, 9) else ({ s with fuse := max n (-1) }, 0)
theorem arm_all {w : World} {d : Nat} {G : Nat → Prop} {s : DS} {C : Int} (h : Dk w d G s) (hs : s.Ok C) (n : Int) : Calls Try.prog 14 #[.pointer (some ⟨d, 0, none⟩), .int .i64 n] w (DkTo w d G (armR s n)) := by
  unfold armR
  by_cases h1 : s.down = true
  · rw [if_pos h1]; exact (arm_down h hs.n1 n h1).mono fun e w' ⟨h2, h3⟩ => dkTo_below h h2 h3
  · rw [if_neg h1]; exact (arm_any h hs.n1 hs.n2 n (by simpa using h1)).mono fun e w' ⟨h2, h3, h4⟩ => dkTo_ext h2 h3 h4
theorem rarm_all {w : World} {r gF : Nat} {s : DS} (h : Rk w r gF s) (n : Int) : Calls Try.prog 46 #[.pointer (some ⟨r, 0, none⟩), .int .i64 n] w (RkTo w r gF (armR s n)) := by
  unfold armR
  by_cases h1 : s.down = true
  · rw [if_pos h1]; exact (rarm_down h n h1).mono fun e w' ⟨h2, h3⟩ => rkTo_below h h2 h3
  · rw [if_neg h1]; exact (rarm_any h n (by simpa using h1)).mono fun e w' ⟨h2, h3, h4⟩ => ⟨h2, h3, h4⟩
def growR (s : DS) (n : Int) : DS × Int := if n < 0 ∨ 1048576 < s.room + n then (s, 2) else ({ s with room := s.room + n }, 0)
end Go.Proofs.Ytgpcgndmdkgbdaa

/- A disk and the document's; are they alike? -/
namespace Go.Proofs.Ytgpcgndmdkgbdaa
open Go.RowKit

/-- A disk that tells s, the document's that tells t, behind w0. -/
structure Two (w0 w : World) (d r gF : Nat) (s t : DS) : Prop where
  dk : Dk w d (fun b => w0.heap.size ≤ b ∧ b ≠ r ∧ b ≠ gF) s
  rk : Rk w r gF t
  bw : Below w0.heap.size w0 w
  ld : w0.heap.size ≤ d
  lr : w0.heap.size ≤ r
  lg : w0.heap.size ≤ gF
theorem Two.dr {w0 w : World} {d r gF : Nat} {s t : DS} (h : Two w0 w d r gF s t) : d ≠ r ∧ d ≠ gF := by
  obtain ⟨c, h1, _⟩ := h.dk.blk
  obtain ⟨c2, h2⟩ := h.rk.blk
  obtain ⟨c3, h3⟩ := h.rk.row
  constructor
  · rintro rfl; rw [h1] at h2; cases h2
  · rintro rfl; rw [h1] at h3; cases h3
theorem Two.below {w0 w W : World} {d r gF : Nat} {s t : DS} (h : Two w0 w d r gF s t) (hb : Below w.heap.size w W) : Two w0 W d r gF s t :=
  ⟨h.dk.below hb, h.rk.below hb, h.bw.trans (hb.mono h.bw.size), h.ld, h.lr, h.lg⟩
theorem Two.toD {w0 w w' : World} {d r gF : Nat} {s t s' : DS} {G : Nat → Prop} (h : Two w0 w d r gF s t) (hG : ∀ b, G b → w0.heap.size ≤ b ∧ b ≠ r ∧ b ≠ gF) (hd : Dk w' d (fun b => G b ∨ w.heap.size ≤ b) s') (he : Ext (fun b => b = d ∨ G b) w w') : Two w0 w' d r gF s' t := by
  obtain ⟨h1, h2⟩ := h.dr
  obtain ⟨l1, l2⟩ := h.rk.lt
  have h3 := h.bw.size
  have h4 := h.ld
  refine ⟨hd.mono (fun b hb _ => ?_), h.rk.ext he (fun e => ?_) (fun e => ?_), h.bw.trans (he.toBelow h.bw.size (fun x hx e => ?_)), h.ld, h.lr, h.lg⟩
  · rcases hb with hb | hb
    · exact hG b hb
    · omega
  · rcases e with e | e
    · exact h1 e.symm
    · exact (hG _ e).2.1 rfl
  · rcases e with e | e
    · exact h2 e.symm
    · exact (hG _ e).2.2 rfl
  · rcases e with e | e
    · omega
    · have := hG _ e; omega
theorem Two.toR {w0 w w' : World} {d r gF : Nat} {s t t' : DS} (h : Two w0 w d r gF s t) (hr : Rk w' r gF t') (he : Ext (fun b => b = r ∨ b = gF) w w') : Two w0 w' d r gF s t' := by
  obtain ⟨h1, h2⟩ := h.dr
  have h5 := h.lr
  have h6 := h.lg
  refine ⟨h.dk.ext he (fun e => e.elim h1 h2) (fun b hb e => ?_), hr, h.bw.trans (he.toBelow h.bw.size (fun x hx e => by omega)), h.ld, h.lr, h.lg⟩
  exact e.elim hb.2.1 hb.2.2

theorem DS.Ok.down {s : DS} {C : Int} (h : s.Ok C) (b : Bool) : DS.Ok { s with down := b } C := ⟨h.room, h.tot, h.n1, h.n2, h.sync, h.fuse1, h.fuse2⟩
theorem DS.Ok.setf {s : DS} {C : Int} (h : s.Ok C) {f : Int} (h1 : -1 ≤ f) (h2 : f ≤ 9223372036854775807) : DS.Ok { s with fuse := f } C := ⟨h.room, h.tot, h.n1, h.n2, h.sync, h1, h2⟩
theorem DS.Ok.mono {s : DS} {C C' : Int} (h : s.Ok C) (hc : C ≤ C') : s.Ok C' := ⟨h.room, Int.le_trans h.tot hc, h.n1, h.n2, h.sync, h.fuse1, h.fuse2⟩
theorem burn_fs (s : DS) : s.burn.fs = s.fs := by unfold DS.burn; split <;> rfl
theorem burn_room (s : DS) : s.burn.room = s.room := by unfold DS.burn; split <;> rfl
theorem doW_ok {s : DS} {C : Int} {i : Int} {may : Nat → Int} {act : DS → Nat → DS} (h : s.Ok C) (ha : ∀ k, k < s.fs.length → may k = 0 → s.burn.Ok C → (act s.burn k).Ok C) : (doW s i may act).1.Ok C := by
  generalize hp : doW s i may act = p
  have hw := doW_way s i may act
  rw [hp] at hw
  cases hw with
  | down _ => exact h
  | none _ _ => exact h
  | may _ _ _ _ _ => exact h
  | off _ _ _ _ _ _ => exact h.down true
  | done k h1 hk hi hm hf => exact ha k hi hm (h.burn hf)
theorem DS.Ok.sync' {s : DS} {C : Int} (h : s.Ok C) {i : Nat} (hi : i < s.fs.length) : (s.sync i).Ok C := by
  rw [sync_eq hi]
  have := bytes_set s.fs i hi ⟨s.fs[i].b, s.fs[i].b.length⟩
  have ht := h.tot
  unfold DS.tot at ht
  refine ⟨h.room, ?_, by simpa using h.n1, by simpa using h.n2, fun f hf => ?_, h.fuse1, h.fuse2⟩
  · show s.room + (bytes (s.fs.set i ⟨s.fs[i].b, s.fs[i].b.length⟩) : Int) ≤ C
    simp only at this
    omega
  · rcases List.mem_or_eq_of_mem_set hf with h1 | rfl
    · exact h.sync f h1
    · exact Nat.le_refl _
theorem DS.Ok.app {s : DS} {C : Int} (h : s.Ok C) {i : Nat} (hi : i < s.fs.length) {l : List UInt8} (hl : (l.length : Int) ≤ s.room) : (s.app i l).Ok C := by
  rw [app_eq hi]
  have := bytes_set s.fs i hi ⟨s.fs[i].b ++ l, s.fs[i].synced⟩
  have ht := h.tot
  unfold DS.tot at ht
  refine ⟨?_, ?_, by simpa using h.n1, by simpa using h.n2, fun f hf => ?_, h.fuse1, h.fuse2⟩
  · show 0 ≤ s.room - (l.length : Int); omega
  · show s.room - (l.length : Int) + (bytes (s.fs.set i ⟨s.fs[i].b ++ l, s.fs[i].synced⟩) : Int) ≤ C
    simp only [List.length_append] at this
    omega
  · rcases List.mem_or_eq_of_mem_set hf with h1 | rfl
    · exact h.sync f h1
    · have := h.sync _ (List.getElem_mem hi)
      simp; omega
theorem sync_ok {s : DS} {C : Int} (h : s.Ok C) (i : Int) : (syncR s i).1.Ok C := doW_ok h (fun k hk _ hb => hb.sync' (by rw [burn_fs]; exact hk))
theorem app_ok {s : DS} {C : Int} (h : s.Ok C) (i : Int) (l : List UInt8) : (appR s i l).1.Ok C := doW_ok h (fun k hk hm hb => hb.app (by rw [burn_fs]; exact hk) (by
  rw [burn_room]
  by_cases hc : s.room < (l.length : Int)
  · rw [if_pos hc] at hm; cases hm
  · omega))
theorem cut_ok {s : DS} {C : Int} (h : s.Ok C) (i n : Int) : (cutR s i n).1.Ok C := doW_ok h (fun k hk hm hb => by
  simp only [cut_may hk] at hm
  have hc : ¬ (n < 0 ∨ (s.fs[k].b.length : Int) < n) := fun hc => by rw [if_pos hc] at hm; cases hm
  have hk2 : k < s.burn.fs.length := by rw [burn_fs]; exact hk
  refine hb.keep hk2 ?_
  have e : s.burn.fs[k]'hk2 = s.fs[k] := by simp only [burn_fs]
  rw [e]; omega)
theorem arm_ok {s : DS} {C : Int} (h : s.Ok C) {n : Int} (hn : n ≤ 9223372036854775807) : (armR s n).1.Ok C := by
  unfold armR
  split
  · exact h
  · exact h.setf (by omega) (by omega)
theorem crashS_ok {s : DS} {C : Int} (h : s.Ok C) (ks : List Int) : (s.crash ks).Ok C := by
  have := crash_ok h ks s.fs.length (Nat.le_refl _)
  exact ⟨this.room, this.tot, this.n1, this.n2, this.sync, by show (-1 : Int) ≤ -1; omega, by show (-1 : Int) ≤ _; omega⟩

end Go.Proofs.Ytgpcgndmdkgbdaa

/- A disk of one's own, over its calls. -/
namespace Go.Proofs.Ytgpcgndmdkgbdaa
open Go.RowKit

structure Dv (w0 w : World) (d : Nat) (s : DS) : Prop where
  dk : Dk w d (fun b => w0.heap.size ≤ b) s
  bw : Below w0.heap.size w0 w
  ld : w0.heap.size ≤ d
theorem Dv.below {w0 w W : World} {d : Nat} {s : DS} (h : Dv w0 w d s) (hb : Below w.heap.size w W) : Dv w0 W d s := ⟨h.dk.below hb, h.bw.trans (hb.mono h.bw.size), h.ld⟩
theorem Dv.to {w0 w w' : World} {d : Nat} {s s' : DS} (h : Dv w0 w d s) (hd : Dk w' d (fun b => w0.heap.size ≤ b ∨ w.heap.size ≤ b) s') (he : Ext (fun b => b = d ∨ w0.heap.size ≤ b) w w') : Dv w0 w' d s' := by
  have h1 := h.bw.size
  have h2 := h.ld
  exact ⟨hd.mono (fun b hb _ => hb.elim id (fun hb => by omega)), h.bw.trans (he.toBelow h1 (fun x hx e => by omega)), h.ld⟩
theorem dv_sync {w0 w : World} {d : Nat} {s s' : DS} {C c : Int} {i : Int} (h : Dv w0 w d s) (hs : s.Ok C) (hC : C ≤ 1000000000) (hp : syncR s i = (s', c))  :
    Calls Try.prog 28 #[.pointer (some ⟨d, 0, none⟩), .int .i64 i] w fun e w' => e = .returned (.int .i64 c) ∧ Dv w0 w' d s' := by
  refine (sync_all h.dk hs hC i).mono fun e w' ⟨h1, h2, h3⟩ => ?_
  rw [hp] at h1 h2
  exact ⟨h1, h.to h2 h3⟩
theorem dv_cut {w0 w : World} {d : Nat} {s s' : DS} {C c : Int} {i n : Int} (h : Dv w0 w d s) (hs : s.Ok C) (hC : C ≤ 1000000000) (hp : cutR s i n = (s', c))  :
    Calls Try.prog 36 #[.pointer (some ⟨d, 0, none⟩), .int .i64 i, .int .i64 n] w fun e w' => e = .returned (.int .i64 c) ∧ Dv w0 w' d s' := by
  refine (cut_all h.dk hs hC i n).mono fun e w' ⟨h1, h2, h3⟩ => ?_
  rw [hp] at h1 h2
  exact ⟨h1, h.to h2 h3⟩
theorem dv_arm {w0 w : World} {d : Nat} {s s' : DS} {C c : Int} {n : Int} (h : Dv w0 w d s) (hs : s.Ok C) (_hC : C ≤ 1000000000) (hp : armR s n = (s', c))  :
    Calls Try.prog 14 #[.pointer (some ⟨d, 0, none⟩), .int .i64 n] w fun e w' => e = .returned (.int .i64 c) ∧ Dv w0 w' d s' := by
  refine (arm_all h.dk hs n).mono fun e w' ⟨h1, h2, h3⟩ => ?_
  rw [hp] at h1 h2
  exact ⟨h1, h.to h2 h3⟩
theorem dv_app {w0 w : World} {d : Nat} {s s' : DS} {C c : Int} {i : Int} {l : List UInt8} {B : Option Addr} {cb : Nat} (h : Dv w0 w d s) (hs : s.Ok C) (hC : C ≤ 1000000000) (hp : appR s i l = (s', c)) (hl : u8E.Row (fun b => b ≠ d) w (.slice B l.length cb) l) :
    Calls Try.prog 37 #[.pointer (some ⟨d, 0, none⟩), .int .i64 i, .slice B l.length cb] w fun e w' => e = .returned (.int .i64 c) ∧ Dv w0 w' d s' := by
  refine (append_all h.dk hs hC i hl (fun b hb => hb)).mono fun e w' ⟨h1, h2, h3⟩ => ?_
  rw [hp] at h1 h2
  exact ⟨h1, h.to h2 h3⟩
theorem dv_crash {w0 w : World} {d : Nat} {s : DS} {C : Int} {v : Value} {ks : List Int} (h : Dv w0 w d s) (hs : s.Ok C) (hC : C ≤ 1000000000) (hk : intE.Row (fun b => b ≠ d) w v ks) :
    Calls Try.prog 16 #[.pointer (some ⟨d, 0, none⟩), v] w fun e w' => e = .returned (.int .i64 0) ∧ Dv w0 w' d (s.crash ks) :=
  (crash_any h.dk hs hC hk (fun _ hb => hb)).mono fun _ _ ⟨h1, h2, h3⟩ => ⟨h1, h.to (h2.mono (fun _ hb _ => .inl hb)) (h3.mono (fun _ _ hb => .inl hb))⟩
theorem crash_done (s : DS) (ks : List Int) {j : Nat} (hj : j < s.fs.length) : ∀ n, j < n → n ≤ s.fs.length → (crashN s ks n).fs[j]? = some ⟨(s.fs[j].b).take (cutN s.fs[j] ks[j]?), cutN s.fs[j] ks[j]?⟩
  | 0, h, _ => by omega
  | n + 1, h, hn => by
    by_cases hjn : j = n
    · subst hjn
      have h1 : j < (crashN s ks j).fs.length := by rw [crash_len]; exact hj
      rw [crash_next hj rfl, keep_eq h1, crash_file s ks hj]
      simp [h1]
    · show ((crashN s ks n).fs.set n _)[j]? = _
      rw [List.getElem?_set_ne (by omega)]
      exact crash_done s ks hj n (by omega) (by omega)
theorem crash_get {s : DS} {C : Int} (hs : s.Ok C) (ks : List Int) {j : Nat} (hj : j < s.fs.length) : ∃ h : j < (s.crash ks).fs.length, ∃ l : List UInt8, ((s.crash ks).fs[j]'h).b = l ∧ ((s.crash ks).fs[j]'h).synced = l.length ∧ s.fs[j].synced ≤ l.length ∧ l.length ≤ s.fs[j].b.length ∧ l = s.fs[j].b.take l.length := by
  have h1 := crash_done s ks hj s.fs.length hj (Nat.le_refl _)
  have h2 : j < (s.crash ks).fs.length := by show j < (crashN s ks s.fs.length).fs.length; rw [crash_len]; exact hj
  have h3 : (s.crash ks).fs[j]'h2 = ⟨(s.fs[j].b).take (cutN s.fs[j] ks[j]?), cutN s.fs[j] ks[j]?⟩ := by
    have : (s.crash ks).fs[j]? = some ((s.crash ks).fs[j]'h2) := List.getElem?_eq_getElem h2
    have h4 : (s.crash ks).fs[j]? = (crashN s ks s.fs.length).fs[j]? := rfl
    rw [h4, h1] at this
    exact (Option.some.inj this).symm
  have hle := cutN_le (hs.sync _ (List.getElem_mem hj)) ks[j]?
  have hge : s.fs[j].synced ≤ cutN s.fs[j] ks[j]? := by unfold cutN; omega
  refine ⟨h2, (s.fs[j].b).take (cutN s.fs[j] ks[j]?), by rw [h3], ?_, ?_, ?_, ?_⟩
  · rw [h3]; simp; omega
  · simp; omega
  · simp; omega
  · simp [Nat.min_eq_left hle]
end Go.Proofs.Ytgpcgndmdkgbdaa
