/- The document's disk: the rest. -/
import Derived.Test.YtnobbehoojgfcaaDkL
import Derived.Laws.MakeOwn
namespace Go.Proofs.Ytnobbehoojgfcaa
open Go.RowKit

set_option maxHeartbeats 1000000 in
theorem rnew_bad {w : World} {n r : Int} (h : n < 1 ∨ 65 < n ∨ r < 0 ∨ 1048576 < r) : Calls Try.prog 11 #[.int .i64 n, .int .i64 r] w fun e w' => e = .returned (.tuple #[.pointer none, .int .i64 2]) ∧ Below w.heap.size w w' := by
  by_cases h1 : n < 1
  · clear h
    go_enter Try.func11, Try.ntmps11
    go_wp2
    go_ret2
    exact ⟨rfl, (by repeat (first | (with_reducible exact Below.refl _ _) | (with_reducible exact bl_mm) | (with_reducible refine bl_dr ?_) | (with_reducible refine bl_drN ?_ _) | (with_reducible refine bl_al ?_ _) | (with_reducible refine bl_more ?_ _ _)))⟩
  · by_cases h2 : 65 < n
    · clear h
      go_enter Try.func11, Try.ntmps11
      go_wp2
      go_ret2
      exact ⟨rfl, (by repeat (first | (with_reducible exact Below.refl _ _) | (with_reducible exact bl_mm) | (with_reducible refine bl_dr ?_) | (with_reducible refine bl_drN ?_ _) | (with_reducible refine bl_al ?_ _) | (with_reducible refine bl_more ?_ _ _)))⟩
    · by_cases h3 : r < 0
      · clear h
        go_enter Try.func11, Try.ntmps11
        go_wp2
        go_ret2
        exact ⟨rfl, (by repeat (first | (with_reducible exact Below.refl _ _) | (with_reducible exact bl_mm) | (with_reducible refine bl_dr ?_) | (with_reducible refine bl_drN ?_ _) | (with_reducible refine bl_al ?_ _) | (with_reducible refine bl_more ?_ _ _)))⟩
      · have h4 : 1048576 < r := by omega
        clear h
        go_enter Try.func11, Try.ntmps11
        go_wp2
        go_ret2
        exact ⟨rfl, (by repeat (first | (with_reducible exact Below.refl _ _) | (with_reducible exact bl_mm) | (with_reducible refine bl_dr ?_) | (with_reducible refine bl_drN ?_ _) | (with_reducible refine bl_al ?_ _) | (with_reducible refine bl_more ?_ _ _)))⟩
theorem info64 : (Try.prog.info? 64).map (fun i => (i.zero, i.size, i.bytes)) = some (some (.agg #[.string ByteArray.empty, .int .i64 0]), 2, 24) := by kernel_rfl
def mk (n : Nat) : Array Value := madeCells #[.string ByteArray.empty, .int .i64 0] (n * 2)
theorem mk_size (n : Nat) : (mk n).size = n * 2 := size_madeCells _ _
theorem mk_at {n i : Nat} (h : i < n) : (mk n)[i * 2]? = some (.string (bs [])) ∧ (mk n)[i * 2 + 1]? = some (.int .i64 0) := by
  unfold mk madeCells
  have h1 : i * 2 < n * 2 := by omega
  have h2 : i * 2 + 1 < n * 2 := by omega
  constructor
  · simp [h1]
    try rfl
  · simp [h2]
    try (rw [show (i * 2 + 1) % 2 = 1 by omega]; rfl)
theorem make_any {n : Nat} (h : n ≤ 65) (W : World) : (Instr.makeSlice 58 (.int .i64 n) (.int .i64 n)).run Try.prog W = .ok (.slice (some ⟨W.heap.size, 0, none⟩) n n) (W.alloc (.cells (mk n) 64)) := by
  obtain ⟨i0, hi, hz0, hz1, hz2⟩ := info_parts info64
  have := run_make (P := Try.prog) W 58 64 i0 _ Try.underlying58 hi hz0 .i64 .i64 (n : Int) n (by omega) (Int.le_refl _) (by rw [hz2]; omega) (by omega)
  rw [hz1] at this
  simpa [mk, Value.cells] using this
def RNew (w : World) (s : DS) (e : Ending) (w' : World) : Prop := ∃ d g, e = .returned (.tuple #[.pointer (some ⟨d, 0, none⟩), .int .i64 0]) ∧ w.heap.size ≤ d ∧ w.heap.size ≤ g ∧ Rk w' d g s ∧ Below w.heap.size w w'
set_option maxHeartbeats 1000000 in
theorem rnew_any {w : World} {n : Nat} {r : Int} (h1 : 1 ≤ n) (h2 : n ≤ 65) (h3 : 0 ≤ r) (h4 : r ≤ 1048576) : Calls Try.prog 11 #[.int .i64 n, .int .i64 r] w (RNew w { fs := fs0 n, room := r, fuse := -1, down := false }) := by
  have i1 : ¬ (n : Int) < 1 := by omega
  have i2 : ¬ (65 : Int) < (n : Int) := by omega
  have i3 : ¬ r < 0 := by omega
  have i4 : ¬ 1048576 < r := by omega
  have i5 : (0 : Int) ≤ (n : Int) := by omega
  have hmk := make_any h2
  have hfl : (fs0 n).length = n := by simp [fs0]
  go_enter Try.func11, Try.ntmps11
  go_wp2
  go_ret2
  refine ⟨w.heap.size + 1, w.heap.size, rfl, by omega, Nat.le_refl _, ⟨⟨_, alloc_blk (by simp only [World.size_alloc])⟩, ?_, ?_, ?_, ?_, ⟨mk n, ?_⟩, fun i hi => ?_⟩, (by repeat (first | (with_reducible exact Below.refl _ _) | (with_reducible exact bl_mm) | (with_reducible refine bl_dr ?_) | (with_reducible refine bl_drN ?_ _) | (with_reducible refine bl_al ?_ _) | (with_reducible refine bl_more ?_ _ _)))⟩
  · rw [hfl]; go_simp
  · go_simp
  · go_simp
  · go_simp
  · exact (Below.heap_alloc _ _ _ (by simp)).trans (alloc_blk rfl)
  · have hi' : i < n := by rw [← hfl]; exact hi
    obtain ⟨k1, k2⟩ := mk_at hi'
    have hf : (fs0 n)[i]'(by rw [hfl]; exact hi') = ⟨[], 0⟩ := by simp [fs0]
    have hb : ((w.alloc (.cells (mk n) 64)).alloc (.cells #[.slice (some ⟨w.heap.size, 0, none⟩) n n, .int .i64 r, .int .i64 (-1), .bool false] 60)).heap[w.heap.size]? = some (.cells (mk n) 64 (0, 0)) := (Below.heap_alloc _ _ _ (by simp)).trans (alloc_blk rfl)
    show _ = some (Value.string (bs ((fs0 n)[i]'(by rw [hfl]; exact hi')).b)) ∧ _ = some (Value.int .i64 (((fs0 n)[i]'(by rw [hfl]; exact hi')).synced : Int))
    rw [hf]
    exact ⟨(cell_blk hb _).trans k1, (cell_blk hb _).trans k2⟩
set_option maxHeartbeats 1000000 in
theorem rgrow_low {w : World} {r gF : Nat} {s : DS} {C : Int} (h : Rk w r gF s) (hs : s.Ok C) (hC : C ≤ 1000000000) (n : Int) (hlow : n < 0) : Calls Try.prog 31 #[.pointer (some ⟨r, 0, none⟩), .int .i64 n] w fun e w' => e = .returned (.int .i64 2) ∧ Below w.heap.size w w' := by
  have h1 := h.room
  have f1 := (h.frz 1).1
  have hr := hs.room
  have hrc := hs.roomC
  skip
  have HR := hid h
  clear h hs hr hrc hC
  go_enter Try.func31, Try.ntmps31
  go_wp2
  go_ret
  exact ⟨rfl, (by repeat (first | (with_reducible exact Below.refl _ _) | (with_reducible exact bl_mm) | (with_reducible refine bl_dr ?_) | (with_reducible refine bl_drN ?_ _) | (with_reducible refine bl_al ?_ _) | (with_reducible refine bl_more ?_ _ _)))⟩
set_option maxHeartbeats 1000000 in
theorem rgrow_big {w : World} {r gF : Nat} {s : DS} {C : Int} (h : Rk w r gF s) (hs : s.Ok C) (hC : C ≤ 1000000000) (n : Int) (hlow : ¬ n < 0) (hbig : 1048576 < n) : Calls Try.prog 31 #[.pointer (some ⟨r, 0, none⟩), .int .i64 n] w fun e w' => e = .returned (.int .i64 2) ∧ Below w.heap.size w w' := by
  have h1 := h.room
  have f1 := (h.frz 1).1
  have hr := hs.room
  have hrc := hs.roomC
  skip
  have HR := hid h
  clear h hs hr hrc hC
  go_enter Try.func31, Try.ntmps31
  go_wp2
  go_ret
  exact ⟨rfl, (by repeat (first | (with_reducible exact Below.refl _ _) | (with_reducible exact bl_mm) | (with_reducible refine bl_dr ?_) | (with_reducible refine bl_drN ?_ _) | (with_reducible refine bl_al ?_ _) | (with_reducible refine bl_more ?_ _ _)))⟩
set_option maxHeartbeats 1000000 in
theorem rgrow_high {w : World} {r gF : Nat} {s : DS} {C : Int} (h : Rk w r gF s) (hs : s.Ok C) (hC : C ≤ 1000000000) (n : Int) (hlow : ¬ n < 0) (hbig : ¬ 1048576 < n) (hhigh : 1048576 < s.room + n) : Calls Try.prog 31 #[.pointer (some ⟨r, 0, none⟩), .int .i64 n] w fun e w' => e = .returned (.int .i64 2) ∧ Below w.heap.size w w' := by
  have h1 := h.room
  have f1 := (h.frz 1).1
  have hr := hs.room
  have hrc := hs.roomC
  (have w1 : IntKind.i64.wrap (s.room + n) = s.room + n := IntWalk.i64_in _ (by omega))
  have HR := hid h
  clear h hs hr hrc hC
  go_enter Try.func31, Try.ntmps31
  go_wp2
  go_ret
  exact ⟨rfl, (by repeat (first | (with_reducible exact Below.refl _ _) | (with_reducible exact bl_mm) | (with_reducible refine bl_dr ?_) | (with_reducible refine bl_drN ?_ _) | (with_reducible refine bl_al ?_ _) | (with_reducible refine bl_more ?_ _ _)))⟩
set_option maxHeartbeats 1000000 in
theorem rgrow_any {w : World} {r gF : Nat} {s : DS} {C : Int} (h : Rk w r gF s) (hs : s.Ok C) (hC : C ≤ 1000000000) (n : Int) (hlow : ¬ n < 0) (hbig : ¬ 1048576 < n) (hhigh : ¬ 1048576 < s.room + n) : Calls Try.prog 31 #[.pointer (some ⟨r, 0, none⟩), .int .i64 n] w fun e w' => e = .returned (.int .i64 0) ∧ Rk w' r gF { s with room := s.room + n } ∧ Ext (fun b => b = r ∨ b = gF) w w' := by
  have h1 := h.room
  have f1 := (h.frz 1).1
  have hr := hs.room
  have hrc := hs.roomC
  (have w1 : IntKind.i64.wrap (s.room + n) = s.room + n := IntWalk.i64_in _ (by omega))
  have HR := hid h
  clear h hs hr hrc hC
  go_enter Try.func31, Try.ntmps31
  go_wp2
  go_ret
  exact ⟨rfl, (HR.out.setRoom (s.room + n)).below (by repeat (first | (with_reducible exact Below.refl _ _) | (with_reducible exact bl_mm) | (with_reducible refine bl_dr ?_) | (with_reducible refine bl_drN ?_ _) | (with_reducible refine bl_al ?_ _) | (with_reducible refine bl_more ?_ _ _))), (by repeat (first | (with_reducible exact Ext.refl _ _) | (with_reducible refine ex_dr ?_) | (with_reducible refine ex_drN ?_ _) | (with_reducible refine ex_al ?_ _) | (with_reducible refine ex_more ?_ _ _) | (with_reducible refine Ext.set ?_ _ _ _ (by first | exact rfl | exact .inl rfl | exact .inr rfl))))⟩
set_option maxHeartbeats 1000000 in
theorem rarm_down {w : World} {r gF : Nat} {s : DS} (h : Rk w r gF s) (n : Int) (hdn : s.down = true) :
    Calls Try.prog 29 #[.pointer (some ⟨r, 0, none⟩), .int .i64 n] w fun e w' => e = .returned (.int .i64 9) ∧ Below w.heap.size w w' := by
  have h1 := h.down
  rw [hdn] at h1
  clear h hdn
  go_enter Try.func29, Try.ntmps29
  go_wp2
  go_ret
  exact ⟨rfl, (by repeat (first | (with_reducible exact Below.refl _ _) | (with_reducible exact bl_mm) | (with_reducible refine bl_dr ?_) | (with_reducible refine bl_drN ?_ _) | (with_reducible refine bl_al ?_ _) | (with_reducible refine bl_more ?_ _ _)))⟩
set_option maxHeartbeats 1000000 in
theorem rarm_any {w : World} {r gF : Nat} {s : DS} (h : Rk w r gF s) (n : Int) (hdn : s.down = false) :
    Calls Try.prog 29 #[.pointer (some ⟨r, 0, none⟩), .int .i64 n] w fun e w' => e = .returned (.int .i64 0) ∧ Rk w' r gF { s with fuse := max n (-1) } ∧ Ext (fun b => b = r ∨ b = gF) w w' := by
  have h1 := h.down
  have h2 := h.fuse
  have f1 := (h.frz 2).1
  rw [hdn] at h1
  have HR := hid h
  clear h hdn
  go_enter Try.func29, Try.ntmps29
  go_wp2
  all_goals (
    go_ret
    refine ⟨rfl, ?_, (by repeat (first | (with_reducible exact Ext.refl _ _) | (with_reducible refine ex_dr ?_) | (with_reducible refine ex_drN ?_ _) | (with_reducible refine ex_al ?_ _) | (with_reducible refine ex_more ?_ _ _) | (with_reducible refine Ext.set ?_ _ _ _ (by first | exact rfl | exact .inl rfl | exact .inr rfl))))⟩
    first
    | (rw [show max n (-1) = -1 by omega]; exact (HR.out.setFuse (-1)).below (by repeat (first | (with_reducible exact Below.refl _ _) | (with_reducible exact bl_mm) | (with_reducible refine bl_dr ?_) | (with_reducible refine bl_drN ?_ _) | (with_reducible refine bl_al ?_ _) | (with_reducible refine bl_more ?_ _ _))))
    | (rw [show max n (-1) = n by omega]; exact (HR.out.setFuse n).below (by repeat (first | (with_reducible exact Below.refl _ _) | (with_reducible exact bl_mm) | (with_reducible refine bl_dr ?_) | (with_reducible refine bl_drN ?_ _) | (with_reducible refine bl_al ?_ _) | (with_reducible refine bl_more ?_ _ _)))))
end Go.Proofs.Ytnobbehoojgfcaa
