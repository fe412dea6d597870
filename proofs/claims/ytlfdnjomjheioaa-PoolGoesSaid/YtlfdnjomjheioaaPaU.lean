/- The document's pool: New. -/
import Derived.BigRegion
import Derived.Test.YtlfdnjomjheioaaPaT
namespace Go.Proofs.Ytlfdnjomjheioaa
open Go.RowKit

theorem info83 : (Try.prog.info? 83).map (fun i => (i.zero, i.size, i.bytes)) = some (some (.slice none 0 0), 1, 24) := by kernel_rfl
theorem info4 : (Try.prog.info? 4).map (fun i => (i.zero, i.size, i.bytes)) = some (some (.bool false), 1, 1) := by kernel_rfl
theorem make_rows {n : Nat} (h : n ≤ 64) (W : World) : (Instr.makeSlice 72 (.int .i64 n) (.int .i64 n)).run Try.prog W = .ok (.slice (some ⟨W.heap.size, 0, none⟩) n n) (W.alloc (.cells (madeCells #[.slice none 0 0] (n * 1)) 83)) := by
  obtain ⟨i0, hi, hz0, hz1, hz2⟩ := info_parts info83
  have := run_make (P := Try.prog) W 72 83 i0 _ Try.underlying72 hi hz0 .i64 .i64 (n : Int) n (by omega) (Int.le_refl _) (by rw [hz2]; omega) (by omega)
  rw [hz1] at this
  simpa [Value.cells] using this
theorem make_jobs {n : Nat} (h : n ≤ 64) (W : World) : (Instr.makeSlice 61 (.int .i64 n) (.int .i64 n)).run Try.prog W = .ok (.slice (some ⟨W.heap.size, 0, none⟩) n n) (W.alloc (.cells (madeCells (jobCells job0 (.slice none 0 0)).toArray (n * 6)) 33)) := by
  obtain ⟨i0, hi, hz0, hz1, hz2⟩ := info_parts info32
  have := run_make (P := Try.prog) W 61 33 i0 _ Try.underlying61 hi hz0 .i64 .i64 (n : Int) n (by omega) (Int.le_refl _) (by rw [hz2]; omega) (by omega)
  rw [hz1] at this
  simpa [Value.cells, jobCells, job0] using this
theorem make_has {n : Nat} (h : n ≤ 64) (W : World) : (Instr.makeSlice 73 (.int .i64 n) (.int .i64 n)).run Try.prog W = .ok (.slice (some ⟨W.heap.size, 0, none⟩) n n) (W.alloc (.cells (madeCells #[.bool false] (n * 1)) 4)) := by
  obtain ⟨i0, hi, hz0, hz1, hz2⟩ := info_parts info4
  have := run_make (P := Try.prog) W 73 4 i0 _ Try.underlying73 hi hz0 .i64 .i64 (n : Int) n (by omega) (Int.le_refl _) (by rw [hz2]; omega) (by omega)
  rw [hz1] at this
  simpa [Value.cells] using this
def RNew (w : World) (n : Nat) (e : Ending) (w' : World) : Prop := ∃ r b1 b2 b3, e = .returned (.tuple #[.pointer (some ⟨r, 0, none⟩), .int .i64 0]) ∧ (∀ K : Nat → Prop, (∀ b, Rb r b1 b2 b3 b → ¬ K b) → Rp w.heap.size w' K r (List.replicate n ⟨[], none⟩) b1 b2 b3) ∧ Below w.heap.size w w'
theorem rnew_end {w X : World} {n b1 b2 b3 r : Nat} (h1 : 1 ≤ n) (h2 : n ≤ 64) (q4 : X.heap[r]? = some (.cells #[.slice (some ⟨b1, 0, none⟩) n n, .slice (some ⟨b2, 0, none⟩) n n, .slice (some ⟨b3, 0, none⟩) n n] 75 (0, 0))) (q1 : X.heap[b1]? = some (.cells (madeCells #[.slice none 0 0] n) 83 (0, 0))) (q2 : X.heap[b2]? = some (.cells (madeCells (jobCells job0 (.slice none 0 0)).toArray (n * 6)) 33 (0, 0))) (q3 : X.heap[b3]? = some (.cells (madeCells #[.bool false] n) 4 (0, 0)))
    (g : w.heap.size ≤ b1 ∧ w.heap.size ≤ b2 ∧ w.heap.size ≤ b3 ∧ w.heap.size ≤ r) (ne : b1 ≠ b2 ∧ b1 ≠ b3 ∧ b2 ≠ b3 ∧ r ≠ b1 ∧ r ≠ b2 ∧ r ≠ b3) :
    ∀ K : Nat → Prop, (∀ b, Rb r b1 b2 b3 b → ¬ K b) → Rp w.heap.size X K r (List.replicate n ⟨[], none⟩) b1 b2 b3 := by
  intro K hK
  obtain ⟨g1, g2, g3, g4⟩ := g
  refine ⟨by rw [List.length_replicate]; exact q4, ?_, ?_, ?_, by rw [List.length_replicate]; exact h1, by rw [List.length_replicate]; exact h2, ne, ⟨hK _ (.inl rfl), hK _ (.inr (.inl rfl)), hK _ (.inr (.inr (.inl rfl))), hK _ (.inr (.inr (.inr rfl)))⟩, ⟨g4, g1, g2, g3⟩⟩
  · rw [List.map_replicate]
    exact Arr.made (fun _ => ⟨_, rfl, Enc.Row.nil _ _ _⟩) q1 (by show n = n * 1; omega)
  · rw [List.map_replicate]
    exact Arr.made (x0 := job0) (fun _ => jobE_mk (Enc.Row.nil _ _ _)) q2 rfl
  · rw [List.map_replicate]
    exact Arr.made (x0 := false) (fun _ => rfl) q3 (by show n = n * 1; omega)
set_option maxHeartbeats 1000000 in
theorem rnew_any {w : World} {n : Nat} (h1 : 1 ≤ n) (h2 : n ≤ 64) : Calls Try.prog 16 #[.int .i64 n] w (RNew w n) := by
  have i1 : ¬ (n : Int) < 1 := by omega
  have i2 : ¬ (64 : Int) < (n : Int) := by omega
  have m1 := make_rows h2
  have m2 := make_jobs h2
  have m3 := make_has h2
  have HN := hid (And.intro h1 h2)
  clear h1 h2
  go_enter Try.func16, Try.ntmps16
  go_wp2
  go_region
  all_goals go_wp2
  all_goals
    go_ret2
    refine ⟨_, _, _, _, rfl, rnew_end HN.out.1 HN.out.2 (alloc_blk (by simp <;> omega)) (by first | exact (Below.heap_alloc _ _ _ (by simp <;> omega)).trans (alloc_blk (by simp <;> omega)) | exact (Below.heap_alloc _ _ _ (by simp <;> omega)).trans ((Below.heap_alloc _ _ _ (by simp <;> omega)).trans (alloc_blk (by simp <;> omega))) | exact (Below.heap_alloc _ _ _ (by simp <;> omega)).trans ((Below.heap_alloc _ _ _ (by simp <;> omega)).trans ((Below.heap_alloc _ _ _ (by simp <;> omega)).trans (alloc_blk (by simp <;> omega))))) (by first | exact (Below.heap_alloc _ _ _ (by simp <;> omega)).trans (alloc_blk (by simp <;> omega)) | exact (Below.heap_alloc _ _ _ (by simp <;> omega)).trans ((Below.heap_alloc _ _ _ (by simp <;> omega)).trans (alloc_blk (by simp <;> omega))) | exact (Below.heap_alloc _ _ _ (by simp <;> omega)).trans ((Below.heap_alloc _ _ _ (by simp <;> omega)).trans ((Below.heap_alloc _ _ _ (by simp <;> omega)).trans (alloc_blk (by simp <;> omega))))) (by first | exact (Below.heap_alloc _ _ _ (by simp <;> omega)).trans (alloc_blk (by simp <;> omega)) | exact (Below.heap_alloc _ _ _ (by simp <;> omega)).trans ((Below.heap_alloc _ _ _ (by simp <;> omega)).trans (alloc_blk (by simp <;> omega))) | exact (Below.heap_alloc _ _ _ (by simp <;> omega)).trans ((Below.heap_alloc _ _ _ (by simp <;> omega)).trans ((Below.heap_alloc _ _ _ (by simp <;> omega)).trans (alloc_blk (by simp <;> omega))))) (by omega) (by omega), (by repeat (first | (with_reducible exact Below.refl _ _) | (with_reducible exact bl_mm) | (with_reducible refine bl_dr ?_) | (with_reducible refine bl_drN ?_ _) | (with_reducible refine bl_al ?_ _) | (with_reducible refine bl_more ?_ _ _)))⟩
end Go.Proofs.Ytlfdnjomjheioaa
