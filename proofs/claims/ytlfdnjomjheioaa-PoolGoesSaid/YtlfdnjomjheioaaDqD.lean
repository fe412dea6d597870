/- Where nothing is there, or no room is; jobs. -/
import Derived.Test.YtlfdnjomjheioaaDqC
namespace Go.Proofs.Ytlfdnjomjheioaa
open Go.RowKit

def job0 : Job := ⟨0, false, 0, false, 0, []⟩

set_option maxHeartbeats 1000000 in
theorem steal_none {F : Nat → Prop} {w : World} {d g : Nat} (h : Dq w F d g []) :
    Calls Try.prog 48 #[.pointer (some ⟨d, 0, none⟩)] w fun e w' => e = .returned (.tuple #[jobV job0 (.slice none 0 0), .int .i64 6]) ∧ Below w.heap.size w w' := by
  obtain ⟨A, c, hb, _, _, _⟩ := h.cells
  have hd := h.lt
  have h0 : w.cell? ⟨d, 0, none⟩ = some (.bool true) := cell_blk hb 0
  have h1 : w.cell? ⟨d, 1, none⟩ = some (.slice A 0 c) := cell_blk hb 1
  clear hb h
  go_enter Try.func48, Try.ntmps48
  go_wp2_with (first | (go_at_call 61; go_in) | (go_at_call 43; go_in) | (go_at_call 66; go_in) | (go_at_call 64; go_in) | (go_at_call 62; go_in) | (go_at_call 54; go_in) | (go_at_call 44; go_in))
  refine bodyPost_ret (v := .tuple #[jobV job0 (.slice none 0 0), .int .i64 6]) (by simp [results, Try.results48, job0, go_sem]) rfl ⟨rfl, ?_⟩
  exact (by repeat (first | (with_reducible exact Below.refl _ _) | (with_reducible refine bl_dr ?_) | (with_reducible refine bl_drN ?_ _) | (with_reducible refine bl_al ?_ _) | (with_reducible refine bl_more ?_ _ _)))

set_option maxHeartbeats 1000000 in
theorem pop_none {F : Nat → Prop} {w : World} {d g : Nat} (h : Dq w F d g []) :
    Calls Try.prog 46 #[.pointer (some ⟨d, 0, none⟩)] w fun e w' => e = .returned (.tuple #[jobV job0 (.slice none 0 0), .int .i64 6]) ∧ Below w.heap.size w w' := by
  obtain ⟨A, c, hb, _, _, _⟩ := h.cells
  have hd := h.lt
  have h0 : w.cell? ⟨d, 0, none⟩ = some (.bool true) := cell_blk hb 0
  have h1 : w.cell? ⟨d, 1, none⟩ = some (.slice A 0 c) := cell_blk hb 1
  clear hb h
  go_enter Try.func46, Try.ntmps46
  go_wp2_with (first | (go_at_call 61; go_in) | (go_at_call 43; go_in) | (go_at_call 66; go_in) | (go_at_call 64; go_in) | (go_at_call 62; go_in) | (go_at_call 54; go_in) | (go_at_call 44; go_in))
  refine bodyPost_ret (v := .tuple #[jobV job0 (.slice none 0 0), .int .i64 6]) (by simp [results, Try.results46, job0, go_sem]) rfl ⟨rfl, ?_⟩
  exact (by repeat (first | (with_reducible exact Below.refl _ _) | (with_reducible refine bl_dr ?_) | (with_reducible refine bl_drN ?_ _) | (with_reducible refine bl_al ?_ _) | (with_reducible refine bl_more ?_ _ _)))

set_option maxHeartbeats 1000000 in
theorem push_full {F : Nat → Prop} {w : World} {d g : Nat} {l : List Job} {j : Job} {v : Value} (h : Dq w F d g l) (hl : l.length = 128) :
    Calls Try.prog 40 #[.pointer (some ⟨d, 0, none⟩), jobV j v] w fun e w' => e = .returned (.int .i64 8) ∧ Below w.heap.size w w' := by
  obtain ⟨A, c, hb, _, _, _⟩ := h.cells
  have hd := h.lt
  have h0 : w.cell? ⟨d, 0, none⟩ = some (.bool true) := cell_blk hb 0
  have h1 : w.cell? ⟨d, 1, none⟩ = some (.slice A 128 c) := by have := cell_blk hb 1; rwa [hl] at this
  clear hb h
  go_enter Try.func40, Try.ntmps40
  go_wp2_with (first | (go_at_call 61; go_in) | (go_at_call 43; go_in) | (go_at_call 66; go_in) | (go_at_call 64; go_in) | (go_at_call 62; go_in) | (go_at_call 54; go_in) | (go_at_call 44; go_in))
  go_ret
  exact ⟨rfl, (by repeat (first | (with_reducible exact Below.refl _ _) | (with_reducible refine bl_dr ?_) | (with_reducible refine bl_drN ?_ _) | (with_reducible refine bl_al ?_ _) | (with_reducible refine bl_more ?_ _ _)))⟩

set_option maxHeartbeats 1000000 in
theorem job_any (w : World) (i : Int) :
    Calls Try.prog 23 #[.int .i64 i] w fun e w' => e = .returned (jobV ⟨i, false, 0, false, 0, []⟩ (.slice none 0 0)) ∧ Below w.heap.size w w' := by
  go_enter Try.func23, Try.ntmps23
  go_wp2
  refine bodyPost_ret (v := jobV ⟨i, false, 0, false, 0, []⟩ (.slice none 0 0)) (by simp [results, Try.results23, go_sem]) rfl ⟨rfl, ?_⟩
  exact (by repeat (first | (with_reducible exact Below.refl _ _) | (with_reducible refine bl_dr ?_) | (with_reducible refine bl_drN ?_ _) | (with_reducible refine bl_al ?_ _) | (with_reducible refine bl_more ?_ _ _)))
end Go.Proofs.Ytlfdnjomjheioaa
