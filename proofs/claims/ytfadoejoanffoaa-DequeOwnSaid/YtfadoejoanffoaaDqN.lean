/- No deque, and one that nothing made. -/
import Derived.Test.YtfadoejoanffoaaDqF
namespace Go.Proofs.Ytfadoejoanffoaa
open Go.RowKit

/-- No deque. -/
def Bare (w : World) (p : Option Addr) : Prop := p = none ∨ ∃ d, p = some ⟨d, 0, none⟩ ∧ d < w.heap.size ∧ w.cell? ⟨d, 0, none⟩ = some (.bool false)
theorem Bare.below {w W : World} {p : Option Addr} (h : Bare w p) (hb : Below w.heap.size w W) : Bare W p := by
  rcases h with rfl | ⟨d, rfl, hd, hc⟩
  · exact .inl rfl
  · exact .inr ⟨d, rfl, by have := hb.size; omega, cell_kept hb hc⟩
set_option maxHeartbeats 1000000 in
theorem bare_push {w : World} {p : Option Addr} {j : Job} {v : Value} (h : Bare w p) : Calls Try.prog 9 #[.pointer p , jobV j v] w fun e w' => e = .returned (.int .i64 1) ∧ Below w.heap.size w w' := by
  rcases h with rfl | ⟨d, rfl, hd, hc⟩
  · go_enter Try.func9, Try.ntmps9
    go_wp2_with (first | (go_at_call 20; go_in) | (go_at_call 23; go_in))
    refine bodyPost_ret (v := (.int .i64 1)) (by simp [results, Try.results9, job0, go_sem]) rfl ⟨rfl, (by repeat (first | (with_reducible exact Below.refl _ _) | (with_reducible refine bl_dr ?_) | (with_reducible refine bl_drN ?_ _) | (with_reducible refine bl_al ?_ _) | (with_reducible refine bl_more ?_ _ _)))⟩
  · go_enter Try.func9, Try.ntmps9
    go_wp2_with (first | (go_at_call 20; go_in) | (go_at_call 23; go_in))
    refine bodyPost_ret (v := (.int .i64 1)) (by simp [results, Try.results9, job0, go_sem]) rfl ⟨rfl, (by repeat (first | (with_reducible exact Below.refl _ _) | (with_reducible refine bl_dr ?_) | (with_reducible refine bl_drN ?_ _) | (with_reducible refine bl_al ?_ _) | (with_reducible refine bl_more ?_ _ _)))⟩
set_option maxHeartbeats 1000000 in
theorem bare_steal {w : World} {p : Option Addr}  (h : Bare w p) : Calls Try.prog 11 #[.pointer p ] w fun e w' => e = .returned (.tuple #[jobV job0 (.slice none 0 0), .int .i64 1]) ∧ Below w.heap.size w w' := by
  rcases h with rfl | ⟨d, rfl, hd, hc⟩
  · go_enter Try.func11, Try.ntmps11
    go_wp2_with (first | (go_at_call 20; go_in) | (go_at_call 23; go_in))
    refine bodyPost_ret (v := (.tuple #[jobV job0 (.slice none 0 0), .int .i64 1])) (by simp [results, Try.results11, job0, go_sem]) rfl ⟨rfl, (by repeat (first | (with_reducible exact Below.refl _ _) | (with_reducible refine bl_dr ?_) | (with_reducible refine bl_drN ?_ _) | (with_reducible refine bl_al ?_ _) | (with_reducible refine bl_more ?_ _ _)))⟩
  · go_enter Try.func11, Try.ntmps11
    go_wp2_with (first | (go_at_call 20; go_in) | (go_at_call 23; go_in))
    refine bodyPost_ret (v := (.tuple #[jobV job0 (.slice none 0 0), .int .i64 1])) (by simp [results, Try.results11, job0, go_sem]) rfl ⟨rfl, (by repeat (first | (with_reducible exact Below.refl _ _) | (with_reducible refine bl_dr ?_) | (with_reducible refine bl_drN ?_ _) | (with_reducible refine bl_al ?_ _) | (with_reducible refine bl_more ?_ _ _)))⟩
set_option maxHeartbeats 1000000 in
theorem bare_pop {w : World} {p : Option Addr}  (h : Bare w p) : Calls Try.prog 12 #[.pointer p ] w fun e w' => e = .returned (.tuple #[jobV job0 (.slice none 0 0), .int .i64 1]) ∧ Below w.heap.size w w' := by
  rcases h with rfl | ⟨d, rfl, hd, hc⟩
  · go_enter Try.func12, Try.ntmps12
    go_wp2_with (first | (go_at_call 20; go_in) | (go_at_call 23; go_in))
    refine bodyPost_ret (v := (.tuple #[jobV job0 (.slice none 0 0), .int .i64 1])) (by simp [results, Try.results12, job0, go_sem]) rfl ⟨rfl, (by repeat (first | (with_reducible exact Below.refl _ _) | (with_reducible refine bl_dr ?_) | (with_reducible refine bl_drN ?_ _) | (with_reducible refine bl_al ?_ _) | (with_reducible refine bl_more ?_ _ _)))⟩
  · go_enter Try.func12, Try.ntmps12
    go_wp2_with (first | (go_at_call 20; go_in) | (go_at_call 23; go_in))
    refine bodyPost_ret (v := (.tuple #[jobV job0 (.slice none 0 0), .int .i64 1])) (by simp [results, Try.results12, job0, go_sem]) rfl ⟨rfl, (by repeat (first | (with_reducible exact Below.refl _ _) | (with_reducible refine bl_dr ?_) | (with_reducible refine bl_drN ?_ _) | (with_reducible refine bl_al ?_ _) | (with_reducible refine bl_more ?_ _ _)))⟩
set_option maxHeartbeats 1000000 in
theorem bare_len {w : World} {p : Option Addr}  (h : Bare w p) : Calls Try.prog 13 #[.pointer p ] w fun e w' => e = .returned (.int .i64 0) ∧ Below w.heap.size w w' := by
  rcases h with rfl | ⟨d, rfl, hd, hc⟩
  · go_enter Try.func13, Try.ntmps13
    go_wp2_with (first | (go_at_call 20; go_in) | (go_at_call 23; go_in))
    refine bodyPost_ret (v := (.int .i64 0)) (by simp [results, Try.results13, job0, go_sem]) rfl ⟨rfl, (by repeat (first | (with_reducible exact Below.refl _ _) | (with_reducible refine bl_dr ?_) | (with_reducible refine bl_drN ?_ _) | (with_reducible refine bl_al ?_ _) | (with_reducible refine bl_more ?_ _ _)))⟩
  · go_enter Try.func13, Try.ntmps13
    go_wp2_with (first | (go_at_call 20; go_in) | (go_at_call 23; go_in))
    refine bodyPost_ret (v := (.int .i64 0)) (by simp [results, Try.results13, job0, go_sem]) rfl ⟨rfl, (by repeat (first | (with_reducible exact Below.refl _ _) | (with_reducible refine bl_dr ?_) | (with_reducible refine bl_drN ?_ _) | (with_reducible refine bl_al ?_ _) | (with_reducible refine bl_more ?_ _ _)))⟩
set_option maxHeartbeats 1000000 in
theorem bare_list {w : World} {p : Option Addr}  (h : Bare w p) : Calls Try.prog 17 #[.pointer p ] w fun e w' => e = .returned (.slice none 0 0) ∧ Below w.heap.size w w' := by
  rcases h with rfl | ⟨d, rfl, hd, hc⟩
  · go_enter Try.func17, Try.ntmps17
    go_wp2_with (first | (go_at_call 20; go_in) | (go_at_call 23; go_in))
    refine bodyPost_ret (v := (.slice none 0 0)) (by simp [results, Try.results17, job0, go_sem]) rfl ⟨rfl, (by repeat (first | (with_reducible exact Below.refl _ _) | (with_reducible refine bl_dr ?_) | (with_reducible refine bl_drN ?_ _) | (with_reducible refine bl_al ?_ _) | (with_reducible refine bl_more ?_ _ _)))⟩
  · go_enter Try.func17, Try.ntmps17
    go_wp2_with (first | (go_at_call 20; go_in) | (go_at_call 23; go_in))
    refine bodyPost_ret (v := (.slice none 0 0)) (by simp [results, Try.results17, job0, go_sem]) rfl ⟨rfl, (by repeat (first | (with_reducible exact Below.refl _ _) | (with_reducible refine bl_dr ?_) | (with_reducible refine bl_drN ?_ _) | (with_reducible refine bl_al ?_ _) | (with_reducible refine bl_more ?_ _ _)))⟩
set_option maxHeartbeats 1000000 in
theorem bare_drop {w : World} {p : Option Addr} {a c : Int} {b : Bool} (h : Bare w p) : Calls Try.prog 19 #[.pointer p , .agg #[.int .i64 a, .bool b, .int .i64 c]] w fun e w' => e = .returned (.int .i64 0) ∧ Below w.heap.size w w' := by
  rcases h with rfl | ⟨d, rfl, hd, hc⟩
  · go_enter Try.func19, Try.ntmps19
    go_wp2_with (first | (go_at_call 20; go_in) | (go_at_call 23; go_in))
    refine bodyPost_ret (v := (.int .i64 0)) (by simp [results, Try.results19, job0, go_sem]) rfl ⟨rfl, (by repeat (first | (with_reducible exact Below.refl _ _) | (with_reducible refine bl_dr ?_) | (with_reducible refine bl_drN ?_ _) | (with_reducible refine bl_al ?_ _) | (with_reducible refine bl_more ?_ _ _)))⟩
  · go_enter Try.func19, Try.ntmps19
    go_wp2_with (first | (go_at_call 20; go_in) | (go_at_call 23; go_in))
    refine bodyPost_ret (v := (.int .i64 0)) (by simp [results, Try.results19, job0, go_sem]) rfl ⟨rfl, (by repeat (first | (with_reducible exact Below.refl _ _) | (with_reducible refine bl_dr ?_) | (with_reducible refine bl_drN ?_ _) | (with_reducible refine bl_al ?_ _) | (with_reducible refine bl_more ?_ _ _)))⟩

set_option maxRecDepth 8000 in
set_option maxHeartbeats 4000000 in
theorem nil_any {K : Nat → Prop} {w : World} {j : Job} {v : Value} {made : Bool} (h : intE.Row K w v j.stamp) :
    Calls Try.prog 6 #[jobV j v, .bool made] w fun e w' => e = .returned (.bool true) ∧ Below w.heap.size w w' := by
  obtain ⟨A, c, rfl, h1, h2⟩ := h.form
  clear h h1 h2
  by_cases hl : 100 < j.stamp.length
  · have i0 : (100 : Int) < (j.stamp.length : Int) := by omega
    go_enter Try.func6, Try.ntmps6
    go_wp2_with (first | (go_at_call 8; refine (lives_any _).mono ?_; rintro e w2 ⟨rfl, hb1⟩; obtain ⟨ex, dx, rfl⟩ := more_of hb1; clear hb1))
    go_ret
    exact ⟨rfl, (by repeat (first | (with_reducible exact Below.refl _ _) | (with_reducible refine bl_dr ?_) | (with_reducible refine bl_drN ?_ _) | (with_reducible refine bl_al ?_ _) | (with_reducible refine bl_more ?_ _ _)))⟩
  · have i0 : ¬ (100 : Int) < (j.stamp.length : Int) := by omega
    cases made with
    | false =>
      go_enter Try.func6, Try.ntmps6
      go_wp2_with (first | (go_at_call 8; refine (lives_any _).mono ?_; rintro e w2 ⟨rfl, hb1⟩; obtain ⟨ex, dx, rfl⟩ := more_of hb1; clear hb1) | (go_at_call 18; refine (same_any (j := job0) (j' := job0) (Enc.Row.nil _ (fun _ => True) _) (Enc.Row.nil _ (fun _ => True) _)).mono ?_; rintro e w1 ⟨rfl, hb1⟩; obtain ⟨ex, dx, rfl⟩ := more_of hb1; clear hb1) | (go_at_call 9; refine (bare_push (by first | exact .inl rfl | exact .inr ⟨_, rfl, by go_simp, by go_simp⟩)).mono ?_; rintro e w1 ⟨rfl, hb1⟩; obtain ⟨ex, dx, rfl⟩ := more_of hb1; clear hb1) | (go_at_call 11; refine (bare_steal (by first | exact .inl rfl | exact .inr ⟨_, rfl, by go_simp, by go_simp⟩)).mono ?_; rintro e w1 ⟨rfl, hb1⟩; obtain ⟨ex, dx, rfl⟩ := more_of hb1; clear hb1) | (go_at_call 12; refine (bare_pop (by first | exact .inl rfl | exact .inr ⟨_, rfl, by go_simp, by go_simp⟩)).mono ?_; rintro e w1 ⟨rfl, hb1⟩; obtain ⟨ex, dx, rfl⟩ := more_of hb1; clear hb1) | (go_at_call 13; refine (bare_len (by first | exact .inl rfl | exact .inr ⟨_, rfl, by go_simp, by go_simp⟩)).mono ?_; rintro e w1 ⟨rfl, hb1⟩; obtain ⟨ex, dx, rfl⟩ := more_of hb1; clear hb1) | (go_at_call 17; refine (bare_list (by first | exact .inl rfl | exact .inr ⟨_, rfl, by go_simp, by go_simp⟩)).mono ?_; rintro e w1 ⟨rfl, hb1⟩; obtain ⟨ex, dx, rfl⟩ := more_of hb1; clear hb1) | (go_at_call 19; refine (bare_drop (by first | exact .inl rfl | exact .inr ⟨_, rfl, by go_simp, by go_simp⟩)).mono ?_; rintro e w1 ⟨rfl, hb1⟩; obtain ⟨ex, dx, rfl⟩ := more_of hb1; clear hb1))
      go_ret
      exact ⟨rfl, (by repeat (first | (with_reducible exact Below.refl _ _) | (with_reducible refine bl_dr ?_) | (with_reducible refine bl_drN ?_ _) | (with_reducible refine bl_al ?_ _) | (with_reducible refine bl_more ?_ _ _)))⟩
    | true =>
      go_enter Try.func6, Try.ntmps6
      go_wp2_with (first | (go_at_call 8; refine (lives_any _).mono ?_; rintro e w2 ⟨rfl, hb1⟩; obtain ⟨ex, dx, rfl⟩ := more_of hb1; clear hb1) | (go_at_call 18; refine (same_any (j := job0) (j' := job0) (Enc.Row.nil _ (fun _ => True) _) (Enc.Row.nil _ (fun _ => True) _)).mono ?_; rintro e w1 ⟨rfl, hb1⟩; obtain ⟨ex, dx, rfl⟩ := more_of hb1; clear hb1) | (go_at_call 9; refine (bare_push (by first | exact .inl rfl | exact .inr ⟨_, rfl, by go_simp, by go_simp⟩)).mono ?_; rintro e w1 ⟨rfl, hb1⟩; obtain ⟨ex, dx, rfl⟩ := more_of hb1; clear hb1) | (go_at_call 11; refine (bare_steal (by first | exact .inl rfl | exact .inr ⟨_, rfl, by go_simp, by go_simp⟩)).mono ?_; rintro e w1 ⟨rfl, hb1⟩; obtain ⟨ex, dx, rfl⟩ := more_of hb1; clear hb1) | (go_at_call 12; refine (bare_pop (by first | exact .inl rfl | exact .inr ⟨_, rfl, by go_simp, by go_simp⟩)).mono ?_; rintro e w1 ⟨rfl, hb1⟩; obtain ⟨ex, dx, rfl⟩ := more_of hb1; clear hb1) | (go_at_call 13; refine (bare_len (by first | exact .inl rfl | exact .inr ⟨_, rfl, by go_simp, by go_simp⟩)).mono ?_; rintro e w1 ⟨rfl, hb1⟩; obtain ⟨ex, dx, rfl⟩ := more_of hb1; clear hb1) | (go_at_call 17; refine (bare_list (by first | exact .inl rfl | exact .inr ⟨_, rfl, by go_simp, by go_simp⟩)).mono ?_; rintro e w1 ⟨rfl, hb1⟩; obtain ⟨ex, dx, rfl⟩ := more_of hb1; clear hb1) | (go_at_call 19; refine (bare_drop (by first | exact .inl rfl | exact .inr ⟨_, rfl, by go_simp, by go_simp⟩)).mono ?_; rintro e w1 ⟨rfl, hb1⟩; obtain ⟨ex, dx, rfl⟩ := more_of hb1; clear hb1))
      go_ret
      exact ⟨rfl, (by repeat (first | (with_reducible exact Below.refl _ _) | (with_reducible refine bl_dr ?_) | (with_reducible refine bl_drN ?_ _) | (with_reducible refine bl_al ?_ _) | (with_reducible refine bl_more ?_ _ _)))⟩
end Go.Proofs.Ytfadoejoanffoaa
