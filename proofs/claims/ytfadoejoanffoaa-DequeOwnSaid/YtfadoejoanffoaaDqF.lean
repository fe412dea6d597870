/- A deque's calls, one behind the other; the examples. -/
import Derived.Test.YtfadoejoanffoaaDqL
namespace Go.Proofs.Ytfadoejoanffoaa
open Go.RowKit

/-- A deque that was made behind w0. -/
structure St (w0 w : World) (d g : Nat) (l : List Job) : Prop where
  dq : Dq w (fun _ => True) d g l
  bw : Below w0.heap.size w0 w
  ld : w0.heap.size ≤ d
  lg : w0.heap.size ≤ g
theorem St.below {w0 w W : World} {d g : Nat} {l : List Job} (h : St w0 w d g l) (hb : Below w.heap.size w W) : St w0 W d g l :=
  ⟨h.dq.below hb, h.bw.trans (hb.mono h.bw.size), h.ld, h.lg⟩
theorem St.lt {w0 w : World} {d g : Nat} {l : List Job} (h : St w0 w d g l) : d < w.heap.size ∧ g < w.heap.size := ⟨h.dq.lt, by have := h.dq.lt; have := h.dq.own; omega⟩
theorem St.up {w0 w w' : World} {d g g' : Nat} {l l' : List Job} (h : St w0 w d g l) (hd : Dq w' (fun _ => True) d g' l') (hu : Up d g w g' w') : St w0 w' d g' l' := by
  refine ⟨hd, h.bw.trans (hu.ext.toBelow h.bw.size (fun x hx hs => ?_)), h.ld, ?_⟩
  · have := h.ld; have := h.lg; omega
  · have := h.lg; have := h.bw.size
    rcases hu.new with h2 | h2 <;> omega
theorem Up.cell {d g g' : Nat} {w w' : World} (h : Up d g w g' w') {a : Addr} {v : Value} (hc : w.cell? a = some v) (h1 : a.block ≠ d) (h2 : a.block ≠ g) : w'.cell? a = some v :=
  ext_cell h.ext hc (fun hs => hs.elim h1 h2)

theorem st_new (w : World) : Calls Try.prog 7 #[] w fun e w' => ∃ d, e = .returned (.pointer (some ⟨d, 0, none⟩)) ∧ St w w' d d [] :=
  (new_any w).mono fun _ _ ⟨d, h1, h2, h3, h4⟩ => ⟨d, h1, h3, h4, by omega, by omega⟩
theorem st_push {w0 w : World} {d g : Nat} {l : List Job} {j : Job} {v : Value} (h : St w0 w d g l) (hj : intE.Row (Kx (fun _ => True) d g) w v j.stamp) (hok : okJob j) (hlt : l.length < 128) :
    Calls Try.prog 9 #[.pointer (some ⟨d, 0, none⟩), jobV j v] w fun e w' => ∃ g', e = .returned (.int .i64 0) ∧ St w0 w' d g' (l ++ [j]) ∧ Up d g w g' w' :=
  (push_any h.dq hj hok hlt).mono fun _ _ ⟨g', h1, h2, h3⟩ => ⟨g', h1, h.up (h2.mono (fun _ _ _ => trivial)) h3, h3⟩
theorem st_steal {w0 w : World} {d g : Nat} {l : List Job} {x : Job} (h : St w0 w d g (x :: l)) :
    Calls Try.prog 11 #[.pointer (some ⟨d, 0, none⟩)] w fun e w' => ∃ g' v', e = .returned (.tuple #[jobV x v', .int .i64 0]) ∧ intE.Row (Kx (fun _ => True) d g') w' v' x.stamp ∧ St w0 w' d g' l ∧ Up d g w g' w' :=
  (steal_some h.dq).mono fun _ _ ⟨g', v', h1, h2, h3, h4⟩ => ⟨g', v', h1, h2, h.up h3 h4, h4⟩
theorem st_pop {w0 w : World} {d g : Nat} {l : List Job} {x : Job} (h : St w0 w d g (l ++ [x])) :
    Calls Try.prog 12 #[.pointer (some ⟨d, 0, none⟩)] w fun e w' => ∃ g' v', e = .returned (.tuple #[jobV x v', .int .i64 0]) ∧ intE.Row (Kx (fun _ => True) d g') w' v' x.stamp ∧ St w0 w' d g' l ∧ Up d g w g' w' :=
  (pop_some h.dq).mono fun _ _ ⟨g', v', h1, h2, h3, h4⟩ => ⟨g', v', h1, h2, h.up h3 h4, h4⟩

abbrev jobI (i : Int) : Job := ⟨i, false, 0, false, 0, []⟩
theorem ok_jobI (i : Int) : okJob (jobI i) := by simp [okJob]

set_option maxHeartbeats 4000000 in
theorem lives_any (w : World) : Calls Try.prog 8 #[] w fun e w' => e = .returned (.bool true) ∧ Below w.heap.size w w' := by
  go_enter Try.func8, Try.ntmps8
  go_wp2_with (first
    | (go_at_call 7; refine (st_new _).mono ?_; rintro e w1 ⟨d, rfl, hq⟩; have HD := hid hq; clear hq)
    | (go_at_call 10; refine (job_any _ _).mono ?_; rintro e w1 ⟨rfl, hb1⟩; obtain ⟨ex, dx, rfl⟩ := more_of hb1; clear hb1)
    | (go_at_call 9; refine (st_push (j := jobI _) (HD.out.below (by repeat (first | (with_reducible exact Below.refl _ _) | (with_reducible refine bl_dr ?_) | (with_reducible refine bl_drN ?_ _) | (with_reducible refine bl_al ?_ _) | (with_reducible refine bl_more ?_ _ _)))) (Enc.Row.nil _ _ _) (ok_jobI _) (by simp)).mono ?_; rintro e w1 ⟨g', rfl, hq, _⟩; clear HD; have HD := hid hq; clear hq)
    | (go_at_call 11; refine (st_steal (x := jobI 1) (l := [jobI 2, jobI 3]) (HD.out.below (by repeat (first | (with_reducible exact Below.refl _ _) | (with_reducible refine bl_dr ?_) | (with_reducible refine bl_drN ?_ _) | (with_reducible refine bl_al ?_ _) | (with_reducible refine bl_more ?_ _ _))))).mono ?_; rintro e w1 ⟨g', v1, rfl, hr, hq, _⟩; clear HD; have HD := hid hq; obtain ⟨hl1, hl2⟩ := hq.lt; clear hq; obtain ⟨Av, cv, rfl, _, _⟩ := hr.form; clear hr)
    | (go_at_call 12; refine (st_pop (x := jobI 3) (l := [jobI 2]) (HD.out.below (by repeat (first | (with_reducible exact Below.refl _ _) | (with_reducible refine bl_dr ?_) | (with_reducible refine bl_drN ?_ _) | (with_reducible refine bl_al ?_ _) | (with_reducible refine bl_more ?_ _ _))))).mono ?_; rintro e w2 ⟨g', v1, rfl, hr, hq, hu⟩; clear HD; have HD := hid hq; have h1 : w2.cell? ⟨w1.heap.size, 0, none⟩ = some (.int .i64 1) := hu.cell (by go_simp) (Nat.ne_of_gt hl1) (Nat.ne_of_gt hl2); have hl3 : w1.heap.size < w2.heap.size := World.block_lt_of_cell? _ _ h1; clear hq hu; obtain ⟨Av2, cv2, rfl, _, _⟩ := hr.form; clear hr)
    | (go_at_call 13; refine (len_any (HD.out.below (by repeat (first | (with_reducible exact Below.refl _ _) | (with_reducible refine bl_dr ?_) | (with_reducible refine bl_drN ?_ _) | (with_reducible refine bl_al ?_ _) | (with_reducible refine bl_more ?_ _ _)))).dq).mono ?_; rintro e w3 ⟨rfl, hb1⟩; obtain ⟨ex, dx, rfl⟩ := more_of hb1; clear hb1)
    | (go_at_call 17; refine (list_any (HD.out.below (by repeat (first | (with_reducible exact Below.refl _ _) | (with_reducible refine bl_dr ?_) | (with_reducible refine bl_drN ?_ _) | (with_reducible refine bl_al ?_ _) | (with_reducible refine bl_more ?_ _ _)))).dq).mono ?_; rintro e w3 ⟨v3, rfl, hr, hb1⟩; obtain ⟨Av3, cv3, rfl, _, _⟩ := hr.form; obtain ⟨ex3, dx3, rfl⟩ := more_of hb1; clear hb1; have HR := hid hr; clear hr)
    | (go_at_call 16; refine (same_all (ys := [jobI 2]) (HR.out.below (by repeat (first | (with_reducible exact Below.refl _ _) | (with_reducible refine bl_dr ?_) | (with_reducible refine bl_drN ?_ _) | (with_reducible refine bl_al ?_ _) | (with_reducible refine bl_more ?_ _ _)))) (job_row (K := fun _ => True) (v := .slice none 0 0) (alloc_blk (by simp only [more_size, World.size_alloc])) (Enc.Row.nil _ _ _) trivial)).mono ?_; rintro e w3 ⟨rfl, hb1⟩; obtain ⟨ex4, dx4, rfl⟩ := more_of hb1; clear hb1))
  go_ret
  exact ⟨rfl, (HD.out.below (by repeat (first | (with_reducible exact Below.refl _ _) | (with_reducible refine bl_dr ?_) | (with_reducible refine bl_drN ?_ _) | (with_reducible refine bl_al ?_ _) | (with_reducible refine bl_more ?_ _ _)))).bw⟩
end Go.Proofs.Ytfadoejoanffoaa
