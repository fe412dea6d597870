/- A call of both. -/
import Derived.Test.YtfadoejoanffoaaDqU
import Derived.Test.YtfadoejoanffoaaDqF
namespace Go.Proofs.Ytfadoejoanffoaa
open Go.RowKit

abbrev Kt (d g : Nat) : Nat → Prop := Kx (fun _ => True) d g
abbrev actV (a : Acts) (v : Value) : Value := .agg #[.int .i64 a.kind, .int .i64 a.j.item, .bool a.j.undo, .int .i64 a.j.try_, .bool a.j.begun, .int .i64 a.j.token, v]
/-- A deque and the document's row. -/
structure Two (w0 w : World) (d g : Nat) (rv : Value) (l : List Job) : Prop where
  st : St w0 w d g l
  row : jobE.Row (Kt d g) w rv l
theorem Two.below {w0 w W : World} {d g : Nat} {rv : Value} {l : List Job} (h : Two w0 w d g rv l) (hb : Below w.heap.size w W) : Two w0 W d g rv l := ⟨h.st.below hb, h.row.below hb⟩
theorem same_refl {K K' : Nat → Prop} {w : World} {j : Job} {v v' : Value} (h : intE.Row K w v j.stamp) (h' : intE.Row K' w v' j.stamp) :
    Calls Try.prog 18 #[jobV j v, jobV j v'] w fun e w' => e = .returned (.bool true) ∧ Below w.heap.size w w' :=
  (same_any h h').mono fun _ _ ⟨h1, h2⟩ => ⟨by rw [h1]; simp, h2⟩
def Stepped (w0 : World) (d : Nat) (l' : List Job) (e : Ending) (w' : World) : Prop := ∃ g' rv', e = .returned (.tuple #[rv', .bool true]) ∧ Two w0 w' d g' rv' l'

set_option maxHeartbeats 2000000 in
set_option maxRecDepth 8000 in
theorem step_pop {w0 w : World} {d g : Nat} {rv v : Value} {l : List Job} {x : Job} {a : Acts} (h : Two w0 w d g rv (l ++ [x])) (hk : a.kind = 1) :
    Calls Try.prog 15 #[.pointer (some ⟨d, 0, none⟩), rv, actV a v] w (Stepped w0 d l) := by
  obtain ⟨A, c, rfl, _, _⟩ := h.row.form
  have HD := hid h.st
  have hr := h.row
  rw [show (l ++ [x]).length = l.length + 1 from by simp] at hr
  have HR := hid hr
  rw [show (l ++ [x]).length = l.length + 1 from by simp]
  clear h hr
  have k1 : (a.kind == 1) = true := by rw [hk]; rfl
  have k2 : (a.kind == 2) = false := by rw [hk]; rfl
  clear hk
  go_enter Try.func15, Try.ntmps15
  go_wp2_with (first | (go_at_call 12; refine (st_pop (HD.out.below (by repeat (first | (with_reducible exact Below.refl _ _) | (with_reducible refine bl_dr ?_) | (with_reducible refine bl_drN ?_ _) | (with_reducible refine bl_al ?_ _) | (with_reducible refine bl_more ?_ _ _))))).mono ?_; rintro e w1 ⟨g1, v1, rfl, hx1, hq, hu⟩; obtain ⟨B1, c1, rfl, _, _⟩ := hx1.form; have HR1 := hid (hu.row (HR.out.below (by repeat (first | (with_reducible exact Below.refl _ _) | (with_reducible refine bl_dr ?_) | (with_reducible refine bl_drN ?_ _) | (with_reducible refine bl_al ?_ _) | (with_reducible refine bl_more ?_ _ _))))); have HX := hid hx1; clear HD; have HD := hid hq; clear hx1 hq hu) | (go_at_call 27; refine (ref_pop (HR1.out.below (by repeat (first | (with_reducible exact Below.refl _ _) | (with_reducible refine bl_dr ?_) | (with_reducible refine bl_drN ?_ _) | (with_reducible refine bl_al ?_ _) | (with_reducible refine bl_more ?_ _ _))))).mono ?_; rintro e w2 ⟨rv1, v2, rfl, hr2, hx2, hb2⟩; obtain ⟨A2, c2, rfl, _, _⟩ := hr2.form; obtain ⟨B2, d2, rfl, _, _⟩ := hx2.form; obtain ⟨ex2, dx2, rfl⟩ := more_of hb2; have HR2 := hid hr2; have HX2 := hid hx2; clear hr2 hx2 hb2) | (go_at_call 18; refine (same_refl (HX.out.below (by repeat (first | (with_reducible exact Below.refl _ _) | (with_reducible refine bl_dr ?_) | (with_reducible refine bl_drN ?_ _) | (with_reducible refine bl_al ?_ _) | (with_reducible refine bl_more ?_ _ _)))) (HX2.out.below (by repeat (first | (with_reducible exact Below.refl _ _) | (with_reducible refine bl_dr ?_) | (with_reducible refine bl_drN ?_ _) | (with_reducible refine bl_al ?_ _) | (with_reducible refine bl_more ?_ _ _))))).mono ?_; rintro e w3 ⟨rfl, hb3⟩; obtain ⟨ex3, dx3, rfl⟩ := more_of hb3; clear hb3))
  all_goals (refine bodyPost_ret (v := .tuple #[.slice A2 l.length c2, .bool true]) (by simp [results, Try.results15]) rfl ⟨_, _, rfl, HD.out.below (by repeat (first | (with_reducible exact Below.refl _ _) | (with_reducible refine bl_dr ?_) | (with_reducible refine bl_drN ?_ _) | (with_reducible refine bl_al ?_ _) | (with_reducible refine bl_more ?_ _ _))), HR2.out.below (by repeat (first | (with_reducible exact Below.refl _ _) | (with_reducible refine bl_dr ?_) | (with_reducible refine bl_drN ?_ _) | (with_reducible refine bl_al ?_ _) | (with_reducible refine bl_more ?_ _ _)))⟩)
set_option maxHeartbeats 2000000 in
set_option maxRecDepth 8000 in
theorem step_steal {w0 w : World} {d g : Nat} {rv v : Value} {l : List Job} {x : Job} {a : Acts} (h : Two w0 w d g rv (x :: l)) (hk : a.kind = 2) :
    Calls Try.prog 15 #[.pointer (some ⟨d, 0, none⟩), rv, actV a v] w (Stepped w0 d l) := by
  obtain ⟨A, c, rfl, _, _⟩ := h.row.form
  have HD := hid h.st
  have hr := h.row
  rw [show (x :: l).length = l.length + 1 from by simp] at hr
  have HR := hid hr
  rw [show (x :: l).length = l.length + 1 from by simp]
  clear h hr
  have k1 : (a.kind == 1) = false := by rw [hk]; rfl
  have k2 : (a.kind == 2) = true := by rw [hk]; rfl
  clear hk
  go_enter Try.func15, Try.ntmps15
  go_wp2_with (first | (go_at_call 11; refine (st_steal (HD.out.below (by repeat (first | (with_reducible exact Below.refl _ _) | (with_reducible refine bl_dr ?_) | (with_reducible refine bl_drN ?_ _) | (with_reducible refine bl_al ?_ _) | (with_reducible refine bl_more ?_ _ _))))).mono ?_; rintro e w1 ⟨g1, v1, rfl, hx1, hq, hu⟩; obtain ⟨B1, c1, rfl, _, _⟩ := hx1.form; have HR1 := hid (hu.row (HR.out.below (by repeat (first | (with_reducible exact Below.refl _ _) | (with_reducible refine bl_dr ?_) | (with_reducible refine bl_drN ?_ _) | (with_reducible refine bl_al ?_ _) | (with_reducible refine bl_more ?_ _ _))))); have HX := hid hx1; clear HD; have HD := hid hq; clear hx1 hq hu) | (go_at_call 28; refine (ref_steal (HR1.out.below (by repeat (first | (with_reducible exact Below.refl _ _) | (with_reducible refine bl_dr ?_) | (with_reducible refine bl_drN ?_ _) | (with_reducible refine bl_al ?_ _) | (with_reducible refine bl_more ?_ _ _))))).mono ?_; rintro e w2 ⟨rv1, v2, rfl, hr2, hx2, hb2⟩; obtain ⟨A2, c2, rfl, _, _⟩ := hr2.form; obtain ⟨B2, d2, rfl, _, _⟩ := hx2.form; obtain ⟨ex2, dx2, rfl⟩ := more_of hb2; have HR2 := hid hr2; have HX2 := hid hx2; clear hr2 hx2 hb2) | (go_at_call 18; refine (same_refl (HX.out.below (by repeat (first | (with_reducible exact Below.refl _ _) | (with_reducible refine bl_dr ?_) | (with_reducible refine bl_drN ?_ _) | (with_reducible refine bl_al ?_ _) | (with_reducible refine bl_more ?_ _ _)))) (HX2.out.below (by repeat (first | (with_reducible exact Below.refl _ _) | (with_reducible refine bl_dr ?_) | (with_reducible refine bl_drN ?_ _) | (with_reducible refine bl_al ?_ _) | (with_reducible refine bl_more ?_ _ _))))).mono ?_; rintro e w3 ⟨rfl, hb3⟩; obtain ⟨ex3, dx3, rfl⟩ := more_of hb3; clear hb3))
  all_goals (refine bodyPost_ret (v := .tuple #[.slice A2 l.length c2, .bool true]) (by simp [results, Try.results15]) rfl ⟨_, _, rfl, HD.out.below (by repeat (first | (with_reducible exact Below.refl _ _) | (with_reducible refine bl_dr ?_) | (with_reducible refine bl_drN ?_ _) | (with_reducible refine bl_al ?_ _) | (with_reducible refine bl_more ?_ _ _))), HR2.out.below (by repeat (first | (with_reducible exact Below.refl _ _) | (with_reducible refine bl_dr ?_) | (with_reducible refine bl_drN ?_ _) | (with_reducible refine bl_al ?_ _) | (with_reducible refine bl_more ?_ _ _)))⟩)
set_option maxHeartbeats 2000000 in
set_option maxRecDepth 8000 in
theorem step_pop0 {w0 w : World} {d g : Nat} {rv v : Value} {a : Acts} (h : Two w0 w d g rv []) (hk : a.kind = 1) :
    Calls Try.prog 15 #[.pointer (some ⟨d, 0, none⟩), rv, actV a v] w (Stepped w0 d []) := by
  obtain ⟨A, c, rfl, _, _⟩ := h.row.form
  have HD := hid h.st
  have HR := hid h.row
  clear h
  have k1 : (a.kind == 1) = true := by rw [hk]; rfl
  have k2 : (a.kind == 2) = false := by rw [hk]; rfl
  clear hk
  go_enter Try.func15, Try.ntmps15
  go_wp2_with (first | (go_at_call 12; refine (pop_none (HD.out.below (by repeat (first | (with_reducible exact Below.refl _ _) | (with_reducible refine bl_dr ?_) | (with_reducible refine bl_drN ?_ _) | (with_reducible refine bl_al ?_ _) | (with_reducible refine bl_more ?_ _ _)))).dq).mono ?_; rintro e w1 ⟨rfl, hb1⟩; obtain ⟨ex1, dx1, rfl⟩ := more_of hb1; clear hb1) | (go_at_call 27; refine (ref_pop_none (HR.out.below (by repeat (first | (with_reducible exact Below.refl _ _) | (with_reducible refine bl_dr ?_) | (with_reducible refine bl_drN ?_ _) | (with_reducible refine bl_al ?_ _) | (with_reducible refine bl_more ?_ _ _))))).mono ?_; rintro e w2 ⟨rv1, rfl, hr2, hb2⟩; obtain ⟨A2, c2, rfl, _, _⟩ := hr2.form; obtain ⟨ex2, dx2, rfl⟩ := more_of hb2; have HR2 := hid hr2; clear hr2 hb2) | (go_at_call 18; refine (same_refl (j := job0) (Enc.Row.nil _ (fun _ => True) _) (Enc.Row.nil _ (fun _ => True) _)).mono ?_; rintro e w3 ⟨rfl, hb3⟩; obtain ⟨ex3, dx3, rfl⟩ := more_of hb3; clear hb3))
  all_goals (refine bodyPost_ret (v := .tuple #[.slice A2 0 c2, .bool true]) (by simp [results, Try.results15]) rfl ⟨_, _, rfl, HD.out.below (by repeat (first | (with_reducible exact Below.refl _ _) | (with_reducible refine bl_dr ?_) | (with_reducible refine bl_drN ?_ _) | (with_reducible refine bl_al ?_ _) | (with_reducible refine bl_more ?_ _ _))), HR2.out.below (by repeat (first | (with_reducible exact Below.refl _ _) | (with_reducible refine bl_dr ?_) | (with_reducible refine bl_drN ?_ _) | (with_reducible refine bl_al ?_ _) | (with_reducible refine bl_more ?_ _ _)))⟩)
set_option maxHeartbeats 2000000 in
set_option maxRecDepth 8000 in
theorem step_steal0 {w0 w : World} {d g : Nat} {rv v : Value} {a : Acts} (h : Two w0 w d g rv []) (hk : a.kind = 2) :
    Calls Try.prog 15 #[.pointer (some ⟨d, 0, none⟩), rv, actV a v] w (Stepped w0 d []) := by
  obtain ⟨A, c, rfl, _, _⟩ := h.row.form
  have HD := hid h.st
  have HR := hid h.row
  clear h
  have k1 : (a.kind == 1) = false := by rw [hk]; rfl
  have k2 : (a.kind == 2) = true := by rw [hk]; rfl
  clear hk
  go_enter Try.func15, Try.ntmps15
  go_wp2_with (first | (go_at_call 11; refine (steal_none (HD.out.below (by repeat (first | (with_reducible exact Below.refl _ _) | (with_reducible refine bl_dr ?_) | (with_reducible refine bl_drN ?_ _) | (with_reducible refine bl_al ?_ _) | (with_reducible refine bl_more ?_ _ _)))).dq).mono ?_; rintro e w1 ⟨rfl, hb1⟩; obtain ⟨ex1, dx1, rfl⟩ := more_of hb1; clear hb1) | (go_at_call 28; refine (ref_steal_none (HR.out.below (by repeat (first | (with_reducible exact Below.refl _ _) | (with_reducible refine bl_dr ?_) | (with_reducible refine bl_drN ?_ _) | (with_reducible refine bl_al ?_ _) | (with_reducible refine bl_more ?_ _ _))))).mono ?_; rintro e w2 ⟨rv1, rfl, hr2, hb2⟩; obtain ⟨A2, c2, rfl, _, _⟩ := hr2.form; obtain ⟨ex2, dx2, rfl⟩ := more_of hb2; have HR2 := hid hr2; clear hr2 hb2) | (go_at_call 18; refine (same_refl (j := job0) (Enc.Row.nil _ (fun _ => True) _) (Enc.Row.nil _ (fun _ => True) _)).mono ?_; rintro e w3 ⟨rfl, hb3⟩; obtain ⟨ex3, dx3, rfl⟩ := more_of hb3; clear hb3))
  all_goals (refine bodyPost_ret (v := .tuple #[.slice A2 0 c2, .bool true]) (by simp [results, Try.results15]) rfl ⟨_, _, rfl, HD.out.below (by repeat (first | (with_reducible exact Below.refl _ _) | (with_reducible refine bl_dr ?_) | (with_reducible refine bl_drN ?_ _) | (with_reducible refine bl_al ?_ _) | (with_reducible refine bl_more ?_ _ _))), HR2.out.below (by repeat (first | (with_reducible exact Below.refl _ _) | (with_reducible refine bl_dr ?_) | (with_reducible refine bl_drN ?_ _) | (with_reducible refine bl_al ?_ _) | (with_reducible refine bl_more ?_ _ _)))⟩)
end Go.Proofs.Ytfadoejoanffoaa
