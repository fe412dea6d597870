/- A pool: Held, Put. -/
import Derived.Test.YtlfdnjomjheioaaPaD
namespace Go.Proofs.Ytlfdnjomjheioaa
open Go.RowKit

theorem Pl.heldAt {N : Nat} {w : World} {F : Nat → Prop} {p : Nat} {s : List Wk} {ad : Nat → Ad} (h : Pl N w F p s ad) (i : Nat) (hi : i < s.length) {jb : Job} (hj : s[i].h = some jb) :
    ∃ A c, (ad i).h < w.heap.size ∧ w.heap[(ad i).h]? = some (.cells #[.int .i64 jb.item, .bool jb.undo, .int .i64 jb.try_, .bool jb.begun, .int .i64 jb.token, .slice A jb.stamp.length c] 33 (0, 0)) ∧ intE.Row F w (.slice A jb.stamp.length c) jb.stamp ∧ w.cell? ⟨p, 1 + i * 2 + 1, none⟩ = some (.pointer (some ⟨(ad i).h, 0, none⟩)) ∧ okJob jb := by
  have hw := h.at_ i hi
  obtain ⟨h0, v, h1, h2⟩ := hw.hj jb hj
  obtain ⟨A, c, rfl, _, _⟩ := h2.form
  have h3 := hw.hp
  rw [hj] at h3
  exact ⟨A, c, h0, h1, h2, h3, (hw.hs jb hj).2.2⟩
set_option maxHeartbeats 1000000 in
theorem pheld_yes {N : Nat} {w : World} {F : Nat → Prop} {p : Nat} {s : List Wk} {ad : Nat → Ad} (h : Pl N w F p s ad) (i : Nat) (hi : i < s.length) (jb : Job) (hj : s[i].h = some jb) :
    Calls Try.prog 12 #[.pointer (some ⟨p, 0, none⟩), .int .i64 i] w fun e w' => ∃ v', e = .returned (.tuple #[jobV jb v', .int .i64 0]) ∧ intE.Row (fun b => w.heap.size ≤ b) w' v' jb.stamp ∧ Below w.heap.size w w' := by
  have hl := h.lt
  obtain ⟨A, c, h0, h1, h2, q1, hok⟩ := h.heldAt i hi hj
  have e0 := cell_blk h1 0
  have e1 := cell_blk h1 1
  have e2 := cell_blk h1 2
  have e3 := cell_blk h1 3
  have e4 := cell_blk h1 4
  have e5 := cell_blk h1 5
  simp at e0 e1 e2 e3 e4 e5
  have HP := hid h
  have HI := hid (And.intro hi trivial)
  have HJ := hid hj
  have HR := hid h2
  have HLEN := hid (show jb.stamp.length ≤ 4294967296 by unfold okJob at hok; omega)
  clear h hj h2 hok h1
  go_enter Try.func12, Try.ntmps12
  go_wp2_with (first | (go_at_call 29; refine (holding_yes (HP.out.below (by repeat (first | (with_reducible exact Below.refl _ _) | (with_reducible exact bl_mm) | (with_reducible refine bl_dr ?_) | (with_reducible refine bl_drN ?_ _) | (with_reducible refine bl_al ?_ _) | (with_reducible refine bl_more ?_ _ _)))) i HI.out.1 jb HJ.out).mono ?_; rintro e w1 ⟨rfl, hb1⟩; obtain ⟨ex, dx, rfl⟩ := more_of hb1; clear hb1) | (go_at_call 27; refine (pown_any (j := jb) (HR.out.below (by repeat (first | (with_reducible exact Below.refl _ _) | (with_reducible exact bl_mm) | (with_reducible refine bl_dr ?_) | (with_reducible refine bl_drN ?_ _) | (with_reducible refine bl_al ?_ _) | (with_reducible refine bl_more ?_ _ _)))) HLEN.out).mono ?_; rintro e w1 ⟨v', rfl, hr, hb1⟩; obtain ⟨A', c', rfl, _, _⟩ := hr.form; obtain ⟨ex2, dx2, rfl⟩ := more_of hb1; clear hb1))
  refine bodyPost_ret (v := .tuple #[jobV jb (.slice A' jb.stamp.length c'), .int .i64 0]) (by simp [results, Try.results12, go_sem]) rfl ⟨_, rfl, ?_, (by repeat (first | (with_reducible exact Below.refl _ _) | (with_reducible exact bl_mm) | (with_reducible refine bl_dr ?_) | (with_reducible refine bl_drN ?_ _) | (with_reducible refine bl_al ?_ _) | (with_reducible refine bl_more ?_ _ _)))⟩
  refine (Enc.Row.swap hr ?_ ?_).mono ?_
  · simp only [more_size, World.size_alloc]
  · intro b hb
    exact hb
  · intro b hb _
    simp only [more_size, World.size_alloc] at hb
    omega
set_option maxHeartbeats 1000000 in
theorem pheld_no {N : Nat} {w : World} {F : Nat → Prop} {p : Nat} {s : List Wk} {ad : Nat → Ad} (h : Pl N w F p s ad) (i : Nat) (hi : i < s.length) (hj : s[i].h = none) :
    Calls Try.prog 12 #[.pointer (some ⟨p, 0, none⟩), .int .i64 i] w fun e w' => e = .returned (.tuple #[jobV job0 (.slice none 0 0), .int .i64 6]) ∧ Below w.heap.size w w' := by
  have HP := hid h
  have HI := hid (And.intro hi trivial)
  have HJ := hid hj
  clear h hj
  go_enter Try.func12, Try.ntmps12
  go_wp2_with (first | (go_at_call 29; refine (holding_no (HP.out.below (by repeat (first | (with_reducible exact Below.refl _ _) | (with_reducible exact bl_mm) | (with_reducible refine bl_dr ?_) | (with_reducible refine bl_drN ?_ _) | (with_reducible refine bl_al ?_ _) | (with_reducible refine bl_more ?_ _ _)))) i HI.out.1 HJ.out).mono ?_; rintro e w1 ⟨rfl, hb1⟩; obtain ⟨ex, dx, rfl⟩ := more_of hb1; clear hb1))
  exact bodyPost_ret (v := .tuple #[jobV job0 (.slice none 0 0), .int .i64 6]) (by simp [results, Try.results12, go_sem, job0]) rfl ⟨rfl, (by repeat (first | (with_reducible exact Below.refl _ _) | (with_reducible exact bl_mm) | (with_reducible refine bl_dr ?_) | (with_reducible refine bl_drN ?_ _) | (with_reducible refine bl_al ?_ _) | (with_reducible refine bl_more ?_ _ _)))⟩
set_option maxHeartbeats 1000000 in
theorem pheld_none {N : Nat} {w : World} {F : Nat → Prop} {p : Nat} {s : List Wk} {ad : Nat → Ad} (h : Pl N w F p s ad) (i : Int) (hi : i < 0 ∨ (s.length : Int) ≤ i) :
    Calls Try.prog 12 #[.pointer (some ⟨p, 0, none⟩), .int .i64 i] w fun e w' => e = .returned (.tuple #[jobV job0 (.slice none 0 0), .int .i64 2]) ∧ Below w.heap.size w w' := by
  have HP := hid h
  have HI := hid hi
  clear h hi
  go_enter Try.func12, Try.ntmps12
  go_wp2_with (first | (go_at_call 29; refine (holding_none (HP.out.below (by repeat (first | (with_reducible exact Below.refl _ _) | (with_reducible exact bl_mm) | (with_reducible refine bl_dr ?_) | (with_reducible refine bl_drN ?_ _) | (with_reducible refine bl_al ?_ _) | (with_reducible refine bl_more ?_ _ _)))) i HI.out).mono ?_; rintro e w1 ⟨rfl, hb1⟩; obtain ⟨ex, dx, rfl⟩ := more_of hb1; clear hb1))
  exact bodyPost_ret (v := .tuple #[jobV job0 (.slice none 0 0), .int .i64 2]) (by simp [results, Try.results12, go_sem, job0]) rfl ⟨rfl, (by repeat (first | (with_reducible exact Below.refl _ _) | (with_reducible exact bl_mm) | (with_reducible refine bl_dr ?_) | (with_reducible refine bl_drN ?_ _) | (with_reducible refine bl_al ?_ _) | (with_reducible refine bl_more ?_ _ _)))⟩
end Go.Proofs.Ytlfdnjomjheioaa
