/- A pool: Put. -/
import Derived.Test.YtlfdnjomjheioaaPaE
namespace Go.Proofs.Ytlfdnjomjheioaa
open Go.RowKit

theorem Pl.sharp {N : Nat} {w : World} {F : Nat → Prop} {p : Nat} {s : List Wk} {ad : Nat → Ad} (h : Pl N w F p s ad) : Pl N w (fun b => F b ∧ b < w.heap.size) p s ad :=
  ⟨h.blk, h.n, h.n1, h.n2, fun i hi => (h.at_ i hi).mono (fun b hb hl => ⟨hb, hl⟩), h.sep, h.np, fun i b hi hb hf => h.nF i b hi hb hf.1, fun hf => h.pF hf.1, h.ge, h.pN, h.bN⟩
/-- A worker holds what lies in a new block. -/
theorem Pl.keep {N : Nat} {w W0 Wf : World} {F : Nat → Prop} {p hb : Nat} {s : List Wk} {ad : Nat → Ad} {jn : Job} (h : Pl N w F p s ad) (i : Nat) (hi : i < s.length) (hb0 : Below w.heap.size w W0) (hnew : w.heap.size ≤ hb)
    (hj : JobAt W0 (fun b => ((F b ∧ b < w.heap.size) ∨ w.heap.size ≤ b) ∧ b ≠ hb) hb jn) (hok : okJob jn) (he : W0.setCell ⟨p, 1 + i * 2 + 1, none⟩ (.pointer (some ⟨hb, 0, none⟩)) = Wf) :
    ∃ F' ad', Pl N Wf F' p (s.set i ⟨s[i].l, some jn⟩) ad' ∧ Stp s (s.set i ⟨s[i].l, some jn⟩) p F F' ad ad' w Wf := by
  subst he
  have h1 := h.sharp.below hb0
  have hbN := h.bN
  have hl := h.lt
  have lt := fun j hj b hb => (h.at_ j hj).lt (b := b) hb
  refine ⟨_, _, h1.hold i hi (some jn) (F' := fun b => ((F b ∧ b < w.heap.size) ∨ w.heap.size ≤ b) ∧ b ≠ hb) (fun b hb _ => ⟨.inl hb, by omega⟩) hj.1 (by omega) (fun j e => ?_) (fun j hj' _ e => ?_) (by omega) (fun e => e.2 rfl) (fun b hb => ⟨fun e => ?_, fun j hj' e => ?_⟩) rfl, ⟨(Ext.of_below hb0).trans (Ext.setCell (S := fun b => b = p) W0 _ _ rfl) (fun x _ e => .inl e), fun b hb e => e.1.elim (fun h5 => h5.1) (fun h5 => by omega), blk_put hi (fun b hbl e => ?_)⟩⟩
  · cases e
    have a1 := lt i hi (ad i).d (.inl rfl)
    have a2 := lt i hi (ad i).g (.inr (.inl rfl))
    exact ⟨hj, by omega, by omega, hok⟩
  · have := lt j hj' hb e
    omega
  · rcases hb.1 with h5 | h5
    · exact h.pF (e ▸ h5.1)
    · omega
  · have := lt j hj' b e
    rcases hb.1 with h5 | h5
    · exact h.nF j b hj' e h5.1
    · omega
  · rcases e with e | e | e
    · exact .inl e
    · exact .inr (.inl e)
    · have e : b = hb := e
      omega
set_option maxHeartbeats 1000000 in
theorem pput_yes {N : Nat} {K0 : Nat → Prop} {w : World} {F : Nat → Prop} {p : Nat} {s : List Wk} {ad : Nat → Ad} {v : Value} (h : Pl N w F p s ad) (i : Nat) (hi : i < s.length) (jb jn : Job) (hj : s[i].h = some jb) (hv : intE.Row K0 w v jn.stamp) (hok : okJob jn) :
    Calls Try.prog 20 #[.pointer (some ⟨p, 0, none⟩), .int .i64 i, jobV jn v] w (Turned N w p F ad s (s.set i ⟨s[i].l, some jn⟩) 0) := by
  have hl := h.lt
  have q1 := (h.at_ i hi).hp
  obtain ⟨cur, hb, hb2, _⟩ := h.blk
  have q2 := frz_blk hb (1 + i * 2 + 1)
  clear hb
  obtain ⟨A, c, rfl, _, _⟩ := hv.form
  have HP := hid h
  have HI := hid (And.intro hi trivial)
  have HJ := hid hj
  have HR := hid hv
  have HOK := hid hok
  have HLEN := hid (show jn.stamp.length ≤ 4294967296 by unfold okJob at hok; omega)
  clear h hj hv hok
  go_enter Try.func20, Try.ntmps20
  go_wp2_with (first | (go_at_call 29; refine (holding_yes (HP.out.below (by repeat (first | (with_reducible exact Below.refl _ _) | (with_reducible exact bl_mm) | (with_reducible refine bl_dr ?_) | (with_reducible refine bl_drN ?_ _) | (with_reducible refine bl_al ?_ _) | (with_reducible refine bl_more ?_ _ _)))) i HI.out.1 jb HJ.out).mono ?_; rintro e w1 ⟨rfl, hb1⟩; obtain ⟨ex, dx, rfl⟩ := more_of hb1; clear hb1) | (go_at_call 27; refine (pown_any (j := jn) (HR.out.below (by repeat (first | (with_reducible exact Below.refl _ _) | (with_reducible exact bl_mm) | (with_reducible refine bl_dr ?_) | (with_reducible refine bl_drN ?_ _) | (with_reducible refine bl_al ?_ _) | (with_reducible refine bl_more ?_ _ _)))) HLEN.out).mono ?_; rintro e w1 ⟨v', rfl, hr, hb1⟩; obtain ⟨A', c', rfl, _, _⟩ := hr.form; obtain ⟨ex2, dx2, rfl⟩ := more_of hb1; clear hb1))
  go_ret
  have hrb := hr.bound
  refine ⟨rfl, Pl.keep (W0 := ((more (more (w.alloc (.cells #[.int .i64 jn.item, .bool jn.undo, .int .i64 jn.try_, .bool jn.begun, .int .i64 jn.token, .slice A jn.stamp.length c] 33)) ex dx) ex2 dx2).alloc (.cells #[.int .i64 jn.item, .bool jn.undo, .int .i64 jn.try_, .bool jn.begun, .int .i64 jn.token, .slice A' jn.stamp.length c'] 33)))
    (hb := w.heap.size + 1 + ex.size + ex2.size) HP.out i HI.out.1 (by repeat (first | (with_reducible exact Below.refl _ _) | (with_reducible exact bl_mm) | (with_reducible refine bl_dr ?_) | (with_reducible refine bl_drN ?_ _) | (with_reducible refine bl_al ?_ _) | (with_reducible refine bl_more ?_ _ _))) (by omega) ⟨by simp only [more_size, World.size_alloc]; omega, .slice A' jn.stamp.length c', alloc_blk (by simp only [more_size, World.size_alloc]), (hrb.alloc _).mono (fun b hb _ => by simp only [more_size, World.size_alloc] at hb; exact ⟨.inr (by omega), by omega⟩)⟩ HOK.out (by go_simp)⟩
set_option maxHeartbeats 1000000 in
theorem pput_no {N : Nat} {K0 : Nat → Prop} {w : World} {F : Nat → Prop} {p : Nat} {s : List Wk} {ad : Nat → Ad} {v : Value} {jn : Job} (h : Pl N w F p s ad) (i : Nat) (hi : i < s.length) (hj : s[i].h = none) (hv : intE.Row K0 w v jn.stamp) :
    Calls Try.prog 20 #[.pointer (some ⟨p, 0, none⟩), .int .i64 i, jobV jn v] w (Turned N w p F ad s s 6) := by
  obtain ⟨A, c, rfl, _, _⟩ := hv.form
  have HP := hid h
  have HI := hid (And.intro hi trivial)
  have HJ := hid hj
  clear h hj hv
  go_enter Try.func20, Try.ntmps20
  go_wp2_with (first | (go_at_call 29; refine (holding_no (HP.out.below (by repeat (first | (with_reducible exact Below.refl _ _) | (with_reducible exact bl_mm) | (with_reducible refine bl_dr ?_) | (with_reducible refine bl_drN ?_ _) | (with_reducible refine bl_al ?_ _) | (with_reducible refine bl_more ?_ _ _)))) i HI.out.1 HJ.out).mono ?_; rintro e w1 ⟨rfl, hb1⟩; obtain ⟨ex, dx, rfl⟩ := more_of hb1; clear hb1))
  go_ret
  exact ⟨rfl, _, _, HP.out.below (by repeat (first | (with_reducible exact Below.refl _ _) | (with_reducible exact bl_mm) | (with_reducible refine bl_dr ?_) | (with_reducible refine bl_drN ?_ _) | (with_reducible refine bl_al ?_ _) | (with_reducible refine bl_more ?_ _ _))), Stp.of_below (by repeat (first | (with_reducible exact Below.refl _ _) | (with_reducible exact bl_mm) | (with_reducible refine bl_dr ?_) | (with_reducible refine bl_drN ?_ _) | (with_reducible refine bl_al ?_ _) | (with_reducible refine bl_more ?_ _ _)))⟩
set_option maxHeartbeats 1000000 in
theorem pput_none {N : Nat} {K0 : Nat → Prop} {w : World} {F : Nat → Prop} {p : Nat} {s : List Wk} {ad : Nat → Ad} {v : Value} {jn : Job} (h : Pl N w F p s ad) (i : Int) (hi : i < 0 ∨ (s.length : Int) ≤ i) (hv : intE.Row K0 w v jn.stamp) :
    Calls Try.prog 20 #[.pointer (some ⟨p, 0, none⟩), .int .i64 i, jobV jn v] w (Turned N w p F ad s s 2) := by
  obtain ⟨A, c, rfl, _, _⟩ := hv.form
  have HP := hid h
  have HI := hid hi
  clear h hi hv
  go_enter Try.func20, Try.ntmps20
  go_wp2_with (first | (go_at_call 29; refine (holding_none (HP.out.below (by repeat (first | (with_reducible exact Below.refl _ _) | (with_reducible exact bl_mm) | (with_reducible refine bl_dr ?_) | (with_reducible refine bl_drN ?_ _) | (with_reducible refine bl_al ?_ _) | (with_reducible refine bl_more ?_ _ _)))) i HI.out).mono ?_; rintro e w1 ⟨rfl, hb1⟩; obtain ⟨ex, dx, rfl⟩ := more_of hb1; clear hb1))
  go_ret
  exact ⟨rfl, _, _, HP.out.below (by repeat (first | (with_reducible exact Below.refl _ _) | (with_reducible exact bl_mm) | (with_reducible refine bl_dr ?_) | (with_reducible refine bl_drN ?_ _) | (with_reducible refine bl_al ?_ _) | (with_reducible refine bl_more ?_ _ _))), Stp.of_below (by repeat (first | (with_reducible exact Below.refl _ _) | (with_reducible exact bl_mm) | (with_reducible refine bl_dr ?_) | (with_reducible refine bl_drN ?_ _) | (with_reducible refine bl_al ?_ _) | (with_reducible refine bl_more ?_ _ _)))⟩
end Go.Proofs.Ytlfdnjomjheioaa
