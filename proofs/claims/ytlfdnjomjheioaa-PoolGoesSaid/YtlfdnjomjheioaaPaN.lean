/- A pool: find, where the worker has a job itself. -/
import Derived.Test.YtlfdnjomjheioaaPaM
namespace Go.Proofs.Ytlfdnjomjheioaa
open Go.RowKit


set_option maxHeartbeats 1000000 in
theorem find_pop {N : Nat} {w : World} {F : Nat → Prop} {p : Nat} {s : List Wk} {ad : Nat → Ad} (h : Pl N w F p s ad) (i : Nat) (hi : i < s.length) (pick : Int) {l' : List Job} {x : Job} (hx : s[i].l = l' ++ [x]) :
    Calls Try.prog 28 #[.pointer (some ⟨p, 0, none⟩), .int .i64 i, .int .i64 pick] w (Found N w p F ad (some (s.set i ⟨l', s[i].h⟩, x, i)) s) := by
  have hl := h.lt
  have q1 := (h.at_ i hi).dp
  have n2 := h.n2
  have k1 := (h.at_ i hi).lt (.inl rfl)
  have k2 := (h.at_ i hi).lt (.inr (.inl rfl))
  have i2 : (i : Int) < 64 := by omega
  have i3 : (0 : Int) ≤ (i : Int) := by omega
  have HP := hid h
  have HI := hid (And.intro hi trivial)
  have HL := hid hx
  clear h hx n2
  go_enter Try.func28, Try.ntmps28
  go_wp2_with (first | (go_at_call 46; refine (HP.out.popAt (show Below w.heap.size w _ from (by repeat (first | (with_reducible exact Below.refl _ _) | (with_reducible exact bl_mm) | (with_reducible refine bl_dr ?_) | (with_reducible refine bl_drN ?_ _) | (with_reducible refine bl_al ?_ _) | (with_reducible refine bl_more ?_ _ _)))) i HI.out.1 HL.out).mono ?_; rintro e w1 ⟨v', rfl, hr, ht, hb1, o1, o2, ex, dx, rfl⟩; obtain ⟨A', c', rfl, _, _⟩ := hr.form; have HT := hid (And.intro ht trivial); have HB := hid (And.intro hb1 trivial); clear ht hb1 hr))
  refine bodyPost_ret (v := .tuple #[jobV x (.slice A' x.stamp.length c'), .int .i64 i, .int .i64 0]) (by simp [results, Try.results28, go_sem, k1, k2]) rfl ?_
  obtain ⟨⟨F', ad', ht⟩, _⟩ := HT.out
  have ht2 := (ht.shut (by repeat (first | (with_reducible exact Below.refl _ _) | (with_reducible exact bl_mm) | (with_reducible refine bl_dr ?_) | (with_reducible refine bl_drN ?_ _) | (with_reducible refine bl_al ?_ _) | (with_reducible refine bl_more ?_ _ _))) (W' := ((((w.alloc (.cells #[.pointer (some ⟨p, 0, none⟩)] 27)).alloc (.cells #[.int .i64 x.item, .bool x.undo, .int .i64 x.try_, .bool x.begun, .int .i64 x.token, .slice A' x.stamp.length c'] 33)).alloc (.cells #[.int .i64 i] 3)).alloc (.cells #[.int .i64 0] 34))) (by repeat (first | (with_reducible exact Below.refl _ _) | (with_reducible exact bl_mm) | (with_reducible refine bl_dr ?_) | (with_reducible refine bl_drN ?_ _) | (with_reducible refine bl_al ?_ _) | (with_reducible refine bl_more ?_ _ _))) (n' := dx) (by simp))
  exact ⟨F', ad', _, _, rfl, ht2.below (bl_al (Below.refl _ _) _), (ext_of_put2 (W := ((((w.alloc (.cells #[.pointer (some ⟨p, 0, none⟩)] 27)).alloc (.cells #[.int .i64 x.item, .bool x.undo, .int .i64 x.try_, .bool x.begun, .int .i64 x.token, .slice A' x.stamp.length c'] 33)).alloc (.cells #[.int .i64 i] 3)).alloc (.cells #[.int .i64 0] 34))) (by repeat (first | (with_reducible exact Below.refl _ _) | (with_reducible exact bl_mm) | (with_reducible refine bl_dr ?_) | (with_reducible refine bl_drN ?_ _) | (with_reducible refine bl_al ?_ _) | (with_reducible refine bl_more ?_ _ _))) (.inr ⟨i, HI.out.1, .inl rfl⟩) (.inr ⟨i, HI.out.1, .inr (.inl rfl)⟩)).more_ (bl_al (Below.refl _ _) _)⟩
end Go.Proofs.Ytlfdnjomjheioaa
