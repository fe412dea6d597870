/- A pool: Take. -/
import Derived.Test.YtlfdnjomjheioaaPaO
namespace Go.Proofs.Ytlfdnjomjheioaa
open Go.RowKit

theorem find_any {N : Nat} {w : World} {F : Nat → Prop} {p : Nat} {s : List Wk} {ad : Nat → Ad} (h : Pl N w F p s ad) (i : Nat) (hi : i < s.length) (pick : Int) :
    Calls Try.prog 28 #[.pointer (some ⟨p, 0, none⟩), .int .i64 i, .int .i64 pick] w (Found N w p F ad (found s i pick) s) := by
  have hs : s[i]? = some s[i] := List.getElem?_eq_getElem hi
  rcases List.eq_nil_or_concat s[i].l with h0 | ⟨l', x, h0⟩
  · have e : found s i pick = ((circ s pick).findSome? (stolen s)).or ((circ s pick).findSome? (heldOf s)) := by
      unfold found popped; rw [hs]; simp [h0]
    rw [e]
    exact find_go h i hi pick h0
  · have h1 : s[i].l = l' ++ [x] := by simpa using h0
    have e : found s i pick = some (s.set i ⟨l', s[i].h⟩, x, i) := by
      unfold found popped; rw [hs]; simp [h1]
    rw [e]
    exact find_pop h i hi pick h1
theorem Pl.blt {N : Nat} {w : World} {F : Nat → Prop} {p : Nat} {s : List Wk} {ad : Nat → Ad} (h : Pl N w F p s ad) : ∀ b, Blk s p ad b → b < w.heap.size := by
  rintro b (rfl | ⟨i, hi, hb⟩)
  · exact h.lt
  · exact (h.at_ i hi).lt hb
def Taken (N : Nat) (w : World) (p : Nat) (F0 : Nat → Prop) (ad0 : Nat → Ad) (s s' : List Wk) (j : Job) (v c : Int) (e : Ending) (w' : World) : Prop :=
  ∃ F ad vv, e = .returned (.tuple #[jobV j vv, .int .i64 v, .int .i64 c]) ∧ Pl N w' F p s' ad ∧ intE.Row (fun b => w.heap.size ≤ b ∧ ¬ Blk s' p ad b) w' vv j.stamp ∧ Stp s s' p F0 F ad0 ad w w'
theorem rebase1 {w w1 : World} {o : Obj} {e : Array Obj} {d : Nat} (h : Ext (fun b => b < w.heap.size) (more (w.alloc o) e d) w1) : ∃ (w2 : World) (e2 : Array Obj) (d2 : Nat), w2.heap.size = w.heap.size ∧ w1 = more (w2.alloc o) e2 d2 := by
  have hsz := h.size
  simp only [more_size, World.size_alloc] at hsz
  let w2 : World := { w with heap := w1.heap.extract 0 w.heap.size }
  have h2 : w2.heap.size = w.heap.size := by simp [w2]; omega
  have hb : Below (w2.alloc o).heap.size (w2.alloc o) w1 := by
    refine ⟨h.os, h.tape, h.output, by simp [h2]; omega, fun k hk => ?_⟩
    simp only [World.size_alloc, h2] at hk
    by_cases hkw : k < w.heap.size
    · rw [Below.heap_alloc _ _ _ (by omega)]
      show w1.heap[k]? = (w1.heap.extract 0 w.heap.size)[k]?
      rw [Array.getElem?_extract]
      simp; omega
    · have e : k = w.heap.size := by omega
      subst e
      rw [h.block _ (by simp [more_size]; omega) (by omega), more_heap (by simp), alloc_blk (X := w) rfl]
      exact (alloc_blk (X := w2) h2.symm).symm
  obtain ⟨e2, d2, hw⟩ := more_of hb
  exact ⟨w2, e2, d2, h2, hw⟩
set_option maxHeartbeats 1000000 in
theorem take_none {N : Nat} {w : World} {F : Nat → Prop} {p : Nat} {s : List Wk} {ad : Nat → Ad} (h : Pl N w F p s ad) (i : Int) (hi : i < 0 ∨ (s.length : Int) ≤ i) (pick : Int) :
    Calls Try.prog 11 #[.pointer (some ⟨p, 0, none⟩), .int .i64 i, .int .i64 pick] w (Taken N w p F ad s s job0 0 2) := by
  have HP := hid h
  have HI := hid hi
  clear h hi
  go_enter Try.func11, Try.ntmps11
  go_wp2_with (first | (go_at_call 26; refine (worker_none (HP.out.below (by repeat (first | (with_reducible exact Below.refl _ _) | (with_reducible exact bl_mm) | (with_reducible refine bl_dr ?_) | (with_reducible refine bl_drN ?_ _) | (with_reducible refine bl_al ?_ _) | (with_reducible refine bl_more ?_ _ _)))) i HI.out).mono ?_; rintro e w1 ⟨rfl, hb1⟩; obtain ⟨ex, dx, rfl⟩ := more_of hb1; clear hb1))
  refine bodyPost_ret (v := .tuple #[jobV job0 (.slice none 0 0), .int .i64 0, .int .i64 2]) (by simp [results, Try.results11, job0, go_sem]) rfl ?_
  exact ⟨F, ad, _, rfl, HP.out.below (by repeat (first | (with_reducible exact Below.refl _ _) | (with_reducible exact bl_mm) | (with_reducible refine bl_dr ?_) | (with_reducible refine bl_drN ?_ _) | (with_reducible refine bl_al ?_ _) | (with_reducible refine bl_more ?_ _ _))), Enc.Row.nil _ _ _, Stp.of_below (by repeat (first | (with_reducible exact Below.refl _ _) | (with_reducible exact bl_mm) | (with_reducible refine bl_dr ?_) | (with_reducible refine bl_drN ?_ _) | (with_reducible refine bl_al ?_ _) | (with_reducible refine bl_more ?_ _ _)))⟩
set_option maxHeartbeats 1000000 in
theorem take_held {N : Nat} {w : World} {F : Nat → Prop} {p : Nat} {s : List Wk} {ad : Nat → Ad} (h : Pl N w F p s ad) (i : Nat) (hi : i < s.length) (pick : Int) (jn : Job) (hj : s[i].h = some jn) :
    Calls Try.prog 11 #[.pointer (some ⟨p, 0, none⟩), .int .i64 i, .int .i64 pick] w (Taken N w p F ad s s jn i 0) := by
  have hl := h.lt
  have hw := h.at_ i hi
  have q1 := hw.hp
  have k1 := hw.hl
  rw [hj] at q1
  simp only [Option.map_some] at q1
  obtain ⟨_, u, hjb, hjr⟩ := hw.hj jn hj
  obtain ⟨A, c, rfl, _, _⟩ := hjr.form
  have g0 := cell_blk hjb 0
  have g1 := cell_blk hjb 1
  have g2 := cell_blk hjb 2
  have g3 := cell_blk hjb 3
  have g4 := cell_blk hjb 4
  have g5 := cell_blk hjb 5
  simp only [jobCells, List.getElem?_toArray, List.getElem?_cons_zero, List.getElem?_cons_succ] at g0 g1 g2 g3 g4 g5
  have HP := hid h
  have HI := hid (And.intro hi trivial)
  have HR := hid hjr
  have HLEN := hid (show jn.stamp.length ≤ 4294967296 by have := (hw.hs jn hj).2.2; unfold okJob at this; omega)
  clear h hj hw hjb hjr
  go_enter Try.func11, Try.ntmps11
  go_wp2_with (first | (go_at_call 26; refine (worker_any (HP.out.below (by repeat (first | (with_reducible exact Below.refl _ _) | (with_reducible exact bl_mm) | (with_reducible refine bl_dr ?_) | (with_reducible refine bl_drN ?_ _) | (with_reducible refine bl_al ?_ _) | (with_reducible refine bl_more ?_ _ _)))) i HI.out.1).mono ?_; rintro e w1 ⟨rfl, hb1⟩; obtain ⟨ex, dx, rfl⟩ := more_of hb1; clear hb1) | (go_at_call 27; refine (pown_any (j := jn) (HR.out.below (by repeat (first | (with_reducible exact Below.refl _ _) | (with_reducible exact bl_mm) | (with_reducible refine bl_dr ?_) | (with_reducible refine bl_drN ?_ _) | (with_reducible refine bl_al ?_ _) | (with_reducible refine bl_more ?_ _ _)))) HLEN.out).mono ?_; rintro e w1 ⟨v', rfl, hr, hb1⟩; obtain ⟨A', c', rfl, _, _⟩ := hr.form; obtain ⟨ex2, dx2, rfl⟩ := more_of hb1; have HRN := hid hr; clear hb1 hr))
  refine bodyPost_ret (v := .tuple #[jobV jn (.slice A' jn.stamp.length c'), .int .i64 i, .int .i64 0]) (by simp [results, Try.results11, go_sem]) rfl ?_
  exact ⟨F, ad, _, rfl, HP.out.below (by repeat (first | (with_reducible exact Below.refl _ _) | (with_reducible exact bl_mm) | (with_reducible refine bl_dr ?_) | (with_reducible refine bl_drN ?_ _) | (with_reducible refine bl_al ?_ _) | (with_reducible refine bl_more ?_ _ _))), (HRN.out.swap (by simp [more_size]) (fun b hb => hb)).mono (fun b hb _ => by simp [more_size] at hb; exact ⟨by omega, fun e => by have := HP.out.blt b e; omega⟩), Stp.of_below (by repeat (first | (with_reducible exact Below.refl _ _) | (with_reducible exact bl_mm) | (with_reducible refine bl_dr ?_) | (with_reducible refine bl_drN ?_ _) | (with_reducible refine bl_al ?_ _) | (with_reducible refine bl_more ?_ _ _)))⟩
set_option maxHeartbeats 1000000 in
theorem take_empty {N : Nat} {w : World} {F : Nat → Prop} {p : Nat} {s : List Wk} {ad : Nat → Ad} (h : Pl N w F p s ad) (i : Nat) (hi : i < s.length) (pick : Int) (hj : s[i].h = none) (hf : found s i pick = none) :
    Calls Try.prog 11 #[.pointer (some ⟨p, 0, none⟩), .int .i64 i, .int .i64 pick] w (Taken N w p F ad s s job0 0 6) := by
  have hl := h.lt
  have hw := h.at_ i hi
  have q1 := hw.hp
  rw [hj] at q1
  simp only [Option.map_none] at q1
  have HP := hid h
  have HI := hid (And.intro hi trivial)
  have HF := hid hf
  have HLT := hid (show ∀ b, Blk s p ad b → b < w.heap.size by
    rintro b (rfl | ⟨j, hj, hb⟩)
    · exact hl
    · exact (h.at_ j hj).lt hb)
  clear h hj hw hf
  go_enter Try.func11, Try.ntmps11
  go_wp2_with (first | (go_at_call 26; refine (worker_any (HP.out.below (by repeat (first | (with_reducible exact Below.refl _ _) | (with_reducible exact bl_mm) | (with_reducible refine bl_dr ?_) | (with_reducible refine bl_drN ?_ _) | (with_reducible refine bl_al ?_ _) | (with_reducible refine bl_more ?_ _ _)))) i HI.out.1).mono ?_; rintro e w1 ⟨rfl, hb1⟩; obtain ⟨ex, dx, rfl⟩ := more_of hb1; clear hb1) | (go_at_call 28; refine (find_any (HP.out.below (by repeat (first | (with_reducible exact Below.refl _ _) | (with_reducible exact bl_mm) | (with_reducible refine bl_dr ?_) | (with_reducible refine bl_drN ?_ _) | (with_reducible refine bl_al ?_ _) | (with_reducible refine bl_more ?_ _ _)))) i HI.out.1 pick).mono ?_; rw [HF.out]; rintro e w1 ⟨rfl, hp1, he1⟩; obtain ⟨w2, ex3, dx3, hz, rfl⟩ := rebase1 (he1.mono (fun b _ hb => HLT.out b hb)); have HP1 := hid hp1; have HB1 := hid he1; have HZ := hid hz; rw [← hz]; clear hp1 he1 hz))
  refine bodyPost_ret (v := .tuple #[jobV job0 (.slice none 0 0), .int .i64 0, .int .i64 6]) (by simp [results, Try.results11, job0, go_sem]) rfl ?_
  refine ⟨F, ad, _, rfl, HP1.out.below (bl_al (Below.refl _ _) _), Enc.Row.nil _ _ _, (Stp.of_below ?_).trans ((show Stp s s p F F ad ad _ _ from ⟨HB1.out, fun _ _ h => h, fun _ _ h => h⟩).then_ (bl_al (Below.refl _ _) _))⟩
  exact (by repeat (first | (with_reducible exact Below.refl _ _) | (with_reducible exact bl_mm) | (with_reducible refine bl_dr ?_) | (with_reducible refine bl_drN ?_ _) | (with_reducible refine bl_al ?_ _) | (with_reducible refine bl_more ?_ _ _)))
theorem rowSt {F : Nat → Prop} {w W0 Wx : World} {v u : Value} {xs : List Int} {p o : Nat} (h : intE.Row F w v xs) (hb : Below w.heap.size w W0) (hp : ¬ F p) (he : W0.setCell ⟨p, o, none⟩ u = Wx) : intE.Row F Wx v xs := by
  subst he
  exact (h.below hb).ext (Ext.setCell (S := fun b => b = p) _ _ _ rfl) (fun b hb _ e => hp (by have e : b = p := e; rw [← e]; exact hb))
theorem okJob.len {j : Job} (h : okJob j) : j.stamp.length ≤ 4294967296 := by unfold okJob at h; omega
theorem cell_low {N : Nat} {w2 : World} {o : Obj} {e : Array Obj} {d : Nat} {F : Nat → Prop} {p : Nat} {s : List Wk} {ad : Nat → Ad} (h : Pl N (more (w2.alloc o) e d) F p s ad) (hl : p < w2.heap.size) (i : Nat) (hi : i < s.length) :
    ∃ v, w2.cell? ⟨p, 1 + i * 2 + 1, none⟩ = some v ∧ w2.frozen? ⟨p, 1 + i * 2 + 1, none⟩ = false := by
  have h1 := (h.at_ i hi).hp
  obtain ⟨cur, hc, _⟩ := h.blk
  have h2 := frz_blk hc (1 + i * 2 + 1)
  rw [more_cell (by simp; omega)] at h1
  rw [more_frozen (by simp; omega)] at h2
  exact ⟨_, by rw [← h1]; simp [go_sem, hl], by rw [← h2]; simp [go_sem, hl]⟩
theorem Told.box {N lo hi p : Nat} {F0 A0 : Nat → Prop} {s' : List Wk} {j : Job} {vv : Value} {F' : Nat → Prop} {ad' : Nat → Ad} {w2 : World} {o o' : Obj} {e : Array Obj} {d d' : Nat} (h : Told N lo hi p F0 A0 s' j vv F' ad' (more (w2.alloc o) e d)) (hlo : w2.heap.size < lo) (hp : w2.heap.size ≠ p) (hF : ¬ F0 w2.heap.size) (hA : ¬ A0 w2.heap.size) :
    Pl N (more (w2.alloc o') e d') F' p s' ad' ∧ intE.Row F' (more (w2.alloc o') e d') vv j.stamp ∧ Ext (fun b => b = w2.heap.size) (more (w2.alloc o) e d) (more (w2.alloc o') e d') := by
  have he : Ext (fun b => b = w2.heap.size) (more (w2.alloc o) e d) (more (w2.alloc o') e d') := by
    refine ⟨rfl, rfl, rfl, by simp [more_size], fun k hk hn => ?_⟩
    by_cases hl : k < (w2.alloc o).heap.size
    · have : k < w2.heap.size := by simp at hl; omega
      rw [more_heap hl, more_heap (by simpa using hl), Below.heap_alloc _ _ _ this, Below.heap_alloc _ _ _ this]
    · exact more_swap (by simp) (by omega)
  have nF : ∀ b, F' b → ¬ b = w2.heap.size := fun b hb e => by subst e; exact hF (h.inF _ hlo hb)
  exact ⟨h.pl.apart he (fun e => hp e.symm) (fun i hi b hb e => by subst e; exact hA (h.inA _ i hlo hi hb)) nF, h.row.ext he (fun b hb _ e => nF b hb e), he⟩
set_option maxHeartbeats 1000000 in
theorem take_find {N : Nat} {w : World} {F : Nat → Prop} {p : Nat} {s s1 : List Wk} {ad : Nat → Ad} (h : Pl N w F p s ad) (i : Nat) (hi : i < s.length) (pick : Int) (hj : s[i].h = none) {jn : Job} {v : Nat} (hf : found s i pick = some (s1, jn, v)) (hs1 : s1.length = s.length) :
    Calls Try.prog 11 #[.pointer (some ⟨p, 0, none⟩), .int .i64 i, .int .i64 pick] w (Taken N w p F ad s (s1.set i ⟨(s1[i]'(by omega)).l, some jn⟩) jn v 0) := by
  have hl := h.lt
  have hw := h.at_ i hi
  have q1 := hw.hp
  rw [hj] at q1
  simp only [Option.map_none] at q1
  have HP := hid h
  have HI := hid (And.intro hi trivial)
  have HF := hid hf
  have HSL := hid hs1
  have HLT := hid (show ∀ b, Blk s p ad b → b < w.heap.size by
    rintro b (rfl | ⟨j, hj, hb⟩)
    · exact hl
    · exact (h.at_ j hj).lt hb)
  clear h hj hw hf
  go_enter Try.func11, Try.ntmps11
  go_wp2_with (first | (go_at_call 26; refine (worker_any (HP.out.below (by repeat (first | (with_reducible exact Below.refl _ _) | (with_reducible exact bl_mm) | (with_reducible refine bl_dr ?_) | (with_reducible refine bl_drN ?_ _) | (with_reducible refine bl_al ?_ _) | (with_reducible refine bl_more ?_ _ _)))) i HI.out.1).mono ?_; rintro e w1 ⟨rfl, hb1⟩; obtain ⟨ex, dx, rfl⟩ := more_of hb1; clear hb1) | (go_at_call 28; refine (find_any (HP.out.sharp.below (by repeat (first | (with_reducible exact Below.refl _ _) | (with_reducible exact bl_mm) | (with_reducible refine bl_dr ?_) | (with_reducible refine bl_drN ?_ _) | (with_reducible refine bl_al ?_ _) | (with_reducible refine bl_more ?_ _ _)))) i HI.out.1 pick).mono ?_; rw [HF.out]; rintro e w1 ⟨F1, ad1, vv, hi1, rfl, ht1, he1⟩; have hp1 := ht1.pl; have hr1 := ht1.row; have hok1 := ht1.ok; obtain ⟨w2, ex3, dx3, hz, rfl⟩ := rebase1 (he1.mono (fun b _ hb => HLT.out b hb)); obtain ⟨A1, c1, rfl, _, _⟩ := hr1.form; have HP1 := hid hp1; have HB1 := hid he1; have HR1 := hid hr1; have HT1 := hid ht1; have HOK := hid hok1; have hl2 : p < w2.heap.size := (by rw [hz]; exact hl); obtain ⟨u0, q2, q3⟩ := cell_low hp1 hl2 i (by rw [HSL.out]; exact HI.out.1); have HZ := hid hz; rw [← hz]; clear hp1 he1 hz hr1 hok1 ht1) | (go_at_call 27; refine (pown_any (j := jn) (K := F1) (rowSt (o := 1 + i * 2 + 1) (u := .pointer (some ⟨w2.heap.size + 1 + ex3.size, 0, none⟩)) HR1.out (bl_al (Below.refl _ _) (.cells #[.int .i64 jn.item, .bool jn.undo, .int .i64 jn.try_, .bool jn.begun, .int .i64 jn.token, .slice A1 jn.stamp.length c1] 33)) HP1.out.pF (by go_simp)) HOK.out.len).mono ?_; rintro e w1 ⟨v', rfl, hr, hb1⟩; obtain ⟨A', c', rfl, _, _⟩ := hr.form; obtain ⟨ex2, dx2, rfl⟩ := more_of hb1; have HRN := hid hr; clear hb1 hr))
  refine bodyPost_ret (v := .tuple #[jobV jn (.slice A' jn.stamp.length c'), .int .i64 v, .int .i64 0]) (by simp [results, Try.results11, go_sem]) rfl ?_
  have hne : ¬ Blk s p ad w2.heap.size := fun e => by have := HLT.out _ e; have := HZ.out; omega
  obtain ⟨hp6, hr6, he6⟩ := Told.box (o' := (.cells #[.int .i64 jn.item, .bool jn.undo, .int .i64 jn.try_, .bool jn.begun, .int .i64 jn.token, .slice A' jn.stamp.length c'] 33)) (d' := dx3) HT1.out (by have := HZ.out; simp [more_size]; omega) (fun e => hne (.inl e)) (fun e => by have := HZ.out; omega) hne
  have hrb := hr6.bound
  obtain ⟨F2, ad2, hp2, hb2⟩ := Pl.keep (W0 := (more (w2.alloc (.cells #[.int .i64 jn.item, .bool jn.undo, .int .i64 jn.try_, .bool jn.begun, .int .i64 jn.token, .slice A' jn.stamp.length c'] 33)) ex3 dx3).alloc (.cells #[.int .i64 jn.item, .bool jn.undo, .int .i64 jn.try_, .bool jn.begun, .int .i64 jn.token, .slice A1 jn.stamp.length c1] 33)) (hb := w2.heap.size + 1 + ex3.size) hp6 i (by rw [HSL.out]; exact HI.out.1) (bl_al (Below.refl _ _) _) (by simp [more_size]) (jn := jn)
    ⟨by simp [more_size], .slice A1 jn.stamp.length c1, alloc_blk (by simp [more_size]), (hrb.alloc _).mono (fun b hb _ => ⟨.inl hb, by have := hb.2; simp [more_size] at this; omega⟩)⟩ HOK.out
    (show _ = (more ((w2.setCell ⟨p, 1 + i * 2 + 1, none⟩ (.pointer (some ⟨w2.heap.size + 1 + ex3.size, 0, none⟩))).alloc (.cells #[.int .i64 jn.item, .bool jn.undo, .int .i64 jn.try_, .bool jn.begun, .int .i64 jn.token, .slice A' jn.stamp.length c'] 33)) ex3 dx3).alloc (.cells #[.int .i64 jn.item, .bool jn.undo, .int .i64 jn.try_, .bool jn.begun, .int .i64 jn.token, .slice A1 jn.stamp.length c1] 33) by go_simp)
  refine ⟨F2, ad2, _, rfl, hp2.below (by repeat (first | (with_reducible exact Below.refl _ _) | (with_reducible exact bl_mm) | (with_reducible refine bl_dr ?_) | (with_reducible refine bl_drN ?_ _) | (with_reducible refine bl_al ?_ _) | (with_reducible refine bl_more ?_ _ _))), (HRN.out.swap (by simp [more_size]) (fun b hb => hb)).mono (fun b hb _ => by have := HZ.out; simp [more_size] at hb; exact ⟨by omega, fun e => by have := hp2.blt b e; simp [more_size] at this; omega⟩), Stp.then_ (w1 := (more ((w2.setCell ⟨p, 1 + i * 2 + 1, none⟩ (.pointer (some ⟨w2.heap.size + 1 + ex3.size, 0, none⟩))).alloc (.cells #[.int .i64 jn.item, .bool jn.undo, .int .i64 jn.try_, .bool jn.begun, .int .i64 jn.token, .slice A' jn.stamp.length c'] 33)) ex3 dx3).alloc (.cells #[.int .i64 jn.item, .bool jn.undo, .int .i64 jn.try_, .bool jn.begun, .int .i64 jn.token, .slice A1 jn.stamp.length c1] 33)) ?_ (by repeat (first | (with_reducible exact Below.refl _ _) | (with_reducible exact bl_mm) | (with_reducible refine bl_dr ?_) | (with_reducible refine bl_drN ?_ _) | (with_reducible refine bl_al ?_ _) | (with_reducible refine bl_more ?_ _ _)))⟩
  have hz := HZ.out
  have k1 : Ext (Blk s p ad) w (more (w.alloc (.cells #[.int .i64 0, .bool false, .int .i64 0, .bool false, .int .i64 0, .slice none 0 0] 33)) ex dx) := Ext.of_below (by repeat (first | (with_reducible exact Below.refl _ _) | (with_reducible exact bl_mm) | (with_reducible refine bl_dr ?_) | (with_reducible refine bl_drN ?_ _) | (with_reducible refine bl_al ?_ _) | (with_reducible refine bl_more ?_ _ _)))
  have k2 : Ext (fun b => Blk s p ad b ∨ b = w.heap.size) w (more (w2.alloc (.cells #[.int .i64 jn.item, .bool jn.undo, .int .i64 jn.try_, .bool jn.begun, .int .i64 jn.token, .slice A' jn.stamp.length c'] 33)) ex3 dx3) := ((k1.trans HB1.out (fun x _ e => e)).mono (fun x _ e => Or.inl e)).trans he6 (fun x hx e => .inr (by omega))
  have k3 : Ext (Blk s p ad) w (more (w2.alloc (.cells #[.int .i64 jn.item, .bool jn.undo, .int .i64 jn.try_, .bool jn.begun, .int .i64 jn.token, .slice A' jn.stamp.length c'] 33)) ex3 dx3) := k2.mono (fun x hx e => e.elim id (fun e => by omega))
  have hsz := HT1.out
  exact Stp.trans (s1 := s1) (F1 := F1) (ad1 := ad1) ⟨k3, fun b hb e => (hsz.inF b (by simp [more_size]; omega) e).1, fun b hb e => by
    rcases e with e | ⟨j, hj, e⟩
    · exact .inl e
    · exact hsz.inA b j (by simp [more_size]; omega) hj e⟩ hb2
end Go.Proofs.Ytlfdnjomjheioaa
