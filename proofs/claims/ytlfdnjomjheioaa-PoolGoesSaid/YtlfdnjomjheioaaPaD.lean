/- A pool: Done, Put, Held. -/
import Derived.Test.YtlfdnjomjheioaaPaC
namespace Go.Proofs.Ytlfdnjomjheioaa
open Go.RowKit

theorem mem_setIf {cur : Array Value} {k : Nat} {v : Value} (h : ∀ u ∈ cur.toList, u.oneCell' = true) (hv : v.oneCell' = true) : ∀ u ∈ (cur.setIfInBounds k v).toList, u.oneCell' = true := by
  intro u hu
  rw [Array.toList_setIfInBounds] at hu
  rcases List.mem_or_eq_of_mem_set hu with h1 | rfl
  · exact h u h1
  · exact hv
theorem cellOff {w : World} {d o p : Nat} {v : Value} (h : o ≠ p) : (w.setCell ⟨d, o, none⟩ v).cell? ⟨d, p, none⟩ = w.cell? ⟨d, p, none⟩ := World.cell?_setCell_other (h := fun e => h (by cases e; rfl)) ..
theorem Dq.put {F : Nat → Prop} {w : World} {d g p o : Nat} {l : List Job} (v : Value) (h : Dq w F d g l) (h1 : d ≠ p) (h2 : g ≠ p) (h3 : ¬ F p) : Dq (w.setCell ⟨p, o, none⟩ v) F d g l :=
  h.apart ((Ext.setCell (S := fun b => b = p) w ⟨p, o, none⟩ v rfl).mono (fun b _ e => by have e : b = p := e; subst e; exact ⟨h3, fun e => h1 e.symm, fun e => h2 e.symm⟩))
/-- A worker holds another job, or none. -/
theorem Pl.hold {N : Nat} {w : World} {F F' : Nat → Prop} {p hb : Nat} {s : List Wk} {ad : Nat → Ad} (h : Pl N w F p s ad) (i : Nat) (hi : i < s.length) (o : Option Job)
    (hF : ∀ b, F b → b < w.heap.size → F' b) (hbl : hb < w.heap.size) (hbN : N ≤ hb) (hbd : ∀ j, o = some j → JobAt w F' hb j ∧ hb ≠ (ad i).d ∧ hb ≠ (ad i).g ∧ okJob j)
    (hsep : ∀ j, j < s.length → j ≠ i → ¬ (ad j).has hb) (hbp : hb ≠ p) (hnF : ¬ F' hb) (hS : ∀ b, F' b → b ≠ p ∧ ∀ j, j < s.length → ¬ (ad j).has b) {v : Value} (hv : v = .pointer (o.map (fun _ => ⟨hb, 0, none⟩))) :
    Pl N (w.setCell ⟨p, 1 + i * 2 + 1, none⟩ v) F' p (s.set i ⟨s[i].l, o⟩) (put ad i ⟨(ad i).d, (ad i).g, hb⟩) := by
  subst hv
  have hl := h.lt
  have n2 := h.n2
  have he : Ext (fun b => b = p) w (w.setCell ⟨p, 1 + i * 2 + 1, none⟩ (.pointer (o.map (fun _ => ⟨hb, 0, none⟩)))) := Ext.setCell w _ _ rfl
  have hpF : ¬ F' p := fun e => (hS p e).1 rfl
  have hdp : ∀ j, j < s.length → (ad j).d ≠ p ∧ (ad j).g ≠ p ∧ (ad j).h ≠ p := fun j hj => ⟨fun e => h.np j hj (.inl e.symm), fun e => h.np j hj (.inr (.inl e.symm)), fun e => h.np j hj (.inr (.inr e.symm))⟩
  obtain ⟨cur, h1, h2, h3⟩ := h.blk
  refine ⟨⟨cur.setIfInBounds (1 + i * 2 + 1) (.pointer (o.map (fun _ => ⟨hb, 0, none⟩))), by simp [World.setCell, Array.getElem?_modify, h1], by simpa using h2, mem_setIf h3 rfl⟩, ?_, by rw [List.length_set]; exact h.n1, by rw [List.length_set]; exact h.n2, fun j hj => ?_, fun j k b hj hkl hjk hb1 hb2 => ?_, fun j hj hb1 => ?_, fun j b hj hb1 hf => ?_, hpF, fun j b hj hb1 => ?_, h.pN, Nat.le_trans h.bN he.size⟩
  · rw [cellOff (by omega), List.length_set]; exact h.n
  · rw [List.length_set] at hj
    obtain ⟨p1, p2, p3⟩ := hdp j hj
    have hw := h.at_ j hj
    by_cases hji : j = i
    · subst hji
      rw [put_same, List.getElem_set_self]
      refine ⟨(hw.dq.mono hF).put _ p1 p2 hpF, (cellOff (by omega)).trans hw.dp, ?_, fun jb hj2 => (hbd jb hj2).1.ext he hbp (fun b hb e => hpF (e ▸ hb)), Nat.lt_of_lt_of_le hbl he.size, fun jb hj2 => (hbd jb hj2).2⟩
      exact World.cell?_setCell_same' _ _ _ (by rw [cell_blk h1]; simp [h2]; omega)
    · rw [put_other _ hji, List.getElem_set_ne (fun e => hji e.symm)]
      have hw' := hw.mono hF
      exact ⟨hw'.dq.put _ p1 p2 hpF, (cellOff (by omega)).trans hw'.dp, (cellOff (by omega)).trans hw'.hp, fun jb hj2 => (hw'.hj jb hj2).ext he p3 (fun b hb e => hpF (e ▸ hb)), Nat.lt_of_lt_of_le hw'.hl he.size, hw'.hs⟩
  · rw [List.length_set] at hj hkl
    by_cases hji : j = i
    · subst hji
      rw [put_same] at hb1
      rw [put_other _ (fun e => hjk e.symm)] at hb2
      rcases hb1 with e | e | e
      · exact h.sep j k b hj hkl hjk (.inl e) hb2
      · exact h.sep j k b hj hkl hjk (.inr (.inl e)) hb2
      · have e : b = hb := e
        exact hsep k hkl (fun e => hjk e.symm) (e ▸ hb2)
    · rw [put_other _ hji] at hb1
      by_cases hki : k = i
      · subst hki
        rw [put_same] at hb2
        rcases hb2 with e | e | e
        · exact h.sep j k b hj hkl hjk hb1 (.inl e)
        · exact h.sep j k b hj hkl hjk hb1 (.inr (.inl e))
        · have e : b = hb := e
          exact hsep j hj hji (e ▸ hb1)
      · rw [put_other _ hki] at hb2
        exact h.sep j k b hj hkl hjk hb1 hb2
  · rw [List.length_set] at hj
    by_cases hji : j = i
    · subst hji
      rw [put_same] at hb1
      rcases hb1 with e | e | e
      · exact h.np j hj (.inl e)
      · exact h.np j hj (.inr (.inl e))
      · exact hbp (by have e : p = hb := e; exact e.symm)
    · rw [put_other _ hji] at hb1
      exact h.np j hj hb1
  · rw [List.length_set] at hj
    by_cases hji : j = i
    · subst hji
      rw [put_same] at hb1
      rcases hb1 with e | e | e
      · exact (hS b hf).2 j hj (.inl e)
      · exact (hS b hf).2 j hj (.inr (.inl e))
      · exact hnF (by have e : b = hb := e; exact e ▸ hf)
    · rw [put_other _ hji] at hb1
      exact (hS b hf).2 j hj hb1
  · rw [List.length_set] at hj
    by_cases hji : j = i
    · subst hji
      rw [put_same] at hb1
      rcases hb1 with e | e | e
      · exact h.ge j b hj (.inl e)
      · exact h.ge j b hj (.inr (.inl e))
      · have e : b = hb := e
        omega
    · rw [put_other _ hji] at hb1
      exact h.ge j b hj hb1
/-- None is held. -/
theorem Pl.free {N : Nat} {w : World} {F : Nat → Prop} {p : Nat} {s : List Wk} {ad : Nat → Ad} (h : Pl N w F p s ad) (i : Nat) (hi : i < s.length) :
    Pl N (w.setCell ⟨p, 1 + i * 2 + 1, none⟩ (.pointer none)) F p (s.set i ⟨s[i].l, none⟩) (put ad i ⟨(ad i).d, (ad i).g, (ad i).d⟩) :=
  h.hold i hi none (fun _ hb _ => hb) ((h.at_ i hi).lt (.inl rfl)) (h.ge i _ hi (.inl rfl)) (fun j hj => by cases hj) (fun j hj hji e => h.sep i j _ hi hj (fun e => hji e.symm) (.inl rfl) e) (fun e => h.np i hi (.inl e.symm)) (h.nF i _ hi (.inl rfl)) (fun b hb => ⟨fun e => h.pF (e ▸ hb), fun j hj e => h.nF j b hj e hb⟩) rfl
theorem Pl.frees {N : Nat} {w : World} {F : Nat → Prop} {p : Nat} {s : List Wk} {ad : Nat → Ad} (_ : Pl N w F p s ad) (i : Nat) (hi : i < s.length) :
    Stp s (s.set i ⟨s[i].l, none⟩) p F F ad (put ad i ⟨(ad i).d, (ad i).g, (ad i).d⟩) w (w.setCell ⟨p, 1 + i * 2 + 1, none⟩ (.pointer none)) :=
  ⟨Ext.setCell w _ _ (.inl rfl), fun _ _ h => h, blk_put hi (fun b _ e => by
    rcases e with e | e | e
    · exact .inl e
    · exact .inr (.inl e)
    · exact .inl e)⟩
theorem pown_any {K : Nat → Prop} {w : World} {j : Job} {v : Value} (h : intE.Row K w v j.stamp) (hlen : j.stamp.length ≤ 4294967296) :
    Calls Try.prog 27 #[jobV j v] w fun e w' => ∃ v', e = .returned (jobV j v') ∧ intE.Row (fun b => w.heap.size ≤ b) w' v' j.stamp ∧ Below w.heap.size w w' := by
  obtain ⟨A, c, rfl, h1, h2⟩ := h.form
  go_enter Try.func27, Try.ntmps27
  go_wp2_with (go_at_call 45; refine (clone_ints ((h.alloc _).alloc _) hlen).mono ?_; rintro e w1 ⟨v', rfl, hr, hb⟩; obtain ⟨A', c', rfl, _, _⟩ := hr.form; obtain ⟨ex, dx, rfl⟩ := more_of hb; clear hb)
  refine bodyPost_ret (v := jobV j (.slice A' j.stamp.length c')) (by simp [results, Try.results27, go_sem]) rfl ⟨_, rfl, ?_, ?_⟩
  · exact ((hr.swap (by simp) (fun b hb => hb)).le (by simp; omega))
  · exact below_more (below_al (below_al (Below.refl _ _) _ (Nat.le_refl _)) _ (by simp)) (by simp; omega) _ _

set_option maxHeartbeats 1000000 in
theorem pdone_yes {N : Nat} {w : World} {F : Nat → Prop} {p : Nat} {s : List Wk} {ad : Nat → Ad} (h : Pl N w F p s ad) (i : Nat) (hi : i < s.length) (jb : Job) (hj : s[i].h = some jb) :
    Calls Try.prog 14 #[.pointer (some ⟨p, 0, none⟩), .int .i64 i] w (Turned N w p F ad s (s.set i ⟨s[i].l, none⟩) 0) := by
  have hl := h.lt
  have q1 := (h.at_ i hi).hp
  obtain ⟨cur, hb, _⟩ := h.blk
  have q2 := frz_blk hb (1 + i * 2 + 1)
  clear hb
  have HP := hid h
  have HI := hid (And.intro hi trivial)
  have HJ := hid hj
  clear h hj
  go_enter Try.func14, Try.ntmps14
  go_wp2_with (first | (go_at_call 29; refine (holding_yes (HP.out.below (by repeat (first | (with_reducible exact Below.refl _ _) | (with_reducible exact bl_mm) | (with_reducible refine bl_dr ?_) | (with_reducible refine bl_drN ?_ _) | (with_reducible refine bl_al ?_ _) | (with_reducible refine bl_more ?_ _ _)))) i HI.out.1 jb HJ.out).mono ?_; rintro e w1 ⟨rfl, hb1⟩; obtain ⟨ex, dx, rfl⟩ := more_of hb1; clear hb1))
  go_ret
  exact ⟨rfl, _, _, (HP.out.free i HI.out.1).below (by repeat (first | (with_reducible exact Below.refl _ _) | (with_reducible exact bl_mm) | (with_reducible refine bl_dr ?_) | (with_reducible refine bl_drN ?_ _) | (with_reducible refine bl_al ?_ _) | (with_reducible refine bl_more ?_ _ _))), (HP.out.frees i HI.out.1).then_ (by repeat (first | (with_reducible exact Below.refl _ _) | (with_reducible exact bl_mm) | (with_reducible refine bl_dr ?_) | (with_reducible refine bl_drN ?_ _) | (with_reducible refine bl_al ?_ _) | (with_reducible refine bl_more ?_ _ _)))⟩
set_option maxHeartbeats 1000000 in
theorem pdone_no {N : Nat} {w : World} {F : Nat → Prop} {p : Nat} {s : List Wk} {ad : Nat → Ad} (h : Pl N w F p s ad) (i : Nat) (hi : i < s.length) (hj : s[i].h = none) :
    Calls Try.prog 14 #[.pointer (some ⟨p, 0, none⟩), .int .i64 i] w (Turned N w p F ad s s 6) := by
  have HP := hid h
  have HI := hid (And.intro hi trivial)
  have HJ := hid hj
  clear h hj
  go_enter Try.func14, Try.ntmps14
  go_wp2_with (first | (go_at_call 29; refine (holding_no (HP.out.below (by repeat (first | (with_reducible exact Below.refl _ _) | (with_reducible exact bl_mm) | (with_reducible refine bl_dr ?_) | (with_reducible refine bl_drN ?_ _) | (with_reducible refine bl_al ?_ _) | (with_reducible refine bl_more ?_ _ _)))) i HI.out.1 HJ.out).mono ?_; rintro e w1 ⟨rfl, hb1⟩; obtain ⟨ex, dx, rfl⟩ := more_of hb1; clear hb1))
  go_ret
  exact ⟨rfl, _, _, HP.out.below (by repeat (first | (with_reducible exact Below.refl _ _) | (with_reducible exact bl_mm) | (with_reducible refine bl_dr ?_) | (with_reducible refine bl_drN ?_ _) | (with_reducible refine bl_al ?_ _) | (with_reducible refine bl_more ?_ _ _))), Stp.of_below (by repeat (first | (with_reducible exact Below.refl _ _) | (with_reducible exact bl_mm) | (with_reducible refine bl_dr ?_) | (with_reducible refine bl_drN ?_ _) | (with_reducible refine bl_al ?_ _) | (with_reducible refine bl_more ?_ _ _)))⟩
set_option maxHeartbeats 1000000 in
theorem pdone_none {N : Nat} {w : World} {F : Nat → Prop} {p : Nat} {s : List Wk} {ad : Nat → Ad} (h : Pl N w F p s ad) (i : Int) (hi : i < 0 ∨ (s.length : Int) ≤ i) :
    Calls Try.prog 14 #[.pointer (some ⟨p, 0, none⟩), .int .i64 i] w (Turned N w p F ad s s 2) := by
  have HP := hid h
  have HI := hid hi
  clear h hi
  go_enter Try.func14, Try.ntmps14
  go_wp2_with (first | (go_at_call 29; refine (holding_none (HP.out.below (by repeat (first | (with_reducible exact Below.refl _ _) | (with_reducible exact bl_mm) | (with_reducible refine bl_dr ?_) | (with_reducible refine bl_drN ?_ _) | (with_reducible refine bl_al ?_ _) | (with_reducible refine bl_more ?_ _ _)))) i HI.out).mono ?_; rintro e w1 ⟨rfl, hb1⟩; obtain ⟨ex, dx, rfl⟩ := more_of hb1; clear hb1))
  go_ret
  exact ⟨rfl, _, _, HP.out.below (by repeat (first | (with_reducible exact Below.refl _ _) | (with_reducible exact bl_mm) | (with_reducible refine bl_dr ?_) | (with_reducible refine bl_drN ?_ _) | (with_reducible refine bl_al ?_ _) | (with_reducible refine bl_more ?_ _ _))), Stp.of_below (by repeat (first | (with_reducible exact Below.refl _ _) | (with_reducible exact bl_mm) | (with_reducible refine bl_dr ?_) | (with_reducible refine bl_drN ?_ _) | (with_reducible refine bl_al ?_ _) | (with_reducible refine bl_more ?_ _ _)))⟩
end Go.Proofs.Ytlfdnjomjheioaa
