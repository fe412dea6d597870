/- A pool: Drop. -/
import Derived.Test.YtlfdnjomjheioaaPaF
namespace Go.Proofs.Ytlfdnjomjheioaa
open Go.RowKit

def fk (a : Int) (b : Bool) (c : Int) (k : Wk) : Wk := ⟨k.l.filter (fun x => !isKey a b c x), k.h⟩
def dropN (f : Wk → Wk) (s : List Wk) : Nat → List Wk
  | 0 => s
  | j + 1 => match s[j]? with
    | some k => (dropN f s j).set j (f k)
    | none => dropN f s j
theorem dropN_len (f : Wk → Wk) (s : List Wk) : ∀ j, (dropN f s j).length = s.length
  | 0 => rfl
  | j + 1 => by
    unfold dropN
    split
    · rw [List.length_set]; exact dropN_len f s j
    · exact dropN_len f s j
theorem dropN_get (f : Wk → Wk) (s : List Wk) (i : Nat) : ∀ j, (dropN f s j)[i]? = if i < j then (s[i]?).map f else s[i]?
  | 0 => by simp [dropN]
  | j + 1 => by
    have ih := dropN_get f s i j
    unfold dropN
    split
    · rename_i k hk
      by_cases hij : i = j
      · subst hij
        have hl : i < s.length := (List.getElem?_eq_some_iff.1 hk).1
        rw [List.getElem?_set_self (by rw [dropN_len]; exact hl), if_pos (by omega), hk]; rfl
      · rw [List.getElem?_set_ne (fun e => hij e.symm), ih]
        by_cases h1 : i < j
        · rw [if_pos h1, if_pos (by omega)]
        · rw [if_neg h1, if_neg (by omega)]
    · rename_i hk
      rw [ih]
      by_cases hij : i = j
      · subst hij
        rw [if_neg (by omega), if_pos (by omega), hk]; rfl
      · by_cases h1 : i < j
        · rw [if_pos h1, if_pos (by omega)]
        · rw [if_neg h1, if_neg (by omega)]
theorem dropN_all (f : Wk → Wk) (s : List Wk) : dropN f s s.length = s.map f := by
  apply List.ext_getElem?
  intro i
  rw [dropN_get, List.getElem?_map]
  split
  · rfl
  · rename_i h
    rw [List.getElem?_eq_none (by omega)]; rfl
theorem dropN_next {f : Wk → Wk} {s : List Wk} {j : Nat} {k : Wk} (hk : s[j]? = some k) : dropN f s (j + 1) = (dropN f s j).set j (f k) := by
  show (match s[j]? with | some k => (dropN f s j).set j (f k) | none => dropN f s j) = _
  rw [hk]
def cntN (f : Wk → Wk) (s : List Wk) : Nat → Int
  | 0 => 0
  | j + 1 => cntN f s j + match s[j]? with
    | some k => (k.l.length : Int) - (f k).l.length
    | none => 0
theorem cntN_next {f : Wk → Wk} {s : List Wk} {j : Nat} {k : Wk} (hk : s[j]? = some k) : cntN f s (j + 1) = cntN f s j + ((k.l.length : Int) - (f k).l.length) := by
  show cntN f s j + (match s[j]? with | some k => (k.l.length : Int) - (f k).l.length | none => 0) = _
  rw [hk]
theorem cntN_bd {N : Nat} {w : World} {F : Nat → Prop} {p : Nat} {s : List Wk} {ad : Nat → Ad} {a c : Int} {b : Bool} (h : Pl N w F p s ad) : ∀ j, 0 ≤ cntN (fk a b c) s j ∧ cntN (fk a b c) s j ≤ 128 * (j : Int)
  | 0 => ⟨Int.le_refl _, Int.le_refl _⟩
  | j + 1 => by
    obtain ⟨i1, i2⟩ := cntN_bd h j (a := a) (b := b) (c := c)
    cases hk : s[j]? with
    | some k =>
      rw [cntN_next hk]
      obtain ⟨hl, rfl⟩ := List.getElem?_eq_some_iff.1 hk
      have h1 := (h.at_ j hl).dq.few
      have h2 : (fk a b c s[j]).l.length ≤ s[j].l.length := List.length_filter_le _ _
      omega
    | none =>
      have e : cntN (fk a b c) s (j + 1) = cntN (fk a b c) s j + 0 := by
        show cntN (fk a b c) s j + (match s[j]? with | some k => (k.l.length : Int) - (fk a b c k).l.length | none => 0) = _
        rw [hk]
      rw [e]
      omega
theorem Pl.dropAt {N : Nat} {w : World} {F : Nat → Prop} {p : Nat} {s : List Wk} {ad : Nat → Ad} {a c : Int} {b : Bool} (h : Pl N w F p s ad) (i : Nat) {k : Wk} (hk : s[i]? = some k) :
    Calls Try.prog 42 #[.pointer (some ⟨(ad i).d, 0, none⟩), keyV a b c] w fun e w' => ∃ g', e = .returned (.int .i64 ((k.l.length : Int) - (fk a b c k).l.length)) ∧
      Pl N w' (fun b => (F b ∨ w.heap.size ≤ b) ∧ b ≠ g') p (s.set i (fk a b c k)) (put ad i ⟨(ad i).d, g', (ad i).h⟩) ∧ Stp s (s.set i (fk a b c k)) p F (fun b => (F b ∨ w.heap.size ≤ b) ∧ b ≠ g') ad (put ad i ⟨(ad i).d, g', (ad i).h⟩) w w' ∧ Up (ad i).d (ad i).g w g' w' := by
  obtain ⟨hi, rfl⟩ := List.getElem?_eq_some_iff.1 hk
  refine (drop_any (a := a) (b := b) (c := c) (h.at_ i hi).dq).mono fun e w' ⟨g', h1, h2, h3⟩ => ⟨g', h1, ?_, Pl.deqs i hi h3, h3⟩
  exact h.deq i hi (h2.mono (fun b hb _ => .inl hb)) h3
structure KeyIn (w : World) (kb p n : Nat) (ad : Nat → Ad) (a : Int) (b : Bool) (c : Int) : Prop where
  lt : kb < w.heap.size
  np : kb ≠ p
  c0 : w.cell? ⟨kb, 0, none⟩ = some (.int .i64 a)
  c1 : w.cell? ⟨kb, 1, none⟩ = some (.bool b)
  c2 : w.cell? ⟨kb, 2, none⟩ = some (.int .i64 c)
  na : ∀ i, i < n → ¬ (ad i).has kb
theorem KeyIn.up {w w' : World} {kb p n i g' : Nat} {ad : Nat → Ad} {a c : Int} {b : Bool} (h : KeyIn w kb p n ad a b c) (hi : i < n) (hu : Up (ad i).d (ad i).g w g' w') : KeyIn w' kb p n (put ad i ⟨(ad i).d, g', (ad i).h⟩) a b c := by
  have hs : ¬ (kb = (ad i).d ∨ kb = (ad i).g) := fun e => h.na i hi (e.imp id .inl)
  have hl := h.lt
  refine ⟨by have := hu.ext.size; omega, h.np, (hu.ext.cell_eq hl hs _).trans h.c0, (hu.ext.cell_eq hl hs _).trans h.c1, (hu.ext.cell_eq hl hs _).trans h.c2, fun j hj e => ?_⟩
  by_cases hji : j = i
  · subst hji
    rw [put_same] at e
    rcases e with e | e | e
    · exact h.na j hj (.inl e)
    · have e : kb = g' := e
      rcases hu.new with h5 | h5
      · exact h.na j hj (.inr (.inl (e.trans h5)))
      · omega
    · exact h.na j hj (.inr (.inr e))
  · rw [put_other _ hji] at e
    exact h.na j hj e
theorem KeyIn.below {w w' : World} {kb p n : Nat} {ad : Nat → Ad} {a c : Int} {b : Bool} (h : KeyIn w kb p n ad a b c) (hb : Below w.heap.size w w') : KeyIn w' kb p n ad a b c := by
  have he : Ext (fun _ => False) w w' := Ext.of_below hb
  have hl := h.lt
  exact ⟨by have := hb.size; omega, h.np, (he.cell_eq hl (fun h => h) _).trans h.c0, (he.cell_eq hl (fun h => h) _).trans h.c1, (he.cell_eq hl (fun h => h) _).trans h.c2, h.na⟩
set_option maxHeartbeats 1000000 in
theorem pdrop_any {N : Nat} {w : World} {F : Nat → Prop} {p : Nat} {s : List Wk} {ad : Nat → Ad} {a c : Int} {b : Bool} (h : Pl N w F p s ad) :
    Calls Try.prog 22 #[.pointer (some ⟨p, 0, none⟩), keyV a b c] w (Turned N w p F ad s (s.map (fk a b c)) (cntN (fk a b c) s s.length)) := by
  have hl := h.lt
  have n2 := h.n2
  have HP := hid h
  have HS := hid (fun j => cntN_bd h j (a := a) (b := b) (c := c))
  clear h
  go_enter Try.func22, Try.ntmps22
  go_wp2_with (first | ((with_reducible refine wp_region_plan (id := 5) (.eff [(true, 0), (false, 1), (false, 2), (false, 3), (false, 4), (false, 5), (false, 6), (false, 7), (false, 8)] 9 [0] (.fin [(false, 10), (false, 11)])) ?_ ?_ ?_ ?_ ?_ ?_); kernel_rfl; kernel_rfl; kernel_rfl; kernel_rfl; (intro c a d v w h; cases d <;> exact h)) | (with_reducible refine wpPlan_eff ?_) | (with_reducible refine wpPlan_fin ?_) | (with_reducible refine wpPlan_two ?_) | (with_reducible refine wpOpPair ?_ ?_) | ((with_reducible apply wpPre_keep); rfl; intro K' hK'; go_simp; refine hK' _ _ ?_; intro f hf; clear hK' K') | ((with_reducible apply wpPre_drop); rfl; intro K' hK'; go_simp; refine hK' _ _ ?_; intro f; clear hK' K') | (with_reducible refine wpPre_nil ?_) | ((with_reducible apply wpOp_list); rfl) | (with_reducible refine heldPair ?_ ?_) | ((with_reducible refine heldH_no ?_ ?_); rfl) | (with_reducible refine heldH_yes ?_ ?_) | (with_reducible exact heldH_nil) | (unfold YAt; go_simp; done) | (go_at_call 24; refine (size_any (HP.out.below (by repeat (first | (with_reducible exact Below.refl _ _) | (with_reducible exact bl_mm) | (with_reducible refine bl_dr ?_) | (with_reducible refine bl_drN ?_ _) | (with_reducible refine bl_al ?_ _) | (with_reducible refine bl_more ?_ _ _))))).mono ?_; rintro e w1 ⟨rfl, hb1⟩; obtain ⟨ex, dx, rfl⟩ := more_of hb1; clear hb1))
  go_loopg [5, 9] s.length (fun k sm i wr => ∃ (j : Nat) (F' : Nat → Prop) (ad' : Nat → Ad), j + k = s.length ∧ i = .int .i64 j ∧ sm = .int .i64 (cntN (fk a b c) s j) ∧ Pl N wr F' p (dropN (fk a b c) s j) ad' ∧ Stp s (dropN (fk a b c) s j) p F F' ad ad' w wr ∧ KeyIn wr w.heap.size p s.length ad' a b c)
  case atStart =>
    refine ⟨0, F, ad, by omega, rfl, rfl, HP.out.below (by repeat (first | (with_reducible exact Below.refl _ _) | (with_reducible exact bl_mm) | (with_reducible refine bl_dr ?_) | (with_reducible refine bl_drN ?_ _) | (with_reducible refine bl_al ?_ _) | (with_reducible refine bl_more ?_ _ _))), Stp.of_below (by repeat (first | (with_reducible exact Below.refl _ _) | (with_reducible exact bl_mm) | (with_reducible refine bl_dr ?_) | (with_reducible refine bl_drN ?_ _) | (with_reducible refine bl_al ?_ _) | (with_reducible refine bl_more ?_ _ _))), ?_⟩
    exact ⟨by simp only [more_size, World.size_alloc]; omega, by omega, by go_simp, by go_simp, by go_simp, fun i hi e => by have := (HP.out.at_ i hi).lt e; omega⟩
  case round =>
    obtain ⟨j, F', ad', hj, rfl, rfl, hp', hb', hke⟩ := hrel
    clear HP
    have HP := hid hp'
    have HB := hid hb'
    have HKE := hid hke
    have HJ := hid hj
    by_cases hlt : j < s.length
    · obtain ⟨k, hk⟩ : ∃ k, s[j]? = some k := ⟨_, List.getElem?_eq_getElem hlt⟩
      have HK := hid (show (dropN (fk a b c) s j)[j]? = some k by rw [dropN_get, if_neg (by omega)]; exact hk)
      have HJN := hid (And.intro hlt trivial)
      have hlt' : j < (dropN (fk a b c) s j).length := by rw [dropN_len]; exact hlt
      have q1 := (hp'.at_ j hlt').dp
      have q2 := hp'.lt
      have q3 := hke.lt
      have q4 := hke.c0
      have q5 := hke.c1
      have q6 := hke.c2
      have hn := cntN_next (f := fk a b c) hk
      have b1 := HS.out j
      have b2 := HS.out (j + 1)
      have HND := hid (dropN_next (f := fk a b c) hk)
      obtain ⟨c0, hc0⟩ : ∃ c0, cntN (fk a b c) s j = c0 := ⟨_, rfl⟩
      obtain ⟨c1, hc1⟩ : ∃ c1, cntN (fk a b c) s (j + 1) = c1 := ⟨_, rfl⟩
      rw [hc0, hc1] at hn
      rw [hc0] at b1 ⊢
      rw [hc1] at b2
      have HC1 := hid hc1
      have y1 : IntKind.i64.wrap (c0 + ((k.l.length : Int) - ((fk a b c k).l.length : Int))) = c1 := by rw [IntWalk.i64_in _ (by omega)]; exact hn.symm
      have i1 : (j : Int) < (s.length : Int) := by omega
      have i2 : (j : Int) < 64 := by omega
      have i3 : (0 : Int) ≤ (j : Int) := by omega
      have w1' : IntKind.i64.wrap ((j : Int) + 1) = ((j + 1 : Nat) : Int) := by rw [IntWalk.i64_in _ (by omega)]; rfl
      clear hp' hb' hke hj hk hn b1 b2 hc0 hc1 hlt'
      go_wp2_with (first | ((with_reducible refine wp_region_plan (id := 5) (.eff [(true, 0), (false, 1), (false, 2), (false, 3), (false, 4), (false, 5), (false, 6), (false, 7), (false, 8)] 9 [0] (.fin [(false, 10), (false, 11)])) ?_ ?_ ?_ ?_ ?_ ?_); kernel_rfl; kernel_rfl; kernel_rfl; kernel_rfl; (intro c a d v w h; cases d <;> exact h)) | (with_reducible refine wpPlan_eff ?_) | (with_reducible refine wpPlan_fin ?_) | (with_reducible refine wpPlan_two ?_) | (with_reducible refine wpOpPair ?_ ?_) | ((with_reducible apply wpPre_keep); rfl; intro K' hK'; go_simp; refine hK' _ _ ?_; intro f hf; clear hK' K') | ((with_reducible apply wpPre_drop); rfl; intro K' hK'; go_simp; refine hK' _ _ ?_; intro f; clear hK' K') | (with_reducible refine wpPre_nil ?_) | ((with_reducible apply wpOp_list); rfl) | (with_reducible refine heldPair ?_ ?_) | ((with_reducible refine heldH_no ?_ ?_); rfl) | (with_reducible refine heldH_yes ?_ ?_) | (with_reducible exact heldH_nil) | (unfold YAt; go_simp; done) | (go_at_call 42; refine (Pl.dropAt (a := a) (b := b) (c := c) (HP.out.below (by repeat (first | (with_reducible exact Below.refl _ _) | (with_reducible exact bl_mm) | (with_reducible refine bl_dr ?_) | (with_reducible refine bl_drN ?_ _) | (with_reducible refine bl_al ?_ _) | (with_reducible refine bl_more ?_ _ _)))) j HK.out).mono ?_; rintro e w1 ⟨g', rfl, hp', hb', hu⟩; have HP2 := hid hp'; have HB2 := hid ((HB.out.then_ (w2 := _) (by repeat (first | (with_reducible exact Below.refl _ _) | (with_reducible exact bl_mm) | (with_reducible refine bl_dr ?_) | (with_reducible refine bl_drN ?_ _) | (with_reducible refine bl_al ?_ _) | (with_reducible refine bl_more ?_ _ _)))).trans hb'); have HKE2 := hid ((HKE.out.below (by repeat (first | (with_reducible exact Below.refl _ _) | (with_reducible exact bl_mm) | (with_reducible refine bl_dr ?_) | (with_reducible refine bl_drN ?_ _) | (with_reducible refine bl_al ?_ _) | (with_reducible refine bl_more ?_ _ _)))).up HJN.out.1 hu); clear hp' hb' hu))
      all_goals
        go_roundg (s.length - (j + 1))
        case measure => have := HJ.out; omega
        case rel => exact ⟨j + 1, _, _, by have := HJ.out; omega, rfl, by rw [HC1.out], by rw [HND.out]; exact HP2.out.below (by repeat (first | (with_reducible exact Below.refl _ _) | (with_reducible exact bl_mm) | (with_reducible refine bl_dr ?_) | (with_reducible refine bl_drN ?_ _) | (with_reducible refine bl_al ?_ _) | (with_reducible refine bl_more ?_ _ _))), (by rw [HND.out]; exact HB2.out.then_ (by repeat (first | (with_reducible exact Below.refl _ _) | (with_reducible exact bl_mm) | (with_reducible refine bl_dr ?_) | (with_reducible refine bl_drN ?_ _) | (with_reducible refine bl_al ?_ _) | (with_reducible refine bl_more ?_ _ _)))), HKE2.out.below (by repeat (first | (with_reducible exact Below.refl _ _) | (with_reducible exact bl_mm) | (with_reducible refine bl_dr ?_) | (with_reducible refine bl_drN ?_ _) | (with_reducible refine bl_al ?_ _) | (with_reducible refine bl_more ?_ _ _)))⟩
    · obtain rfl : j = s.length := by omega
      have i1 : ¬ (s.length : Int) < s.length := by omega
      clear hj hp' hb' hke
      go_wp2_with (first | ((with_reducible refine wp_region_plan (id := 5) (.eff [(true, 0), (false, 1), (false, 2), (false, 3), (false, 4), (false, 5), (false, 6), (false, 7), (false, 8)] 9 [0] (.fin [(false, 10), (false, 11)])) ?_ ?_ ?_ ?_ ?_ ?_); kernel_rfl; kernel_rfl; kernel_rfl; kernel_rfl; (intro c a d v w h; cases d <;> exact h)) | (with_reducible refine wpPlan_eff ?_) | (with_reducible refine wpPlan_fin ?_) | (with_reducible refine wpPlan_two ?_) | (with_reducible refine wpOpPair ?_ ?_) | ((with_reducible apply wpPre_keep); rfl; intro K' hK'; go_simp; refine hK' _ _ ?_; intro f hf; clear hK' K') | ((with_reducible apply wpPre_drop); rfl; intro K' hK'; go_simp; refine hK' _ _ ?_; intro f; clear hK' K') | (with_reducible refine wpPre_nil ?_) | ((with_reducible apply wpOp_list); rfl) | (with_reducible refine heldPair ?_ ?_) | ((with_reducible refine heldH_no ?_ ?_); rfl) | (with_reducible refine heldH_yes ?_ ?_) | (with_reducible exact heldH_nil) | (unfold YAt; go_simp; done))
      go_ret
      have h1 := HP.out
      have h2 := HB.out
      rw [dropN_all] at h1 h2
      exact ⟨rfl, F', ad', h1.below (by repeat (first | (with_reducible exact Below.refl _ _) | (with_reducible exact bl_mm) | (with_reducible refine bl_dr ?_) | (with_reducible refine bl_drN ?_ _) | (with_reducible refine bl_al ?_ _) | (with_reducible refine bl_more ?_ _ _))), h2.then_ (by repeat (first | (with_reducible exact Below.refl _ _) | (with_reducible exact bl_mm) | (with_reducible refine bl_dr ?_) | (with_reducible refine bl_drN ?_ _) | (with_reducible refine bl_al ?_ _) | (with_reducible refine bl_more ?_ _ _)))⟩
end Go.Proofs.Ytlfdnjomjheioaa
