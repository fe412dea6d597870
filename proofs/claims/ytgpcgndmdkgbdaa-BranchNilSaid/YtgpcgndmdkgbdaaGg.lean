/- The document's examples: what the calls come to. -/
import Derived.Test.YtgpcgndmdkgbdaaGf
import Derived.Test.YtgpcgndmdkgbdaaGa
/- The document's examples: what the calls come to. -/
namespace Go.Proofs.Ytgpcgndmdkgbdaa
open Go.RowKit Go.Shelf

def x0 : DS := { fs := fs0 3, room := 500, fuse := -1, down := false }
def x1 : DS := { fs := [⟨[0, 5, 1, 1, 2, 1, 0, 109, 57, 98, 95], 0⟩, ⟨[], 0⟩, ⟨[], 0⟩], room := 489, fuse := -1, down := false }
def x2 : DS := { fs := [⟨[0, 5, 1, 1, 2, 1, 0, 109, 57, 98, 95, 0, 5, 2, 1, 2, 2, 0, 0, 33, 182, 35], 0⟩, ⟨[], 0⟩, ⟨[], 0⟩], room := 478, fuse := -1, down := false }
def x3 : DS := { fs := [⟨[0, 5, 1, 1, 2, 1, 0, 109, 57, 98, 95, 0, 5, 2, 1, 2, 2, 0, 0, 33, 182, 35, 0, 5, 2, 1, 2, 9, 0, 33, 74, 69, 138], 0⟩, ⟨[], 0⟩, ⟨[], 0⟩], room := 467, fuse := -1, down := false }
def x4 : DS := { fs := [⟨[0, 5, 1, 1, 2, 1, 0, 109, 57, 98, 95, 0, 5, 2, 1, 2, 2, 0, 0, 33, 182, 35, 0, 5, 2, 1, 2, 9, 0, 33, 74, 69, 138], 0⟩, ⟨[], 0⟩, ⟨[0, 4, 116, 101, 120, 116, 28, 144, 91, 208, 0, 0, 210, 119, 97, 241], 16⟩], room := 451, fuse := -1, down := false }
theorem xa1 : appB x0 0 (1, 1, 0, [1, 0]) = (x1, 0) := by
  rw [appB_ok (n := 2) rfl (by decide) (by decide) (by kernel_rfl) rfl, show bytesE 1 1 0 [1, 0] = [1, 1, 2, 1, 0] by simp [bytesE, putsL, manyL, oneL_small]]
  kernel_rfl
theorem xa2 : appB x1 0 (2, 1, 0, [2, 0]) = (x2, 0) := by
  rw [appB_ok (n := 2) rfl (by decide) (by decide) (by kernel_rfl) rfl, show bytesE 2 1 0 [2, 0] = [2, 1, 2, 2, 0] by simp [bytesE, putsL, manyL, oneL_small]]
  kernel_rfl
theorem xa3 : appB x2 0 (2, 1, 0, [9, 0]) = (x3, 0) := by
  rw [appB_ok (n := 2) rfl (by decide) (by decide) (by kernel_rfl) rfl, show bytesE 2 1 0 [9, 0] = [2, 1, 2, 9, 0] by simp [bytesE, putsL, manyL, oneL_small]]
  kernel_rfl
theorem xa4 : appB x3 0 (2, 1, 0, [1]) = (x3, 2) := by
  rw [appB_bad (n := 2) rfl (.inr (.inr (.inr (by decide))))]
theorem xl : logW (byt (fileB x3 0)) 0 2 = [((1, 1, 0, [1, 0]), 11), ((2, 1, 0, [2, 0]), 22)] := by kernel_rfl
theorem xt : toldV (byt (fileB x3 2)) = (ByteArray.empty, 6) := by kernel_rfl
def txt : ByteArray := ⟨#[116, 101, 120, 116]⟩
theorem xb : beginS x3 txt = (x4, 0) := by kernel_rfl
theorem xu : toldV (byt (fileB x4 2)) = (txt, 0) := by kernel_rfl
end Go.Proofs.Ytgpcgndmdkgbdaa

/- The document's words on events: right, the same. -/
namespace Go.Proofs.Ytgpcgndmdkgbdaa
open Go.RowKit Go.Shelf

theorem dis_any {w : World} {n : Int} : Calls Try.prog 99 #[.int .i64 n] w fun e w' => e = .returned (.bool (isN n)) ∧ w = w' := by
  unfold isN
  cases i1 : decide (0 ≤ n) with
  | false =>
    go_enter Try.func99, Try.ntmps99
    go_wp2
    go_ret
    exact ⟨rfl, rfl⟩
  | true =>
    go_enter Try.func99, Try.ntmps99
    go_wp2
    go_ret
    exact ⟨rfl, rfl⟩
theorem all_take (l : List Int) (j : Nat) (h : ∀ i (hi : i < l.length), i < j → isN l[i] = true) (hj : l.length ≤ j) : l.all isN = true := by
  rw [List.all_eq_true]
  intro x hx
  obtain ⟨i, hi, rfl⟩ := List.getElem_of_mem hx
  exact h i hi (by omega)
set_option maxHeartbeats 1000000 in
theorem dsright_any {w : World} {v : Value} {l : List Int} {K : Nat → Prop} (h : intE.Row K w v l) : Calls Try.prog 84 #[v] w fun e w' => e = .returned (.bool (rightS l)) ∧ Below w.heap.size w w' := by
  obtain ⟨A, c, rfl, hl1, hl2⟩ := h.form
  have HR := hid h
  have hml : l.length ≤ 9223372036854775807 := by simp only [maxLen] at hl2; omega
  go_enter Try.func84, Try.ntmps84
  go_wp2
  go_loopg [3] l.length (fun k v3 wr => ∃ j : Nat, v3 = .int .i64 (j : Int) ∧ j + k = l.length ∧ (∀ i (hi : i < l.length), i < j → isN l[i] = true) ∧ Below w.heap.size w wr)
  case atStart => exact ⟨0, rfl, by omega, fun i _ h => by omega, Below.refl _ _⟩
  case round =>
    obtain ⟨j, rfl, hj, hall, hb⟩ := hrel
    have HB := hid hb
    have HALL := hid hall
    by_cases hlt : j < l.length
    · obtain ⟨k2, rfl⟩ : ∃ k2, gk = k2 + 1 := ⟨gk - 1, by omega⟩
      obtain ⟨b, off, hA, _, hbl, hcell⟩ := row_int (HR.out.below hb) j hlt
      subst hA
      obtain ⟨x, hx⟩ : ∃ x, l[j] = x := ⟨_, rfl⟩
      rw [hx] at hcell
      have hj1 : (j : Int) < (l.length : Int) := by omega
      have hj2 : (0 : Int) ≤ (j : Int) := by omega
      have hwj : IntKind.i64.wrap ((j : Int) + 1) = ((j + 1 : Nat) : Int) := by rw [IntWalk.i64_in _ (by omega)]; rfl
      by_cases hn : isN x = true
      · have HX := hid hn
        have HALL2 : Hid (∀ i (hi : i < l.length), i < j + 1 → isN l[i] = true) := hid (fun i hi h => by
          by_cases he : i = j
          · subst he; rw [hx]; exact hn
          · exact hall i hi (by omega))
        clear h hb hall hn hx hl1 hl2
        go_wp2_with (first | (go_at_call 99; refine dis_any.mono ?_; rintro e w1 ⟨rfl, rfl⟩; rw [HX.out]))
        go_roundg k2
        case measure => omega
        case rel => exact ⟨j + 1, rfl, by omega, HALL2.out, HB.out⟩
      · have HX := hid ((Bool.not_eq_true _).mp hn)
        have HE : Hid (rightS l = false) := hid (by
          unfold rightS
          have : l.all isN = false := by rw [← Bool.not_eq_true, List.all_eq_true]; exact fun h => hn (by rw [← hx]; exact h _ (List.getElem_mem hlt))
          rw [this, Bool.and_false])
        clear h hb hall hn hx hl1 hl2
        go_wp2_with (first | (go_at_call 99; refine dis_any.mono ?_; rintro e w1 ⟨rfl, rfl⟩; rw [HX.out]))
        (try rw [Exit.noGoto_ret])
        go_ret
        rw [HE.out]
        exact ⟨rfl, HB.out⟩
    · have hjl : j = l.length := by omega
      subst hjl
      have HA := hid (all_take l _ hall (Nat.le_refl _))
      have hj1 : ¬ (l.length : Int) < (l.length : Int) := by omega
      by_cases h1 : 1 ≤ l.length
      · by_cases h2 : l.length ≤ 64
        · have HE : Hid (rightS l = true) := hid (by unfold rightS; rw [HA.out]; simp; omega)
          have q1 : (1 : Int) ≤ (l.length : Int) := by omega
          have q2 : (l.length : Int) ≤ 64 := by omega
          clear h hb hall h1 h2 hlt hl1 hl2
          go_wp2
          go_ret
          rw [HE.out]
          exact ⟨rfl, HB.out⟩
        · have HE : Hid (rightS l = false) := hid (by unfold rightS; rw [HA.out]; simp; omega)
          have q1 : (1 : Int) ≤ (l.length : Int) := by omega
          have q2 : ¬ (l.length : Int) ≤ 64 := by omega
          clear h hb hall h1 h2 hlt hl1 hl2
          go_wp2
          go_ret
          rw [HE.out]
          exact ⟨rfl, HB.out⟩
      · have HE : Hid (rightS l = false) := hid (by unfold rightS; rw [HA.out]; simp; omega)
        have q1 : ¬ (1 : Int) ≤ (l.length : Int) := by omega
        clear h hb hall h1 hlt hl1 hl2
        go_wp2
        go_ret
        rw [HE.out]
        exact ⟨rfl, HB.out⟩

theorem rightE_is (k i t : Int) (st : List Int) : rightE k i t st = (decide (1 ≤ k ∧ k ≤ 6 ∧ 1 ≤ i ∧ i ≤ 63 ∧ 0 ≤ t ∧ t ≤ 3 ∧ (3 < k ∨ t = 0)) && rightS st) := by
  unfold rightE
  congr 1
  rcases of_cases k i t with ⟨h1, h2, h3, h4, h5, h6, _⟩ | ⟨h1, h2, h3, h4, h5, h6, h7, _⟩ | ⟨h1, _⟩
  · rw [h1]; simp; omega
  · rw [h1]; simp; omega
  · rw [h1]
    symm
    rw [decide_eq_false_iff_not]
    intro h
    unfold rightI at h1
    simp at h1
    omega
set_option maxRecDepth 4000 in
set_option maxHeartbeats 1000000 in
theorem dright_any {w : World} {k i t : Int} {v : Value} {st : List Int} {K : Nat → Prop} (h : intE.Row K w v st) : Calls Try.prog 55 #[evV k i t v] w fun e w' => e = .returned (.bool (rightE k i t st)) ∧ Below w.heap.size w w' := by
  obtain ⟨A, c, rfl, _, _⟩ := h.form
  have HR := hid h
  by_cases c0 : k < 1
  · have HE : Hid (rightE k i t st = false) := hid (by rw [rightE_is]; simp; omega)
    clear h
    go_enter Try.func55, Try.ntmps55
    go_wp2
    go_ret
    rw [HE.out]
    exact ⟨rfl, (by repeat (first | (with_reducible exact Below.refl _ _) | (with_reducible exact bl_mm) | (with_reducible refine bl_dr ?_) | (with_reducible refine bl_drN ?_ _) | (with_reducible refine bl_al ?_ _) | (with_reducible refine bl_more ?_ _ _)))⟩
  · have z0 : True := trivial
    by_cases c1 : 6 < k
    · have HE : Hid (rightE k i t st = false) := hid (by rw [rightE_is]; simp; omega)
      clear h
      go_enter Try.func55, Try.ntmps55
      go_wp2
      go_ret
      rw [HE.out]
      exact ⟨rfl, (by repeat (first | (with_reducible exact Below.refl _ _) | (with_reducible exact bl_mm) | (with_reducible refine bl_dr ?_) | (with_reducible refine bl_drN ?_ _) | (with_reducible refine bl_al ?_ _) | (with_reducible refine bl_more ?_ _ _)))⟩
    · have z1 : True := trivial
      by_cases c2 : i < 1
      · have HE : Hid (rightE k i t st = false) := hid (by rw [rightE_is]; simp; omega)
        clear h
        go_enter Try.func55, Try.ntmps55
        go_wp2
        go_ret
        rw [HE.out]
        exact ⟨rfl, (by repeat (first | (with_reducible exact Below.refl _ _) | (with_reducible exact bl_mm) | (with_reducible refine bl_dr ?_) | (with_reducible refine bl_drN ?_ _) | (with_reducible refine bl_al ?_ _) | (with_reducible refine bl_more ?_ _ _)))⟩
      · have z2 : True := trivial
        by_cases c3 : 63 < i
        · have HE : Hid (rightE k i t st = false) := hid (by rw [rightE_is]; simp; omega)
          clear h
          go_enter Try.func55, Try.ntmps55
          go_wp2
          go_ret
          rw [HE.out]
          exact ⟨rfl, (by repeat (first | (with_reducible exact Below.refl _ _) | (with_reducible exact bl_mm) | (with_reducible refine bl_dr ?_) | (with_reducible refine bl_drN ?_ _) | (with_reducible refine bl_al ?_ _) | (with_reducible refine bl_more ?_ _ _)))⟩
        · have z3 : True := trivial
          by_cases c4 : t < 0
          · have HE : Hid (rightE k i t st = false) := hid (by rw [rightE_is]; simp; omega)
            clear h
            go_enter Try.func55, Try.ntmps55
            go_wp2
            go_ret
            rw [HE.out]
            exact ⟨rfl, (by repeat (first | (with_reducible exact Below.refl _ _) | (with_reducible exact bl_mm) | (with_reducible refine bl_dr ?_) | (with_reducible refine bl_drN ?_ _) | (with_reducible refine bl_al ?_ _) | (with_reducible refine bl_more ?_ _ _)))⟩
          · have z4 : True := trivial
            by_cases c5 : 3 < t
            · have HE : Hid (rightE k i t st = false) := hid (by rw [rightE_is]; simp; omega)
              clear h
              go_enter Try.func55, Try.ntmps55
              go_wp2
              go_ret
              rw [HE.out]
              exact ⟨rfl, (by repeat (first | (with_reducible exact Below.refl _ _) | (with_reducible exact bl_mm) | (with_reducible refine bl_dr ?_) | (with_reducible refine bl_drN ?_ _) | (with_reducible refine bl_al ?_ _) | (with_reducible refine bl_more ?_ _ _)))⟩
            · have z5 : True := trivial
              by_cases c6 : 3 < k
              · have HE : Hid (rightE k i t st = rightS st) := hid (by rw [rightE_is, decide_eq_true (by omega), Bool.true_and])
                clear h
                go_enter Try.func55, Try.ntmps55
                go_wp2_with (first | (go_at_call 84; refine (dsright_any (HR.out.below (by repeat (first | (with_reducible exact Below.refl _ _) | (with_reducible exact bl_mm) | (with_reducible refine bl_dr ?_) | (with_reducible refine bl_drN ?_ _) | (with_reducible refine bl_al ?_ _) | (with_reducible refine bl_more ?_ _ _))))).mono ?_; rintro e w1 ⟨rfl, hb1⟩; obtain ⟨ex1, dx1, rfl⟩ := more_of hb1; clear hb1))
                go_ret
                rw [HE.out]
                exact ⟨rfl, (by repeat (first | (with_reducible exact Below.refl _ _) | (with_reducible exact bl_mm) | (with_reducible refine bl_dr ?_) | (with_reducible refine bl_drN ?_ _) | (with_reducible refine bl_al ?_ _) | (with_reducible refine bl_more ?_ _ _)))⟩
              · by_cases c7 : t = 0
                · subst c7
                  have HE : Hid (rightE k i 0 st = rightS st) := hid (by rw [rightE_is, decide_eq_true (by omega), Bool.true_and])
                  clear h
                  go_enter Try.func55, Try.ntmps55
                  go_wp2_with (first | (go_at_call 84; refine (dsright_any (HR.out.below (by repeat (first | (with_reducible exact Below.refl _ _) | (with_reducible exact bl_mm) | (with_reducible refine bl_dr ?_) | (with_reducible refine bl_drN ?_ _) | (with_reducible refine bl_al ?_ _) | (with_reducible refine bl_more ?_ _ _))))).mono ?_; rintro e w1 ⟨rfl, hb1⟩; obtain ⟨ex1, dx1, rfl⟩ := more_of hb1; clear hb1))
                  go_ret
                  rw [HE.out]
                  exact ⟨rfl, (by repeat (first | (with_reducible exact Below.refl _ _) | (with_reducible exact bl_mm) | (with_reducible refine bl_dr ?_) | (with_reducible refine bl_drN ?_ _) | (with_reducible refine bl_al ?_ _) | (with_reducible refine bl_more ?_ _ _)))⟩
                · have c8 : (t == 0) = false := by simpa using c7
                  have HE : Hid (rightE k i t st = false) := hid (by rw [rightE_is]; simp; omega)
                  clear h
                  go_enter Try.func55, Try.ntmps55
                  go_wp2
                  go_ret
                  rw [HE.out]
                  exact ⟨rfl, (by repeat (first | (with_reducible exact Below.refl _ _) | (with_reducible exact bl_mm) | (with_reducible refine bl_dr ?_) | (with_reducible refine bl_drN ?_ _) | (with_reducible refine bl_al ?_ _) | (with_reducible refine bl_more ?_ _ _)))⟩
theorem dcheck_any {w : World} {k i t : Int} {v : Value} {st : List Int} {K : Nat → Prop} (h : intE.Row K w v st) : Calls Try.prog 27 #[evV k i t v] w fun e w' => e = .returned (.int .i64 (if rightE k i t st = true then 0 else 2)) ∧ Below w.heap.size w w' := by
  obtain ⟨A, c, rfl, _, _⟩ := h.form
  have HR := hid h
  cases hE : rightE k i t st with
  | true =>
    have HE := hid hE
    clear h hE
    go_enter Try.func27, Try.ntmps27
    go_wp2_with (first | (go_at_call 55; refine (dright_any (HR.out.below (by repeat (first | (with_reducible exact Below.refl _ _) | (with_reducible exact bl_mm) | (with_reducible refine bl_dr ?_) | (with_reducible refine bl_drN ?_ _) | (with_reducible refine bl_al ?_ _) | (with_reducible refine bl_more ?_ _ _))))).mono ?_; rintro e w1 ⟨rfl, hb1⟩; obtain ⟨ex1, dx1, rfl⟩ := more_of hb1; clear hb1; rw [HE.out]))
    go_ret
    exact ⟨rfl, (by repeat (first | (with_reducible exact Below.refl _ _) | (with_reducible exact bl_mm) | (with_reducible refine bl_dr ?_) | (with_reducible refine bl_drN ?_ _) | (with_reducible refine bl_al ?_ _) | (with_reducible refine bl_more ?_ _ _)))⟩
  | false =>
    have HE := hid hE
    clear h hE
    go_enter Try.func27, Try.ntmps27
    go_wp2_with (first | (go_at_call 55; refine (dright_any (HR.out.below (by repeat (first | (with_reducible exact Below.refl _ _) | (with_reducible exact bl_mm) | (with_reducible refine bl_dr ?_) | (with_reducible refine bl_drN ?_ _) | (with_reducible refine bl_al ?_ _) | (with_reducible refine bl_more ?_ _ _))))).mono ?_; rintro e w1 ⟨rfl, hb1⟩; obtain ⟨ex1, dx1, rfl⟩ := more_of hb1; clear hb1; rw [HE.out]))
    go_ret
    exact ⟨rfl, (by repeat (first | (with_reducible exact Below.refl _ _) | (with_reducible exact bl_mm) | (with_reducible refine bl_dr ?_) | (with_reducible refine bl_drN ?_ _) | (with_reducible refine bl_al ?_ _) | (with_reducible refine bl_more ?_ _ _)))⟩
end Go.Proofs.Ytgpcgndmdkgbdaa

/- The document's words on events: the same. -/
namespace Go.Proofs.Ytgpcgndmdkgbdaa
open Go.RowKit Go.Shelf

/-- Two rows told side by side. -/
theorem eq_of_all {α : Type} {a b : List α} (hl : a.length = b.length) (h : ∀ i (h1 : i < a.length) (h2 : i < b.length), a[i] = b[i]) : a = b := List.ext_getElem hl (fun i h1 h2 => h i h1 h2)
set_option maxHeartbeats 1000000 in
theorem nsame_any {w : World} {v u : Value} {a b : List Int} {K L : Nat → Prop} (h : intE.Row K w v a) (h' : intE.Row L w u b) : Calls Try.prog 64 #[v, u] w fun e w' => e = .returned (.bool (decide (a = b))) ∧ Below w.heap.size w w' := by
  obtain ⟨A, c, rfl, hl1, hl2⟩ := h.form
  obtain ⟨B, d, rfl, hm1, hm2⟩ := h'.form
  have HR := hid h
  have HS := hid h'
  have hml : a.length ≤ 9223372036854775807 := by simp only [maxLen] at hl2; omega
  by_cases hlen : a.length = b.length
  · have hlb : ((a.length : Int) != (b.length : Int)) = false := by simp only [bne_eq_false_iff_eq]; omega
    go_enter Try.func64, Try.ntmps64
    go_wp2
    go_loopg [5] a.length (fun k v5 wr => ∃ j : Nat, v5 = .int .i64 (j : Int) ∧ j + k = a.length ∧ (∀ i (h1 : i < a.length) (h2 : i < b.length), i < j → a[i] = b[i]) ∧ Below w.heap.size w wr)
    case atStart => exact ⟨0, rfl, by omega, fun i _ _ h => by omega, Below.refl _ _⟩
    case round =>
      obtain ⟨j, rfl, hj, hall, hb⟩ := hrel
      have HB := hid hb
      by_cases hlt : j < a.length
      · obtain ⟨k2, rfl⟩ : ∃ k2, gk = k2 + 1 := ⟨gk - 1, by omega⟩
        have hlt2 : j < b.length := by omega
        obtain ⟨b1, off, hA, _, hbl, hcell⟩ := row_int (HR.out.below hb) j hlt
        obtain ⟨b2, off2, hB, _, hbl2, hcell2⟩ := row_int (HS.out.below hb) j hlt2
        subst hA
        subst hB
        obtain ⟨x, hx⟩ : ∃ x, a[j] = x := ⟨_, rfl⟩
        obtain ⟨y, hy⟩ : ∃ y, b[j] = y := ⟨_, rfl⟩
        rw [hx] at hcell
        rw [hy] at hcell2
        have hj1 : (j : Int) < (a.length : Int) := by omega
        have hj3 : (j : Int) < (b.length : Int) := by omega
        have hj2 : (0 : Int) ≤ (j : Int) := by omega
        have hwj : IntKind.i64.wrap ((j : Int) + 1) = ((j + 1 : Nat) : Int) := by rw [IntWalk.i64_in _ (by omega)]; rfl
        by_cases hn : x = y
        · have HALL2 : Hid (∀ i (h1 : i < a.length) (h2 : i < b.length), i < j + 1 → a[i] = b[i]) := hid (fun i h1 h2 h => by
            by_cases he : i = j
            · subst he; rw [hx, hy]; exact hn
            · exact hall i h1 h2 (by omega))
          subst hn
          clear h h' hb hall hx hy hl1 hl2 hm1 hm2 hlen
          go_wp2
          go_region
          all_goals go_wp2
          all_goals (go_roundg k2)
          all_goals first | (exact ⟨j + 1, rfl, by omega, HALL2.out, bl_then HB.out (by repeat (first | (with_reducible exact Below.refl _ _) | (with_reducible exact bl_mm) | (with_reducible refine bl_dr ?_) | (with_reducible refine bl_drN ?_ _) | (with_reducible refine bl_al ?_ _) | (with_reducible refine bl_more ?_ _ _)))⟩) | omega
        · have HE : Hid (decide (a = b) = false) := hid (decide_eq_false (fun he => hn (by rw [← hx, ← hy]; subst he; rfl)))
          have hnb : (x != y) = true := by simpa using hn
          clear h h' hb hall hn hx hy hl1 hl2 hm1 hm2 hlen
          go_wp2
          go_region
          all_goals go_wp2
          all_goals (try rw [Exit.noGoto_ret])
          all_goals go_ret
          all_goals rw [HE.out]
          all_goals exact ⟨rfl, bl_then HB.out (by repeat (first | (with_reducible exact Below.refl _ _) | (with_reducible exact bl_mm) | (with_reducible refine bl_dr ?_) | (with_reducible refine bl_drN ?_ _) | (with_reducible refine bl_al ?_ _) | (with_reducible refine bl_more ?_ _ _)))⟩
      · have hjl : j = a.length := by omega
        subst hjl
        have HE : Hid (decide (a = b) = true) := hid (decide_eq_true (eq_of_all hlen (fun i h1 h2 => hall i h1 h2 h1)))
        have hj1 : ¬ (a.length : Int) < (a.length : Int) := by omega
        clear h h' hb hall hl1 hl2 hm1 hm2 hlt hlen
        go_wp2
        go_ret
        rw [HE.out]
        exact ⟨rfl, HB.out⟩
  · have hlb : ((a.length : Int) != (b.length : Int)) = true := by simp only [bne_iff_ne, ne_eq]; omega
    have HE : Hid (decide (a = b) = false) := hid (decide_eq_false (fun he => hlen (by rw [he])))
    clear h h' hl1 hl2 hm1 hm2 hlen
    go_enter Try.func64, Try.ntmps64
    go_wp2
    go_ret
    rw [HE.out]
    exact ⟨rfl, (by repeat (first | (with_reducible exact Below.refl _ _) | (with_reducible exact bl_mm) | (with_reducible refine bl_dr ?_) | (with_reducible refine bl_drN ?_ _) | (with_reducible refine bl_al ?_ _) | (with_reducible refine bl_more ?_ _ _)))⟩
set_option maxRecDepth 4000 in
set_option maxHeartbeats 1000000 in
theorem esame_any {w : World} {k i t k' i' t' : Int} {v v' : Value} {st st' : List Int} {K L : Nat → Prop} (h : intE.Row K w v st) (h' : intE.Row L w v' st') : Calls Try.prog 31 #[evV k i t v, evV k' i' t' v'] w fun e w' => e = .returned (.bool (decide ((k, i, t, st) = (k', i', t', st')))) ∧ Below w.heap.size w w' := by
  obtain ⟨A, c, rfl, _, _⟩ := h.form
  obtain ⟨B, d, rfl, _, _⟩ := h'.form
  have HR := hid h
  have HS := hid h'
  by_cases c1 : k = k'
  · subst c1
    by_cases c2 : i = i'
    · subst c2
      by_cases c3 : t = t'
      · subst c3
        have HE : Hid (decide ((k, i, t, st) = (k, i, t, st')) = decide (st = st')) := hid (by simp)
        clear h h'
        go_enter Try.func31, Try.ntmps31
        go_wp2_with (first | (go_at_call 64; refine (nsame_any (HR.out.below (by repeat (first | (with_reducible exact Below.refl _ _) | (with_reducible exact bl_mm) | (with_reducible refine bl_dr ?_) | (with_reducible refine bl_drN ?_ _) | (with_reducible refine bl_al ?_ _) | (with_reducible refine bl_more ?_ _ _)))) (HS.out.below (by repeat (first | (with_reducible exact Below.refl _ _) | (with_reducible exact bl_mm) | (with_reducible refine bl_dr ?_) | (with_reducible refine bl_drN ?_ _) | (with_reducible refine bl_al ?_ _) | (with_reducible refine bl_more ?_ _ _))))).mono ?_; rintro e w1 ⟨rfl, hb1⟩; obtain ⟨ex1, dx1, rfl⟩ := more_of hb1; clear hb1))
        go_ret
        rw [HE.out]
        exact ⟨rfl, (by repeat (first | (with_reducible exact Below.refl _ _) | (with_reducible exact bl_mm) | (with_reducible refine bl_dr ?_) | (with_reducible refine bl_drN ?_ _) | (with_reducible refine bl_al ?_ _) | (with_reducible refine bl_more ?_ _ _)))⟩
      · have HE : Hid (decide ((k, i, t, st) = (k, i, t', st')) = false) := hid (by simp [c3])
        have cb : (t == t') = false := by simpa using c3
        clear h h'
        go_enter Try.func31, Try.ntmps31
        go_wp2_with (first | (go_at_call 64; refine (nsame_any (HR.out.below (by repeat (first | (with_reducible exact Below.refl _ _) | (with_reducible exact bl_mm) | (with_reducible refine bl_dr ?_) | (with_reducible refine bl_drN ?_ _) | (with_reducible refine bl_al ?_ _) | (with_reducible refine bl_more ?_ _ _)))) (HS.out.below (by repeat (first | (with_reducible exact Below.refl _ _) | (with_reducible exact bl_mm) | (with_reducible refine bl_dr ?_) | (with_reducible refine bl_drN ?_ _) | (with_reducible refine bl_al ?_ _) | (with_reducible refine bl_more ?_ _ _))))).mono ?_; rintro e w1 ⟨rfl, hb1⟩; obtain ⟨ex1, dx1, rfl⟩ := more_of hb1; clear hb1))
        go_ret
        rw [HE.out]
        exact ⟨rfl, (by repeat (first | (with_reducible exact Below.refl _ _) | (with_reducible exact bl_mm) | (with_reducible refine bl_dr ?_) | (with_reducible refine bl_drN ?_ _) | (with_reducible refine bl_al ?_ _) | (with_reducible refine bl_more ?_ _ _)))⟩
    · have HE : Hid (decide ((k, i, t, st) = (k, i', t', st')) = false) := hid (by simp [c2])
      have cb : (i == i') = false := by simpa using c2
      clear h h'
      go_enter Try.func31, Try.ntmps31
      go_wp2_with (first | (go_at_call 64; refine (nsame_any (HR.out.below (by repeat (first | (with_reducible exact Below.refl _ _) | (with_reducible exact bl_mm) | (with_reducible refine bl_dr ?_) | (with_reducible refine bl_drN ?_ _) | (with_reducible refine bl_al ?_ _) | (with_reducible refine bl_more ?_ _ _)))) (HS.out.below (by repeat (first | (with_reducible exact Below.refl _ _) | (with_reducible exact bl_mm) | (with_reducible refine bl_dr ?_) | (with_reducible refine bl_drN ?_ _) | (with_reducible refine bl_al ?_ _) | (with_reducible refine bl_more ?_ _ _))))).mono ?_; rintro e w1 ⟨rfl, hb1⟩; obtain ⟨ex1, dx1, rfl⟩ := more_of hb1; clear hb1))
      go_ret
      rw [HE.out]
      exact ⟨rfl, (by repeat (first | (with_reducible exact Below.refl _ _) | (with_reducible exact bl_mm) | (with_reducible refine bl_dr ?_) | (with_reducible refine bl_drN ?_ _) | (with_reducible refine bl_al ?_ _) | (with_reducible refine bl_more ?_ _ _)))⟩
  · have HE : Hid (decide ((k, i, t, st) = (k', i', t', st')) = false) := hid (by simp [c1])
    have cb : (k == k') = false := by simpa using c1
    clear h h'
    go_enter Try.func31, Try.ntmps31
    go_wp2_with (first | (go_at_call 64; refine (nsame_any (HR.out.below (by repeat (first | (with_reducible exact Below.refl _ _) | (with_reducible exact bl_mm) | (with_reducible refine bl_dr ?_) | (with_reducible refine bl_drN ?_ _) | (with_reducible refine bl_al ?_ _) | (with_reducible refine bl_more ?_ _ _)))) (HS.out.below (by repeat (first | (with_reducible exact Below.refl _ _) | (with_reducible exact bl_mm) | (with_reducible refine bl_dr ?_) | (with_reducible refine bl_drN ?_ _) | (with_reducible refine bl_al ?_ _) | (with_reducible refine bl_more ?_ _ _))))).mono ?_; rintro e w1 ⟨rfl, hb1⟩; obtain ⟨ex1, dx1, rfl⟩ := more_of hb1; clear hb1))
    go_ret
    rw [HE.out]
    exact ⟨rfl, (by repeat (first | (with_reducible exact Below.refl _ _) | (with_reducible exact bl_mm) | (with_reducible refine bl_dr ?_) | (with_reducible refine bl_drN ?_ _) | (with_reducible refine bl_al ?_ _) | (with_reducible refine bl_more ?_ _ _)))⟩
/-- An event in a row. -/
theorem row_ev {K : Nat → Prop} {w : World} {A : Option Addr} {n c : Nat} {xs : List Ev} (h : evE.Row K w (.slice A n c) xs) (i : Nat) (hi : i < xs.length) :
    ∃ b off A' n' c', A = some ⟨b, off, none⟩ ∧ K b ∧ b < w.heap.size ∧ w.cell? ⟨b, off + i * 4, none⟩ = some (.int .i64 xs[i].1) ∧ w.cell? ⟨b, off + i * 4 + 1, none⟩ = some (.int .i64 xs[i].2.1) ∧ w.cell? ⟨b, off + i * 4 + 2, none⟩ = some (.int .i64 xs[i].2.2.1) ∧
      w.cell? ⟨b, off + i * 4 + 3, none⟩ = some (.slice A' n' c') ∧ intE.Row K w (.slice A' n' c') xs[i].2.2.2 := by
  obtain ⟨b, off, cs, rfl, hK, hl, hrd, hc⟩ := h.get i hi
  obtain ⟨c1, c2, rfl, h1, c3, c4, rfl, h2, c5, c6, rfl, h3, v, rfl, hv⟩ := hrd
  have e1 : c1 = [.int .i64 xs[i].1] := h1
  have e2 : c3 = [.int .i64 xs[i].2.1] := h2
  have e3 : c5 = [.int .i64 xs[i].2.2.1] := h3
  subst e1; subst e2; subst e3
  obtain ⟨A', c', rfl, _, _⟩ := hv.form
  exact ⟨b, off, A', _, c', rfl, hK, hl, hc 0 _ rfl, hc 1 _ rfl, hc 2 _ rfl, hc 3 _ rfl, hv⟩
set_option maxRecDepth 4000 in
set_option maxHeartbeats 2000000 in
theorem esames_any {w : World} {v u : Value} {a b : List Ev} {K L : Nat → Prop} (h : evE.Row K w v a) (h' : evE.Row L w u b) : Calls Try.prog 11 #[v, u] w fun e w' => e = .returned (.bool (decide (a = b))) ∧ Below w.heap.size w w' := by
  obtain ⟨A, c, rfl, hl1, hl2⟩ := h.form
  obtain ⟨B, d, rfl, hm1, hm2⟩ := h'.form
  have HR := hid h
  have HS := hid h'
  have hml : a.length ≤ 9223372036854775807 := by simp only [maxLen] at hl2; omega
  by_cases hlen : a.length = b.length
  · have hlb : ((a.length : Int) != (b.length : Int)) = false := by simp only [bne_eq_false_iff_eq]; omega
    go_enter Try.func11, Try.ntmps11
    go_wp2
    go_loopg [5] a.length (fun k v5 wr => ∃ j : Nat, v5 = .int .i64 (j : Int) ∧ j + k = a.length ∧ (∀ i (h1 : i < a.length) (h2 : i < b.length), i < j → a[i] = b[i]) ∧ Below w.heap.size w wr)
    case atStart => exact ⟨0, rfl, by omega, fun i _ _ h => by omega, Below.refl _ _⟩
    case round =>
      obtain ⟨j, rfl, hj, hall, hb⟩ := hrel
      have HB := hid hb
      by_cases hlt : j < a.length
      · obtain ⟨k2, rfl⟩ : ∃ k2, gk = k2 + 1 := ⟨gk - 1, by omega⟩
        have hlt2 : j < b.length := by omega
        obtain ⟨b1, off, A1, n1, c1, hA, _, hbl, p1, p2, p3, p4, hv1⟩ := row_ev (HR.out.below hb) j hlt
        obtain ⟨b2, off2, A2, n2, c2, hB, _, hbl2, q1, q2, q3, q4, hv2⟩ := row_ev (HS.out.below hb) j hlt2
        subst hA
        subst hB
        obtain ⟨x, hx⟩ : ∃ x, a[j] = x := ⟨_, rfl⟩
        obtain ⟨y, hy⟩ : ∃ y, b[j] = y := ⟨_, rfl⟩
        rw [hx] at p1 p2 p3 hv1
        rw [hy] at q1 q2 q3 hv2
        obtain ⟨k, i, t, st⟩ := x
        obtain ⟨k', i', t', st'⟩ := y
        simp only at p1 p2 p3 q1 q2 q3 hv1 hv2
        have HV1 := hid hv1
        have HV2 := hid hv2
        have hj1 : (j : Int) < (a.length : Int) := by omega
        have hj3 : (j : Int) < (b.length : Int) := by omega
        have hj2 : (0 : Int) ≤ (j : Int) := by omega
        have hwj : IntKind.i64.wrap ((j : Int) + 1) = ((j + 1 : Nat) : Int) := by rw [IntWalk.i64_in _ (by omega)]; rfl
        by_cases hn : (k, i, t, st) = (k', i', t', st')
        · have HN := hid (decide_eq_true hn)
          have HALL2 : Hid (∀ i (h1 : i < a.length) (h2 : i < b.length), i < j + 1 → a[i] = b[i]) := hid (fun i h1 h2 h => by
            by_cases he : i = j
            · subst he; rw [hx, hy]; exact hn
            · exact hall i h1 h2 (by omega))
          clear h h' hb hall hx hy hl1 hl2 hm1 hm2 hlen hn hv1 hv2
          go_wp2_with (first | ((with_reducible refine wp_region_plan (id := 6) (.eff [(false, 0), (false, 1), (false, 2), (false, 3), (false, 4), (false, 5), (false, 6), (false, 7)] 8 [] (.fin [(false, 9)])) ?_ ?_ ?_ ?_ ?_ ?_); kernel_rfl; kernel_rfl; kernel_rfl; kernel_rfl; (intro c a d v w h; cases d <;> exact h)) | (with_reducible refine wpPlan_eff ?_) | (with_reducible refine wpPlan_fin ?_) | (with_reducible refine wpPlan_two ?_) | (with_reducible refine wpOpPair ?_ ?_) | ((with_reducible apply wpPre_keep); rfl; intro K' hK'; go_simp; refine hK' _ _ ?_; intro f hf; clear hK' K') | ((with_reducible apply wpPre_drop); rfl; intro K' hK'; go_simp; refine hK' _ _ ?_; intro f; clear hK' K') | (with_reducible refine wpPre_nil ?_) | ((with_reducible apply wpOp_list); rfl) | (with_reducible refine heldPair ?_ ?_) | ((with_reducible refine heldH_no ?_ ?_); rfl) | (with_reducible refine heldH_yes ?_ ?_) | (with_reducible exact heldH_nil) | (unfold YAt; go_simp; done) | (go_at_call 31; refine (esame_any (HV1.out.below (by repeat (first | (with_reducible exact Below.refl _ _) | (with_reducible exact bl_mm) | (with_reducible refine bl_dr ?_) | (with_reducible refine bl_drN ?_ _) | (with_reducible refine bl_al ?_ _) | (with_reducible refine bl_more ?_ _ _)))) (HV2.out.below (by repeat (first | (with_reducible exact Below.refl _ _) | (with_reducible exact bl_mm) | (with_reducible refine bl_dr ?_) | (with_reducible refine bl_drN ?_ _) | (with_reducible refine bl_al ?_ _) | (with_reducible refine bl_more ?_ _ _))))).mono ?_; rintro e w1 ⟨rfl, hb1⟩; obtain ⟨ex1, dx1, rfl⟩ := more_of hb1; clear hb1; rw [HN.out]))
          all_goals (go_roundg k2)
          all_goals first | (exact ⟨j + 1, rfl, by omega, HALL2.out, bl_then HB.out (by repeat (first | (with_reducible exact Below.refl _ _) | (with_reducible exact bl_mm) | (with_reducible refine bl_dr ?_) | (with_reducible refine bl_drN ?_ _) | (with_reducible refine bl_al ?_ _) | (with_reducible refine bl_more ?_ _ _)))⟩) | omega
        · have HN := hid (decide_eq_false hn)
          have HE : Hid (decide (a = b) = false) := hid (decide_eq_false (fun he => hn (by rw [← hx, ← hy]; subst he; rfl)))
          clear h h' hb hall hn hx hy hl1 hl2 hm1 hm2 hlen hv1 hv2
          go_wp2_with (first | ((with_reducible refine wp_region_plan (id := 6) (.eff [(false, 0), (false, 1), (false, 2), (false, 3), (false, 4), (false, 5), (false, 6), (false, 7)] 8 [] (.fin [(false, 9)])) ?_ ?_ ?_ ?_ ?_ ?_); kernel_rfl; kernel_rfl; kernel_rfl; kernel_rfl; (intro c a d v w h; cases d <;> exact h)) | (with_reducible refine wpPlan_eff ?_) | (with_reducible refine wpPlan_fin ?_) | (with_reducible refine wpPlan_two ?_) | (with_reducible refine wpOpPair ?_ ?_) | ((with_reducible apply wpPre_keep); rfl; intro K' hK'; go_simp; refine hK' _ _ ?_; intro f hf; clear hK' K') | ((with_reducible apply wpPre_drop); rfl; intro K' hK'; go_simp; refine hK' _ _ ?_; intro f; clear hK' K') | (with_reducible refine wpPre_nil ?_) | ((with_reducible apply wpOp_list); rfl) | (with_reducible refine heldPair ?_ ?_) | ((with_reducible refine heldH_no ?_ ?_); rfl) | (with_reducible refine heldH_yes ?_ ?_) | (with_reducible exact heldH_nil) | (unfold YAt; go_simp; done) | (go_at_call 31; refine (esame_any (HV1.out.below (by repeat (first | (with_reducible exact Below.refl _ _) | (with_reducible exact bl_mm) | (with_reducible refine bl_dr ?_) | (with_reducible refine bl_drN ?_ _) | (with_reducible refine bl_al ?_ _) | (with_reducible refine bl_more ?_ _ _)))) (HV2.out.below (by repeat (first | (with_reducible exact Below.refl _ _) | (with_reducible exact bl_mm) | (with_reducible refine bl_dr ?_) | (with_reducible refine bl_drN ?_ _) | (with_reducible refine bl_al ?_ _) | (with_reducible refine bl_more ?_ _ _))))).mono ?_; rintro e w1 ⟨rfl, hb1⟩; obtain ⟨ex1, dx1, rfl⟩ := more_of hb1; clear hb1; rw [HN.out]))
          all_goals (try rw [Exit.noGoto_ret])
          all_goals go_ret
          all_goals rw [HE.out]
          all_goals exact ⟨rfl, bl_then HB.out (by repeat (first | (with_reducible exact Below.refl _ _) | (with_reducible exact bl_mm) | (with_reducible refine bl_dr ?_) | (with_reducible refine bl_drN ?_ _) | (with_reducible refine bl_al ?_ _) | (with_reducible refine bl_more ?_ _ _)))⟩
      · have hjl : j = a.length := by omega
        subst hjl
        have HE : Hid (decide (a = b) = true) := hid (decide_eq_true (eq_of_all hlen (fun i h1 h2 => hall i h1 h2 h1)))
        have hj1 : ¬ (a.length : Int) < (a.length : Int) := by omega
        clear h h' hb hall hl1 hl2 hm1 hm2 hlt hlen
        go_wp2
        go_ret
        rw [HE.out]
        exact ⟨rfl, HB.out⟩
  · have hlb : ((a.length : Int) != (b.length : Int)) = true := by simp only [bne_iff_ne, ne_eq]; omega
    have HE : Hid (decide (a = b) = false) := hid (decide_eq_false (fun he => hlen (by rw [he])))
    clear h h' hl1 hl2 hm1 hm2 hlen
    go_enter Try.func11, Try.ntmps11
    go_wp2
    go_ret
    rw [HE.out]
    exact ⟨rfl, (by repeat (first | (with_reducible exact Below.refl _ _) | (with_reducible exact bl_mm) | (with_reducible refine bl_dr ?_) | (with_reducible refine bl_drN ?_ _) | (with_reducible refine bl_al ?_ _) | (with_reducible refine bl_more ?_ _ _)))⟩
end Go.Proofs.Ytgpcgndmdkgbdaa

/- The document's examples are told. -/
namespace Go.Proofs.Ytgpcgndmdkgbdaa
open Go.RowKit Go.Shelf

/-- A literal row of numbers. -/
theorem row_lit {K : Nat → Prop} {w : World} {b : Nat} {l : List Int} {n : Nat} {t : TypeId} (hn : l.length = n) (h : w.heap[b]? = some (.cells (l.map (Value.int .i64)).toArray t (0, 0))) (hl : l.length ≤ 1000) (hK : K b) : intE.Row K w (.slice (some ⟨b, 0, none⟩) n n) l := by
  subst hn
  refine ⟨_, _, rfl, Nat.le_refl _, by simp only [maxLen]; omega, fun _ => ⟨b, 0, rfl, hK, (Array.getElem?_eq_some_iff.1 h).1, fun i hi => ⟨[.int .i64 l[i]], rfl, fun j u hj => ?_⟩⟩⟩
  rcases j with _ | j
  · simp only [List.getElem?_cons_zero, Option.some.injEq] at hj
    subst hj
    rw [cell_blk h, show 0 + i * Enc.sz intE + 0 = i from by simp [Enc.int, Enc.scalar]]
    simp [hi]
  · simp at hj
def BegR (w : World) (s : DS) (e : Ending) (w' : World) : Prop := ∃ d r g, e = .returned (.tuple #[.pointer (some ⟨d, 0, none⟩), .pointer (some ⟨r, 0, none⟩)]) ∧ w.heap.size ≤ d ∧ w.heap.size ≤ r ∧ w.heap.size ≤ g ∧ d < r ∧ d < g ∧ Dk w' d (fun _ => False) s ∧ Rk w' r g s ∧ Below w.heap.size w w'
theorem begun_any {w : World} {room : Int} (h0 : 0 ≤ room) (h1 : room ≤ 1048576) : Calls Try.prog 13 #[.int .i64 room] w (BegR w { fs := fs0 3, room := room, fuse := -1, down := false }) := by
  have HR0 := hid (And.intro h0 h1)
  clear h0 h1
  go_enter Try.func13, Try.ntmps13
  go_wp2_with (first | (go_at_call 23; refine (new_any (G := fun _ => False) (n := 3) (by omega) (by omega) HR0.out.1 HR0.out.2).mono ?_; rintro e w1 ⟨d, rfl, hd, hdk, hb1⟩; have HD := hid (And.intro hd hdk); obtain ⟨ex1, dx1, rfl⟩ := more_of hb1; clear hd hdk hb1) | (go_at_call 34; refine (rnew_any (n := 3) (by omega) (by omega) HR0.out.1 HR0.out.2).mono ?_; rintro e w2 ⟨r, g, rfl, hr, hg, hrk, hb2⟩; have HRK := hid (And.intro (And.intro hr hg) hrk); obtain ⟨ex2, dx2, rfl⟩ := more_of hb2; clear hr hg hrk hb2))
  go_ret2
  have h1 := HD.out.2.lt
  have h2 := HRK.out.1
  have h3 := HD.out.1
  simp only [more_size] at h1 h2
  exact ⟨d, r, g, rfl, by omega, by omega, by omega, by omega, by omega, HD.out.2.below (by repeat (first | (with_reducible exact Below.refl _ _) | (with_reducible exact bl_mm) | (with_reducible refine bl_dr ?_) | (with_reducible refine bl_drN ?_ _) | (with_reducible refine bl_al ?_ _) | (with_reducible refine bl_more ?_ _ _))), HRK.out.2, (by repeat (first | (with_reducible exact Below.refl _ _) | (with_reducible exact bl_mm) | (with_reducible refine bl_dr ?_) | (with_reducible refine bl_drN ?_ _) | (with_reducible refine bl_al ?_ _) | (with_reducible refine bl_more ?_ _ _)))⟩
theorem load_no {w : World} {d : Nat} {G : Nat → Prop} {s : DS} (h : Dk w d G s) (hn : 1 ≤ s.fs.length) (hn2 : s.fs.length ≤ 65) (i : Int) (hi : i < 0 ∨ ((s.fs.length - 1 : Nat) : Int) ≤ i) :
    Calls Try.prog 10 #[.pointer (some ⟨d, 0, none⟩), .int .i64 i] w fun e w' => e = .returned (.tuple #[.slice none 0 0, .int .i64 0]) ∧ Below w.heap.size w w' := by
  have HD := hid h
  have HS := hid (And.intro hn hn2)
  obtain ⟨n, hn'⟩ : ∃ n, s.fs.length - 1 = n := ⟨_, rfl⟩
  have HN := hid hn'
  rw [hn'] at hi
  refine (callsIn_wide (n := 9)).1 ?_
  refine callsIn_of_wp_marks Try.func10 rfl trivial ?_ rfl
  simp only [Try.ntmps10, List.size_toArray, List.length_cons, List.length_nil, Nat.reduceAdd, Nat.reduceSub, Array.replicate_succ, Array.replicate_zero, List.push_toArray, List.append_toArray, List.nil_append, List.cons_append]
  refine wpIn_wide.2 ?_
  by_cases h1 : i < 0
  · clear h hn hn2 hn' hi
    go_wp2_with (first | ((with_reducible refine wp_region_plan (id := 8) (.eff [(true, 0), (false, 1), (false, 2), (true, 5), (true, 6)] 3 [0, 5, 6] (.eff [] 4 [5, 6] (.eff [] 7 [5, 6] (.eff [] 8 [] (.fin []))))) ?_ ?_ ?_ ?_ ?_ ?_); kernel_rfl; kernel_rfl; kernel_rfl; kernel_rfl; (intro c a d v w h; cases d <;> exact h)) | ((with_reducible refine wp_region_plan (id := 9) (.fin [(false, 0), (false, 1), (false, 2), (false, 3)]) ?_ ?_ ?_ ?_ ?_ ?_); kernel_rfl; kernel_rfl; kernel_rfl; kernel_rfl; (intro c a d v w h; cases d <;> exact h)) | (with_reducible refine wpPlan_eff ?_) | (with_reducible refine wpPlan_fin ?_) | (with_reducible refine wpPlan_two ?_) | (with_reducible refine wpOpPair ?_ ?_) | ((with_reducible apply wpPre_keep); rfl; intro K' hK'; go_simp; refine hK' _ _ ?_; intro f hf; clear hK' K') | ((with_reducible apply wpPre_drop); rfl; intro K' hK'; go_simp; refine hK' _ _ ?_; intro f; clear hK' K') | (with_reducible refine wpPre_nil ?_) | ((with_reducible apply wpOp_list); rfl) | (with_reducible refine heldPair ?_ ?_) | ((with_reducible refine heldH_no ?_ ?_); rfl) | (with_reducible refine heldH_yes ?_ ?_) | (with_reducible exact heldH_nil) | (unfold YAt; go_simp; done) | (go_at_call 29; refine (width_any (HD.out.below (by repeat (first | (with_reducible exact Below.refl _ _) | (with_reducible exact bl_mm) | (with_reducible refine bl_dr ?_) | (with_reducible refine bl_drN ?_ _) | (with_reducible refine bl_al ?_ _) | (with_reducible refine bl_more ?_ _ _)))) HS.out.1 HS.out.2).mono ?_; rintro e w1 ⟨rfl, hb1⟩; obtain ⟨ex1, dx1, rfl⟩ := more_of hb1; clear hb1; rw [HN.out]))
    exact ⟨_, results_tmp2 rfl _ _ _, rfl, (by repeat (first | (with_reducible exact Below.refl _ _) | (with_reducible exact bl_mm) | (with_reducible refine bl_dr ?_) | (with_reducible refine bl_drN ?_ _) | (with_reducible refine bl_al ?_ _) | (with_reducible refine bl_more ?_ _ _)))⟩
  · have h2 : (n : Int) ≤ i := by omega
    clear h hn hn2 hn' hi
    go_wp2_with (first | ((with_reducible refine wp_region_plan (id := 8) (.eff [(true, 0), (false, 1), (false, 2), (true, 5), (true, 6)] 3 [0, 5, 6] (.eff [] 4 [5, 6] (.eff [] 7 [5, 6] (.eff [] 8 [] (.fin []))))) ?_ ?_ ?_ ?_ ?_ ?_); kernel_rfl; kernel_rfl; kernel_rfl; kernel_rfl; (intro c a d v w h; cases d <;> exact h)) | ((with_reducible refine wp_region_plan (id := 9) (.fin [(false, 0), (false, 1), (false, 2), (false, 3)]) ?_ ?_ ?_ ?_ ?_ ?_); kernel_rfl; kernel_rfl; kernel_rfl; kernel_rfl; (intro c a d v w h; cases d <;> exact h)) | (with_reducible refine wpPlan_eff ?_) | (with_reducible refine wpPlan_fin ?_) | (with_reducible refine wpPlan_two ?_) | (with_reducible refine wpOpPair ?_ ?_) | ((with_reducible apply wpPre_keep); rfl; intro K' hK'; go_simp; refine hK' _ _ ?_; intro f hf; clear hK' K') | ((with_reducible apply wpPre_drop); rfl; intro K' hK'; go_simp; refine hK' _ _ ?_; intro f; clear hK' K') | (with_reducible refine wpPre_nil ?_) | ((with_reducible apply wpOp_list); rfl) | (with_reducible refine heldPair ?_ ?_) | ((with_reducible refine heldH_no ?_ ?_); rfl) | (with_reducible refine heldH_yes ?_ ?_) | (with_reducible exact heldH_nil) | (unfold YAt; go_simp; done) | (go_at_call 29; refine (width_any (HD.out.below (by repeat (first | (with_reducible exact Below.refl _ _) | (with_reducible exact bl_mm) | (with_reducible refine bl_dr ?_) | (with_reducible refine bl_drN ?_ _) | (with_reducible refine bl_al ?_ _) | (with_reducible refine bl_more ?_ _ _)))) HS.out.1 HS.out.2).mono ?_; rintro e w1 ⟨rfl, hb1⟩; obtain ⟨ex1, dx1, rfl⟩ := more_of hb1; clear hb1; rw [HN.out]))
    exact ⟨_, results_tmp2 rfl _ _ _, rfl, (by repeat (first | (with_reducible exact Below.refl _ _) | (with_reducible exact bl_mm) | (with_reducible refine bl_dr ?_) | (with_reducible refine bl_drN ?_ _) | (with_reducible refine bl_al ?_ _) | (with_reducible refine bl_more ?_ _ _)))⟩
end Go.Proofs.Ytgpcgndmdkgbdaa

/- lives. -/
namespace Go.Proofs.Ytgpcgndmdkgbdaa
open Go.RowKit Go.Shelf

theorem x0_ok : x0.Ok 500 := ⟨by decide, by decide, by decide, by decide, by decide, by decide, by decide⟩
theorem x1_ok : x1.Ok 500 := ⟨by decide, by decide, by decide, by decide, by decide, by decide, by decide⟩
theorem x2_ok : x2.Ok 500 := ⟨by decide, by decide, by decide, by decide, by decide, by decide, by decide⟩
theorem x3_ok : x3.Ok 500 := ⟨by decide, by decide, by decide, by decide, by decide, by decide, by decide⟩
theorem x4_ok : x4.Ok 500 := ⟨by decide, by decide, by decide, by decide, by decide, by decide, by decide⟩
theorem Dv.of {w0 w w' : World} {d : Nat} {s : DS} {p : DS × Int} {e : Ending} (h : Dv w0 w d s) (hd : DkTo w d (fun b => w0.heap.size ≤ b) p e w') : e = .returned (.int .i64 p.2) ∧ Dv w0 w' d p.1 := ⟨hd.1, h.to hd.2.1 hd.2.2⟩
theorem bapp_dv {w0 w : World} {d : Nat} {s s' : DS} {C c i k it t : Int} {v : Value} {st : List Int} (h : Dv w0 w d s) (hs : s.Ok C) (hC : C ≤ 1000000000) (hr : intE.Row (fun b => b < w.heap.size) w v st) (hsl : st.length ≤ 4000000000) (hp : appB s i (k, it, t, st) = (s', c)) :
    Calls Try.prog 22 #[.pointer (some ⟨d, 0, none⟩), .int .i64 i, evV k it t v] w fun e w' => e = .returned (.int .i64 c) ∧ Dv w0 w' d s' :=
  (bapp_any (i := i) (k := k) (it := it) (t := t) h.dk hs hC hr (fun _ hb => hb) hsl).mono fun e w' hd => by
    have := h.of hd
    rw [hp] at this
    exact this
theorem begin_dv {w0 w : World} {d : Nat} {s s' : DS} {C c : Int} {text : ByteArray} (h : Dv w0 w d s) (hs : s.Ok C) (hC : C ≤ 1000000000) (htx : text.size ≤ 100000000) (hp : beginS s text = (s', c)) :
    Calls Try.prog 15 #[.pointer (some ⟨d, 0, none⟩), .string text] w fun e w' => e = .returned (.int .i64 c) ∧ Dv w0 w' d s' :=
  (begin_any h.dk hs hC htx).mono fun e w' hd => by
    have := h.of hd
    rw [hp] at this
    exact this
theorem told_dv {w0 w : World} {d : Nat} {s : DS} {C c : Int} {T : ByteArray} (h : Dv w0 w d s) (hs : s.Ok C) (hC : C ≤ 1000000000) (hp : toldV (byt (fileB s (s.fs.length - 1))) = (T, c)) :
    Calls Try.prog 17 #[.pointer (some ⟨d, 0, none⟩)] w fun e w' => e = .returned (.tuple #[.string T, .int .i64 c]) ∧ Below w.heap.size w w' := by
  have hn := hs.n1
  refine (told_any (i := s.fs.length - 1) (B := fileB s (s.fs.length - 1)) h.dk hs hC (by omega) (by unfold fileB; simp [show s.fs.length - 1 < s.fs.length by omega])).mono fun e w' ⟨h1, h2⟩ => ⟨?_, h2⟩
  rw [hp] at h1
  exact h1
theorem load_dv {w0 w : World} {d : Nat} {s : DS} {C : Int} {i : Nat} {L : List (Ev × Nat)} (h : Dv w0 w d s) (hs : s.Ok C) (hC : C ≤ 1000000000) (hi : i + 1 < s.fs.length) (hp : logW (byt (fileB s i)) i ((s.fs.length - 1 : Nat) : Int) = L) :
    Calls Try.prog 10 #[.pointer (some ⟨d, 0, none⟩), .int .i64 i] w (LoadR L w) := by
  have := load_any h.dk hs hC i (by omega) hi
  rw [show s.fs[i].b = fileB s i by unfold fileB; simp [show i < s.fs.length by omega], hp] at this
  exact this
set_option maxRecDepth 8000 in
set_option maxHeartbeats 4000000 in
theorem lives_any {w : World} : Calls Try.prog 8 #[] w fun e w' => e = .returned (.bool true) ∧ Below w.heap.size w w' := by
  have hat : atF [((1, 1, 0, [1, 0]), 11), ((2, 1, 0, [2, 0]), 22)] 2 = 22 := by kernel_rfl
  have hem : (ByteArray.empty.toList == []) = true := by kernel_rfl
  have hem2 : (ByteArray.empty.toList == (ByteArray.mk #[]).toList) = true := by kernel_rfl
  have htx : (txt.toList == [116, 101, 120, 116]) = true := by kernel_rfl
  have htx2 : (txt.toList == (ByteArray.mk #[116, 101, 120, 116]).toList) = true := by kernel_rfl
  have M1 := hid trivial
  have M2 := hid trivial
  have M3 := hid trivial
  have M4 := hid trivial
  have MT1 := hid trivial
  have MT2 := hid trivial
  go_enter Try.func8, Try.ntmps8
  go_wp2_with (first | (go_at_call 13; refine (begun_any (room := 500) (by omega) (by omega)).mono ?_; rintro e w1 ⟨d, r, g, rfl, hd, _, _, _, _, hdk, _, hb1⟩; have HD0 : Hid (Dv w w1 d x0) := hid ⟨hdk.mono (fun _ h _ => h.elim), hb1, hd⟩; clear hd hdk hb1))
  go_wp2_with (first | (go_at_call 22; clear M1; refine (bapp_dv (st := [1, 0]) (HD0.out.below (by repeat (first | (with_reducible exact Below.refl _ _) | (with_reducible exact bl_mm) | (with_reducible refine bl_dr ?_) | (with_reducible refine bl_drN ?_ _) | (with_reducible refine bl_al ?_ _) | (with_reducible refine bl_more ?_ _ _)))) x0_ok (by omega) (row_lit (n := 2) rfl (alloc_blk (by rfl)) (by simp) (by simp)) (by simp) xa1).mono ?_; rintro e w2 ⟨rfl, hd1⟩; have HD1 := hid hd1; clear hd1))
  go_wp2_with (first | (go_at_call 22; clear M2; refine (bapp_dv (st := [2, 0]) (HD1.out.below (by repeat (first | (with_reducible exact Below.refl _ _) | (with_reducible exact bl_mm) | (with_reducible refine bl_dr ?_) | (with_reducible refine bl_drN ?_ _) | (with_reducible refine bl_al ?_ _) | (with_reducible refine bl_more ?_ _ _)))) x1_ok (by omega) (row_lit (n := 2) rfl (alloc_blk (by rfl)) (by simp) (by simp)) (by simp) xa2).mono ?_; rintro e w3 ⟨rfl, hd2⟩; have HD2 := hid hd2; clear hd2))
  go_wp2_with (first | (go_at_call 22; clear M3; refine (bapp_dv (st := [9, 0]) (HD2.out.below (by repeat (first | (with_reducible exact Below.refl _ _) | (with_reducible exact bl_mm) | (with_reducible refine bl_dr ?_) | (with_reducible refine bl_drN ?_ _) | (with_reducible refine bl_al ?_ _) | (with_reducible refine bl_more ?_ _ _)))) x2_ok (by omega) (row_lit (n := 2) rfl (alloc_blk (by rfl)) (by simp) (by simp)) (by simp) xa3).mono ?_; rintro e w4 ⟨rfl, hd3⟩; have HD3 := hid hd3; clear hd3))
  go_wp2_with (first | (go_at_call 22; clear M4; refine (bapp_dv (st := [1]) (HD3.out.below (by repeat (first | (with_reducible exact Below.refl _ _) | (with_reducible exact bl_mm) | (with_reducible refine bl_dr ?_) | (with_reducible refine bl_drN ?_ _) | (with_reducible refine bl_al ?_ _) | (with_reducible refine bl_more ?_ _ _)))) x3_ok (by omega) (row_lit (n := 1) rfl (alloc_blk (by rfl)) (by simp) (by simp)) (by simp) xa4).mono ?_; rintro e w5 ⟨rfl, hd4⟩; have HD4 := hid hd4; clear hd4))
  go_wp2_with (first | (go_at_call 10; refine (load_dv (i := 0) (HD4.out.below (by repeat (first | (with_reducible exact Below.refl _ _) | (with_reducible exact bl_mm) | (with_reducible refine bl_dr ?_) | (with_reducible refine bl_drN ?_ _) | (with_reducible refine bl_al ?_ _) | (with_reducible refine bl_more ?_ _ _)))) x3_ok (by omega) (by decide) xl).mono ?_; rintro e w6 ⟨v6, g6, rfl, ho6, hb6⟩; obtain ⟨A6, c6, rfl, _, _⟩ := ho6.sp.form; obtain ⟨ex6, dx6, rfl⟩ := more_of hb6; clear ho6 hb6) | (go_at_call 17; clear MT1; refine (told_dv (HD4.out.below (by repeat (first | (with_reducible exact Below.refl _ _) | (with_reducible exact bl_mm) | (with_reducible refine bl_dr ?_) | (with_reducible refine bl_drN ?_ _) | (with_reducible refine bl_al ?_ _) | (with_reducible refine bl_more ?_ _ _)))) x3_ok (by omega) xt).mono ?_; rintro e w7 ⟨rfl, hb7⟩; obtain ⟨ex7, dx7, rfl⟩ := more_of hb7; clear hb7))
  go_wp2_with (first | (go_at_call 15; refine (begin_dv (text := txt) (HD4.out.below (by repeat (first | (with_reducible exact Below.refl _ _) | (with_reducible exact bl_mm) | (with_reducible refine bl_dr ?_) | (with_reducible refine bl_drN ?_ _) | (with_reducible refine bl_al ?_ _) | (with_reducible refine bl_more ?_ _ _)))) x3_ok (by omega) (by decide) xb).mono ?_; rintro e w8 ⟨rfl, hd5⟩; have HD5 := hid hd5; clear hd5))
  go_wp2_with (first | (go_at_call 17; clear MT2; refine (told_dv (HD5.out.below (by repeat (first | (with_reducible exact Below.refl _ _) | (with_reducible exact bl_mm) | (with_reducible refine bl_dr ?_) | (with_reducible refine bl_drN ?_ _) | (with_reducible refine bl_al ?_ _) | (with_reducible refine bl_more ?_ _ _)))) x4_ok (by omega) xu).mono ?_; rintro e w9 ⟨rfl, hb9⟩; obtain ⟨ex9, dx9, rfl⟩ := more_of hb9; clear hb9))
  go_ret
  exact ⟨rfl, bl_then HD5.out.bw (by repeat (first | (with_reducible exact Below.refl _ _) | (with_reducible exact bl_mm) | (with_reducible refine bl_dr ?_) | (with_reducible refine bl_drN ?_ _) | (with_reducible refine bl_al ?_ _) | (with_reducible refine bl_more ?_ _ _)))⟩
end Go.Proofs.Ytgpcgndmdkgbdaa

/- Plain: what was put is taken. -/
namespace Go.Proofs.Ytgpcgndmdkgbdaa

/-- Bytes stand at a place. -/
def Sits (bs : List Int) (a : Nat) (xs : List Int) : Prop := ∃ pre post, bs = pre ++ xs ++ post ∧ pre.length = a
theorem Sits.left {bs : List Int} {a : Nat} {xs ys : List Int} (h : Sits bs a (xs ++ ys)) : Sits bs a xs := by
  obtain ⟨p, q, h1, h2⟩ := h
  exact ⟨p, ys ++ q, by rw [h1]; simp, h2⟩
theorem Sits.right {bs : List Int} {a : Nat} {xs ys : List Int} (h : Sits bs a (xs ++ ys)) : Sits bs (a + xs.length) ys := by
  obtain ⟨p, q, h1, h2⟩ := h
  exact ⟨p ++ xs, q, by rw [h1]; simp, by simp [h2]⟩
theorem Sits.all (xs : List Int) : Sits xs 0 xs := ⟨[], [], by simp, rfl⟩
theorem Sits.get {bs : List Int} {a : Nat} {xs : List Int} (h : Sits bs a xs) (i : Nat) (hi : i < xs.length) : bs[a + i]? = some xs[i] := by
  obtain ⟨p, q, rfl, rfl⟩ := h
  rw [List.append_assoc, List.getElem?_append_right (by omega), List.getElem?_append_left (by omega)]
  rw [show p.length + i - p.length = i by omega]
  exact List.getElem?_eq_getElem hi
theorem Sits.le {bs : List Int} {a : Nat} {xs : List Int} (h : Sits bs a xs) : a + xs.length ≤ bs.length := by
  obtain ⟨p, q, rfl, rfl⟩ := h
  simp
theorem oneL_pos (n : Nat) : 1 ≤ (oneL n).length := by
  by_cases h : n < 128
  · rw [oneL_small h]; simp
  · rw [oneL_more h]; simp
/-- A number taken. -/
theorem tk_at {bs : List Int} {a : Nat} (v : Nat) : ∀ (i n k : Nat), 5 - k = i → k ≤ 5 → Sits bs (a + i) (oneL v) → (i = 0 ∨ 0 < v) → isN ((n + v * 2 ^ (7 * i) : Nat) : Int) = true → i + (oneL v).length ≤ 6 →
    tkW bs a n (k + 1) = (((n + v * 2 ^ (7 * i) : Nat) : Int), ((a + i + (oneL v).length : Nat) : Int), 0) := by
  induction v using Nat.strongRecOn with
  | _ v ih =>
    intro i n k hik hk hs hz hn hl
    by_cases h : v < 128
    · rw [oneL_small h] at hs hl ⊢
      have hg := hs.get 0 (by simp)
      rw [tk_some (c := v) (m := n + v * 2 ^ (7 * i)) hik (by simpa using hg) (by rw [Nat.mod_eq_of_lt h]), if_pos h, if_neg]
      · simp
      · rintro (h1 | ⟨h1, h2⟩)
        · rw [hn] at h1; cases h1
        · omega
    · rw [oneL_more h] at hs hl ⊢
      have hg := hs.get 0 (by simp)
      have hk' : 1 ≤ k := by simp only [List.length_cons] at hl; have := oneL_pos (v / 128); omega
      obtain ⟨k', rfl⟩ : ∃ k', k = k' + 1 := ⟨k - 1, by omega⟩
      have e1 : n + (v % 128 + 128) % 128 * 2 ^ (7 * i) = n + v % 128 * 2 ^ (7 * i) := by rw [Nat.add_mod_right, Nat.mod_mod]
      have e2 : n + v % 128 * 2 ^ (7 * i) + v / 128 * 2 ^ (7 * (i + 1)) = n + v * 2 ^ (7 * i) := by
        rw [show 7 * (i + 1) = 7 * i + 7 by omega, Nat.pow_add]
        have := Nat.div_add_mod v 128
        generalize 2 ^ (7 * i) = P at *
        rw [show (2 : Nat) ^ 7 = 128 from rfl, Nat.add_assoc]
        congr 1
        rw [← Nat.mul_assoc, Nat.mul_right_comm, ← Nat.add_mul]
        congr 1
        omega
      rw [tk_some (c := v % 128 + 128) (m := n + v % 128 * 2 ^ (7 * i)) hik (by simpa using hg) e1, if_neg (by omega)]
      have hs2 : Sits bs (a + (i + 1)) (oneL (v / 128)) := by
        have : Sits bs (a + i) ([((v % 128 + 128 : Nat) : Int)] ++ oneL (v / 128)) := hs
        simpa [Nat.add_assoc] using this.right
      rw [ih (v / 128) (by omega) (i + 1) (n + v % 128 * 2 ^ (7 * i)) k' (by omega) (by omega) hs2 (.inr (by omega)) (by rw [e2]; exact hn) (by simp only [List.length_cons] at hl; omega), e2]
      simp only [List.length_cons]
      congr 2
      omega
theorem isN_nat {x : Int} (h : isN x = true) : 0 ≤ x ∧ x ≤ 1099511627776 ∧ ((x.toNat : Nat) : Int) = x := by
  unfold isN at h
  simp at h
  omega
theorem oneL_6 {n : Nat} (h : n ≤ 1099511627776) : (oneL n).length ≤ 6 := oneL_len 5 n (by omega)
theorem take_at {bs : List Int} {a : Nat} {x : Int} (hx : isN x = true) (h : Sits bs a (oneL x.toNat)) : tkW bs a 0 6 = (x, ((a + (oneL x.toNat).length : Nat) : Int), 0) := by
  obtain ⟨h1, h2, h3⟩ := isN_nat hx
  have := tk_at (a := a) x.toNat 0 0 5 rfl (by omega) h (.inl rfl) (by simpa [h3] using hx) (by have := oneL_6 (n := x.toNat) (by omega); omega)
  simpa [h3] using this
theorem tkA_at {bs : List Int} : ∀ (l : List Int) (a : Nat) (out : List Int), (∀ x ∈ l, isN x = true) → Sits bs a (manyL l) → tkA bs l.length a out = (out ++ l, ((a + (manyL l).length : Nat) : Int), 0)
  | [], a, out, _, _ => by simp [tkA, manyL]
  | x :: l, a, out, hx, hs => by
    have e : manyL (x :: l) = oneL x.toNat ++ manyL l := by simp [manyL]
    rw [e] at hs ⊢
    rw [List.length_cons, tkA, take_at (hx x (by simp)) hs.left]
    simp only [if_true]
    rw [Int.toNat_natCast, tkA_at l _ _ (fun y hy => hx y (by simp [hy])) hs.right]
    simp [Nat.add_assoc]
theorem takes_at {bs : List Int} {a : Nat} {l : List Int} (hl : ∀ x ∈ l, isN x = true) (h2 : l.length ≤ 255) (h : Sits bs a (putsL l)) : takesW bs a = (l, ((a + (putsL l).length : Nat) : Int), 0) := by
  unfold putsL at h ⊢
  have hn : isN (l.length : Int) = true := by unfold isN; simp; omega
  unfold takesW
  rw [take_at hn (by simpa using h.left)]
  simp only [if_true]
  rw [if_neg (by omega), Int.toNat_natCast, Int.toNat_natCast, tkA_at l _ _ hl (by simpa using h.right)]
  simp [Nat.add_assoc]
theorem sread_at {bs : List Int} {a : Nat} {l : List Int} (hl : rightS l = true) (h : Sits bs a (putsL l)) : sreadW bs a = (l, ((a + (putsL l).length : Nat) : Int), 0) := by
  obtain ⟨h1, h2, h3⟩ := rightS_parts hl
  unfold sreadW
  rw [takes_at h3 (by omega) h]
  simp [hl]
/-- **AN EVENT'S BYTES ARE READ AS THE EVENT.** -/
theorem read_bytes {k i t : Int} {st : List Int} (h : rightE k i t st = true) : readE (bytesE k i t st) = some (k, i, t, st) := by
  obtain ⟨h1, h2, h3, h4, h5, h6, h7, h8⟩ := rightE_k h
  have hi : isN i = true := by unfold isN; simp; omega
  have ht : isN t = true := by unfold isN; simp; omega
  have s0 := Sits.all (bytesE k i t st)
  unfold bytesE at s0
  simp only [List.append_assoc] at s0
  have s1 : Sits (bytesE k i t st) 1 (oneL i.toNat ++ ((if k ≤ 3 then [] else oneL t.toNat) ++ putsL st)) := by
    have := s0.right
    simpa [bytesE] using this
  have hd : (bytesE k i t st).headD 0 = k := by unfold bytesE; rfl
  have hne : bytesE k i t st ≠ [] := by unfold bytesE; simp
  have hlen : (bytesE k i t st).length = 1 + (oneL i.toNat).length + (if k ≤ 3 then [] else oneL t.toNat).length + (putsL st).length := by unfold bytesE; simp; omega
  have hh : ∃ q : Nat, headE (bytesE k i t st) = (i, t, (q : Int), 0) ∧ Sits (bytesE k i t st) q (putsL st) ∧ q + (putsL st).length = (bytesE k i t st).length := by
    unfold headE
    rw [take_at hi s1.left, hd]
    simp only [true_and]
    by_cases hk : 3 < k
    · rw [if_pos hk, if_neg (by omega)] at *
      have s2 := s1.right
      simp only [Int.toNat_natCast]
      rw [take_at ht (by simpa [show ¬ k ≤ 3 by omega] using s2.left)]
      refine ⟨_, rfl, by simpa [show ¬ k ≤ 3 by omega] using s2.right, by omega⟩
    · have hk3 : k ≤ 3 := by omega
      obtain rfl := h7 hk3
      rw [if_neg hk]
      rw [if_pos hk3] at hlen
      have s2 := s1.right
      rw [if_pos hk3] at s2
      refine ⟨_, rfl, by simpa using s2, by simp at hlen; omega⟩
  obtain ⟨q, hq, hs, hl⟩ := hh
  rw [readE_check (k := k) (p := (q : Int)) hne hq (by rw [Int.toNat_natCast, sread_at h8 hs, hl]) hd, if_pos h]
end Go.Proofs.Ytgpcgndmdkgbdaa

/- Plain: frames taken; a log that was cut off. -/
namespace Go.Proofs.Ytgpcgndmdkgbdaa

theorem tailL_word {s : Nat} (h : s < 4294967296) : wordL (tailL s) = s := by
  unfold wordL tailL
  simp only [Int.toNat_natCast]
  omega
theorem frame_take {body : List Int} : (frameL body).take (body.length + 2) = headL body ∧ (frameL body).drop (body.length + 2) = tailL (sumW (headL body)) := by
  have : (headL body).length = body.length + 2 := by unfold headL; simp
  unfold frameL
  exact ⟨by rw [List.take_append_of_le_length (by omega), List.take_of_length_le (by omega)], by rw [List.drop_append_of_le_length (by omega), List.drop_of_length_le (by omega), List.nil_append]⟩
theorem hdr_frame {body rest : List Int} (_hl : body.length ≤ 1024) : hdr (frameL body ++ rest) = body.length := by
  rw [hdr_of (c0 := body.length / 256) (c1 := body.length % 256) (by unfold frameL headL; simp) (by unfold frameL headL; simp)]
  omega
/-- **A FRAME IS TAKEN AS IT WAS PUT.** -/
theorem frame_at {bs : List Int} {a : Nat} {body : List Int} (hb : ∀ b ∈ body, 0 ≤ b ∧ b < 256) (hl : body.length ≤ 1024) (h : Sits bs a (frameL body)) : takeF bs a = (body, a + (body.length + 6), 0) := by
  obtain ⟨p, q, rfl, rfl⟩ := h
  have hd : (p ++ frameL body ++ q).drop p.length = frameL body ++ q := by rw [List.append_assoc, List.drop_left]
  have hs : sizeF (frameL body ++ q) = (body.length + 6, 0) := by
    unfold sizeF
    rw [hdr_frame hl, if_neg (by simp [frameL_len]), if_neg (by simp [frameL_len]; omega), if_neg (by omega), if_neg (by simp [frameL_len])]
  have ht : ((p ++ frameL body ++ q).take (p.length + (body.length + 6))).drop p.length = frameL body := by
    rw [List.append_assoc, List.take_length_add_append, List.drop_left, ← frameL_len (body := body), List.take_left]
  unfold takeF
  rw [hd, hs]
  simp only [ne_eq, not_true_eq_false, if_false]
  rw [ht, show body.length + 6 - 4 = body.length + 2 by omega, frame_take.1, frame_take.2, tailL_word (sumW_lt (headL_in hb hl)), if_neg (by simp)]
  congr 1
  rw [show body.length + 6 - 6 = body.length by omega]
  unfold frameL headL
  rw [List.append_assoc]
  simp
/-- A frame that is cut off is none. -/
theorem frame_short {bs : List Int} {a r : Nat} {body rest : List Int} (hl : body.length ≤ 1024) (h : bs.drop a = (frameL body ++ rest).take r) (hr : r < body.length + 6) : (takeF bs a).2.2 ≠ 0 := by
  have hlen : (bs.drop a).length = r := by rw [h, List.length_take, List.length_append, frameL_len]; omega
  have hs : (sizeF (bs.drop a)).2 ≠ 0 := by
    unfold sizeF
    split
    · simp
    · split
      · simp
      · rename_i h0 h1
        have hh : hdr (bs.drop a) = body.length := by
          rw [h]
          have h2 : 2 ≤ r := by omega
          rw [hdr_of (c0 := body.length / 256) (c1 := body.length % 256) (by rw [List.getElem?_take_of_lt (by omega)]; unfold frameL headL; simp) (by rw [List.getElem?_take_of_lt (by omega)]; unfold frameL headL; simp)]
          omega
        rw [hh, if_neg (by omega), if_pos (by omega)]
        simp
  unfold takeF
  rw [if_pos hs]
  exact hs
theorem frame_none {bs : List Int} {a : Nat} (h : bs.drop a = []) : (takeF bs a).2.2 ≠ 0 := by
  unfold takeF sizeF
  rw [h]
  simp
def evF (e : Ev) : List Int := frameL (bytesE e.1 e.2.1 e.2.2.1 e.2.2.2)
def flE (es : List Ev) : List Int := es.flatMap evF
/-- Where each event ends. -/
def ends : Nat → List Ev → List (Ev × Nat)
  | _, [] => []
  | a, e :: r => (e, a + (evF e).length) :: ends (a + (evF e).length) r
def okE (e : Ev) : Bool := rightE e.1 e.2.1 e.2.2.1 e.2.2.2
theorem evF_len {e : Ev} : (evF e).length = (bytesE e.1 e.2.1 e.2.2.1 e.2.2.2).length + 6 := frameL_len
theorem evF_big {e : Ev} (h : okE e = true) : (bytesE e.1 e.2.1 e.2.2.1 e.2.2.2).length ≤ 1024 := by have := bytesE_len h; omega
theorem evB_in {e : Ev} (h : okE e = true) : ∀ b ∈ bytesE e.1 e.2.1 e.2.2.1 e.2.2.2, 0 ≤ b ∧ b < 256 := bytesE_in (by have := rightE_k h; omega)
theorem flE_in {es : List Ev} (h : ∀ e ∈ es, okE e = true) : ∀ b ∈ flE es, 0 ≤ b ∧ b < 256 := by
  intro b hb
  obtain ⟨e, he, hb⟩ := List.mem_flatMap.1 hb
  exact frameL_in (evB_in (h e he)) (evF_big (h e he)) b hb
/-- **A LOG THAT WAS CUT OFF: what is whole of it.** -/
theorem log_cut {bs : List Int} {i n : Int} : ∀ (es : List Ev) (f k a r : Nat), es.length < f → bs.drop a = (flE es).take r → (∀ j e, es[j]? = some e → okE e = true ∧ (e.2.2.2.length : Int) = n ∧ (if 0 ≤ i then e.2.2.2.getD i.toNat 0 else 0) = ((k + j : Nat) : Int)) → a ≤ bs.length →
    logF bs i n f k a = (ends a es).takeWhile (fun p => p.2 ≤ a + r)
  | [], f + 1, k, a, r, hf, hd, hok, ha => by
    rw [logF_succ, nextF]
    have hd : bs.drop a = [] := by rw [hd]; simp [flE]
    rw [if_neg (frame_none hd)]
    rfl
  | e :: es, f + 1, k, a, r, hf, hd, hok, ha => by
    obtain ⟨h1, h2, h3⟩ := hok 0 e rfl
    have hfl : flE (e :: es) = evF e ++ flE es := by simp [flE]
    rw [hfl] at hd
    rw [logF_succ, ends]
    by_cases hr : (evF e).length ≤ r
    · have hd2 : bs.drop a = evF e ++ (flE es).take (r - (evF e).length) := by rw [hd, List.take_append, List.take_of_length_le hr]
      have hs : Sits bs a (evF e) := ⟨bs.take a, (flE es).take (r - (evF e).length), by rw [List.append_assoc, ← hd2, List.take_append_drop], by rw [List.length_take]; omega⟩
      have hn : nextF bs i n k a = some (e, a + (evF e).length) := by
        rw [nextF_is (frame_at (evB_in h1) (evF_big h1) hs) (read_bytes h1), if_pos ⟨h2, by simpa using h3⟩, evF_len]
      rw [hn]
      simp only
      rw [List.takeWhile_cons_of_pos (by simp; omega)]
      congr 1
      have hle := hs.le
      rw [log_cut es f (k + 1) (a + (evF e).length) (r - (evF e).length) (by simp at hf; omega) (by rw [← List.drop_drop, hd2, List.drop_left]) (fun j e' hj => by
        have := hok (j + 1) e' hj
        rwa [show k + (j + 1) = k + 1 + j by omega] at this) hle]
      congr 1
      funext p
      congr 1
      apply propext
      omega
    · have hne : (takeF bs a).2.2 ≠ 0 := frame_short (body := bytesE e.1 e.2.1 e.2.2.1 e.2.2.2) (rest := flE es) (evF_big h1) hd (by rw [evF_len] at hr; omega)
      rw [nextF, if_neg hne]
      rw [List.takeWhile_cons_of_neg (by simp; omega)]
theorem ends_map : ∀ (es : List Ev) (a : Nat), (ends a es).map (·.1) = es
  | [], _ => rfl
  | e :: es, a => by simp [ends, ends_map es]
theorem ends_le : ∀ (es : List Ev) (a : Nat), ∀ p ∈ ends a es, p.2 ≤ a + (flE es).length
  | [], _, p, hp => by simp [ends] at hp
  | e :: es, a, p, hp => by
    have hfl : (flE (e :: es)).length = (evF e).length + (flE es).length := by simp [flE]
    rw [ends] at hp
    rcases List.mem_cons.1 hp with rfl | hp
    · simp only; omega
    · have := ends_le es _ p hp
      omega
theorem ends_last : ∀ (es : List Ev) (a : Nat), ((ends a es).map (·.2)).getLast?.getD a = a + (flE es).length
  | [], a => by simp [ends, flE]
  | e :: es, a => by
    have hfl : (flE (e :: es)).length = (evF e).length + (flE es).length := by simp [flE]
    have := ends_last es (a + (evF e).length)
    rw [ends, List.map_cons, hfl]
    cases hc : (ends (a + (evF e).length) es).map (·.2) with
    | nil =>
      rw [hc] at this
      simp at this ⊢
      have h0 : es = [] := by
        have := congrArg List.length hc
        cases es with
        | nil => rfl
        | cons => simp [ends] at this
      subst h0
      simp [flE]
    | cons x l =>
      rw [hc] at this
      rw [List.getLast?_cons_cons]
      obtain ⟨y, hy⟩ : ∃ y, (x :: l).getLast? = some y := by
        cases h : (x :: l).getLast? with
        | none => exact absurd (List.getLast?_eq_none_iff.1 h) (by simp)
        | some y => exact ⟨y, rfl⟩
      rw [hy] at this ⊢
      simp at this ⊢
      omega
theorem takeWhile_all {α : Type} {p : α → Bool} : ∀ {l : List α}, (∀ x ∈ l, p x = true) → l.takeWhile p = l
  | [], _ => rfl
  | x :: l, h => by rw [List.takeWhile_cons_of_pos (h x (by simp)), takeWhile_all (fun y hy => h y (by simp [hy]))]
/-- **A WHOLE LOG IS TOLD AS IT WAS APPENDED.** -/
theorem log_all {es : List Ev} {i n : Int} (hok : ∀ j e, es[j]? = some e → okE e = true ∧ (e.2.2.2.length : Int) = n ∧ (if 0 ≤ i then e.2.2.2.getD i.toNat 0 else 0) = ((1 + j : Nat) : Int)) :
    logW (flE es) i n = ends 0 es := by
  have hlen : es.length ≤ (flE es).length := by
    clear hok
    induction es with
    | nil => simp
    | cons e es ih =>
      have hfl : (flE (e :: es)).length = (evF e).length + (flE es).length := by simp [flE]
      rw [hfl, evF_len, List.length_cons]
      omega
  unfold logW
  rw [log_cut es _ 1 0 (flE es).length (by omega) (by simp) hok (Nat.zero_le _), takeWhile_all]
  intro p hp
  have := ends_le es 0 p hp
  simpa using this
end Go.Proofs.Ytgpcgndmdkgbdaa

/- Plain: events laid on a branch of two. -/
namespace Go.Proofs.Ytgpcgndmdkgbdaa

def evG (e : Ev) (j : Nat) : Ev := (e.1, e.2.1, e.2.2.1, [0, (j : Int) + 1])
def evsN (l : List Ev) (j : Nat) : List Ev := (l.take j).mapIdx (fun i e => evG e i)
/-- How many events are right ahead of the first one that is not. -/
def n0 (l : List Ev) : Nat := l.findIdx (fun e => !rightI e.1 e.2.1 e.2.2.1)
/-- How many bytes last. -/
def sy (l : List Ev) (sure : Int) (j : Nat) : Nat := if 1 ≤ sure ∧ sure ≤ j then (flE (evsN l sure.toNat)).length else 0
def stD (es : List Ev) (y : Nat) : DS := { fs := [⟨[], 0⟩, ⟨ofI (flE es), y⟩, ⟨[], 0⟩], room := 20000 - (flE es).length, fuse := -1, down := false }
theorem evsN_succ {l : List Ev} {j : Nat} (h : j < l.length) : evsN l (j + 1) = evsN l j ++ [evG l[j] j] := by
  unfold evsN
  rw [List.take_add_one, List.getElem?_eq_getElem h]
  simp only [Option.toList, List.mapIdx_append, List.mapIdx_cons, List.mapIdx_nil, List.length_take]
  rw [show 0 + min j l.length = j by omega]
theorem evsN_len {l : List Ev} {j : Nat} (h : j ≤ l.length) : (evsN l j).length = j := by simp [evsN, h]
theorem evsN_get {l : List Ev} {j i : Nat} {e : Ev} (h : (evsN l j)[i]? = some e) : ∃ (h : i < l.length), i < j ∧ e = evG l[i] i := by
  unfold evsN at h
  rw [List.getElem?_mapIdx, Option.map_eq_some_iff] at h
  obtain ⟨x, h1, rfl⟩ := h
  have hlt := (List.getElem?_eq_some_iff.1 h1).1
  rw [List.length_take] at hlt
  rw [List.getElem?_take_of_lt (by omega)] at h1
  obtain ⟨h2, rfl⟩ := List.getElem?_eq_some_iff.1 h1
  exact ⟨h2, by omega, rfl⟩
theorem rightS_two {j : Nat} (h : j ≤ 1000) : rightS [0, (j : Int) + 1] = true := by
  unfold rightS isN
  simp
  omega
theorem okE_evG {e : Ev} {j : Nat} (h : j ≤ 1000) : okE (evG e j) = rightI e.1 e.2.1 e.2.2.1 := by
  unfold okE rightE evG
  simp only
  rw [rightS_two h, Bool.and_true]
theorem n0_right {l : List Ev} {j : Nat} (h : j < n0 l) : ∃ h : j < l.length, rightI l[j].1 l[j].2.1 l[j].2.2.1 = true := by
  have h1 := List.findIdx_le_length (p := fun e : Ev => !rightI e.1 e.2.1 e.2.2.1) (xs := l)
  have h2 : j < l.length := by unfold n0 at h; omega
  refine ⟨h2, ?_⟩
  have := List.not_of_lt_findIdx h
  simpa using this
theorem n0_wrong {l : List Ev} (h : n0 l < l.length) : rightI (l[n0 l]).1 (l[n0 l]).2.1 (l[n0 l]).2.2.1 = false := by
  have h2 : (!rightI (l[n0 l]).1 (l[n0 l]).2.1 (l[n0 l]).2.2.1) = true := List.findIdx_getElem (w := h)
  simpa using h2
theorem n0_le (l : List Ev) : n0 l ≤ l.length := List.findIdx_le_length
theorem n0_eq {l : List Ev} {j : Nat} (hj : j < l.length) (h : j ≤ n0 l) (hr : rightI l[j].1 l[j].2.1 l[j].2.2.1 = false) : j = n0 l := by
  rcases Nat.lt_or_ge j (n0 l) with h1 | h1
  · obtain ⟨_, h2⟩ := n0_right h1
    rw [hr] at h2
    cases h2
  · omega
theorem evG_len {e : Ev} {j : Nat} (hj : j ≤ 100) (h : okE (evG e j) = true) : (evF (evG e j)).length ≤ 12 := by
  rw [evF_len]
  obtain ⟨h1, h2, h3, h4, h5, h6, _, _⟩ := rightE_k h
  simp only [evG] at h1 h2 h3 h4 h5 h6
  unfold bytesE putsL manyL evG
  simp only [List.length_append, List.flatMap_cons, List.flatMap_nil, List.append_nil, List.length_cons, List.length_nil]
  rw [oneL_small (n := e.2.1.toNat) (by omega), oneL_small (n := 0 + 1 + 1) (by omega), show ((0 : Int).toNat) = 0 from rfl, oneL_small (n := 0) (by omega), oneL_small (n := ((j : Int) + 1).toNat) (by omega)]
  split
  · simp
  · rw [oneL_small (n := e.2.2.1.toNat) (by omega)]
    simp
theorem evsN_ok {l : List Ev} {j : Nat} (hj : j ≤ n0 l) (hl : l.length ≤ 100) : ∀ (i : Nat) (e : Ev), (evsN l j)[i]? = some e → okE e = true ∧ (evF e).length ≤ 12 := by
  intro i e h
  obtain ⟨h1, h2, rfl⟩ := evsN_get h
  obtain ⟨_, h3⟩ := n0_right (l := l) (j := i) (by omega)
  have : okE (evG l[i] i) = true := by rw [okE_evG (by omega)]; exact h3
  exact ⟨this, evG_len (by omega) this⟩
theorem flE_len : ∀ (es : List Ev), (∀ (i : Nat) (e : Ev), es[i]? = some e → (evF e).length ≤ 12) → (flE es).length ≤ 12 * es.length
  | [], _ => by simp [flE]
  | e :: es, h => by
    have h1 := h 0 e rfl
    have h2 := flE_len es (fun i e' he => h (i + 1) e' he)
    have : (flE (e :: es)).length = (evF e).length + (flE es).length := by simp [flE]
    simp only [List.length_cons]
    omega
theorem evsN_bytes {l : List Ev} {j : Nat} (hj : j ≤ n0 l) (hl : l.length ≤ 100) : (flE (evsN l j)).length ≤ 1200 := by
  have h1 := flE_len (evsN l j) (fun i e h => (evsN_ok hj hl i e h).2)
  have h2 := n0_le l
  rw [evsN_len (by omega)] at h1
  omega
theorem flE_snoc (es : List Ev) (e : Ev) : flE (es ++ [e]) = flE es ++ evF e := by simp [flE]
theorem ofI_append (a b : List Int) : ofI (a ++ b) = ofI a ++ ofI b := by simp [ofI]
theorem stD_ok {es : List Ev} {y : Nat} (h : (flE es).length ≤ 20000) (hy : y ≤ (flE es).length) : (stD es y).Ok 20000 := by
  refine ⟨by simp [stD]; omega, ?_, by simp [stD], by simp [stD], ?_, by simp [stD], by simp [stD]⟩
  · simp [stD, DS.tot, bytes, ofI_len]
  · intro f hf
    simp only [stD, List.mem_cons, List.not_mem_nil, or_false] at hf
    rcases hf with rfl | rfl | rfl
    · simp
    · simp only [ofI_len]; exact hy
    · simp
/-- A right event is appended. -/
theorem app_st {es : List Ev} {e : Ev} {y : Nat} (hl : (flE es).length ≤ 1200) (hok : okE e = true) (hst : e.2.2.2.length = 2) : appB (stD es y) 1 e = (stD (es ++ [e]) y, 0) := by
  have hb := evF_len (e := e)
  have hb2 := bytesE_len hok
  rw [appB_ok (n := 2) rfl (by omega) (by omega) hok hst]
  unfold appR doW
  rw [if_neg (by simp [stD]), if_neg (by simp [stD]), if_neg (by simp only [stD, ofI_len, frameL_len]; rw [if_neg (by omega)]; simp), if_neg (by simp [stD])]
  congr 1
  show (stD es y).burn.app 1 _ = _
  rw [burn_no (by simp [stD])]
  unfold DS.app stD
  simp only [flE_snoc, ofI_append, List.getD_eq_getElem?_getD, List.length_append]
  rw [DS.mk.injEq]
  refine ⟨by simp [evF], ?_, rfl, rfl⟩
  simp only [evF, ofI_len]
  omega
theorem app_st_no {es : List Ev} {e : Ev} {y : Nat} (hok : okE e = false) : appB (stD es y) 1 e = (stD es y, 2) := appB_bad (n := 2) rfl (.inr (.inr (.inl hok)))
theorem sync_st {es : List Ev} {y : Nat} : syncR (stD es y) 1 = (stD es (flE es).length, 0) := by
  unfold syncR doW
  rw [if_neg (by simp [stD]), if_neg (by simp [stD]), if_neg (by simp), if_neg (by simp [stD])]
  congr 1
  show (stD es y).burn.sync 1 = _
  rw [burn_no (by simp [stD])]
  unfold DS.sync stD
  simp [ofI_len]
theorem sy_yes {l : List Ev} {sure : Int} {j : Nat} (h : sure = ((j + 1 : Nat) : Int)) : sy l sure (j + 1) = (flE (evsN l (j + 1))).length := by
  subst h
  unfold sy
  rw [if_pos (by omega), Int.toNat_natCast]
theorem sy_no {l : List Ev} {sure : Int} {j : Nat} (h : sure ≠ ((j + 1 : Nat) : Int)) : sy l sure (j + 1) = sy l sure j := by
  unfold sy
  by_cases h1 : 1 ≤ sure ∧ sure ≤ (j : Int)
  · rw [if_pos (by omega), if_pos h1]
  · rw [if_neg (by omega), if_neg h1]
theorem flE_mono {l : List Ev} {i j : Nat} (h : i ≤ j) : (flE (evsN l i)).length ≤ (flE (evsN l j)).length := by
  induction j with
  | zero => have : i = 0 := by omega
            subst this; exact Nat.le_refl _
  | succ j ih =>
    by_cases hij : i = j + 1
    · subst hij; exact Nat.le_refl _
    · have := ih (by omega)
      by_cases hj : j < l.length
      · rw [evsN_succ hj, flE_snoc, List.length_append]; omega
      · have e : evsN l (j + 1) = evsN l j := by unfold evsN; rw [List.take_of_length_le (by omega), List.take_of_length_le (by omega)]
        rw [e]; exact this
theorem sy_le {l : List Ev} {sure : Int} {j : Nat} : sy l sure j ≤ (flE (evsN l j)).length := by
  unfold sy
  split
  · rename_i h; exact flE_mono (by omega)
  · omega
/-- What is told of the branch. -/
theorem log_st {l : List Ev} {j : Nat} (hj : j ≤ n0 l) (hl : l.length ≤ 100) : logW (flE (evsN l j)) 1 2 = ends 0 (evsN l j) := log_all (fun i e h => by
  obtain ⟨h1, h2, rfl⟩ := evsN_get h
  refine ⟨(evsN_ok hj hl i _ h).1, rfl, ?_⟩
  simp [evG]
  omega)
end Go.Proofs.Ytgpcgndmdkgbdaa

/- Events laid on a branch of two, walked. -/
namespace Go.Proofs.Ytgpcgndmdkgbdaa
open Go.RowKit Go.Shelf

/-- A disk, and a row of events that was made beside it. -/
structure LdI (N : Nat) (w : World) (d : Nat) (s : DS) (es : List Ev) (v : Value) (M : Nat) (R : Nat → Prop) (W : World) : Prop where
  ex : ∃ (G K : Nat → Prop) (g : Nat), Dk W d G s ∧ (∀ b, G b → N ≤ b ∧ b < M) ∧ evE.Spine 52 K g W v es ∧ (∀ b, K b → N ≤ b ∧ b < W.heap.size ∧ b ≠ g ∧ b ≠ d ∧ ¬ G b) ∧ (capOf v ≠ 0 → N ≤ g ∧ g ≠ d ∧ ¬ G g) ∧ (∀ b, R b → N ≤ b ∧ b < W.heap.size ∧ b ≠ d ∧ ¬ G b)
  d0 : N ≤ d
  dM : d < M
  hM : M ≤ W.heap.size
  low : Below N w W
theorem LdI.below {N d M : Nat} {R : Nat → Prop} {w W X : World} {s : DS} {es : List Ev} {v : Value} (h : LdI N w d s es v M R W) (hb : Below W.heap.size W X) : LdI N w d s es v M R X := by
  obtain ⟨G, K, g, h1, h2, h3, h4, h5, h6⟩ := h.ex
  have := h.hM
  have hs := hb.size
  exact ⟨⟨G, K, g, h1.below hb, h2, h3.below hb, fun b hb' => by obtain ⟨a1, a2, a3⟩ := h4 b hb'; exact ⟨a1, by omega, a3⟩, h5, fun b hb' => by obtain ⟨a1, a2, a3⟩ := h6 b hb'; exact ⟨a1, by omega, a3⟩⟩, h.d0, h.dM, by omega, h.low.trans (hb.mono (by have := h.d0; have := h.dM; omega))⟩
theorem LdI.reserve {N d M : Nat} {R R' : Nat → Prop} {w W : World} {s : DS} {es : List Ev} {v : Value} (h : LdI N w d s es v M R W) (hR : ∀ b, R' b → M ≤ b ∧ b < W.heap.size) : LdI N w d s es v M R' W := by
  obtain ⟨G, K, g, h1, h2, h3, h4, h5, h6⟩ := h.ex
  have h7 := h.dM
  have h8 := h.d0
  exact ⟨⟨G, K, g, h1, h2, h3, h4, h5, fun b hb => by obtain ⟨a1, a2⟩ := hR b hb; exact ⟨by omega, a2, by omega, fun hg => by have := (h2 b hg).2; omega⟩⟩, h.d0, h.dM, h.hM, h.low⟩
/-- A call on the disk. -/
theorem LdI.op {N d M f : Nat} {R : Nat → Prop} {w W : World} {s s' : DS} {es : List Ev} {v : Value} {c : Int} {p : DS × Int} {args : Array Value} (h : LdI N w d s es v M R W) (hp : p = (s', c)) (hc : ∀ G, Dk W d G s → Calls Try.prog f args W (DkTo W d G p)) :
    Calls Try.prog f args W fun e X => e = .returned (.int .i64 c) ∧ LdI N w d s' es v X.heap.size R X ∧ Ext (fun b => b = d ∨ (N ≤ b ∧ b < M)) W X := by
  subst hp
  obtain ⟨G, K, g, h1, h2, h3, h4, h5, h6⟩ := h.ex
  refine (hc G h1).mono fun e X ⟨q1, q2, q3⟩ => ⟨q1, ?_, q3.mono (fun b _ hb => hb.imp id (fun hg => h2 b hg))⟩
  have hM := h.hM
  have hs := q3.size
  have hd := h.dM
  have hd0 := h.d0
  refine ⟨⟨fun b => (G b ∨ W.heap.size ≤ b) ∧ b < X.heap.size, K, g, q2.mono (fun b hb hl => ⟨hb, hl⟩), fun b hb => ?_, ?_, fun b hb => ?_, fun hc => ?_, fun b hb => ?_⟩, h.d0, by omega, Nat.le_refl _, h.low.trans (q3.toBelow (by omega) (fun x hx hxs => ?_))⟩
  · rcases hb.1 with hg | hg
    · exact ⟨(h2 b hg).1, hb.2⟩
    · exact ⟨by omega, hb.2⟩
  · by_cases hc : capOf v = 0
    · exact h3.empty hc
    · refine h3.step (fun cur hcur => (q3.block g (Array.getElem?_eq_some_iff.1 hcur).1 (fun hx => ?_)).trans hcur) (fun b hb hl => ⟨hb, q3.block b hl (fun hx => ?_)⟩)
      · obtain ⟨_, a2, a3⟩ := h5 hc
        rcases hx with hx | hx
        · exact a2 hx
        · exact a3 hx
      · obtain ⟨_, _, _, a4, a5⟩ := h4 b hb
        rcases hx with hx | hx
        · exact a4 hx
        · exact a5 hx
  · obtain ⟨a1, a2, a3, a4, a5⟩ := h4 b hb
    exact ⟨a1, by omega, a3, a4, fun hx => hx.1.elim a5 (fun hx => by omega)⟩
  · obtain ⟨a1, a2, a3⟩ := h5 hc
    have hg : g < W.heap.size := by
      obtain ⟨cur, hcur⟩ := h3.type hc
      exact (Array.getElem?_eq_some_iff.1 hcur).1
    exact ⟨a1, a2, fun hx => hx.1.elim a3 (fun hx => by omega)⟩
  · obtain ⟨a1, a2, a3, a4⟩ := h6 b hb
    exact ⟨a1, by omega, a3, fun hx => hx.1.elim a4 (fun hx => by omega)⟩
  · rcases hxs with hx2 | hx2
    · omega
    · have := (h2 x hx2).1; omega
/-- An event behind the row. -/
theorem LdI.snoc {N d M : Nat} {w W : World} {s : DS} {es : List Ev} {v : Value} {b gs : Nat} {k i t : Int} {st : List Int} {A : Option Addr} {n c : Nat} {R : Nat → Prop} (h : LdI N w d s es v M R W) (hb : W.heap[b]? = some (.cells #[.int .i64 k, .int .i64 i, .int .i64 t, .slice A n c] 52 (0, 0)))
    (hr : intE.Row (fun x => x = gs) W (.slice A n c) st) (hgs : R gs) (hgt : ∃ cs, W.heap[gs]? = some (.cells cs 3 (0, 0))) (hlen : es.length + 1 ≤ 4294967296) :
    ∃ v' X, (Builtin.append_ #[22, 22] 22 #[v, .slice (some ⟨b, 0, none⟩) 1 1]).run Try.prog W = .ok v' X ∧ LdI N w d s (es ++ [(k, i, t, st)]) v' M (fun _ => False) X ∧ (∃ A' c', v' = .slice A' (es.length + 1) c') := by
  obtain ⟨G, K, g, h1, h2, h3, h4, h5, h6⟩ := h.ex
  obtain ⟨r1, r2, r3, r4⟩ := h6 gs hgs
  have hM := h.hM
  have hd := h.dM
  have hd0 := h.d0
  have hnorm : ∃ g1, evE.Spine 52 (fun x => K x ∨ x = gs) g1 W v es ∧ (∀ x, (K x ∨ x = gs) → x < W.heap.size → x ≠ g1) ∧ N ≤ g1 ∧ g1 ≠ d ∧ ¬ G g1 := by
    by_cases hc : capOf v = 0
    · exact ⟨W.heap.size, h3.empty hc, fun x _ hx => by omega, by omega, by omega, fun hg => by have := (h2 _ hg).2; omega⟩
    · obtain ⟨cur, hcur⟩ := h3.type hc
      obtain ⟨cs, hcs⟩ := hgt
      obtain ⟨a1, a2, a3⟩ := h5 hc
      refine ⟨g, h3.mono (fun x hx _ => .inl hx), fun x hx _ => ?_, a1, a2, a3⟩
      rcases hx with hx | hx
      · exact (h4 x hx).2.2.1
      · intro e
        subst hx
        subst e
        rw [hcur] at hcs
        cases hcs
  obtain ⟨g1, k1, k2, k3, k4, k5⟩ := hnorm
  have hsrc : evE.Src (fun x => K x ∨ x = gs) W (.slice (some ⟨b, 0, none⟩) 1 1) [(k, i, t, st)] := Enc.Src.one_blk (cs := [.int .i64 k, .int .i64 i, .int .i64 t, .slice A n c]) hb (evE_rd (hr.mono (fun x hx _ => .inr hx)))
  obtain ⟨v', X, g', hrun, q1, q2, q3⟩ := app22 k1 hsrc k2 (by simpa using hlen)
  obtain ⟨A', c', hv', _, _⟩ := q1.form
  refine ⟨v', X, hrun, ?_, A', c', by rw [hv']; simp⟩
  have hs := q2.size
  have hg' : g' = g1 ∨ g' = W.heap.size := q3.two.imp (fun h => h.1) (fun h => h.1)
  refine ⟨⟨G, fun x => (K x ∨ x = gs) ∧ x < W.heap.size, g', h1.ext q2 (fun hx => k4 hx.1.symm) (fun x hx hxs => k5 (hxs.1 ▸ hx)), h2, q1, fun x hx => ?_, fun _ => ?_, fun _ h => h.elim⟩, h.d0, h.dM, by omega, h.low.trans (q2.toBelow (by omega) (fun x hx hxs => by have := hxs.1; omega))⟩
  · have hne : x ≠ g' := by
      rcases hg' with e | e
      · rw [e]; exact k2 x hx.1 hx.2
      · omega
    rcases hx.1 with hx1 | hx1
    · obtain ⟨a1, a2, a3, a4, a5⟩ := h4 x hx1
      exact ⟨a1, by omega, hne, a4, a5⟩
    · subst hx1
      exact ⟨r1, by omega, hne, r3, r4⟩
  · rcases hg' with e | e
    · rw [e]; exact ⟨k3, k4, k5⟩
    · exact ⟨by omega, by omega, fun hg => by have := (h2 _ hg).2; omega⟩
end Go.Proofs.Ytgpcgndmdkgbdaa

/- Events laid: the walk. -/
namespace Go.Proofs.Ytgpcgndmdkgbdaa
open Go.RowKit Go.Shelf

def LlR (w : World) (l : List Ev) (sure : Int) (e : Ending) (w' : World) : Prop := ∃ d v M, e = .returned (.tuple #[.pointer (some ⟨d, 0, none⟩), v, .bool true]) ∧ LdI w.heap.size w d (stD (evsN l (n0 l)) (sy l sure (n0 l))) (evsN l (n0 l)) v M (fun _ => False) w'
theorem st_start : ({ fs := fs0 3, room := 20000, fuse := -1, down := false } : DS) = stD [] 0 := by unfold stD fs0 flE ofI; simp
theorem ld_start {w W : World} {d : Nat} (hd : w.heap.size ≤ d) (hk : Dk W d (fun _ => False) (stD [] 0)) (hb : Below w.heap.size w W) : LdI w.heap.size w d (stD [] 0) [] (.slice none 0 0) W.heap.size (fun _ => False) W :=
  ⟨⟨_, fun _ => False, 0, hk, fun _ h => h.elim, Enc.Spine.nil _ _ _ _ _, fun _ h => h.elim, fun h => absurd rfl h, fun _ h => h.elim⟩, hd, hk.lt, Nat.le_refl _, hb⟩
theorem LdI.form {N d M : Nat} {R : Nat → Prop} {w W : World} {s : DS} {es : List Ev} {v : Value} (h : LdI N w d s es v M R W) : ∃ A c, v = .slice A es.length c := by
  obtain ⟨_, _, _, _, _, h3, _⟩ := h.ex
  obtain ⟨A, c, e, _, _⟩ := h3.form
  exact ⟨A, c, e⟩
set_option maxRecDepth 8000 in
set_option maxHeartbeats 4000000 in
theorem llaid_any {w : World} {v : Value} {l : List Ev} {sure : Int} (h : evE.Row (fun b => b < w.heap.size) w v l) (hl : l.length ≤ 100) : Calls Try.prog 9 #[v, .int .i64 sure] w (LlR w l sure) := by
  obtain ⟨A, c, rfl, _, _⟩ := h.form
  have HR := hid h
  have HL := hid hl
  clear h
  go_enter Try.func9, Try.ntmps9
  go_wp2_with (first | (go_at_call 13; refine (begun_any (room := 20000) (by omega) (by omega)).mono ?_; rintro e w1 ⟨d, r, g, rfl, hd, _, _, _, _, hdk, _, hb1⟩; rw [st_start] at hdk; have HD0 := hid (ld_start hd hdk hb1); clear hd hdk hb1))
  go_loopg [9, 10] l.length (fun k v9 v10 wr => ∃ (j M : Nat), v10 = .int .i64 (j : Int) ∧ j + k = l.length ∧ j ≤ n0 l ∧ LdI w.heap.size w d (stD (evsN l j) (sy l sure j)) (evsN l j) v9 M (fun _ => False) wr)
  case atStart =>
    refine ⟨0, w1.heap.size, rfl, by omega, by omega, ?_⟩
    have : sy l sure 0 = 0 := by unfold sy; rw [if_neg (by omega)]
    rw [this]
    exact HD0.out
  case round =>
    obtain ⟨j, M, rfl, hj, hjn, hld⟩ := hrel
    have HLD := hid hld
    have HJN := hid hjn
    have hdM := hld.dM
    have hMw := hld.hM
    have hNd := hld.d0
    have hlow := hld.low
    have hlen := evsN_len (l := l) (j := j) (by omega)
    obtain ⟨A9, c9, rfl⟩ := hld.form
    rw [hlen] at hld HLD ⊢
    by_cases hlt : j < l.length
    · obtain ⟨k2, rfl⟩ : ∃ k2, gk = k2 + 1 := ⟨gk - 1, by omega⟩
      obtain ⟨b1, off, A1, n1, c1, hA, _, hbl, p1, p2, p3, p4, hv1⟩ := row_ev (HR.out.below hlow) j hlt
      subst hA
      obtain ⟨x, hx⟩ : ∃ x, l[j] = x := ⟨_, rfl⟩
      have HX : Hid (∃ h, l[j]'h = x) := hid ⟨hlt, hx⟩
      rw [hx] at p1 p2 p3 hv1
      obtain ⟨k, it, t, st⟩ := x
      simp only at p1 p2 p3 hv1
      have hj1 : (j : Int) < (l.length : Int) := by omega
      have hj2 : (0 : Int) ≤ (j : Int) := by omega
      have hwj : IntKind.i64.wrap ((j : Int) + 1) = (j : Int) + 1 := by rw [IntWalk.i64_in _ (by omega)]
      have hby := evsN_bytes hjn hl
      have hlen2 := hlen
      have hx2 := hx
      have HS : Hid ((stD (evsN l j) (sy l sure j)).Ok 20000) := hid (stD_ok (by omega) sy_le)
      have HBY := hid hby
      clear hld hjn hlow hx hv1 hlen hby
      by_cases hri : rightI k it t = true
      · have hok : okE (k, it, t, [0, (j : Int) + 1]) = true := by
          have := okE_evG (e := (k, it, t, st)) (j := j) (by omega)
          rw [hri] at this
          exact this
        have HAPP := hid (app_st (y := sy l sure j) HBY.out hok rfl)
        have HJN1 : Hid (j + 1 ≤ n0 l) := hid (by
          rcases Nat.lt_or_ge j (n0 l) with h1 | h1
          · exact h1
          · have h2 : j = n0 l := by have := HJN.out; omega
            have h4 : ∀ q (_ : q = j) (h : q < l.length), l[q] = (k, it, t, st) := fun q hq h => by subst hq; exact hx2
            have h3 := n0_wrong (l := l) (by omega)
            rw [h4 (n0 l) h2.symm (by omega)] at h3
            simp only at h3
            rw [hri] at h3
            cases h3)
        have hby2 : (flE (evsN l (j + 1))).length ≤ 20000 := by have := evsN_bytes HJN1.out hl; omega
        clear hok hri
        have HLN := hid hlen2
        have HSN : Hid (evsN l (j + 1) = evsN l j ++ [(k, it, t, [0, (j : Int) + 1])]) := hid (by have := evsN_succ hlt; rw [hx2] at this; exact this)
        by_cases hsu : sure = (j : Int) + 1
        · have HSY := hid (sync_st (es := evsN l j ++ [(k, it, t, [0, (j : Int) + 1])]) (y := sy l sure j))
          have HS4 : Hid ((stD (evsN l j ++ [(k, it, t, [0, (j : Int) + 1])]) (sy l sure j)).Ok 20000) := hid (by rw [← HSN.out]; exact stD_ok hby2 (by have := flE_mono (l := l) (i := j) (j := j + 1) (by omega); have := sy_le (l := l) (sure := sure) (j := j); omega))
          have HYY := hid (sy_yes (l := l) (sure := sure) (j := j) (by omega))
          clear hlen2 hlt hx2 hby2
          subst hsu
          go_wp2_with (first | (go_at_call 22; refine ((HLD.out.below (by repeat (first | (with_reducible exact Below.refl _ _) | (with_reducible exact bl_mm) | (with_reducible refine bl_dr ?_) | (with_reducible refine bl_drN ?_ _) | (with_reducible refine bl_al ?_ _) | (with_reducible refine bl_more ?_ _ _)))).reserve (R' := fun b => b = wr.heap.size + 1) (fun b hb => ⟨by omega, by rw [hb]; simp⟩) |>.op HAPP.out (fun G hD => bapp_any (K := fun b => b = wr.heap.size + 1) (i := 1) (k := k) (it := it) (t := t) (st := [0, (j : Int) + 1]) hD HS.out (by omega) (row_lit (n := 2) rfl (alloc_blk (by simp)) (by simp) rfl) (fun b hb => by rw [hb]; simp) (by simp))).mono ?_; rintro e w2 ⟨rfl, hld2, hx2⟩; have r0 := (hx2.block wr.heap.size (by simp; omega) (fun h => by omega)).trans ((Below.heap_alloc _ _ _ (by simp)).trans (alloc_blk rfl)); have r1 := (hx2.block (wr.heap.size + 1) (by simp) (fun h => by omega)).trans (alloc_blk (by simp)); have HLD2 := hid hld2; have z0 := cell_blk r0 0; have z1 := cell_blk r0 1; have z2 := cell_blk r0 2; have z3 := cell_blk r0 3; simp only [List.getElem?_toArray, List.getElem?_cons_zero, List.getElem?_cons_succ] at z0 z1 z2 z3; have y0 := (Array.getElem?_eq_some_iff.1 r0).1; have y1 := (Array.getElem?_eq_some_iff.1 r1).1; have HR1 := hid r1; clear r0 r1 hld2 hx2) | (at_builtin; obtain ⟨v4, w4, hrun, hld4, A4, c4, hv4⟩ := (HLD2.out.below (bl_al (Below.refl w2.heap.size w2) (Obj.cells #[.int .i64 k, .int .i64 it, .int .i64 t, .slice (some ⟨wr.heap.size + 1, 0, none⟩) 2 2] 52))).snoc (b := w2.heap.size) (gs := wr.heap.size + 1) (k := k) (i := it) (t := t) (st := [0, (j : Int) + 1]) (alloc_blk rfl) (row_lit (n := 2) rfl ((Below.heap_alloc _ _ _ y1).trans HR1.out) (by simp) rfl) rfl ⟨_, (Below.heap_alloc _ _ _ y1).trans HR1.out⟩ (by have := HLN.out; omega); rw [HLN.out] at hv4; subst hv4; refine wpList_append_run (by rfl) (.tmp 41) (.tmp 43) 22 22 (by rfl) (by exact hrun) ?_; have HLD4 := hid hld4; clear hrun hld4) | (go_at_call 28; refine ((HLD4.out.below (by repeat (first | (with_reducible exact Below.refl _ _) | (with_reducible exact bl_mm) | (with_reducible refine bl_dr ?_) | (with_reducible refine bl_drN ?_ _) | (with_reducible refine bl_al ?_ _) | (with_reducible refine bl_more ?_ _ _)))).op HSY.out (fun G hD => sync_all hD HS4.out (by omega) 1)).mono ?_; rintro e w5 ⟨rfl, hld5, _⟩; have HLD5 := hid hld5; clear hld5))
          go_roundg k2
          case measure => omega
          case rel => exact ⟨j + 1, _, rfl, by omega, HJN1.out, by rw [HYY.out, HSN.out]; exact HLD5.out⟩
        · have hsb : ((j : Int) + 1 == sure) = false := by simp only [beq_eq_false_iff_ne, ne_eq]; omega
          have HYN := hid (sy_no (l := l) (sure := sure) (j := j) (by omega))
          clear hlen2 hlt hx2 hby2 hsu
          go_wp2_with (first | (go_at_call 22; refine ((HLD.out.below (by repeat (first | (with_reducible exact Below.refl _ _) | (with_reducible exact bl_mm) | (with_reducible refine bl_dr ?_) | (with_reducible refine bl_drN ?_ _) | (with_reducible refine bl_al ?_ _) | (with_reducible refine bl_more ?_ _ _)))).reserve (R' := fun b => b = wr.heap.size + 1) (fun b hb => ⟨by omega, by rw [hb]; simp⟩) |>.op HAPP.out (fun G hD => bapp_any (K := fun b => b = wr.heap.size + 1) (i := 1) (k := k) (it := it) (t := t) (st := [0, (j : Int) + 1]) hD HS.out (by omega) (row_lit (n := 2) rfl (alloc_blk (by simp)) (by simp) rfl) (fun b hb => by rw [hb]; simp) (by simp))).mono ?_; rintro e w2 ⟨rfl, hld2, hx2⟩; have r0 := (hx2.block wr.heap.size (by simp; omega) (fun h => by omega)).trans ((Below.heap_alloc _ _ _ (by simp)).trans (alloc_blk rfl)); have r1 := (hx2.block (wr.heap.size + 1) (by simp) (fun h => by omega)).trans (alloc_blk (by simp)); have HLD2 := hid hld2; have z0 := cell_blk r0 0; have z1 := cell_blk r0 1; have z2 := cell_blk r0 2; have z3 := cell_blk r0 3; simp only [List.getElem?_toArray, List.getElem?_cons_zero, List.getElem?_cons_succ] at z0 z1 z2 z3; have y0 := (Array.getElem?_eq_some_iff.1 r0).1; have y1 := (Array.getElem?_eq_some_iff.1 r1).1; have HR1 := hid r1; clear r0 r1 hld2 hx2) | (at_builtin; obtain ⟨v4, w4, hrun, hld4, A4, c4, hv4⟩ := (HLD2.out.below (bl_al (Below.refl w2.heap.size w2) (Obj.cells #[.int .i64 k, .int .i64 it, .int .i64 t, .slice (some ⟨wr.heap.size + 1, 0, none⟩) 2 2] 52))).snoc (b := w2.heap.size) (gs := wr.heap.size + 1) (k := k) (i := it) (t := t) (st := [0, (j : Int) + 1]) (alloc_blk rfl) (row_lit (n := 2) rfl ((Below.heap_alloc _ _ _ y1).trans HR1.out) (by simp) rfl) rfl ⟨_, (Below.heap_alloc _ _ _ y1).trans HR1.out⟩ (by have := HLN.out; omega); rw [HLN.out] at hv4; subst hv4; refine wpList_append_run (by rfl) (.tmp 41) (.tmp 43) 22 22 (by rfl) (by exact hrun) ?_; have HLD4 := hid hld4; clear hrun hld4))
          go_roundg k2
          case measure => omega
          case rel => exact ⟨j + 1, _, rfl, by omega, HJN1.out, by rw [HYN.out, HSN.out]; exact HLD4.out⟩
      · have hri : rightI k it t = false := by simpa using hri
        have hje : j = n0 l := n0_eq hlt HJN.out (by rw [hx2]; exact hri)
        have hok : okE (k, it, t, [0, (j : Int) + 1]) = false := by
          have := okE_evG (e := (k, it, t, st)) (j := j) (by omega)
          rw [hri] at this
          exact this
        have HAPP := hid (app_st_no (es := evsN l j) (y := sy l sure j) hok)
        have HE : Hid ((if rightE k it t [0, (j : Int) + 1] = true then (0 : Int) else 2) = 2) := hid (by have e : rightE k it t [0, (j : Int) + 1] = false := hok; rw [e]; rfl)
        have HJE := hid hje
        clear hlen2 hlt hx2 hri hje hok
        go_wp2_with (first | (go_at_call 22; refine ((HLD.out.below (by repeat (first | (with_reducible exact Below.refl _ _) | (with_reducible exact bl_mm) | (with_reducible refine bl_dr ?_) | (with_reducible refine bl_drN ?_ _) | (with_reducible refine bl_al ?_ _) | (with_reducible refine bl_more ?_ _ _)))).reserve (R' := fun b => b = wr.heap.size + 1) (fun b hb => ⟨by omega, by rw [hb]; simp⟩) |>.op HAPP.out (fun G hD => bapp_any (K := fun b => b = wr.heap.size + 1) (i := 1) (k := k) (it := it) (t := t) (st := [0, (j : Int) + 1]) hD HS.out (by omega) (row_lit (n := 2) rfl (alloc_blk (by simp)) (by simp) rfl) (fun b hb => by rw [hb]; simp) (by simp))).mono ?_; rintro e w2 ⟨rfl, hld2, hx2⟩; have r0 := (hx2.block wr.heap.size (by simp; omega) (fun h => by omega)).trans ((Below.heap_alloc _ _ _ (by simp)).trans (alloc_blk rfl)); have r1 := (hx2.block (wr.heap.size + 1) (by simp) (fun h => by omega)).trans (alloc_blk (by simp)); have HLD2 := hid hld2; have z0 := cell_blk r0 0; have z1 := cell_blk r0 1; have z2 := cell_blk r0 2; have z3 := cell_blk r0 3; simp only [List.getElem?_toArray, List.getElem?_cons_zero, List.getElem?_cons_succ] at z0 z1 z2 z3; have y0 := (Array.getElem?_eq_some_iff.1 r0).1; have y1 := (Array.getElem?_eq_some_iff.1 r1).1; have HR1 := hid r1; clear r0 r1 hld2 hx2) | (go_at_call 27; refine (dcheck_any (K := fun _ => True) (st := [0, (j : Int) + 1]) (row_lit (n := 2) rfl HR1.out (by simp) trivial)).mono ?_; rintro e w6 ⟨rfl, hb6⟩; obtain ⟨ex6, dx6, rfl⟩ := more_of hb6; clear hb6; rw [HE.out]))
        (try rw [Exit.noGoto_ret])
        go_ret3
        refine ⟨d, _, w2.heap.size, rfl, ?_⟩
        rw [← HJE.out]
        exact (HLD2.out.reserve (fun _ h => h.elim)).below (by repeat (first | (with_reducible exact Below.refl _ _) | (with_reducible exact bl_mm) | (with_reducible refine bl_dr ?_) | (with_reducible refine bl_drN ?_ _) | (with_reducible refine bl_al ?_ _) | (with_reducible refine bl_more ?_ _ _)))
    · have hjl : j = l.length := by omega
      have hje : j = n0 l := by have := n0_le l; omega
      have HJE := hid hje
      subst hjl
      have hj1 : ¬ (l.length : Int) < (l.length : Int) := by omega
      clear hld hjn hlow hlen hje hlt
      go_wp2
      go_ret3
      refine ⟨d, _, M, rfl, ?_⟩
      rw [← HJE.out]
      exact HLD.out
end Go.Proofs.Ytgpcgndmdkgbdaa

/- Arguments, opened. -/
namespace Go.Proofs.Ytgpcgndmdkgbdaa
open Go.RowKit
theorem int_op : Opens intE 3 (fun n => -9223372036854775808 ≤ n ∧ n ≤ 9223372036854775807) := (Opens.int Try.underlying3).to (by
  intro w a cs ha h
  have h1 : -9223372036854775808 ≤ a ∧ a ≤ 9223372036854775807 := by
    simp only [Lit.wf, Bool.and_eq_true, decide_eq_true_eq] at ha
    exact ha
  exact ⟨a, h1, h⟩)
theorem kind_op : Opens intE 50 (fun n => -9223372036854775808 ≤ n ∧ n ≤ 9223372036854775807) := (Opens.int Try.underlying50).to (by
  intro w a cs ha h
  have h1 : -9223372036854775808 ≤ a ∧ a ≤ 9223372036854775807 := by
    simp only [Lit.wf, Bool.and_eq_true, decide_eq_true_eq] at ha
    exact ha
  exact ⟨a, h1, h⟩)
theorem ints_op : Opens (Enc.slice intE) 40 (fun _ => True) := (Opens.slice Try.underlying40 int_op (by kernel_rfl) (by decide)).to (fun _ a _ _ h => ⟨a, trivial, h⟩)
theorem ev_op : Opens evE 52 (fun _ => True) :=
  (Opens.struct (d := evE) Try.underlying52 (by kernel_rfl)
    (.more kind_op (by kernel_rfl) (by kernel_rfl) (.more int_op (by kernel_rfl) (by kernel_rfl) (.more int_op (by kernel_rfl) (by kernel_rfl) (.last ints_op (by kernel_rfl) (by kernel_rfl)))))).to (fun _ a _ _ h => ⟨a, trivial, h⟩)
theorem evs_op : Opens (Enc.slice evE) 22 (fun _ => True) := (Opens.slice Try.underlying22 ev_op (by kernel_rfl) (by decide)).to (fun _ a _ _ h => ⟨a, trivial, h⟩)
end Go.Proofs.Ytgpcgndmdkgbdaa
