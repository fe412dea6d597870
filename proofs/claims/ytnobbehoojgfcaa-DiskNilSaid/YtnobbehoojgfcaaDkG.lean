/- What a disk's calls do: the rest. -/
import Derived.Test.YtnobbehoojgfcaaDkF
namespace Go.Proofs.Ytnobbehoojgfcaa
open Go.RowKit

def fs0 (n : Nat) : List DF := List.replicate n ⟨[], 0⟩
theorem bytes0 (n : Nat) : bytes (fs0 n) = 0 := by
  unfold bytes fs0
  induction n with
  | zero => rfl
  | succ n ih => simp [List.replicate_succ]
set_option maxRecDepth 8000 in
set_option maxHeartbeats 1000000 in
theorem new_bad {w : World} {n r : Int} (h : n < 1 ∨ 65 < n ∨ r < 0 ∨ 1048576 < r) : Calls Try.prog 10 #[.int .i64 n, .int .i64 r] w fun e w' => e = .returned (.tuple #[.pointer none, .int .i64 2]) ∧ Below w.heap.size w w' := by
  by_cases h1 : n < 1
  · clear h
    go_enter Try.func10, Try.ntmps10
    go_wp2
    go_ret2
    exact ⟨rfl, (by repeat (first | (with_reducible exact Below.refl _ _) | (with_reducible exact bl_mm) | (with_reducible refine bl_dr ?_) | (with_reducible refine bl_drN ?_ _) | (with_reducible refine bl_al ?_ _) | (with_reducible refine bl_more ?_ _ _)))⟩
  · by_cases h2 : 65 < n
    · clear h
      go_enter Try.func10, Try.ntmps10
      go_wp2
      go_ret2
      exact ⟨rfl, (by repeat (first | (with_reducible exact Below.refl _ _) | (with_reducible exact bl_mm) | (with_reducible refine bl_dr ?_) | (with_reducible refine bl_drN ?_ _) | (with_reducible refine bl_al ?_ _) | (with_reducible refine bl_more ?_ _ _)))⟩
    · by_cases h3 : r < 0
      · clear h
        go_enter Try.func10, Try.ntmps10
        go_wp2
        go_ret2
        exact ⟨rfl, (by repeat (first | (with_reducible exact Below.refl _ _) | (with_reducible exact bl_mm) | (with_reducible refine bl_dr ?_) | (with_reducible refine bl_drN ?_ _) | (with_reducible refine bl_al ?_ _) | (with_reducible refine bl_more ?_ _ _)))⟩
      · have h4 : 1048576 < r := by omega
        clear h
        go_enter Try.func10, Try.ntmps10
        go_wp2
        go_ret2
        exact ⟨rfl, (by repeat (first | (with_reducible exact Below.refl _ _) | (with_reducible exact bl_mm) | (with_reducible refine bl_dr ?_) | (with_reducible refine bl_drN ?_ _) | (with_reducible refine bl_al ?_ _) | (with_reducible refine bl_more ?_ _ _)))⟩
def zs55 : Array Value := ((List.replicate 65 [Value.slice none 0 0, Value.int .i64 0]).flatten ++ [Value.int .i64 0, Value.int .i64 0, Value.int .i64 0, Value.bool false]).toArray
theorem zero55 (w : World) : (zeroValue 55).run Try.prog w = .ok (.agg zs55) w := by kernel_rfl
theorem zs_size : zs55.size = 134 := by kernel_rfl
theorem two_at {α : Type} (a b : α) (t : List α) : ∀ (n i : Nat), i < n → ((List.replicate n [a, b]).flatten ++ t)[i * 2]? = some a ∧ ((List.replicate n [a, b]).flatten ++ t)[i * 2 + 1]? = some b
  | 0, i, h => by omega
  | n + 1, 0, _ => by simp [List.replicate_succ]
  | n + 1, i + 1, h => by
    have := two_at a b t n i (by omega)
    rw [show (i + 1) * 2 = i * 2 + 2 by omega]
    simpa [List.replicate_succ] using this
theorem zs_at {i : Nat} (h : i < 65) : zs55[i * 2]? = some (.slice none 0 0) ∧ zs55[i * 2 + 1]? = some (.int .i64 0) := by
  have := two_at (Value.slice none 0 0) (Value.int .i64 0) [Value.int .i64 0, Value.int .i64 0, Value.int .i64 0, Value.bool false] 65 i h
  simpa [zs55] using this
theorem zs_end : zs55[130]? = some (.int .i64 0) ∧ zs55[131]? = some (.int .i64 0) ∧ zs55[132]? = some (.int .i64 0) ∧ zs55[133]? = some (.bool false) := ⟨by kernel_rfl, by kernel_rfl, by kernel_rfl, by kernel_rfl⟩
theorem zs_one : ∀ u ∈ zs55.toList, u.oneCell' = true := List.all_eq_true.1 (by kernel_rfl)
theorem dk_of {w : World} {d n : Nat} {G : Nat → Prop} {cs : Array Value} {r f : Int} {dn : Bool} (h : w.heap[d]? = some (.cells cs 55 (0, 0))) (hs : cs.size = 134) (hone : ∀ u ∈ cs.toList, u.oneCell' = true) (h0 : cs[130]? = some (.int .i64 n)) (h1 : cs[131]? = some (.int .i64 r)) (h2 : cs[132]? = some (.int .i64 f)) (h3 : cs[133]? = some (.bool dn))
    (h4 : ∀ i, i < n → cs[i * 2]? = some (.slice none 0 0) ∧ cs[i * 2 + 1]? = some (.int .i64 0)) : Dk w d G { fs := fs0 n, room := r, fuse := f, down := dn } := by
  have hl : (fs0 n).length = n := by simp [fs0]
  refine ⟨⟨cs, h, hs, hone⟩, by rw [cell_blk h, h0, hl], by rw [cell_blk h, h1], by rw [cell_blk h, h2], by rw [cell_blk h, h3], fun _ => d, fun i hi => ?_, fun _ _ _ _ _ _ => rfl⟩
  have hi' : i < n := by rw [← hl]; exact hi
  obtain ⟨k1, k2⟩ := h4 i hi'
  have hf : (fs0 n)[i]'(by rw [hl]; exact hi') = ⟨[], 0⟩ := by simp [fs0]
  show FileAt w d G d i ((fs0 n)[i]'(by rw [hl]; exact hi'))
  rw [hf]
  exact ⟨_, by rw [cell_blk h, k1], by rw [cell_blk h, k2]; rfl, Enc.Spine.nil _ _ _ _ _, .inl rfl⟩
set_option maxRecDepth 8000 in
set_option maxHeartbeats 1000000 in
theorem new_any {w : World} {G : Nat → Prop} {n : Nat} {r : Int} (h1 : 1 ≤ n) (h2 : n ≤ 65) (h3 : 0 ≤ r) (h4 : r ≤ 1048576) : Calls Try.prog 10 #[.int .i64 n, .int .i64 r] w fun e w' => ∃ d, e = .returned (.tuple #[.pointer (some ⟨d, 0, none⟩), .int .i64 0]) ∧ d = w.heap.size ∧ Dk w' d G { fs := fs0 n, room := r, fuse := -1, down := false } ∧ Below w.heap.size w w' := by
  have i1 : ¬ (n : Int) < 1 := by omega
  have i2 : ¬ (65 : Int) < (n : Int) := by omega
  have i3 : ¬ r < 0 := by omega
  have i4 : ¬ 1048576 < r := by omega
  have hz := zero55
  have hs := zs_size
  go_enter Try.func10, Try.ntmps10
  go_wp2
  go_ret2
  refine ⟨_, rfl, rfl, dk_of (alloc_blk rfl) ?_ (mem_set (mem_set (mem_set zs_one rfl) rfl) rfl) ?_ ?_ ?_ ?_ ?_, (by repeat (first | (with_reducible exact Below.refl _ _) | (with_reducible exact bl_mm) | (with_reducible refine bl_dr ?_) | (with_reducible refine bl_drN ?_ _) | (with_reducible refine bl_al ?_ _) | (with_reducible refine bl_more ?_ _ _)))⟩
  · simp [hs]
  · simp [hs]
  · simp [hs]
  · simp [hs]
  · simp [zs_end]
  · intro i hi
    have h5 := zs_at (i := i) (by omega)
    obtain ⟨x0, x1, x2, x3, x4, x5, x6, x7, x8, x9, x10, x11, x12, x13, x14, x15⟩ := offs hi h2
    constructor
    · simp [Array.getElem?_setIfInBounds, *]
    · simp [Array.getElem?_setIfInBounds, *]


theorem spine_src {K : Nat → Prop} {w : World} {g : Nat} {v : Value} {xs : List UInt8} (h : u8E.Spine 5 K g w v xs) : u8E.Src (fun _ => False) w v xs := by
  obtain ⟨A, c, rfl, h1, h2, h3⟩ := h
  refine ⟨A, c, rfl, h1, h2, fun hx => ?_⟩
  have h0 : 0 < xs.length := List.length_pos_iff.2 hx
  obtain ⟨off, cur, cs, rfl, hb, _, hf, hc⟩ := h3 (by omega)
  exact ⟨g, off, rfl, hf.at_ (fun j u hj => Enc.cell_of_cur hb (hc j u hj))⟩
set_option maxHeartbeats 1000000 in
theorem clone_bytes {K : Nat → Prop} {w : World} {v : Value} {xs : List UInt8} (h : u8E.Src K w v xs) (hlen : xs.length ≤ 4294967296) :
    Calls Try.prog 34 #[v] w fun e w' => ∃ v' g', e = .returned v' ∧ u8E.Spine 5 (fun _ => False) g' w' v' xs ∧ w.heap.size ≤ g' ∧ Below w.heap.size w w' := by
  obtain ⟨A, c, rfl, h1, h2, h3⟩ := h
  have kn := fun (wx : World) (a : Option Addr) (n c : Nat) => Lib.run_eql_slice_nil (P := Try.prog) wx 33 5 a n c 0 0 Try.underlying33
  cases A with
  | none =>
    obtain rfl : xs = [] := by
      apply Classical.byContradiction
      intro hx
      obtain ⟨_, _, h, _⟩ := h3 hx
      cases h
    go_enter Try.func34, Try.ntmps34
    go_wp2
    go_ret
    exact ⟨_, w.heap.size, rfl, Enc.Spine.nil _ _ _ _ _, Nat.le_refl _, Below.refl _ _⟩
  | some a =>
    have hs : u8E.Src K w (.slice (some a) xs.length c) xs := ⟨_, c, rfl, h1, h2, h3⟩
    have hy : u8E.Src (fun _ => False) (w.alloc (.cells #[] 5)) (.slice (some a) xs.length c) xs := src_any (hs.below ((Below.refl _ _).alloc (Nat.le_refl _) _))
    obtain ⟨v', w', g', hrun, hsp, hext, hg'⟩ := app33 (Enc.Spine.bare u8E 5 (fun _ => False) w.heap.size (w.alloc (.cells #[] 5)) (some ⟨w.heap.size, 0, none⟩)) hy (fun b hb _ => hb.elim) (by simpa using hlen)
    clear hs hy h3
    go_enter Try.func34, Try.ntmps34
    go_wp2_with (at_builtin; refine wpList_append_run rfl (.tmp 5) (.tmp 6) 33 33 rfl hrun ?_)
    go_ret
    refine ⟨_, g', rfl, hsp, ?_, ?_⟩
    · rcases hg' with ⟨h, _⟩ | ⟨h, _⟩
      · omega
      · simp only [World.size_alloc] at h; omega
    · exact ((Below.refl _ _).alloc (Nat.le_refl _) _).trans (hext.toBelow (by simp) (fun x hx h => by have := h.1; omega))
set_option maxHeartbeats 1000000 in
theorem read_any {w : World} {d : Nat} {G : Nat → Prop} {s : DS} {C : Int} (h : Dk w d G s) (hs : s.Ok C) (hC : C ≤ 1000000000) (i : Nat) (hi : i < s.fs.length) :
    Calls Try.prog 15 #[.pointer (some ⟨d, 0, none⟩), .int .i64 i] w fun e w' => ∃ v', e = .returned v' ∧ u8E.Row (fun b => w.heap.size ≤ b) w' v' s.fs[i].b ∧ Below w.heap.size w w' := by
  obtain ⟨g, ⟨v, c1, c2, h3, h4⟩, _⟩ := h.take i hi
  obtain ⟨A, c, rfl, h5, h6⟩ := h3.form
  have hd := h.lt
  have i1 : (0 : Int) ≤ (i : Int) := by omega
  have i2 : (i : Int) < 65 := by have := hs.n2; omega
  have hl := hs.len (List.getElem_mem hi)
  have HL := hid (show s.fs[i].b.length ≤ 4294967296 by omega)
  have HD := hid h
  have HI := hid hi
  have H3 := hid h3
  clear h hs hC h3 h4 h5 h6 hl
  go_enter Try.func15, Try.ntmps15
  go_wp2_with (first | (go_at_call 33; refine (has_yes (HD.out.below (by repeat (first | (with_reducible exact Below.refl _ _) | (with_reducible exact bl_mm) | (with_reducible refine bl_dr ?_) | (with_reducible refine bl_drN ?_ _) | (with_reducible refine bl_al ?_ _) | (with_reducible refine bl_more ?_ _ _)))) i HI.out).mono ?_; rintro e w1 ⟨rfl, hb1⟩; obtain ⟨ex, dx, rfl⟩ := more_of hb1; clear hb1) | (go_at_call 34; refine (clone_bytes ((spine_src H3.out).below (by repeat (first | (with_reducible exact Below.refl _ _) | (with_reducible exact bl_mm) | (with_reducible refine bl_dr ?_) | (with_reducible refine bl_drN ?_ _) | (with_reducible refine bl_al ?_ _) | (with_reducible refine bl_more ?_ _ _)))) HL.out).mono ?_; rintro e w1 ⟨v1, g1, rfl, hs1, hg1, hb1⟩; obtain ⟨A1, c1', rfl, _, _⟩ := hs1.form; obtain ⟨ex, dx, rfl⟩ := more_of hb1; clear hb1; have HS1 := hid hs1; have HG1 := hid hg1; clear hs1 hg1))
  go_ret
  refine ⟨_, rfl, ?_, (by repeat (first | (with_reducible exact Below.refl _ _) | (with_reducible exact bl_mm) | (with_reducible refine bl_dr ?_) | (with_reducible refine bl_drN ?_ _) | (with_reducible refine bl_al ?_ _) | (with_reducible refine bl_more ?_ _ _)))⟩
  have hg := HG1.out
  simp only [more_size] at hg
  by_cases hc : c1' = 0
  · obtain ⟨A', c', he, k1, k2, _⟩ := HS1.out
    obtain ⟨_, _, rfl⟩ := Value.slice.inj he
    exact ⟨A1, c1', rfl, by omega, by omega, fun hx => absurd (List.eq_nil_of_length_eq_zero (by omega)) hx⟩
  · exact HS1.out.row (fun b hb _ => hb.elim) (by omega)
set_option maxHeartbeats 1000000 in
theorem read_none {w : World} {d : Nat} {G : Nat → Prop} {s : DS} (h : Dk w d G s) (hn : 1 ≤ s.fs.length) (i : Int) (hi : i < 0 ∨ s.fs.length ≤ i) :
    Calls Try.prog 15 #[.pointer (some ⟨d, 0, none⟩), .int .i64 i] w fun e w' => e = .returned (.slice none 0 0) ∧ Below w.heap.size w w' := by
  have hd := h.lt
  have HD := hid h
  have HN := hid hn
  have HI := hid hi
  clear h hn hi
  go_enter Try.func15, Try.ntmps15
  go_wp2_with (first | (go_at_call 33; refine (has_no (HD.out.below (by repeat (first | (with_reducible exact Below.refl _ _) | (with_reducible exact bl_mm) | (with_reducible refine bl_dr ?_) | (with_reducible refine bl_drN ?_ _) | (with_reducible refine bl_al ?_ _) | (with_reducible refine bl_more ?_ _ _)))) _ HN.out HI.out).mono ?_; rintro e w1 ⟨rfl, hb1⟩; obtain ⟨ex, dx, rfl⟩ := more_of hb1; clear hb1))
  go_ret
  exact ⟨rfl, (by repeat (first | (with_reducible exact Below.refl _ _) | (with_reducible exact bl_mm) | (with_reducible refine bl_dr ?_) | (with_reducible refine bl_drN ?_ _) | (with_reducible refine bl_al ?_ _) | (with_reducible refine bl_more ?_ _ _)))⟩
set_option maxHeartbeats 1000000 in
theorem synced_any {w : World} {d : Nat} {G : Nat → Prop} {s : DS} (h : Dk w d G s) (hn : s.fs.length ≤ 65) (i : Nat) (hi : i < s.fs.length) :
    Calls Try.prog 16 #[.pointer (some ⟨d, 0, none⟩), .int .i64 i] w fun e w' => e = .returned (.int .i64 s.fs[i].synced) ∧ Below w.heap.size w w' := by
  obtain ⟨g, ⟨v, c1, c2, h3, h4⟩, _⟩ := h.take i hi
  have hd := h.lt
  have i1 : (0 : Int) ≤ (i : Int) := by omega
  have i2 : (i : Int) < 65 := by omega
  have HD := hid h
  have HI := hid hi
  clear h h3 h4 hn
  go_enter Try.func16, Try.ntmps16
  go_wp2_with (first | (go_at_call 33; refine (has_yes (HD.out.below (by repeat (first | (with_reducible exact Below.refl _ _) | (with_reducible exact bl_mm) | (with_reducible refine bl_dr ?_) | (with_reducible refine bl_drN ?_ _) | (with_reducible refine bl_al ?_ _) | (with_reducible refine bl_more ?_ _ _)))) i HI.out).mono ?_; rintro e w1 ⟨rfl, hb1⟩; obtain ⟨ex, dx, rfl⟩ := more_of hb1; clear hb1))
  go_ret
  exact ⟨rfl, (by repeat (first | (with_reducible exact Below.refl _ _) | (with_reducible exact bl_mm) | (with_reducible refine bl_dr ?_) | (with_reducible refine bl_drN ?_ _) | (with_reducible refine bl_al ?_ _) | (with_reducible refine bl_more ?_ _ _)))⟩
set_option maxHeartbeats 1000000 in
theorem synced_none {w : World} {d : Nat} {G : Nat → Prop} {s : DS} (h : Dk w d G s) (hn : 1 ≤ s.fs.length) (i : Int) (hi : i < 0 ∨ s.fs.length ≤ i) :
    Calls Try.prog 16 #[.pointer (some ⟨d, 0, none⟩), .int .i64 i] w fun e w' => e = .returned (.int .i64 0) ∧ Below w.heap.size w w' := by
  have hd := h.lt
  have HD := hid h
  have HN := hid hn
  have HI := hid hi
  clear h hn hi
  go_enter Try.func16, Try.ntmps16
  go_wp2_with (first | (go_at_call 33; refine (has_no (HD.out.below (by repeat (first | (with_reducible exact Below.refl _ _) | (with_reducible exact bl_mm) | (with_reducible refine bl_dr ?_) | (with_reducible refine bl_drN ?_ _) | (with_reducible refine bl_al ?_ _) | (with_reducible refine bl_more ?_ _ _)))) _ HN.out HI.out).mono ?_; rintro e w1 ⟨rfl, hb1⟩; obtain ⟨ex, dx, rfl⟩ := more_of hb1; clear hb1))
  go_ret
  exact ⟨rfl, (by repeat (first | (with_reducible exact Below.refl _ _) | (with_reducible exact bl_mm) | (with_reducible refine bl_dr ?_) | (with_reducible refine bl_drN ?_ _) | (with_reducible refine bl_al ?_ _) | (with_reducible refine bl_more ?_ _ _)))⟩
set_option maxHeartbeats 1000000 in
theorem arm_down {w : World} {d : Nat} {G : Nat → Prop} {s : DS} (h : Dk w d G s) (hn : 1 ≤ s.fs.length) (n : Int) (hdn : s.down = true) :
    Calls Try.prog 20 #[.pointer (some ⟨d, 0, none⟩), .int .i64 n] w fun e w' => e = .returned (.int .i64 9) ∧ Below w.heap.size w w' := by
  have hd := h.lt
  have h1 := h.down
  rw [hdn] at h1
  have HD := hid h
  have HN := hid hn
  clear h hn hdn
  go_enter Try.func20, Try.ntmps20
  go_wp2_with (first | (go_at_call 35; refine (made_any (HD.out.below (by repeat (first | (with_reducible exact Below.refl _ _) | (with_reducible exact bl_mm) | (with_reducible refine bl_dr ?_) | (with_reducible refine bl_drN ?_ _) | (with_reducible refine bl_al ?_ _) | (with_reducible refine bl_more ?_ _ _)))) HN.out).mono ?_; rintro e w1 ⟨rfl, hb1⟩; obtain ⟨ex, dx, rfl⟩ := more_of hb1; clear hb1))
  go_ret
  exact ⟨rfl, (by repeat (first | (with_reducible exact Below.refl _ _) | (with_reducible exact bl_mm) | (with_reducible refine bl_dr ?_) | (with_reducible refine bl_drN ?_ _) | (with_reducible refine bl_al ?_ _) | (with_reducible refine bl_more ?_ _ _)))⟩
set_option maxHeartbeats 1000000 in
theorem arm_any {w : World} {d : Nat} {G : Nat → Prop} {s : DS} (h : Dk w d G s) (hn : 1 ≤ s.fs.length) (hn65 : s.fs.length ≤ 65) (n : Int) (hdn : s.down = false) :
    Calls Try.prog 20 #[.pointer (some ⟨d, 0, none⟩), .int .i64 n] w fun e w' => e = .returned (.int .i64 0) ∧ Dk w' d G { s with fuse := max n (-1) } ∧ Ext (fun b => b = d) w w' := by
  have hd := h.lt
  have h1 := h.down
  have h2 := h.fuse
  have f1 := h.frz 132
  rw [hdn] at h1
  have HD := hid h
  have HN := hid hn
  have HN65 := hid hn65
  clear h hn hdn hn65
  go_enter Try.func20, Try.ntmps20
  go_wp2_with (first | (go_at_call 35; refine (made_any (HD.out.below (by repeat (first | (with_reducible exact Below.refl _ _) | (with_reducible exact bl_mm) | (with_reducible refine bl_dr ?_) | (with_reducible refine bl_drN ?_ _) | (with_reducible refine bl_al ?_ _) | (with_reducible refine bl_more ?_ _ _)))) HN.out).mono ?_; rintro e w1 ⟨rfl, hb1⟩; obtain ⟨ex, dx, rfl⟩ := more_of hb1; clear hb1))
  all_goals (
    go_ret
    refine ⟨rfl, ?_, (by repeat (first | (with_reducible exact Ext.refl _ _) | (with_reducible refine ex_dr ?_) | (with_reducible refine ex_drN ?_ _) | (with_reducible refine ex_al ?_ _) | (with_reducible refine ex_more ?_ _ _) | (with_reducible refine Ext.set ?_ _ _ _ (by first | exact rfl | exact .inl rfl | exact .inr rfl))))⟩
    first
    | (rw [show max n (-1) = -1 by omega]; exact (HD.out.setFuse HN65.out (-1)).below (by repeat (first | (with_reducible exact Below.refl _ _) | (with_reducible exact bl_mm) | (with_reducible refine bl_dr ?_) | (with_reducible refine bl_drN ?_ _) | (with_reducible refine bl_al ?_ _) | (with_reducible refine bl_more ?_ _ _))))
    | (rw [show max n (-1) = n by omega]; exact (HD.out.setFuse HN65.out n).below (by repeat (first | (with_reducible exact Below.refl _ _) | (with_reducible exact bl_mm) | (with_reducible refine bl_dr ?_) | (with_reducible refine bl_drN ?_ _) | (with_reducible refine bl_al ?_ _) | (with_reducible refine bl_more ?_ _ _)))))

set_option maxHeartbeats 1000000 in
theorem grow_low {w : World} {d : Nat} {G : Nat → Prop} {s : DS} (h : Dk w d G s) (hn : 1 ≤ s.fs.length) (n : Int) (hlow : n < 0) :
    Calls Try.prog 24 #[.pointer (some ⟨d, 0, none⟩), .int .i64 n] w fun e w' => e = .returned (.int .i64 2) ∧ Below w.heap.size w w' := by
  have hd := h.lt
  have h1 := h.room
  have HD := hid h
  have HN := hid hn
  clear h hn
  go_enter Try.func24, Try.ntmps24
  go_wp2_with (first | (go_at_call 35; refine (made_any (HD.out.below (by repeat (first | (with_reducible exact Below.refl _ _) | (with_reducible exact bl_mm) | (with_reducible refine bl_dr ?_) | (with_reducible refine bl_drN ?_ _) | (with_reducible refine bl_al ?_ _) | (with_reducible refine bl_more ?_ _ _)))) HN.out).mono ?_; rintro e w1 ⟨rfl, hb1⟩; obtain ⟨ex, dx, rfl⟩ := more_of hb1; clear hb1))
  go_ret
  exact ⟨rfl, (by repeat (first | (with_reducible exact Below.refl _ _) | (with_reducible exact bl_mm) | (with_reducible refine bl_dr ?_) | (with_reducible refine bl_drN ?_ _) | (with_reducible refine bl_al ?_ _) | (with_reducible refine bl_more ?_ _ _)))⟩
set_option maxHeartbeats 1000000 in
theorem grow_high {w : World} {d : Nat} {G : Nat → Prop} {s : DS} {C : Int} (h : Dk w d G s) (hs : s.Ok C) (hC : C ≤ 1000000000) (n : Int) (hlow : ¬ n < 0) (hhigh : 1048576 - s.room < n) :
    Calls Try.prog 24 #[.pointer (some ⟨d, 0, none⟩), .int .i64 n] w fun e w' => e = .returned (.int .i64 2) ∧ Below w.heap.size w w' := by
  have hd := h.lt
  have h1 := h.room
  have w1 : IntKind.i64.wrap (1048576 - s.room) = 1048576 - s.room := IntWalk.i64_in _ (by have := hs.room; have := hs.roomC; omega)
  have HD := hid h
  have HN := hid hs.n1
  clear h hs hC
  go_enter Try.func24, Try.ntmps24
  go_wp2_with (first | (go_at_call 35; refine (made_any (HD.out.below (by repeat (first | (with_reducible exact Below.refl _ _) | (with_reducible exact bl_mm) | (with_reducible refine bl_dr ?_) | (with_reducible refine bl_drN ?_ _) | (with_reducible refine bl_al ?_ _) | (with_reducible refine bl_more ?_ _ _)))) HN.out).mono ?_; rintro e w1 ⟨rfl, hb1⟩; obtain ⟨ex, dx, rfl⟩ := more_of hb1; clear hb1))
  go_ret
  exact ⟨rfl, (by repeat (first | (with_reducible exact Below.refl _ _) | (with_reducible exact bl_mm) | (with_reducible refine bl_dr ?_) | (with_reducible refine bl_drN ?_ _) | (with_reducible refine bl_al ?_ _) | (with_reducible refine bl_more ?_ _ _)))⟩
set_option maxHeartbeats 1000000 in
theorem grow_any {w : World} {d : Nat} {G : Nat → Prop} {s : DS} {C : Int} (h : Dk w d G s) (hs : s.Ok C) (hC : C ≤ 1000000000) (n : Int) (hlow : ¬ n < 0) (hhigh : ¬ 1048576 - s.room < n) :
    Calls Try.prog 24 #[.pointer (some ⟨d, 0, none⟩), .int .i64 n] w fun e w' => e = .returned (.int .i64 0) ∧ Dk w' d G { s with room := s.room + n } ∧ Ext (fun b => b = d) w w' := by
  have hd := h.lt
  have h1 := h.room
  have f1 := h.frz 131
  have w1 : IntKind.i64.wrap (1048576 - s.room) = 1048576 - s.room := IntWalk.i64_in _ (by have := hs.room; have := hs.roomC; omega)
  have w2 : IntKind.i64.wrap (s.room + n) = s.room + n := IntWalk.i64_in _ (by have := hs.room; have := hs.roomC; omega)
  have HD := hid h
  have HN := hid hs.n1
  have HN65 := hid hs.n2
  clear h hs hC
  go_enter Try.func24, Try.ntmps24
  go_wp2_with (first | (go_at_call 35; refine (made_any (HD.out.below (by repeat (first | (with_reducible exact Below.refl _ _) | (with_reducible exact bl_mm) | (with_reducible refine bl_dr ?_) | (with_reducible refine bl_drN ?_ _) | (with_reducible refine bl_al ?_ _) | (with_reducible refine bl_more ?_ _ _)))) HN.out).mono ?_; rintro e w1 ⟨rfl, hb1⟩; obtain ⟨ex, dx, rfl⟩ := more_of hb1; clear hb1))
  go_ret
  exact ⟨rfl, (HD.out.setRoom HN65.out (s.room + n)).below (by repeat (first | (with_reducible exact Below.refl _ _) | (with_reducible exact bl_mm) | (with_reducible refine bl_dr ?_) | (with_reducible refine bl_drN ?_ _) | (with_reducible refine bl_al ?_ _) | (with_reducible refine bl_more ?_ _ _))), (by repeat (first | (with_reducible exact Ext.refl _ _) | (with_reducible refine ex_dr ?_) | (with_reducible refine ex_drN ?_ _) | (with_reducible refine ex_al ?_ _) | (with_reducible refine ex_more ?_ _ _) | (with_reducible refine Ext.set ?_ _ _ _ (by first | exact rfl | exact .inl rfl | exact .inr rfl))))⟩
end Go.Proofs.Ytnobbehoojgfcaa
