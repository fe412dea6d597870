/- Drop. -/
import Derived.Test.YtlfdnjomjheioaaDqR
namespace Go.Proofs.Ytlfdnjomjheioaa
open Go.RowKit

/-- A deque whose row is another one, behind w, in a world that is w but for new blocks and the deque's own. -/
theorem drop_end {F : Nat → Prop} {w X Y : World} {d g g1 : Nat} {l l' : List Job} {v2 : Value} {e : Array Obj} {n : Nat} (h : Dq w F d g l) (hX : Below w.heap.size w X) (hg1 : X.heap.size ≤ g1)
    (hs : jobE.Spine 33 (fun b => Kx F d g b ∧ b < w.heap.size) g1 (more X e n) v2 l') (hsz : Y.heap.size = X.heap.size) (hY : Below (w.setCell ⟨d, 1, none⟩ v2).heap.size (w.setCell ⟨d, 1, none⟩ v2) Y)
    (hfew : l'.length ≤ 128) (hok : ∀ j ∈ l', okJob j) :
    ∃ g', Dq (more Y e n) F d g' l' ∧ Up d g w g' (more Y e n) := by
  obtain ⟨vo, hb, _⟩ := h.at_
  have hd := h.lt
  have hXs := hX.size
  have hS : (w.setCell ⟨d, 1, none⟩ v2).heap.size = w.heap.size := by simp
  have hbS : (w.setCell ⟨d, 1, none⟩ v2).heap[d]? = some (.cells #[.bool true, v2] 88 (0, 0)) := by simp [World.setCell, Array.getElem?_modify, hb]
  have hYd : (more Y e n).heap[d]? = some (.cells #[.bool true, v2] 88 (0, 0)) := by
    rw [more_heap (by omega), hY.block d (by omega)]; exact hbS
  have hYo : ∀ b, b < w.heap.size → b ≠ d → (more Y e n).heap[b]? = w.heap[b]? := by
    intro b hl hne
    rw [more_heap (by omega), hY.block b (by omega), Below.heap_setCell _ _ _ _ (by exact hne)]
  have hext : Ext (fun b => b = d ∨ b = g) w (more Y e n) :=
    ((Ext.setCell w ⟨d, 1, none⟩ v2 (.inl rfl)).trans (T := fun b => b = d ∨ b = g) (Ext.of_below (hY.trans ((more_below Y e n).mono (by omega)))) (fun _ _ h => h))
  have hsize : (more Y e n).heap.size = (more X e n).heap.size := by rw [more_size, more_size, hsz]
  by_cases hc : capOf v2 = 0
  · exact ⟨g, ⟨by rw [hsize, more_size]; omega, hfew, hok, h.own.imp id (fun h => by rw [hsize, more_size]; omega), v2, hYd, hs.empty hc⟩, hext, .inl rfl⟩
  · obtain ⟨cur, hcur⟩ := hs.type hc
    have hgl := (Array.getElem?_eq_some_iff.1 hcur).1
    refine ⟨g1, ⟨by rw [hsize, more_size]; omega, hfew, hok, .inr (by rw [hsize]; exact hgl), v2, hYd, hs.step (fun cur hc => ?_) (fun b hk hl => ⟨⟨hk.1.1, hk.1.2.1, by omega⟩, ?_⟩)⟩, hext, .inr (by omega)⟩
    · rw [more_swap hsz hg1]; exact hc
    · rw [hYo b hk.2 hk.1.2.1, more_heap (by omega), hX.block b hk.2]

theorem and_left {p q : Nat → Prop} {e : Ending} (h : ∃ g', p g' ∧ q g') : ∃ g', e = e ∧ p g' ∧ q g' := by
  obtain ⟨g', h1, h2⟩ := h
  exact ⟨g', rfl, h1, h2⟩
theorem Spine_src {K : Nat → Prop} {w : World} {g : Nat} {v : Value} {xs : List Job} (h : jobE.Spine 33 K g w v xs) : jobE.Src K w v xs := by
  obtain ⟨A, c, rfl, h1, h2, h3⟩ := h
  refine ⟨A, c, rfl, h1, h2, fun hx => ?_⟩
  have h0 : 0 < xs.length := List.length_pos_iff.2 hx
  obtain ⟨off, cur, cs, rfl, hb, _, hf, hc⟩ := h3 (by omega)
  exact ⟨g, off, rfl, hf.at_ (fun j u hj => Enc.cell_of_cur hb (hc j u hj))⟩
set_option maxHeartbeats 1000000 in
theorem clone_src {K : Nat → Prop} {w : World} {v : Value} {xs : List Job} (h : jobE.Src K w v xs) (hlen : xs.length ≤ 4294967296) :
    Calls Try.prog 59 #[v] w fun e w' => ∃ v' g', e = .returned v' ∧ jobE.Spine 33 (fun b => K b ∧ b < w.heap.size) g' w' v' xs ∧ w.heap.size ≤ g' ∧ Below w.heap.size w w' := by
  obtain ⟨A, c, rfl, h1, h2, h3⟩ := h
  have kn := fun (wx : World) (a : Option Addr) (n c : Nat) => Lib.run_eql_slice_nil (P := Try.prog) wx 61 33 a n c 0 0 Try.underlying61
  cases A with
  | none =>
    obtain rfl : xs = [] := by
      apply Classical.byContradiction
      intro hx
      obtain ⟨_, _, h, _⟩ := h3 hx
      cases h
    go_enter Try.func59, Try.ntmps59
    go_wp2
    go_ret
    exact ⟨_, w.heap.size, rfl, Enc.Spine.nil _ _ _ _ _, Nat.le_refl _, Below.refl _ _⟩
  | some a =>
    have hs : jobE.Src K w (.slice (some a) xs.length c) xs := ⟨_, c, rfl, h1, h2, h3⟩
    have hy : jobE.Src (fun b => K b ∧ b < w.heap.size) (w.alloc (.cells #[] 33)) (.slice (some a) xs.length c) xs := (hs.mono (fun b hb hl => ⟨hb, hl⟩)).below ((Below.refl _ _).alloc (Nat.le_refl _) _)
    obtain ⟨v', w', g', hrun, hsp, hext, hg'⟩ := app40 (Enc.Spine.bare jobE 33 (fun b => K b ∧ b < w.heap.size) w.heap.size (w.alloc (.cells #[] 33)) (some ⟨w.heap.size, 0, none⟩)) hy (fun b hb _ => by omega) (by simpa using hlen)
    clear hs hy h3
    go_enter Try.func59, Try.ntmps59
    go_wp2_with (at_builtin; refine wpList_append_run rfl (.tmp 5) (.tmp 6) 61 61 rfl hrun ?_)
    go_ret
    refine ⟨_, g', rfl, hsp.step (fun _ h => h) (fun b hb _ => ⟨hb.1, rfl⟩), ?_, ?_⟩
    · rcases hg' with ⟨h, _⟩ | ⟨h, _⟩
      · omega
      · simp only [World.size_alloc] at h; omega
    · exact ((Below.refl _ _).alloc (Nat.le_refl _) _).trans (hext.toBelow (by simp) (fun x hx h => by have := h.1; omega))
set_option maxHeartbeats 2000000 in
theorem drop_any {F : Nat → Prop} {w : World} {d g : Nat} {l : List Job} {a c : Int} {b : Bool} (h : Dq w F d g l) :
    Calls Try.prog 42 #[.pointer (some ⟨d, 0, none⟩), keyV a b c] w fun e w' => ∃ g', e = .returned (.int .i64 ((l.length : Int) - (l.filter (fun x => !isKey a b c x)).length)) ∧ Dq w' F d g' (l.filter (fun x => !isKey a b c x)) ∧ Up d g w g' w' := by
  obtain ⟨A, cv, hb, hsp, hle, hc⟩ := h.cells
  have hd := h.lt
  have hfew := h.few
  have h0 : w.cell? ⟨d, 0, none⟩ = some (.bool true) := cell_blk hb 0
  have h1 : w.cell? ⟨d, 1, none⟩ = some (.slice A l.length cv) := cell_blk hb 1
  have f1 : w.frozen? ⟨d, 1, none⟩ = false := frz_blk hb 1
  have hfl : (l.filter (fun x => !isKey a b c x)).length ≤ l.length := List.length_filter_le _ _
  have w2 : IntKind.i64.wrap ((l.length : Int) - ((l.filter (fun x => !isKey a b c x)).length : Int)) = (l.length : Int) - ((l.filter (fun x => !isKey a b c x)).length : Int) := IntWalk.i64_in _ (by omega)
  have HF := hid h
  have HFL := hid hfl
  have HR := hid ((Spine_src hsp).mono (K' := fun b => Kx F d g b ∧ b < w.heap.size) (fun b hb hl => ⟨hb, hl⟩))
  clear h hb hsp hle hc hfl
  go_enter Try.func42, Try.ntmps42
  go_wp2_with (first | (go_at_call 43; go_in) | (go_at_call 57; go_in) | (go_at_call 59; refine (clone_src (HR.out.below (by repeat (first | (with_reducible exact Below.refl _ _) | (with_reducible refine bl_dr ?_) | (with_reducible refine bl_drN ?_ _) | (with_reducible refine bl_al ?_ _) | (with_reducible refine bl_more ?_ _ _)))) (by omega)).mono ?_; rintro e w1 ⟨v1, g1, rfl, hs1, hg1, hb1⟩; obtain ⟨A1, c1, rfl, _, _⟩ := hs1.form; obtain ⟨ex, dx, rfl⟩ := more_of hb1; clear hb1; have HS1 := hid (hs1.mono (K' := fun b => Kx F d g b ∧ b < w.heap.size) (fun b hb _ => hb.1)); have HG1 := hid hg1; clear hs1 hg1) | (go_at_call 58; refine (delete_any (kb := w.heap.size + 1) (a := a) (b := b) (c := c) HS1.out (fun x hx => by have h3 := hx.2; have h2 := HG1.out; simp only [World.size_alloc] at h2; omega) ⟨by go_simp, by go_simp, by go_simp, by go_simp⟩ (by have h2 := HG1.out; simp only [World.size_alloc] at h2; omega) (by omega)).mono ?_; rintro e w2 ⟨v2, rfl, hs2, he2⟩; obtain ⟨A2, c2, rfl, _, _⟩ := hs2.form; obtain ⟨ex2, dx2, rfl⟩ := more_of (W := (((w.alloc (.cells #[.pointer (some ⟨d, 0, none⟩)] 53)).alloc (.cells #[.int .i64 a, .bool b, .int .i64 c] 31)).alloc (.cells #[.int .i64 0] 3))) (Below.trans (more_below (((w.alloc (.cells #[.pointer (some ⟨d, 0, none⟩)] 53)).alloc (.cells #[.int .i64 a, .bool b, .int .i64 c] 31)).alloc (.cells #[.int .i64 0] 3)) ex dx) (he2.toBelow (by simp only [more_size, World.size_alloc]; omega) (fun x hx e => by have h2 := HG1.out; have e' : x = g1 := e; simp only [World.size_alloc] at h2 hx; omega))); clear he2; have HS2 := hid hs2; clear hs2))
  refine bodyPost_ret (v := .int .i64 ((l.length : Int) - (l.filter (fun x => !isKey a b c x)).length)) (by simp [results, Try.results42]) rfl ?_
  refine and_left (drop_end (w := w) (d := d) (g := g) HF.out (show Below w.heap.size w _ from (by repeat (first | (with_reducible exact Below.refl _ _) | (with_reducible refine bl_dr ?_) | (with_reducible refine bl_drN ?_ _) | (with_reducible refine bl_al ?_ _) | (with_reducible refine bl_more ?_ _ _)))) HG1.out HS2.out ?_ ?_ (by have := HFL.out; omega) (fun j hj => HF.out.ok j (List.mem_filter.1 hj).1))
  · simp only [World.size_alloc, World.size_setCell]
  · exact (by repeat (first | (with_reducible exact Below.refl _ _) | (with_reducible refine bl_dr ?_) | (with_reducible refine bl_drN ?_ _) | (with_reducible refine bl_al ?_ _) | (with_reducible refine bl_more ?_ _ _)))
end Go.Proofs.Ytlfdnjomjheioaa
