/- A pool: find, where the worker has none. -/
import Derived.RangeFuncWrites
import Derived.Test.YtlfdnjomjheioaaPaN
namespace Go.Proofs.Ytlfdnjomjheioaa
open Go.RowKit Go.Shelf
attribute [local go_sem] Oper.semAt_some

/-- How a round of find is left: by a return, with what is told in the boxes b, b + 1, b + 2. -/
structure Left (N B p : Nat) (F : Nat → Prop) (ad : Nat → Ad) (w0 : World) (s : List Wk) (f : Nat → Option (List Wk × Job × Nat)) (c : Code) (pre : List (Fin s.length)) (W : World) : Prop where
  ret : c = .ret
  ex : ∃ q v s' j hi vv F' ad' Wb, pre = q ++ [v] ∧ (∀ y ∈ q, f y.val = none) ∧ f v.val = some (s', j, v.val) ∧ Past B Wb W ∧ Told N w0.heap.size hi p F (Blk s p ad) s' j vv F' ad' Wb ∧ Ext (Blk s p ad) w0 Wb ∧ (∀ k u, (jobCells j vv)[k]? = some u → Wb.cell? ⟨w0.heap.size + 1, k, none⟩ = some u) ∧ Wb.cell? ⟨w0.heap.size + 1 + 1, 0, none⟩ = some (.int .i64 v.val) ∧ Wb.cell? ⟨w0.heap.size + 1 + 1 + 1, 0, none⟩ = some (.int .i64 0)
theorem left_own {N B p : Nat} {F : Nat → Prop} {ad : Nat → Ad} {w0 : World} {s : List Wk} {f : Nat → Option (List Wk × Job × Nat)} (c : Code) : OwnFrom B (Left N B p F ad w0 s f c) := by
  rintro pre W W' row ⟨h1, q, v, s', j, hi, vv, F', ad', Wb, a1, a2, a3, a4, a5⟩ hg hr
  exact ⟨h1, q, v, s', j, hi, vv, F', ad', Wb, a1, a2, a3, a4.step hg hr, a5⟩

theorem kf_below {B : Nat} {W W' : World} (h : Below W.heap.size W W') : KeepsFrom B W W' := kf_ext (Ext.of_below (S := fun _ => False) h) (fun _ _ h => h.elim)
theorem kf_put2 {B d g : Nat} {W W' Wf : World} {o1 o2 : Obj} {e e2 : Array Obj} {n n' n2 : Nat} (hB : W.heap.size = B) (hs : W'.heap.size = W.heap.size) (hd : d < B) (hg : g < B) (hf : Below (more (putB (putB (more W' e n') d o1) g o2) e2 n2).heap.size (more (putB (putB (more W' e n') d o1) g o2) e2 n2) Wf) : KeepsFrom B (more W e n) Wf := by
  have h1 := hf.size
  refine ⟨by simp only [more_size, putB_size] at h1 ⊢; omega, fun k o hk ho _ => ?_⟩
  have hlt := (Array.getElem?_eq_some_iff.1 ho).1
  rw [more_size] at hlt
  rw [hf.block k (by simp only [more_size, putB_size]; omega), more_heap (by simp only [more_size, putB_size]; omega), putB_heap (by omega), putB_heap (by omega)]
  exact (more_swap hs (by omega)).trans ho
theorem OwnFrom.up {β : Type} {B B' : Nat} {I : β → World → Prop} (h : OwnFrom B I) (hB : B ≤ B') : OwnFrom B' I := fun s W W' row hs hg hr => h s W W' row hs hg (fun r e => ⟨Nat.le_trans hB (hr r e).1, (hr r e).2⟩)
theorem own_heap {β : Type} {B D : Nat} {o : Obj} (hD : D < B) : OwnFrom B (fun (_ : β) W => W.heap[D]? = some o) := fun _ W W' row hs hg hr =>
  (hg.block D (Array.getElem?_eq_some_iff.1 hs).1 (fun e => by have := (hr D e.symm).1; omega)).trans hs
theorem kf_swap {B : Nat} {W W' Wf : World} {e : Array Obj} {n n' : Nat} (hB : W.heap.size = B) (hs : W'.heap.size = W.heap.size) (hf : Wf = more W' e n') : KeepsFrom B (more W e n) Wf := by
  subst hf
  refine ⟨by simp only [more_size]; omega, fun k o hk ho _ => ?_⟩
  exact (more_swap hs (by omega)).trans ho
theorem Pl.freeAt {N : Nat} {w Wf : World} {F : Nat → Prop} {p : Nat} {s : List Wk} {ad : Nat → Ad} (h : Pl N w F p s ad) (v : Nat) (hv : v < s.length) {jb : Job} (hh : s[v].h = some jb) {u : Value} (hi : Nat) (hr : intE.Row F w u jb.stamp)
    (hb : Below (w.setCell ⟨p, 1 + v * 2 + 1, none⟩ (.pointer none)).heap.size (w.setCell ⟨p, 1 + v * 2 + 1, none⟩ (.pointer none)) Wf) :
    ∃ F' ad', Told N w.heap.size hi p F (Blk s p ad) (s.set v ⟨s[v].l, none⟩) jb u F' ad' Wf := by
  have h1 := h.sharp.free v hv
  have hl := h.lt
  have lt := fun j hj b hb => (h.at_ j hj).lt (b := b) hb
  refine ⟨_, _, h1.below hb, ?_, ((h.at_ v hv).hs jb hh).2.2, fun b _ hf => hf.1, fun b j _ hj e => ?_, fun b hb1 hb2 => ⟨fun hf => by omega, by omega, fun j hj e => ?_⟩⟩
  · exact (hr.bound.ext (Ext.setCell (S := fun b => b = p) w ⟨p, 1 + v * 2 + 1, none⟩ (.pointer none) rfl) (fun b hb _ e => h.pF (by have e : b = p := e; rw [← e]; exact hb.1))).below hb
  · rw [List.length_set] at hj
    by_cases hji : j = v
    · subst hji
      rw [put_same] at e
      rcases e with e | e | e
      · exact .inr ⟨j, hj, .inl e⟩
      · exact .inr ⟨j, hj, .inr (.inl e)⟩
      · exact .inr ⟨j, hj, .inl e⟩
    · rw [put_other _ hji] at e
      exact .inr ⟨j, hj, e⟩
  · rw [List.length_set] at hj
    by_cases hji : j = v
    · subst hji
      rw [put_same] at e
      rcases e with e | e | e
      · have := lt j hj b (.inl e); omega
      · have := lt j hj b (.inr (.inl e)); omega
      · have := lt j hj b (.inl e); omega
    · rw [put_other _ hji] at e
      have := lt j hj b e; omega
theorem left_held {N B : Nat} {w Wf : World} {F : Nat → Prop} {p : Nat} {s : List Wk} {ad : Nat → Ad} (h : Pl N w F p s ad) {pre : List (Fin s.length)} (v : Nat) (hv : v < s.length) {jb : Job} (hpre : ∀ y ∈ pre, heldOf s y.val = none) (hs : heldOf s v = some (s.set v ⟨s[v].l, none⟩, jb, v)) (hh : s[v].h = some jb) {u : Value} (hr : intE.Row F w u jb.stamp)
    (hb : Below (w.setCell ⟨p, 1 + v * 2 + 1, none⟩ (.pointer none)).heap.size (w.setCell ⟨p, 1 + v * 2 + 1, none⟩ (.pointer none)) Wf)
    (h6 : ∀ k x, (jobCells jb u)[k]? = some x → Wf.cell? ⟨w.heap.size + 1, k, none⟩ = some x) (h7 : Wf.cell? ⟨w.heap.size + 1 + 1, 0, none⟩ = some (.int .i64 v)) (h8 : Wf.cell? ⟨w.heap.size + 1 + 1 + 1, 0, none⟩ = some (.int .i64 0)) : Left N B p F ad w s (heldOf s) .ret (pre ++ [⟨v, hv⟩]) Wf := by
  obtain ⟨F', ad', ht⟩ := h.freeAt v hv hh 0 hr hb
  exact ⟨rfl, pre, ⟨v, hv⟩, _, jb, 0, u, F', ad', Wf, rfl, hpre, hs, Past.refl _ _, ht, (Ext.setCell w _ _ (.inl rfl)).more_ hb, h6, h7, h8⟩
theorem stolen_none {s : List Wk} {v : Nat} (hv : v < s.length) (h : s[v].l = []) : stolen s v = none := by
  unfold stolen
  rw [List.getElem?_eq_getElem hv]
  cases hw : s[v] with
  | mk l h' => rw [hw] at h; simp only at h; subst h; rfl
theorem stolen_some {s : List Wk} {v : Nat} {x : Job} {l : List Job} (hv : v < s.length) (h : s[v].l = x :: l) : stolen s v = some (s.set v ⟨l, s[v].h⟩, x, v) := by
  unfold stolen
  rw [List.getElem?_eq_getElem hv]
  cases hw : s[v] with
  | mk l h' => rw [hw] at h; simp only at h; subst h; rfl
theorem held_none {s : List Wk} {v : Nat} (hv : v < s.length) (h : s[v].h = none) : heldOf s v = none := by
  unfold heldOf
  rw [List.getElem?_eq_getElem hv]
  cases hw : s[v] with
  | mk l h' => rw [hw] at h; simp only at h; subst h; rfl
theorem held_some {s : List Wk} {v : Nat} {x : Job} (hv : v < s.length) (h : s[v].h = some x) : heldOf s v = some (s.set v ⟨s[v].l, none⟩, x, v) := by
  unfold heldOf
  rw [List.getElem?_eq_getElem hv]
  cases hw : s[v] with
  | mk l h' => rw [hw] at h; simp only at h; subst h; rfl
theorem pre_snoc {s : List Wk} {β : Type} {f : Nat → Option β} {pre : List (Fin s.length)} {x : Fin s.length} (h : ∀ y ∈ pre, f y.val = none) (hx : f x.val = none) : ∀ y ∈ pre ++ [x], f y.val = none := by
  intro y hy
  rcases List.mem_append.1 hy with h1 | h1
  · exact h y h1
  · rw [List.mem_singleton.1 h1]; exact hx
set_option maxRecDepth 100000 in
set_option maxHeartbeats 2000000 in
theorem find_go {N : Nat} {w : World} {F : Nat → Prop} {p : Nat} {s : List Wk} {ad : Nat → Ad} (h : Pl N w F p s ad) (i : Nat) (hi : i < s.length) (pick : Int) (hx : s[i].l = []) :
    Calls Try.prog 28 #[.pointer (some ⟨p, 0, none⟩), .int .i64 i, .int .i64 pick] w (Found N w p F ad (((circ s pick).findSome? (stolen s)).or ((circ s pick).findSome? (heldOf s))) s) := by
  have hl := h.lt
  have q1 := (h.at_ i hi).dp
  have n2 := h.n2
  have k1 := (h.at_ i hi).lt (.inl rfl)
  have k2 := (h.at_ i hi).lt (.inr (.inl rfl))
  have i2 : (i : Int) < 64 := by omega
  have i3 : (0 : Int) ≤ (i : Int) := by omega
  have HP := hid h
  have HI := hid (And.intro hi trivial)
  have HL := hid hx
  clear h hx n2
  refine (callsIn_wide (n := 9)).1 ?_
  refine callsIn_of_wp_marks Try.func28 rfl trivial ?_ rfl
  simp only [Try.ntmps28, List.size_toArray, List.length_cons, List.length_nil, Nat.reduceAdd, Nat.reduceSub, Array.replicate_succ, Array.replicate_zero, List.push_toArray, List.append_toArray, List.nil_append, List.cons_append]
  gi_wp2_with (first | (refine ⟨trivial, ?_⟩; gi_at_call 46; refine (callsIn_wide.2 ((HP.out.below (by repeat (first | (with_reducible exact Below.refl _ _) | (with_reducible exact bl_mm) | (with_reducible refine bl_dr ?_) | (with_reducible refine bl_drN ?_ _) | (with_reducible refine bl_al ?_ _) | (with_reducible refine bl_more ?_ _ _)))).popNone i HI.out.1 HL.out)).mono ?_; rintro e w1 ⟨rfl, hb1⟩; obtain ⟨ex, dx, rfl⟩ := more_of hb1; clear hb1) | (refine ⟨trivial, ?_⟩; gi_at_call 47; refine (circle_in _ _ trivial rfl p pick _).mono ?_; rintro e w2 ⟨rfl, rfl⟩))
  refine wpIn_name (fun W0 hW0 => ?_)
  have b0 : Below w.heap.size w W0 := by rw [hW0]; exact (by repeat (first | (with_reducible exact Below.refl _ _) | (with_reducible exact bl_mm) | (with_reducible refine bl_dr ?_) | (with_reducible refine bl_drN ?_ _) | (with_reducible refine bl_al ?_ _) | (with_reducible refine bl_more ?_ _ _)))
  have r1 := HP.out.n1
  have r2 := HP.out.n2
  have hz := b0.size
  have hp0 : W0.cell? ⟨p, 0, none⟩ = some (.int .i64 s.length) := cell_kept b0 HP.out.n
  have hsz : W0.heap.size = w.heap.size + 1 + 1 + 1 + 1 + ex.size + 1 + 1 + 1 := by rw [hW0]; simp [more_size]
  have hc1 : W0.cell? ⟨w.heap.size + 1 + 1 + 1 + 1 + ex.size + 1 + 1, 0, none⟩ = some (.int .i64 pick) := by rw [hW0]; go_simp
  have hc2 : W0.cell? ⟨w.heap.size + 1 + 1 + 1 + 1 + ex.size + 1, 0, none⟩ = some (.pointer (some ⟨p, 0, none⟩)) := by rw [hW0]; go_simp
  refine' wpIn_rangeFunc_ownG rfl (by omega) (gf := 63) (lb := #[.pointer (some ⟨w.heap.size + 1 + 1 + 1 + 1 + ex.size + 1 + 1, 0, none⟩), .pointer (some ⟨w.heap.size + 1 + 1 + 1 + 1 + ex.size + 1, 0, none⟩)]) rfl trivial (enters_of Try.func63 (by kernel_rfl) rfl)
    (circle_stops Fence.wide (9 - 1) trivial rfl (by omega) p _ _ s.length pick W0 r1 r2 (by omega) (by omega) (by omega) hp0 hc1 hc2) (fun h k => h.trans k) (fun W l o o' h1 h2 h3 _ => kc_b (w := W0) l o o' h1 h2 h3) (Below.refl _ _) (fun _ => rfl)
    (fun pre W => (∀ y ∈ pre, stolen s y.val = none) ∧ Below W0.heap.size W0 W) (Left N W0.heap.size p F ad w s (stolen s))
    (OwnFrom.and (fun _ _ _ _ hs _ _ => hs) (ownFrom_below (Nat.le_refl _) (Nat.le_refl _))) left_own
    ⟨(fun y hy => by cases hy), Below.refl _ _⟩ _ ?assign ?body ?done ?stop
  case assign =>
    intro l x W K hK
    gi_wp2
    exact hK
  case body =>
    rintro l pre x W ⟨hpre, hB⟩ _
    obtain ⟨e1, d1, rfl⟩ := more_of hB
    subst hW0
    obtain ⟨v, hv⟩ := x
    have q3 := (HP.out.at_ v hv).dp
    have k3 := (HP.out.at_ v hv).lt (.inl rfl)
    have k4 := (HP.out.at_ v hv).lt (.inr (.inl rfl))
    have i4 : (v : Int) < 64 := by omega
    have i5 : (0 : Int) ≤ (v : Int) := by omega
    have HV := hid (And.intro hv trivial)
    have HPRE := hid hpre
    clear hpre hB b0 hz hsz hp0 hc1 hc2 r1 r2
    dsimp only
    cases hlv : s[v].l with
    | nil =>
      have HLV := hid hlv
      clear hlv
      gi_wp2_with (refine ⟨trivial, ?_⟩; gi_at_call 48; refine (CallsIn.inRound l (callsIn_wide.2 ((HP.out.below (by repeat (first | (with_reducible exact Below.refl _ _) | (with_reducible exact bl_mm) | (with_reducible refine bl_dr ?_) | (with_reducible refine bl_drN ?_ _) | (with_reducible refine bl_al ?_ _) | (with_reducible refine bl_more ?_ _ _)))).stealNone v HV.out.1 HLV.out))).mono ?_; rintro e w1 ⟨rfl, hb1⟩; obtain ⟨ex3, dx3, rfl⟩ := more_of hb1; clear hb1)
      exact ⟨kf_below (by repeat (first | (with_reducible exact Below.refl _ _) | (with_reducible exact bl_mm) | (with_reducible refine bl_dr ?_) | (with_reducible refine bl_drN ?_ _) | (with_reducible refine bl_al ?_ _) | (with_reducible refine bl_more ?_ _ _))), kc_below (by repeat (first | (with_reducible exact Below.refl _ _) | (with_reducible exact bl_mm) | (with_reducible refine bl_dr ?_) | (with_reducible refine bl_drN ?_ _) | (with_reducible refine bl_al ?_ _) | (with_reducible refine bl_more ?_ _ _))), pre_snoc HPRE.out (stolen_none hv HLV.out), (by repeat (first | (with_reducible exact Below.refl _ _) | (with_reducible exact bl_mm) | (with_reducible refine bl_dr ?_) | (with_reducible refine bl_drN ?_ _) | (with_reducible refine bl_al ?_ _) | (with_reducible refine bl_more ?_ _ _)))⟩
    | cons jx lx =>
      have HLV := hid hlv
      clear hlv
      gi_wp2_with (refine ⟨trivial, ?_⟩; gi_at_call 48; refine (CallsIn.inRound l (callsIn_wide.2 (HP.out.stealAt (by repeat (first | (with_reducible exact Below.refl _ _) | (with_reducible exact bl_mm) | (with_reducible refine bl_dr ?_) | (with_reducible refine bl_drN ?_ _) | (with_reducible refine bl_al ?_ _) | (with_reducible refine bl_more ?_ _ _))) v HV.out.1 HLV.out))).mono ?_; rintro e w1 ⟨v', rfl, hr, ht, hb1, o1, o2, ex3, dx3, rfl⟩; obtain ⟨A', c', rfl, _, _⟩ := hr.form; have HT := hid (And.intro ht trivial); have HB := hid (And.intro hb1 trivial); clear ht hb1 hr)
      obtain ⟨⟨F', ad', ht⟩, _⟩ := HT.out
      refine ⟨kf_put2 rfl (by simp [more_size]) (by simp [more_size]; omega) (by simp [more_size]; omega) (bl_al (Below.refl _ _) _), rfl, pre, ⟨v, hv⟩, _, jx, _, _, F', ad', _, rfl, HPRE.out, stolen_some hv HLV.out, Past.refl _ _, (ht.shut (by repeat (first | (with_reducible exact Below.refl _ _) | (with_reducible exact bl_mm) | (with_reducible refine bl_dr ?_) | (with_reducible refine bl_drN ?_ _) | (with_reducible refine bl_al ?_ _) | (with_reducible refine bl_more ?_ _ _))) (by repeat (first | (with_reducible exact Below.refl _ _) | (with_reducible exact bl_mm) | (with_reducible refine bl_dr ?_) | (with_reducible refine bl_drN ?_ _) | (with_reducible refine bl_al ?_ _) | (with_reducible refine bl_more ?_ _ _))) (by simp [more_size])).below (bl_al (Below.refl _ _) _), ?_, ?_, ?_, ?_⟩
      · exact (ext_of_put2 (by repeat (first | (with_reducible exact Below.refl _ _) | (with_reducible exact bl_mm) | (with_reducible refine bl_dr ?_) | (with_reducible refine bl_drN ?_ _) | (with_reducible refine bl_al ?_ _) | (with_reducible refine bl_more ?_ _ _))) (.inr ⟨v, hv, .inl rfl⟩) (.inr ⟨v, hv, .inr (.inl rfl)⟩)).more_ (bl_al (Below.refl _ _) _)
      · intro k u hk
        rcases k with _ | _ | _ | _ | _ | _ | k <;> simp only [jobCells, List.getElem?_cons_zero, List.getElem?_cons_succ, List.getElem?_nil, Option.some.injEq, reduceCtorEq, Nat.reduceAdd, Nat.zero_add] at hk
        all_goals (subst hk; go_simp)
      · go_simp
      · go_simp
  case stop =>
    rintro D c pre W hD hpre ⟨rfl, q, v, s', j, hi', vv, F', ad', Wb, rfl, hq, hf, hpast, ht, hbN, hc6, hc7, hc8⟩ hK
    have hp2 := hpast.step (grownBy_putObj' W D (.deferred none)) (fun r e => by cases e; exact ⟨hD, _, hK, rfl⟩)
    have x0 := hp2.cell (hc6 0 _ rfl)
    have x1 := hp2.cell (hc6 1 _ rfl)
    have x2 := hp2.cell (hc6 2 _ rfl)
    have x3 := hp2.cell (hc6 3 _ rfl)
    have x4 := hp2.cell (hc6 4 _ rfl)
    have x5 := hp2.cell (hc6 5 _ rfl)
    have x6 := hp2.cell hc7
    have x7 := hp2.cell hc8
    gi_wp2
    refine ⟨by simp, .inl ⟨_, _, rfl, run_takeDeferred hK, ?_⟩⟩
    refine ⟨.tuple #[jobV j vv, .int .i64 v.val, .int .i64 0], by simp [results, Try.results28, go_sem, x0, x1, x2, x3, x4, x5, x6, x7], ?_⟩
    rw [findSome_ring r1 pick hq hf hpre]
    exact ⟨F', ad', vv, _, rfl, ht.past hp2, hbN.past hp2 (by omega)⟩
  case done =>
    rintro D ys W hD rfl ⟨hnone, hB⟩ hK
    have hfn := findSome_none r1 pick hnone
    have HFN := hid hfn
    obtain ⟨ex1, dx1, rfl⟩ := more_of hB
    subst hW0
    have HK := hid hK
    have HD := hid hD
    clear hfn hnone hB hK hD hp0 hc1 hc2
    gi_wp2_with (refine ⟨trivial, ?_⟩; gi_at_call 47; refine (circle_in _ _ trivial rfl p pick _).mono ?_; rintro e w2 ⟨rfl, rfl⟩)
    refine wpIn_name (fun W1 hW1 => ?_)
    have b1 : Below w.heap.size w W1 := by rw [hW1]; exact (by repeat (first | (with_reducible exact Below.refl _ _) | (with_reducible exact bl_mm) | (with_reducible refine bl_dr ?_) | (with_reducible refine bl_drN ?_ _) | (with_reducible refine bl_al ?_ _) | (with_reducible refine bl_more ?_ _ _)))
    have hz1 := b1.size
    have hp0 : W1.cell? ⟨p, 0, none⟩ = some (.int .i64 s.length) := cell_kept b1 HP.out.n
    have hsz1 : W1.heap.size = w.heap.size + 1 + 1 + 1 + 1 + ex.size + 1 + 1 + 1 + ex1.size + 1 + 1 := by rw [hW1]; simp [more_size]
    have hc1 : W1.cell? ⟨w.heap.size + 1 + 1 + 1 + 1 + ex.size + 1 + 1 + 1 + ex1.size + 1, 0, none⟩ = some (.int .i64 pick) := by rw [hW1]; go_simp
    have hc2 : W1.cell? ⟨w.heap.size + 1 + 1 + 1 + 1 + ex.size + 1 + 1 + 1 + ex1.size, 0, none⟩ = some (.pointer (some ⟨p, 0, none⟩)) := by rw [hW1]; go_simp
    have hDl : D < W1.heap.size := by have := (Array.getElem?_eq_some_iff.1 HK.out).1; rw [hsz1]; simp [more_size] at this; omega
    have hDs : D < w.heap.size + 1 + 1 + 1 + 1 + ex.size + 1 + 1 + 1 + ex1.size := by have := (Array.getElem?_eq_some_iff.1 HK.out).1; simp [more_size] at this; omega
    have HDS := hid hDs
    have hDg : w.heap.size + 1 + 1 + 1 + 1 ≤ D := by have := HD.out; simp [more_size] at this; omega
    have hKD : W1.heap[D]? = some (.deferred (some [])) := by
      rw [hW1, Below.heap_alloc _ _ _ (by have := (Array.getElem?_eq_some_iff.1 HK.out).1; simp [more_size] at this ⊢; omega), Below.heap_alloc _ _ _ (by have := (Array.getElem?_eq_some_iff.1 HK.out).1; simp [more_size] at this ⊢; omega)]
      exact HK.out
    refine' wpIn_rangeFunc_ownG rfl (by omega) (gf := 63) (lb := #[.pointer (some ⟨w.heap.size + 1 + 1 + 1 + 1 + ex.size + 1 + 1 + 1 + ex1.size + 1, 0, none⟩), .pointer (some ⟨w.heap.size + 1 + 1 + 1 + 1 + ex.size + 1 + 1 + 1 + ex1.size, 0, none⟩)]) rfl trivial (enters_of Try.func63 (by kernel_rfl) rfl)
      (circle_stops Fence.wide (9 - 1) trivial rfl (by omega) p _ _ s.length pick W1 r1 r2 (by omega) (by omega) (by omega) hp0 hc1 hc2) (fun h k => h.trans k) (fun W l o o' h1 h2 h3 _ => kc_b (w := W1) l o o' h1 h2 h3) (Below.refl _ _) (fun _ => rfl)
      (fun pre W => (∀ y ∈ pre, heldOf s y.val = none) ∧ Below W1.heap.size W1 W) (fun c pre W => Left N (w.heap.size + 1 + 1 + 1 + 1) p F ad w s (heldOf s) c pre W ∧ W.heap[D]? = some (.deferred (some [])))
      (OwnFrom.and (fun _ _ _ _ hs _ _ => hs) (ownFrom_below (Nat.le_refl _) (Nat.le_refl _))) (fun c => OwnFrom.and (OwnFrom.up (left_own c) (by omega)) (own_heap hDl))
      ⟨(fun y hy => by cases hy), Below.refl _ _⟩ _ ?assign2 ?body2 ?done2 ?stop2
    case assign2 =>
      intro l x W K hK
      gi_wp2
      exact hK
    case body2 =>
      rintro l pre x W ⟨hpre, hB⟩ _
      obtain ⟨e1, d1, rfl⟩ := more_of hB
      subst hW1
      obtain ⟨v, hv⟩ := x
      have hw := HP.out.at_ v hv
      have q3 := hw.hp
      have k3 := hw.hl
      obtain ⟨cur, hcb, hcz, _⟩ := HP.out.blk
      have q5 := frz_blk hcb (1 + v * 2 + 1)
      have i4 : (v : Int) < 64 := by omega
      have i5 : (0 : Int) ≤ (v : Int) := by omega
      have HV := hid (And.intro hv trivial)
      have HPRE := hid hpre
      cases hlv : s[v].h with
      | none =>
        have HLV := hid hlv
        rw [hlv] at q3
        simp only [Option.map_none] at q3
        clear hlv hpre hB b0 hz hsz hp0 hc1 hc2 r1 r2 hw b1 hz1 hsz1 hDl hDg hDs hKD hcb hcz
        dsimp only
        gi_wp2
        exact ⟨kf_below (by repeat (first | (with_reducible exact Below.refl _ _) | (with_reducible exact bl_mm) | (with_reducible refine bl_dr ?_) | (with_reducible refine bl_drN ?_ _) | (with_reducible refine bl_al ?_ _) | (with_reducible refine bl_more ?_ _ _))), kc_below (by repeat (first | (with_reducible exact Below.refl _ _) | (with_reducible exact bl_mm) | (with_reducible refine bl_dr ?_) | (with_reducible refine bl_drN ?_ _) | (with_reducible refine bl_al ?_ _) | (with_reducible refine bl_more ?_ _ _))), pre_snoc HPRE.out (held_none hv HLV.out), (by repeat (first | (with_reducible exact Below.refl _ _) | (with_reducible exact bl_mm) | (with_reducible refine bl_dr ?_) | (with_reducible refine bl_drN ?_ _) | (with_reducible refine bl_al ?_ _) | (with_reducible refine bl_more ?_ _ _)))⟩
      | some jb =>
        have HLV := hid hlv
        rw [hlv] at q3
        simp only [Option.map_some] at q3
        obtain ⟨_, u, hjb, hjr⟩ := hw.hj jb hlv
        obtain ⟨A', c', rfl, _, _⟩ := hjr.form
        have g0 := cell_blk hjb 0
        have g1 := cell_blk hjb 1
        have g2 := cell_blk hjb 2
        have g3 := cell_blk hjb 3
        have g4 := cell_blk hjb 4
        have g5 := cell_blk hjb 5
        simp only [jobCells, List.getElem?_toArray, List.getElem?_cons_zero, List.getElem?_cons_succ] at g0 g1 g2 g3 g4 g5
        have HJR := hid hjr
        have hne : (ad v).h ≠ p := fun e => HP.out.np v hv (.inr (.inr e.symm))
        have HKD := hid hKD
        have HDG := hid hDg
        clear hlv hpre hB b0 hz hsz hp0 hc1 hc2 r1 r2 hw b1 hz1 hsz1 hDl hDg hDs hKD hcb hcz hjb hjr
        dsimp only
        gi_wp2
        refine ⟨kf_swap rfl (by simp [more_size]) rfl, left_held HP.out v hv HPRE.out (held_some hv HLV.out) HLV.out HJR.out (by repeat (first | (with_reducible exact Below.refl _ _) | (with_reducible exact bl_mm) | (with_reducible refine bl_dr ?_) | (with_reducible refine bl_drN ?_ _) | (with_reducible refine bl_al ?_ _) | (with_reducible refine bl_more ?_ _ _))) ?_ ?_ ?_, ?_⟩
        · intro k u hk
          rcases k with _ | _ | _ | _ | _ | _ | k <;> simp only [jobCells, List.getElem?_cons_zero, List.getElem?_cons_succ, List.getElem?_nil, Option.some.injEq, reduceCtorEq, Nat.reduceAdd, Nat.zero_add] at hk
          all_goals (subst hk; go_simp)
        · go_simp
        · go_simp
        · have h1 := HDS.out
          have h2 := HDG.out
          exact (more_heap (by simp [more_size]; omega)).trans ((Below.heap_alloc _ _ _ (by simp [more_size]; omega)).trans ((Below.heap_alloc _ _ _ (by simp [more_size]; omega)).trans ((more_swap (by simp [more_size]) (by have := HD.out; simpa using this)).trans HK.out)))
    case stop2 =>
      rintro D2 c pre W hD2 hpre ⟨⟨rfl, q, v, s', j, hi', vv, F', ad', Wb, rfl, hq, hf, hpast, ht, hbN, hc6, hc7, hc8⟩, hKd⟩ hK2
      have hKd2 : (W.putObj D2 (.deferred none)).heap[D]? = some (.deferred (some [])) := (World.putObj_heap_other (by omega)).trans hKd
      have hp2 := (hpast.step (grownBy_putObj' W D2 (.deferred none)) (fun r e => by cases e; exact ⟨by omega, _, hK2, rfl⟩)).step (grownBy_putObj' _ D (.deferred none)) (fun r e => by cases e; exact ⟨by omega, _, hKd2, rfl⟩)
      have x0 := hp2.cell (hc6 0 _ rfl)
      have x1 := hp2.cell (hc6 1 _ rfl)
      have x2 := hp2.cell (hc6 2 _ rfl)
      have x3 := hp2.cell (hc6 3 _ rfl)
      have x4 := hp2.cell (hc6 4 _ rfl)
      have x5 := hp2.cell (hc6 5 _ rfl)
      have x6 := hp2.cell hc7
      have x7 := hp2.cell hc8
      gi_wp2
      refine ⟨by simp, .inl ⟨_, _, rfl, run_takeDeferred hK2, by simp, .inl ⟨_, _, rfl, run_takeDeferred hKd2, ?_⟩⟩⟩
      refine ⟨.tuple #[jobV j vv, .int .i64 v.val, .int .i64 0], by simp [results, Try.results28, go_sem, x0, x1, x2, x3, x4, x5, x6, x7], ?_⟩
      rw [HFN.out, findSome_ring r1 pick hq hf hpre]
      exact ⟨F', ad', vv, _, rfl, ht.past hp2, hbN.past hp2 (by omega)⟩
    case done2 =>
      rintro D2 ys W hD2 rfl ⟨hnone2, hB2⟩ hK2
      have hfn2 := findSome_none r1 pick hnone2
      have HFN2 := hid hfn2
      obtain ⟨ex2, dx2, rfl⟩ := more_of hB2
      subst hW1
      have HK2 := hid hK2
      have HD2 := hid hD2
      have HDG := hid hDg
      clear hfn2 hnone2 hB2 hK2 hD2 b0 hz hsz hp0 hc1 hc2 b1 hz1 hsz1 hDl hDg hDs hKD
      gi_wp2
      have h1 := HDS.out
      have h2 := HDG.out
      have h3 : w.heap.size + 1 + 1 + 1 + 1 + ex.size + 1 + 1 + 1 + ex1.size ≤ D2 := by have := HD2.out; simp [more_size] at this; omega
      obtain ⟨Wf, hWf⟩ : ∃ Wf, Wf = more ((((more (((((more ((((w.alloc (.cells #[.pointer (some ⟨p, 0, none⟩)] 27)).alloc (.cells #[.int .i64 0, .bool false, .int .i64 0, .bool false, .int .i64 0, .slice none 0 0] 33)).alloc (.cells #[.int .i64 0] 3)).alloc (.cells #[.int .i64 6] 34)) ex dx).alloc (.cells #[.int .i64 job0.item, .bool job0.undo, .int .i64 job0.try_, .bool job0.begun, .int .i64 job0.token, .slice none 0 0] 33)).alloc (.cells #[.pointer (some ⟨p, 0, none⟩)] 27)).alloc (.cells #[.int .i64 pick] 3))) ex1 dx1).alloc (.cells #[.pointer (some ⟨p, 0, none⟩)] 27)).alloc (.cells #[.int .i64 pick] 3))) ex2 dx2 := ⟨_, rfl⟩
      rw [← hWf]
      have hK2' : Wf.heap[D2]? = some (.deferred (some [])) := by
        rw [hWf]
        exact (more_swap (by simp [more_size]) (by have := HD2.out; simpa using this)).trans HK2.out
      have hKd' : Wf.heap[D]? = some (.deferred (some [])) := by
        rw [hWf]
        exact (more_heap (by simp [more_size]; omega)).trans ((Below.heap_alloc _ _ _ (by simp [more_size]; omega)).trans ((Below.heap_alloc _ _ _ (by simp [more_size]; omega)).trans ((more_swap (by simp [more_size]) (by have := HD.out; simpa using this)).trans HK.out)))
      have hKd2 : (Wf.putObj D2 (.deferred none)).heap[D]? = some (.deferred (some [])) := (World.putObj_heap_other (by omega)).trans hKd'
      have hBf : Below w.heap.size w ((Wf.putObj D2 (.deferred none)).putObj D (.deferred none)) :=
        ((show Below w.heap.size w Wf by rw [hWf]; exact (by repeat (first | (with_reducible exact Below.refl _ _) | (with_reducible exact bl_mm) | (with_reducible refine bl_dr ?_) | (with_reducible refine bl_drN ?_ _) | (with_reducible refine bl_al ?_ _) | (with_reducible refine bl_more ?_ _ _)))).trans (belowK_b (w := w) (Nat.le_refl _) Wf D2 _ _ (by omega) hK2' rfl rfl)).trans (belowK_b (w := w) (Nat.le_refl _) _ D _ _ (by omega) hKd2 rfl rfl)
      have hcf : ∀ b o v, Wf.cell? ⟨b, o, none⟩ = some v → ((Wf.putObj D2 (.deferred none)).putObj D (.deferred none)).cell? ⟨b, o, none⟩ = some v := fun b o v e =>
        Go.cell_kept (Go.cell_kept e (grownBy_putObj' _ D2 (.deferred none)) (fun r e => by cases e; exact ⟨_, hK2', rfl⟩)) (grownBy_putObj' _ D (.deferred none)) (fun r e => by cases e; exact ⟨_, hKd2, rfl⟩)
      have x0 := hcf (w.heap.size + 1) 0 (.int .i64 0) (by rw [hWf]; go_simp)
      have x1 := hcf (w.heap.size + 1) 1 (.bool false) (by rw [hWf]; go_simp)
      have x2 := hcf (w.heap.size + 1) 2 (.int .i64 0) (by rw [hWf]; go_simp)
      have x3 := hcf (w.heap.size + 1) 3 (.bool false) (by rw [hWf]; go_simp)
      have x4 := hcf (w.heap.size + 1) 4 (.int .i64 0) (by rw [hWf]; go_simp)
      have x5 := hcf (w.heap.size + 1) 5 (.slice none 0 0) (by rw [hWf]; go_simp)
      have x6 := hcf (w.heap.size + 1 + 1) 0 (.int .i64 0) (by rw [hWf]; go_simp)
      have x7 := hcf (w.heap.size + 1 + 1 + 1) 0 (.int .i64 6) (by rw [hWf]; go_simp)
      clear hcf
      refine ⟨by simp, .inl ⟨_, _, rfl, run_takeDeferred hK2', by simp, .inl ⟨_, _, rfl, run_takeDeferred hKd2, ?_⟩⟩⟩
      refine ⟨.tuple #[jobV job0 (.slice none 0 0), .int .i64 0, .int .i64 6], by simp [results, Try.results28, job0, go_sem, x0, x1, x2, x3, x4, x5, x6, x7], ?_⟩
      rw [HFN.out, HFN2.out]
      exact ⟨rfl, HP.out.below hBf, Ext.of_below hBf⟩
end Go.Proofs.Ytlfdnjomjheioaa
