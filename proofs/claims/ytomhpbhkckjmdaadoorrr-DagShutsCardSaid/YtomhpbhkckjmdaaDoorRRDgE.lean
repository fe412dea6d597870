/- What gives up, and is caught. -/
import Derived.Test.YtomhpbhkckjmdaaDoorRRDgD
import Derived.Defers
import Derived.Recover
namespace Go.Proofs.YtomhpbhkckjmdaaDoorRR
open Go.RowKit

theorem ta1 (w : World) : (Instr.typeAssert (.iface 63 (.agg #[])) 20 63 true).run Tryd.prog w = .ok (.tuple #[.agg #[], .bool true]) w := by kernel_rfl
theorem ta2 (w : World) : (Instr.typeAssert (.iface 61 (.agg #[])) 20 63 true).run Tryd.prog w = .ok (.tuple #[.agg #[], .bool false]) w := by kernel_rfl
theorem ta3 (w : World) : (Instr.typeAssert (.iface 61 (.agg #[])) 20 61 false).run Tryd.prog w = .ok (.agg #[]) w := by kernel_rfl
theorem lt_of_cell {w : World} {p : Addr} {v : Value} (h : w.cell? p = some v) : p.block < w.heap.size := by
  unfold World.cell? at h
  cases ho : w.heap[p.block]? with
  | none => simp [ho] at h
  | some x => exact (Array.getElem?_eq_some_iff.1 ho).1
set_option maxHeartbeats 1000000 in
theorem catch_idle (p : Addr) (w : World) :
    CallsD Tryd.prog 30 #[.pointer (some p)] .returning w fun e u' w' => e = .returned (.tuple #[]) ∧ u' = .returning ∧ w' = w := by
  refine callsD_of_wpS Tryd.func30 rfl fun c₀ cs hu => ?_
  apply wpS_seq
  apply wpS_region
  simp [wpOpsS, go_sem, recoverD, hu, Tryd.ntmps30, Exit.thenS]
  refine wpS_of_wp ?_
  simp only [Array.replicate_succ, Array.replicate_zero, List.push_toArray, List.append_toArray, List.nil_append, List.cons_append, List.setIfInBounds_toArray, List.set_cons_succ, List.set_cons_zero]
  go_wp2
  cases c₀
  simp_all [bodyPostS, results, Tryd.results30]
set_option maxHeartbeats 1000000 in
theorem catch_circle (b : Nat) (w : World) (x : Int) (hc : w.cell? ⟨b, 0, none⟩ = some (.int .i64 x)) (hz : w.frozen? ⟨b, 0, none⟩ = false) (older : List PanicEntry) :
    CallsD Tryd.prog 30 #[.pointer (some ⟨b, 0, none⟩)] (.panicking ({ v := circleV, recovered := false } :: older)) w fun e u' w' => e = .returned (.tuple #[]) ∧ u' = .panicking ({ v := circleV, recovered := true } :: older) ∧ w' = (w.setCell ⟨b, 0, none⟩ (.int .i64 13)).alloc (.cells #[] 63) := by
  unfold circleV
  have h1 := ta1
  have hb : b < w.heap.size := lt_of_cell hc
  refine callsD_of_wpS Tryd.func30 rfl fun c₀ cs hu => ?_
  apply wpS_seq
  apply wpS_region
  simp [wpOpsS, go_sem, recoverD, hu, Tryd.ntmps30, Exit.thenS]
  refine wpS_of_wp ?_
  simp only [Array.replicate_succ, Array.replicate_zero, List.push_toArray, List.append_toArray, List.nil_append, List.cons_append, List.setIfInBounds_toArray, List.set_cons_succ, List.set_cons_zero]
  go_wp2
  simp [bodyPostS, results, Tryd.results30]
set_option maxHeartbeats 1000000 in
theorem catch_stray (b : Nat) (w : World) (x : Int) (hc : w.cell? ⟨b, 0, none⟩ = some (.int .i64 x)) (hz : w.frozen? ⟨b, 0, none⟩ = false) (older : List PanicEntry) :
    CallsD Tryd.prog 30 #[.pointer (some ⟨b, 0, none⟩)] (.panicking ({ v := strayV, recovered := false } :: older)) w fun e u' w' => e = .returned (.tuple #[]) ∧ u' = .panicking ({ v := strayV, recovered := true } :: older) ∧ w' = (w.setCell ⟨b, 0, none⟩ (.int .i64 2)).alloc (.cells #[] 63) := by
  unfold strayV
  have h1 := ta2
  have h2 := ta3
  have hb : b < w.heap.size := lt_of_cell hc
  refine callsD_of_wpS Tryd.func30 rfl fun c₀ cs hu => ?_
  apply wpS_seq
  apply wpS_region
  simp [wpOpsS, go_sem, recoverD, hu, Tryd.ntmps30, Exit.thenS]
  refine wpS_of_wp ?_
  simp only [Array.replicate_succ, Array.replicate_zero, List.push_toArray, List.append_toArray, List.nil_append, List.cons_append, List.setIfInBounds_toArray, List.set_cons_succ, List.set_cons_zero]
  go_wp2
  simp [bodyPostS, results, Tryd.results30]
/-- What a closure does to a graph and its order. -/
def ClP (U : Nat → Prop) (P : Int → World → Prop) (X : World) (e : Ending) (w' : World) : Prop := Ext U X w' ∧ ((e = .returned (.tuple #[]) ∧ P 0 w') ∨ (e = pan strayV ∧ P 2 w'))
def TryP (n : Int) (l : Arcs) (P : Int → World → Prop) (w : World) (e : Ending) (w' : World) : Prop :=
  ∃ c : Int, e = .returned (.int .i64 c) ∧ ((okB n l = false ∧ c = 2 ∧ Below w.heap.size w w') ∨ (okB n l = true ∧ orderR n.toNat (onAt l) = none ∧ c = 13 ∧ Below w.heap.size w w') ∨ (okB n l = true ∧ (∃ row, orderR n.toNat (onAt l) = some row) ∧ P c w'))
theorem okB_n {n : Int} {l : Arcs} (h : okB n l = true) : 0 ≤ n ∧ n.toNat ≤ 64 := by
  have := of_decide_eq_true h
  omega
theorem keep_cell {U : Nat → Prop} {X w3 : World} {N : Nat} (hx : Ext U X w3) (hU : ∀ b, U b → b < N) (hN : N < X.heap.size) : (∀ o, w3.cell? ⟨N, o, none⟩ = X.cell? ⟨N, o, none⟩) ∧ (∀ o, w3.frozen? ⟨N, o, none⟩ = X.frozen? ⟨N, o, none⟩) ∧ N < w3.heap.size := by
  have h := hx.block N hN (fun h => Nat.lt_irrefl _ (hU _ h))
  exact ⟨fun o => World.cell?_of_block (w := X) h, fun o => World.frozen?_of_block (w := X) h, Nat.lt_of_lt_of_le hN hx.size⟩
theorem set_read {X : World} {N : Nat} {x v : Value} (h : X.cell? ⟨N, 0, none⟩ = some x) : (X.setCell ⟨N, 0, none⟩ v).cell? ⟨N, 0, none⟩ = some v := by simp [h, go_sem]
theorem set_read2 {X : World} {N : Nat} {x v : Value} {o : Obj} (h : X.cell? ⟨N, 0, none⟩ = some x) : ((X.setCell ⟨N, 0, none⟩ v).alloc o).cell? ⟨N, 0, none⟩ = some v := by
  have h0 : N < X.heap.size := lt_of_cell h
  have h1 := set_read (v := v) h
  rw [World.cell?_alloc_past _ _ _ (by simpa using h0)]
  exact h1
theorem try_ext {w X : World} {v : Value} {o : Obj} : Ext (fun b => b = w.heap.size) X ((X.setCell ⟨w.heap.size, 0, none⟩ v).alloc o) :=
  (Ext.setCell (S := fun b => b = w.heap.size) X ⟨w.heap.size, 0, none⟩ v rfl).trans (T := fun _ => False) (Ext.alloc _ _ _) (fun _ _ h => h.elim)
set_option maxHeartbeats 4000000 in
theorem try_20 {w : World} {K : Nat → Prop} {n : Int} {v : Value} {l : Arcs} { p : Addr } (hv : arcE.Row K w v l) {U : Nat → Prop} {P : Int → World → Prop} (hU : ∀ b, U b → b < w.heap.size) (hst : ∀ c X Y, P c X → Ext (fun b => b = w.heap.size) X Y → P c Y)
    (hcl : ∀ b X vr row, okB n l = true → orderR n.toNat (onAt l) = some row → Below w.heap.size w X → w.heap.size < X.heap.size → Gr X b n.toNat (onAt l) → w.heap.size < b → natE.Row (fun b => w.heap.size < b) X vr row → Calls Tryd.prog 20 #[.pointer (some ⟨b, 0, none⟩), vr, .pointer (some p)] X (ClP U P X)) :
    Calls Tryd.prog 19 #[.int .i64 n, v, .func (.func 20) #[] #[.pointer (some p)]] w (TryP n l P w) := by
  obtain ⟨A, cp, rfl, _, _⟩ := hv.form
  have HV := hid hv
  have HU := hid hU
  have HST := hid hst
  have HCL := hid hcl
  have hmf : ∀ (fn : Fn) (first cap : Array Value) (w : World), (Instr.makeFunc fn first cap).run Tryd.prog w = .ok (.func fn first cap) w := fun _ _ _ _ => rfl
  clear hv hU hst hcl
  cases hok : okB n l with
  | false =>
    have HOKF := hid hok
    clear hok
    go_enter_defers Tryd.func19, Tryd.ntmps19
    go_wp2_with (first | (go_at_call 31; refine (made_any (HV.out.below (by repeat (first | (with_reducible exact Below.refl _ _) | (with_reducible exact bl_mm) | (with_reducible refine bl_dr ?_) | (with_reducible refine bl_drN ?_ _) | (with_reducible refine bl_al ?_ _) | (with_reducible refine bl_more ?_ _ _))))).mono ?_; rintro e w1 ⟨hb1, hq⟩; have hq := hq.resolve_left (fun h => by rw [HOKF.out] at h; cases h.1); obtain ⟨_, rfl⟩ := hq; obtain ⟨ex1, dx1, rfl⟩ := more_of hb1; clear hb1))
    refine leaves_cons (f := 30) (args := #[.pointer (some ⟨w.heap.size, 0, none⟩)]) (by simp) (by simp [go_sem]) ?_
    refine (catch_stray w.heap.size _ 0 ?_ ?_ []).mono ?_
    · go_simp
    · go_simp
    rintro e u' w'' ⟨rfl, rfl, rfl⟩
    simp [Leaves, settle, results, Tryd.results19, go_sem]
    exact ⟨2, rfl, .inl ⟨HOKF.out, rfl, (by repeat (first | (with_reducible exact Below.refl _ _) | (with_reducible exact bl_mm) | (with_reducible refine bl_dr ?_) | (with_reducible refine bl_drN ?_ _) | (with_reducible refine bl_al ?_ _) | (with_reducible refine bl_more ?_ _ _)))⟩⟩
  | true =>
    have HOKT := hid hok
    clear hok
    cases hor : orderR n.toNat (onAt l) with
    | none =>
      have HORF := hid hor
      clear hor
      go_enter_defers Tryd.func19, Tryd.ntmps19
      go_wp2_with (first | (go_at_call 31; refine (made_any (HV.out.below (by repeat (first | (with_reducible exact Below.refl _ _) | (with_reducible exact bl_mm) | (with_reducible refine bl_dr ?_) | (with_reducible refine bl_drN ?_ _) | (with_reducible refine bl_al ?_ _) | (with_reducible refine bl_more ?_ _ _))))).mono ?_; rintro e w1 ⟨hb1, hq⟩; have hq := hq.resolve_right (fun h => by rw [HOKT.out] at h; cases h.1); obtain ⟨_, b, rfl, hbg, hg⟩ := hq; have HG := hid hg; have HBG := hid hbg; obtain ⟨ex1, dx1, rfl⟩ := more_of hb1; clear hb1 hg hbg) | (go_at_call 32; refine (order_any HG.out (okB_n HOKT.out).2).mono ?_; rintro e w1 ⟨hb1, hq⟩; have hq := hq.resolve_left (fun ⟨_, _, _, h, _⟩ => by rw [HORF.out] at h; cases h); obtain ⟨_, rfl⟩ := hq; obtain ⟨ex2, dx2, rfl⟩ := more_of hb1; clear hb1))
      refine leaves_cons (f := 30) (args := #[.pointer (some ⟨w.heap.size, 0, none⟩)]) (by simp) (by simp [go_sem]) ?_
      refine (catch_circle w.heap.size _ 0 ?_ ?_ []).mono ?_
      · go_simp
      · go_simp
      rintro e u' w'' ⟨rfl, rfl, rfl⟩
      simp [Leaves, settle, results, Tryd.results19, go_sem]
      exact ⟨13, rfl, .inr (.inl ⟨HOKT.out, HORF.out, rfl, (by repeat (first | (with_reducible exact Below.refl _ _) | (with_reducible exact bl_mm) | (with_reducible refine bl_dr ?_) | (with_reducible refine bl_drN ?_ _) | (with_reducible refine bl_al ?_ _) | (with_reducible refine bl_more ?_ _ _)))⟩)⟩
    | some row =>
      have HORT := hid hor
      clear hor
      go_enter_defers Tryd.func19, Tryd.ntmps19
      go_wp2_with (first | (go_at_call 31; refine (made_any (HV.out.below (by repeat (first | (with_reducible exact Below.refl _ _) | (with_reducible exact bl_mm) | (with_reducible refine bl_dr ?_) | (with_reducible refine bl_drN ?_ _) | (with_reducible refine bl_al ?_ _) | (with_reducible refine bl_more ?_ _ _))))).mono ?_; rintro e w1 ⟨hb1, hq⟩; have hq := hq.resolve_right (fun h => by rw [HOKT.out] at h; cases h.1); obtain ⟨_, b, rfl, hbg, hg⟩ := hq; have HG := hid hg; have HBG := hid hbg; obtain ⟨ex1, dx1, rfl⟩ := more_of hb1; clear hb1 hg hbg) | (go_at_call 32; refine (order_any HG.out (okB_n HOKT.out).2).mono ?_; rintro e w1 ⟨hb1, hq⟩; have hq := hq.resolve_right (fun h => by rw [HORT.out] at h; cases h.1); obtain ⟨row', v', g', hr', rfl, hnu⟩ := hq; rw [HORT.out] at hr'; cases hr'; have HNU := hid hnu; obtain ⟨ex2, dx2, rfl⟩ := more_of hb1; clear hb1 hnu) | (go_at_call 20; refine (HCL.out b _ v' row HOKT.out HORT.out (by repeat (first | (with_reducible exact Below.refl _ _) | (with_reducible exact bl_mm) | (with_reducible refine bl_dr ?_) | (with_reducible refine bl_drN ?_ _) | (with_reducible refine bl_al ?_ _) | (with_reducible refine bl_more ?_ _ _))) (by simp [more_size]; omega) (HG.out.below (by repeat (first | (with_reducible exact Below.refl _ _) | (with_reducible exact bl_mm) | (with_reducible refine bl_dr ?_) | (with_reducible refine bl_drN ?_ _) | (with_reducible refine bl_al ?_ _) | (with_reducible refine bl_more ?_ _ _)))) (by have := HBG.out; simp at this; omega) (HNU.out.row.mono (fun b' hb' _ => by simp [more_size] at hb'; omega))).mono ?_; rintro e w3 ⟨hx3, hq⟩; obtain ⟨c3, f3, hb3⟩ := keep_cell hx3 HU.out (by simp [more_size]; omega); replace c3 := (c3 0).trans (by go_simp : _ = some (.int .i64 0)); replace f3 := (f3 0).trans (by go_simp : _ = false); clear hx3; rcases hq with ⟨rfl, hp⟩ | ⟨rfl, hp⟩ <;> (have HP := hid hp; clear hp)))
      · refine leaves_cons (f := 30) (args := #[.pointer (some ⟨w.heap.size, 0, none⟩)]) (by simp) (by simp [go_sem]) ?_
        refine (catch_idle ⟨w.heap.size, 0, none⟩ _).mono ?_
        rintro e u' w'' ⟨rfl, rfl, rfl⟩
        simp [Leaves, settle, results, Tryd.results19, go_sem, set_read c3]
        exact ⟨0, rfl, .inr (.inr ⟨HOKT.out, ⟨row, HORT.out⟩, HST.out _ _ _ HP.out (Ext.setCell (S := fun b => b = w.heap.size) _ ⟨w.heap.size, 0, none⟩ _ rfl)⟩)⟩
      · refine leaves_cons (f := 30) (args := #[.pointer (some ⟨w.heap.size, 0, none⟩)]) (by simp) (by simp [go_sem]) ?_
        refine (catch_stray w.heap.size _ _ c3 f3 []).mono ?_
        rintro e u' w'' ⟨rfl, rfl, rfl⟩
        simp [Leaves, settle, results, Tryd.results19, go_sem, set_read2 c3]
        exact ⟨2, rfl, .inr (.inr ⟨HOKT.out, ⟨row, HORT.out⟩, HST.out _ _ _ HP.out try_ext⟩)⟩
set_option maxHeartbeats 4000000 in
theorem try_21 {w : World} {K : Nat → Prop} {n : Int} {v : Value} {l : Arcs} { p : Addr } (hv : arcE.Row K w v l) {U : Nat → Prop} {P : Int → World → Prop} (hU : ∀ b, U b → b < w.heap.size) (hst : ∀ c X Y, P c X → Ext (fun b => b = w.heap.size) X Y → P c Y)
    (hcl : ∀ b X vr row, okB n l = true → orderR n.toNat (onAt l) = some row → Below w.heap.size w X → w.heap.size < X.heap.size → Gr X b n.toNat (onAt l) → w.heap.size < b → natE.Row (fun b => w.heap.size < b) X vr row → Calls Tryd.prog 21 #[.pointer (some ⟨b, 0, none⟩), vr, .pointer (some p)] X (ClP U P X)) :
    Calls Tryd.prog 19 #[.int .i64 n, v, .func (.func 21) #[] #[.pointer (some p)]] w (TryP n l P w) := by
  obtain ⟨A, cp, rfl, _, _⟩ := hv.form
  have HV := hid hv
  have HU := hid hU
  have HST := hid hst
  have HCL := hid hcl
  have hmf : ∀ (fn : Fn) (first cap : Array Value) (w : World), (Instr.makeFunc fn first cap).run Tryd.prog w = .ok (.func fn first cap) w := fun _ _ _ _ => rfl
  clear hv hU hst hcl
  cases hok : okB n l with
  | false =>
    have HOKF := hid hok
    clear hok
    go_enter_defers Tryd.func19, Tryd.ntmps19
    go_wp2_with (first | (go_at_call 31; refine (made_any (HV.out.below (by repeat (first | (with_reducible exact Below.refl _ _) | (with_reducible exact bl_mm) | (with_reducible refine bl_dr ?_) | (with_reducible refine bl_drN ?_ _) | (with_reducible refine bl_al ?_ _) | (with_reducible refine bl_more ?_ _ _))))).mono ?_; rintro e w1 ⟨hb1, hq⟩; have hq := hq.resolve_left (fun h => by rw [HOKF.out] at h; cases h.1); obtain ⟨_, rfl⟩ := hq; obtain ⟨ex1, dx1, rfl⟩ := more_of hb1; clear hb1))
    refine leaves_cons (f := 30) (args := #[.pointer (some ⟨w.heap.size, 0, none⟩)]) (by simp) (by simp [go_sem]) ?_
    refine (catch_stray w.heap.size _ 0 ?_ ?_ []).mono ?_
    · go_simp
    · go_simp
    rintro e u' w'' ⟨rfl, rfl, rfl⟩
    simp [Leaves, settle, results, Tryd.results19, go_sem]
    exact ⟨2, rfl, .inl ⟨HOKF.out, rfl, (by repeat (first | (with_reducible exact Below.refl _ _) | (with_reducible exact bl_mm) | (with_reducible refine bl_dr ?_) | (with_reducible refine bl_drN ?_ _) | (with_reducible refine bl_al ?_ _) | (with_reducible refine bl_more ?_ _ _)))⟩⟩
  | true =>
    have HOKT := hid hok
    clear hok
    cases hor : orderR n.toNat (onAt l) with
    | none =>
      have HORF := hid hor
      clear hor
      go_enter_defers Tryd.func19, Tryd.ntmps19
      go_wp2_with (first | (go_at_call 31; refine (made_any (HV.out.below (by repeat (first | (with_reducible exact Below.refl _ _) | (with_reducible exact bl_mm) | (with_reducible refine bl_dr ?_) | (with_reducible refine bl_drN ?_ _) | (with_reducible refine bl_al ?_ _) | (with_reducible refine bl_more ?_ _ _))))).mono ?_; rintro e w1 ⟨hb1, hq⟩; have hq := hq.resolve_right (fun h => by rw [HOKT.out] at h; cases h.1); obtain ⟨_, b, rfl, hbg, hg⟩ := hq; have HG := hid hg; have HBG := hid hbg; obtain ⟨ex1, dx1, rfl⟩ := more_of hb1; clear hb1 hg hbg) | (go_at_call 32; refine (order_any HG.out (okB_n HOKT.out).2).mono ?_; rintro e w1 ⟨hb1, hq⟩; have hq := hq.resolve_left (fun ⟨_, _, _, h, _⟩ => by rw [HORF.out] at h; cases h); obtain ⟨_, rfl⟩ := hq; obtain ⟨ex2, dx2, rfl⟩ := more_of hb1; clear hb1))
      refine leaves_cons (f := 30) (args := #[.pointer (some ⟨w.heap.size, 0, none⟩)]) (by simp) (by simp [go_sem]) ?_
      refine (catch_circle w.heap.size _ 0 ?_ ?_ []).mono ?_
      · go_simp
      · go_simp
      rintro e u' w'' ⟨rfl, rfl, rfl⟩
      simp [Leaves, settle, results, Tryd.results19, go_sem]
      exact ⟨13, rfl, .inr (.inl ⟨HOKT.out, HORF.out, rfl, (by repeat (first | (with_reducible exact Below.refl _ _) | (with_reducible exact bl_mm) | (with_reducible refine bl_dr ?_) | (with_reducible refine bl_drN ?_ _) | (with_reducible refine bl_al ?_ _) | (with_reducible refine bl_more ?_ _ _)))⟩)⟩
    | some row =>
      have HORT := hid hor
      clear hor
      go_enter_defers Tryd.func19, Tryd.ntmps19
      go_wp2_with (first | (go_at_call 31; refine (made_any (HV.out.below (by repeat (first | (with_reducible exact Below.refl _ _) | (with_reducible exact bl_mm) | (with_reducible refine bl_dr ?_) | (with_reducible refine bl_drN ?_ _) | (with_reducible refine bl_al ?_ _) | (with_reducible refine bl_more ?_ _ _))))).mono ?_; rintro e w1 ⟨hb1, hq⟩; have hq := hq.resolve_right (fun h => by rw [HOKT.out] at h; cases h.1); obtain ⟨_, b, rfl, hbg, hg⟩ := hq; have HG := hid hg; have HBG := hid hbg; obtain ⟨ex1, dx1, rfl⟩ := more_of hb1; clear hb1 hg hbg) | (go_at_call 32; refine (order_any HG.out (okB_n HOKT.out).2).mono ?_; rintro e w1 ⟨hb1, hq⟩; have hq := hq.resolve_right (fun h => by rw [HORT.out] at h; cases h.1); obtain ⟨row', v', g', hr', rfl, hnu⟩ := hq; rw [HORT.out] at hr'; cases hr'; have HNU := hid hnu; obtain ⟨ex2, dx2, rfl⟩ := more_of hb1; clear hb1 hnu) | (go_at_call 21; refine (HCL.out b _ v' row HOKT.out HORT.out (by repeat (first | (with_reducible exact Below.refl _ _) | (with_reducible exact bl_mm) | (with_reducible refine bl_dr ?_) | (with_reducible refine bl_drN ?_ _) | (with_reducible refine bl_al ?_ _) | (with_reducible refine bl_more ?_ _ _))) (by simp [more_size]; omega) (HG.out.below (by repeat (first | (with_reducible exact Below.refl _ _) | (with_reducible exact bl_mm) | (with_reducible refine bl_dr ?_) | (with_reducible refine bl_drN ?_ _) | (with_reducible refine bl_al ?_ _) | (with_reducible refine bl_more ?_ _ _)))) (by have := HBG.out; simp at this; omega) (HNU.out.row.mono (fun b' hb' _ => by simp [more_size] at hb'; omega))).mono ?_; rintro e w3 ⟨hx3, hq⟩; obtain ⟨c3, f3, hb3⟩ := keep_cell hx3 HU.out (by simp [more_size]; omega); replace c3 := (c3 0).trans (by go_simp : _ = some (.int .i64 0)); replace f3 := (f3 0).trans (by go_simp : _ = false); clear hx3; rcases hq with ⟨rfl, hp⟩ | ⟨rfl, hp⟩ <;> (have HP := hid hp; clear hp)))
      · refine leaves_cons (f := 30) (args := #[.pointer (some ⟨w.heap.size, 0, none⟩)]) (by simp) (by simp [go_sem]) ?_
        refine (catch_idle ⟨w.heap.size, 0, none⟩ _).mono ?_
        rintro e u' w'' ⟨rfl, rfl, rfl⟩
        simp [Leaves, settle, results, Tryd.results19, go_sem, set_read c3]
        exact ⟨0, rfl, .inr (.inr ⟨HOKT.out, ⟨row, HORT.out⟩, HST.out _ _ _ HP.out (Ext.setCell (S := fun b => b = w.heap.size) _ ⟨w.heap.size, 0, none⟩ _ rfl)⟩)⟩
      · refine leaves_cons (f := 30) (args := #[.pointer (some ⟨w.heap.size, 0, none⟩)]) (by simp) (by simp [go_sem]) ?_
        refine (catch_stray w.heap.size _ _ c3 f3 []).mono ?_
        rintro e u' w'' ⟨rfl, rfl, rfl⟩
        simp [Leaves, settle, results, Tryd.results19, go_sem, set_read2 c3]
        exact ⟨2, rfl, .inr (.inr ⟨HOKT.out, ⟨row, HORT.out⟩, HST.out _ _ _ HP.out try_ext⟩)⟩
set_option maxHeartbeats 4000000 in
theorem try_24 {w : World} {K : Nat → Prop} {n : Int} {v : Value} {l : Arcs} { p q : Addr } (hv : arcE.Row K w v l) {U : Nat → Prop} {P : Int → World → Prop} (hU : ∀ b, U b → b < w.heap.size) (hst : ∀ c X Y, P c X → Ext (fun b => b = w.heap.size) X Y → P c Y)
    (hcl : ∀ b X vr row, okB n l = true → orderR n.toNat (onAt l) = some row → Below w.heap.size w X → w.heap.size < X.heap.size → Gr X b n.toNat (onAt l) → w.heap.size < b → natE.Row (fun b => w.heap.size < b) X vr row → Calls Tryd.prog 24 #[.pointer (some ⟨b, 0, none⟩), vr, .pointer (some p), .pointer (some q)] X (ClP U P X)) :
    Calls Tryd.prog 19 #[.int .i64 n, v, .func (.func 24) #[] #[.pointer (some p), .pointer (some q)]] w (TryP n l P w) := by
  obtain ⟨A, cp, rfl, _, _⟩ := hv.form
  have HV := hid hv
  have HU := hid hU
  have HST := hid hst
  have HCL := hid hcl
  have hmf : ∀ (fn : Fn) (first cap : Array Value) (w : World), (Instr.makeFunc fn first cap).run Tryd.prog w = .ok (.func fn first cap) w := fun _ _ _ _ => rfl
  clear hv hU hst hcl
  cases hok : okB n l with
  | false =>
    have HOKF := hid hok
    clear hok
    go_enter_defers Tryd.func19, Tryd.ntmps19
    go_wp2_with (first | (go_at_call 31; refine (made_any (HV.out.below (by repeat (first | (with_reducible exact Below.refl _ _) | (with_reducible exact bl_mm) | (with_reducible refine bl_dr ?_) | (with_reducible refine bl_drN ?_ _) | (with_reducible refine bl_al ?_ _) | (with_reducible refine bl_more ?_ _ _))))).mono ?_; rintro e w1 ⟨hb1, hq⟩; have hq := hq.resolve_left (fun h => by rw [HOKF.out] at h; cases h.1); obtain ⟨_, rfl⟩ := hq; obtain ⟨ex1, dx1, rfl⟩ := more_of hb1; clear hb1))
    refine leaves_cons (f := 30) (args := #[.pointer (some ⟨w.heap.size, 0, none⟩)]) (by simp) (by simp [go_sem]) ?_
    refine (catch_stray w.heap.size _ 0 ?_ ?_ []).mono ?_
    · go_simp
    · go_simp
    rintro e u' w'' ⟨rfl, rfl, rfl⟩
    simp [Leaves, settle, results, Tryd.results19, go_sem]
    exact ⟨2, rfl, .inl ⟨HOKF.out, rfl, (by repeat (first | (with_reducible exact Below.refl _ _) | (with_reducible exact bl_mm) | (with_reducible refine bl_dr ?_) | (with_reducible refine bl_drN ?_ _) | (with_reducible refine bl_al ?_ _) | (with_reducible refine bl_more ?_ _ _)))⟩⟩
  | true =>
    have HOKT := hid hok
    clear hok
    cases hor : orderR n.toNat (onAt l) with
    | none =>
      have HORF := hid hor
      clear hor
      go_enter_defers Tryd.func19, Tryd.ntmps19
      go_wp2_with (first | (go_at_call 31; refine (made_any (HV.out.below (by repeat (first | (with_reducible exact Below.refl _ _) | (with_reducible exact bl_mm) | (with_reducible refine bl_dr ?_) | (with_reducible refine bl_drN ?_ _) | (with_reducible refine bl_al ?_ _) | (with_reducible refine bl_more ?_ _ _))))).mono ?_; rintro e w1 ⟨hb1, hq⟩; have hq := hq.resolve_right (fun h => by rw [HOKT.out] at h; cases h.1); obtain ⟨_, b, rfl, hbg, hg⟩ := hq; have HG := hid hg; have HBG := hid hbg; obtain ⟨ex1, dx1, rfl⟩ := more_of hb1; clear hb1 hg hbg) | (go_at_call 32; refine (order_any HG.out (okB_n HOKT.out).2).mono ?_; rintro e w1 ⟨hb1, hq⟩; have hq := hq.resolve_left (fun ⟨_, _, _, h, _⟩ => by rw [HORF.out] at h; cases h); obtain ⟨_, rfl⟩ := hq; obtain ⟨ex2, dx2, rfl⟩ := more_of hb1; clear hb1))
      refine leaves_cons (f := 30) (args := #[.pointer (some ⟨w.heap.size, 0, none⟩)]) (by simp) (by simp [go_sem]) ?_
      refine (catch_circle w.heap.size _ 0 ?_ ?_ []).mono ?_
      · go_simp
      · go_simp
      rintro e u' w'' ⟨rfl, rfl, rfl⟩
      simp [Leaves, settle, results, Tryd.results19, go_sem]
      exact ⟨13, rfl, .inr (.inl ⟨HOKT.out, HORF.out, rfl, (by repeat (first | (with_reducible exact Below.refl _ _) | (with_reducible exact bl_mm) | (with_reducible refine bl_dr ?_) | (with_reducible refine bl_drN ?_ _) | (with_reducible refine bl_al ?_ _) | (with_reducible refine bl_more ?_ _ _)))⟩)⟩
    | some row =>
      have HORT := hid hor
      clear hor
      go_enter_defers Tryd.func19, Tryd.ntmps19
      go_wp2_with (first | (go_at_call 31; refine (made_any (HV.out.below (by repeat (first | (with_reducible exact Below.refl _ _) | (with_reducible exact bl_mm) | (with_reducible refine bl_dr ?_) | (with_reducible refine bl_drN ?_ _) | (with_reducible refine bl_al ?_ _) | (with_reducible refine bl_more ?_ _ _))))).mono ?_; rintro e w1 ⟨hb1, hq⟩; have hq := hq.resolve_right (fun h => by rw [HOKT.out] at h; cases h.1); obtain ⟨_, b, rfl, hbg, hg⟩ := hq; have HG := hid hg; have HBG := hid hbg; obtain ⟨ex1, dx1, rfl⟩ := more_of hb1; clear hb1 hg hbg) | (go_at_call 32; refine (order_any HG.out (okB_n HOKT.out).2).mono ?_; rintro e w1 ⟨hb1, hq⟩; have hq := hq.resolve_right (fun h => by rw [HORT.out] at h; cases h.1); obtain ⟨row', v', g', hr', rfl, hnu⟩ := hq; rw [HORT.out] at hr'; cases hr'; have HNU := hid hnu; obtain ⟨ex2, dx2, rfl⟩ := more_of hb1; clear hb1 hnu) | (go_at_call 24; refine (HCL.out b _ v' row HOKT.out HORT.out (by repeat (first | (with_reducible exact Below.refl _ _) | (with_reducible exact bl_mm) | (with_reducible refine bl_dr ?_) | (with_reducible refine bl_drN ?_ _) | (with_reducible refine bl_al ?_ _) | (with_reducible refine bl_more ?_ _ _))) (by simp [more_size]; omega) (HG.out.below (by repeat (first | (with_reducible exact Below.refl _ _) | (with_reducible exact bl_mm) | (with_reducible refine bl_dr ?_) | (with_reducible refine bl_drN ?_ _) | (with_reducible refine bl_al ?_ _) | (with_reducible refine bl_more ?_ _ _)))) (by have := HBG.out; simp at this; omega) (HNU.out.row.mono (fun b' hb' _ => by simp [more_size] at hb'; omega))).mono ?_; rintro e w3 ⟨hx3, hq⟩; obtain ⟨c3, f3, hb3⟩ := keep_cell hx3 HU.out (by simp [more_size]; omega); replace c3 := (c3 0).trans (by go_simp : _ = some (.int .i64 0)); replace f3 := (f3 0).trans (by go_simp : _ = false); clear hx3; rcases hq with ⟨rfl, hp⟩ | ⟨rfl, hp⟩ <;> (have HP := hid hp; clear hp)))
      · refine leaves_cons (f := 30) (args := #[.pointer (some ⟨w.heap.size, 0, none⟩)]) (by simp) (by simp [go_sem]) ?_
        refine (catch_idle ⟨w.heap.size, 0, none⟩ _).mono ?_
        rintro e u' w'' ⟨rfl, rfl, rfl⟩
        simp [Leaves, settle, results, Tryd.results19, go_sem, set_read c3]
        exact ⟨0, rfl, .inr (.inr ⟨HOKT.out, ⟨row, HORT.out⟩, HST.out _ _ _ HP.out (Ext.setCell (S := fun b => b = w.heap.size) _ ⟨w.heap.size, 0, none⟩ _ rfl)⟩)⟩
      · refine leaves_cons (f := 30) (args := #[.pointer (some ⟨w.heap.size, 0, none⟩)]) (by simp) (by simp [go_sem]) ?_
        refine (catch_stray w.heap.size _ _ c3 f3 []).mono ?_
        rintro e u' w'' ⟨rfl, rfl, rfl⟩
        simp [Leaves, settle, results, Tryd.results19, go_sem, set_read2 c3]
        exact ⟨2, rfl, .inr (.inr ⟨HOKT.out, ⟨row, HORT.out⟩, HST.out _ _ _ HP.out try_ext⟩)⟩
set_option maxHeartbeats 4000000 in
theorem try_25 {w : World} {K : Nat → Prop} {n : Int} {v : Value} {l : Arcs} { p q : Addr } (hv : arcE.Row K w v l) {U : Nat → Prop} {P : Int → World → Prop} (hU : ∀ b, U b → b < w.heap.size) (hst : ∀ c X Y, P c X → Ext (fun b => b = w.heap.size) X Y → P c Y)
    (hcl : ∀ b X vr row, okB n l = true → orderR n.toNat (onAt l) = some row → Below w.heap.size w X → w.heap.size < X.heap.size → Gr X b n.toNat (onAt l) → w.heap.size < b → natE.Row (fun b => w.heap.size < b) X vr row → Calls Tryd.prog 25 #[.pointer (some ⟨b, 0, none⟩), vr, .pointer (some p), .pointer (some q)] X (ClP U P X)) :
    Calls Tryd.prog 19 #[.int .i64 n, v, .func (.func 25) #[] #[.pointer (some p), .pointer (some q)]] w (TryP n l P w) := by
  obtain ⟨A, cp, rfl, _, _⟩ := hv.form
  have HV := hid hv
  have HU := hid hU
  have HST := hid hst
  have HCL := hid hcl
  have hmf : ∀ (fn : Fn) (first cap : Array Value) (w : World), (Instr.makeFunc fn first cap).run Tryd.prog w = .ok (.func fn first cap) w := fun _ _ _ _ => rfl
  clear hv hU hst hcl
  cases hok : okB n l with
  | false =>
    have HOKF := hid hok
    clear hok
    go_enter_defers Tryd.func19, Tryd.ntmps19
    go_wp2_with (first | (go_at_call 31; refine (made_any (HV.out.below (by repeat (first | (with_reducible exact Below.refl _ _) | (with_reducible exact bl_mm) | (with_reducible refine bl_dr ?_) | (with_reducible refine bl_drN ?_ _) | (with_reducible refine bl_al ?_ _) | (with_reducible refine bl_more ?_ _ _))))).mono ?_; rintro e w1 ⟨hb1, hq⟩; have hq := hq.resolve_left (fun h => by rw [HOKF.out] at h; cases h.1); obtain ⟨_, rfl⟩ := hq; obtain ⟨ex1, dx1, rfl⟩ := more_of hb1; clear hb1))
    refine leaves_cons (f := 30) (args := #[.pointer (some ⟨w.heap.size, 0, none⟩)]) (by simp) (by simp [go_sem]) ?_
    refine (catch_stray w.heap.size _ 0 ?_ ?_ []).mono ?_
    · go_simp
    · go_simp
    rintro e u' w'' ⟨rfl, rfl, rfl⟩
    simp [Leaves, settle, results, Tryd.results19, go_sem]
    exact ⟨2, rfl, .inl ⟨HOKF.out, rfl, (by repeat (first | (with_reducible exact Below.refl _ _) | (with_reducible exact bl_mm) | (with_reducible refine bl_dr ?_) | (with_reducible refine bl_drN ?_ _) | (with_reducible refine bl_al ?_ _) | (with_reducible refine bl_more ?_ _ _)))⟩⟩
  | true =>
    have HOKT := hid hok
    clear hok
    cases hor : orderR n.toNat (onAt l) with
    | none =>
      have HORF := hid hor
      clear hor
      go_enter_defers Tryd.func19, Tryd.ntmps19
      go_wp2_with (first | (go_at_call 31; refine (made_any (HV.out.below (by repeat (first | (with_reducible exact Below.refl _ _) | (with_reducible exact bl_mm) | (with_reducible refine bl_dr ?_) | (with_reducible refine bl_drN ?_ _) | (with_reducible refine bl_al ?_ _) | (with_reducible refine bl_more ?_ _ _))))).mono ?_; rintro e w1 ⟨hb1, hq⟩; have hq := hq.resolve_right (fun h => by rw [HOKT.out] at h; cases h.1); obtain ⟨_, b, rfl, hbg, hg⟩ := hq; have HG := hid hg; have HBG := hid hbg; obtain ⟨ex1, dx1, rfl⟩ := more_of hb1; clear hb1 hg hbg) | (go_at_call 32; refine (order_any HG.out (okB_n HOKT.out).2).mono ?_; rintro e w1 ⟨hb1, hq⟩; have hq := hq.resolve_left (fun ⟨_, _, _, h, _⟩ => by rw [HORF.out] at h; cases h); obtain ⟨_, rfl⟩ := hq; obtain ⟨ex2, dx2, rfl⟩ := more_of hb1; clear hb1))
      refine leaves_cons (f := 30) (args := #[.pointer (some ⟨w.heap.size, 0, none⟩)]) (by simp) (by simp [go_sem]) ?_
      refine (catch_circle w.heap.size _ 0 ?_ ?_ []).mono ?_
      · go_simp
      · go_simp
      rintro e u' w'' ⟨rfl, rfl, rfl⟩
      simp [Leaves, settle, results, Tryd.results19, go_sem]
      exact ⟨13, rfl, .inr (.inl ⟨HOKT.out, HORF.out, rfl, (by repeat (first | (with_reducible exact Below.refl _ _) | (with_reducible exact bl_mm) | (with_reducible refine bl_dr ?_) | (with_reducible refine bl_drN ?_ _) | (with_reducible refine bl_al ?_ _) | (with_reducible refine bl_more ?_ _ _)))⟩)⟩
    | some row =>
      have HORT := hid hor
      clear hor
      go_enter_defers Tryd.func19, Tryd.ntmps19
      go_wp2_with (first | (go_at_call 31; refine (made_any (HV.out.below (by repeat (first | (with_reducible exact Below.refl _ _) | (with_reducible exact bl_mm) | (with_reducible refine bl_dr ?_) | (with_reducible refine bl_drN ?_ _) | (with_reducible refine bl_al ?_ _) | (with_reducible refine bl_more ?_ _ _))))).mono ?_; rintro e w1 ⟨hb1, hq⟩; have hq := hq.resolve_right (fun h => by rw [HOKT.out] at h; cases h.1); obtain ⟨_, b, rfl, hbg, hg⟩ := hq; have HG := hid hg; have HBG := hid hbg; obtain ⟨ex1, dx1, rfl⟩ := more_of hb1; clear hb1 hg hbg) | (go_at_call 32; refine (order_any HG.out (okB_n HOKT.out).2).mono ?_; rintro e w1 ⟨hb1, hq⟩; have hq := hq.resolve_right (fun h => by rw [HORT.out] at h; cases h.1); obtain ⟨row', v', g', hr', rfl, hnu⟩ := hq; rw [HORT.out] at hr'; cases hr'; have HNU := hid hnu; obtain ⟨ex2, dx2, rfl⟩ := more_of hb1; clear hb1 hnu) | (go_at_call 25; refine (HCL.out b _ v' row HOKT.out HORT.out (by repeat (first | (with_reducible exact Below.refl _ _) | (with_reducible exact bl_mm) | (with_reducible refine bl_dr ?_) | (with_reducible refine bl_drN ?_ _) | (with_reducible refine bl_al ?_ _) | (with_reducible refine bl_more ?_ _ _))) (by simp [more_size]; omega) (HG.out.below (by repeat (first | (with_reducible exact Below.refl _ _) | (with_reducible exact bl_mm) | (with_reducible refine bl_dr ?_) | (with_reducible refine bl_drN ?_ _) | (with_reducible refine bl_al ?_ _) | (with_reducible refine bl_more ?_ _ _)))) (by have := HBG.out; simp at this; omega) (HNU.out.row.mono (fun b' hb' _ => by simp [more_size] at hb'; omega))).mono ?_; rintro e w3 ⟨hx3, hq⟩; obtain ⟨c3, f3, hb3⟩ := keep_cell hx3 HU.out (by simp [more_size]; omega); replace c3 := (c3 0).trans (by go_simp : _ = some (.int .i64 0)); replace f3 := (f3 0).trans (by go_simp : _ = false); clear hx3; rcases hq with ⟨rfl, hp⟩ | ⟨rfl, hp⟩ <;> (have HP := hid hp; clear hp)))
      · refine leaves_cons (f := 30) (args := #[.pointer (some ⟨w.heap.size, 0, none⟩)]) (by simp) (by simp [go_sem]) ?_
        refine (catch_idle ⟨w.heap.size, 0, none⟩ _).mono ?_
        rintro e u' w'' ⟨rfl, rfl, rfl⟩
        simp [Leaves, settle, results, Tryd.results19, go_sem, set_read c3]
        exact ⟨0, rfl, .inr (.inr ⟨HOKT.out, ⟨row, HORT.out⟩, HST.out _ _ _ HP.out (Ext.setCell (S := fun b => b = w.heap.size) _ ⟨w.heap.size, 0, none⟩ _ rfl)⟩)⟩
      · refine leaves_cons (f := 30) (args := #[.pointer (some ⟨w.heap.size, 0, none⟩)]) (by simp) (by simp [go_sem]) ?_
        refine (catch_stray w.heap.size _ _ c3 f3 []).mono ?_
        rintro e u' w'' ⟨rfl, rfl, rfl⟩
        simp [Leaves, settle, results, Tryd.results19, go_sem, set_read2 c3]
        exact ⟨2, rfl, .inr (.inr ⟨HOKT.out, ⟨row, HORT.out⟩, HST.out _ _ _ HP.out try_ext⟩)⟩
set_option maxHeartbeats 4000000 in
theorem try_28 {w : World} {K : Nat → Prop} {n : Int} {v : Value} {l : Arcs} { p q r : Addr } (hv : arcE.Row K w v l) {U : Nat → Prop} {P : Int → World → Prop} (hU : ∀ b, U b → b < w.heap.size) (hst : ∀ c X Y, P c X → Ext (fun b => b = w.heap.size) X Y → P c Y)
    (hcl : ∀ b X vr row, okB n l = true → orderR n.toNat (onAt l) = some row → Below w.heap.size w X → w.heap.size < X.heap.size → Gr X b n.toNat (onAt l) → w.heap.size < b → natE.Row (fun b => w.heap.size < b) X vr row → Calls Tryd.prog 28 #[.pointer (some ⟨b, 0, none⟩), vr, .pointer (some p), .pointer (some q), .pointer (some r)] X (ClP U P X)) :
    Calls Tryd.prog 19 #[.int .i64 n, v, .func (.func 28) #[] #[.pointer (some p), .pointer (some q), .pointer (some r)]] w (TryP n l P w) := by
  obtain ⟨A, cp, rfl, _, _⟩ := hv.form
  have HV := hid hv
  have HU := hid hU
  have HST := hid hst
  have HCL := hid hcl
  have hmf : ∀ (fn : Fn) (first cap : Array Value) (w : World), (Instr.makeFunc fn first cap).run Tryd.prog w = .ok (.func fn first cap) w := fun _ _ _ _ => rfl
  clear hv hU hst hcl
  cases hok : okB n l with
  | false =>
    have HOKF := hid hok
    clear hok
    go_enter_defers Tryd.func19, Tryd.ntmps19
    go_wp2_with (first | (go_at_call 31; refine (made_any (HV.out.below (by repeat (first | (with_reducible exact Below.refl _ _) | (with_reducible exact bl_mm) | (with_reducible refine bl_dr ?_) | (with_reducible refine bl_drN ?_ _) | (with_reducible refine bl_al ?_ _) | (with_reducible refine bl_more ?_ _ _))))).mono ?_; rintro e w1 ⟨hb1, hq⟩; have hq := hq.resolve_left (fun h => by rw [HOKF.out] at h; cases h.1); obtain ⟨_, rfl⟩ := hq; obtain ⟨ex1, dx1, rfl⟩ := more_of hb1; clear hb1))
    refine leaves_cons (f := 30) (args := #[.pointer (some ⟨w.heap.size, 0, none⟩)]) (by simp) (by simp [go_sem]) ?_
    refine (catch_stray w.heap.size _ 0 ?_ ?_ []).mono ?_
    · go_simp
    · go_simp
    rintro e u' w'' ⟨rfl, rfl, rfl⟩
    simp [Leaves, settle, results, Tryd.results19, go_sem]
    exact ⟨2, rfl, .inl ⟨HOKF.out, rfl, (by repeat (first | (with_reducible exact Below.refl _ _) | (with_reducible exact bl_mm) | (with_reducible refine bl_dr ?_) | (with_reducible refine bl_drN ?_ _) | (with_reducible refine bl_al ?_ _) | (with_reducible refine bl_more ?_ _ _)))⟩⟩
  | true =>
    have HOKT := hid hok
    clear hok
    cases hor : orderR n.toNat (onAt l) with
    | none =>
      have HORF := hid hor
      clear hor
      go_enter_defers Tryd.func19, Tryd.ntmps19
      go_wp2_with (first | (go_at_call 31; refine (made_any (HV.out.below (by repeat (first | (with_reducible exact Below.refl _ _) | (with_reducible exact bl_mm) | (with_reducible refine bl_dr ?_) | (with_reducible refine bl_drN ?_ _) | (with_reducible refine bl_al ?_ _) | (with_reducible refine bl_more ?_ _ _))))).mono ?_; rintro e w1 ⟨hb1, hq⟩; have hq := hq.resolve_right (fun h => by rw [HOKT.out] at h; cases h.1); obtain ⟨_, b, rfl, hbg, hg⟩ := hq; have HG := hid hg; have HBG := hid hbg; obtain ⟨ex1, dx1, rfl⟩ := more_of hb1; clear hb1 hg hbg) | (go_at_call 32; refine (order_any HG.out (okB_n HOKT.out).2).mono ?_; rintro e w1 ⟨hb1, hq⟩; have hq := hq.resolve_left (fun ⟨_, _, _, h, _⟩ => by rw [HORF.out] at h; cases h); obtain ⟨_, rfl⟩ := hq; obtain ⟨ex2, dx2, rfl⟩ := more_of hb1; clear hb1))
      refine leaves_cons (f := 30) (args := #[.pointer (some ⟨w.heap.size, 0, none⟩)]) (by simp) (by simp [go_sem]) ?_
      refine (catch_circle w.heap.size _ 0 ?_ ?_ []).mono ?_
      · go_simp
      · go_simp
      rintro e u' w'' ⟨rfl, rfl, rfl⟩
      simp [Leaves, settle, results, Tryd.results19, go_sem]
      exact ⟨13, rfl, .inr (.inl ⟨HOKT.out, HORF.out, rfl, (by repeat (first | (with_reducible exact Below.refl _ _) | (with_reducible exact bl_mm) | (with_reducible refine bl_dr ?_) | (with_reducible refine bl_drN ?_ _) | (with_reducible refine bl_al ?_ _) | (with_reducible refine bl_more ?_ _ _)))⟩)⟩
    | some row =>
      have HORT := hid hor
      clear hor
      go_enter_defers Tryd.func19, Tryd.ntmps19
      go_wp2_with (first | (go_at_call 31; refine (made_any (HV.out.below (by repeat (first | (with_reducible exact Below.refl _ _) | (with_reducible exact bl_mm) | (with_reducible refine bl_dr ?_) | (with_reducible refine bl_drN ?_ _) | (with_reducible refine bl_al ?_ _) | (with_reducible refine bl_more ?_ _ _))))).mono ?_; rintro e w1 ⟨hb1, hq⟩; have hq := hq.resolve_right (fun h => by rw [HOKT.out] at h; cases h.1); obtain ⟨_, b, rfl, hbg, hg⟩ := hq; have HG := hid hg; have HBG := hid hbg; obtain ⟨ex1, dx1, rfl⟩ := more_of hb1; clear hb1 hg hbg) | (go_at_call 32; refine (order_any HG.out (okB_n HOKT.out).2).mono ?_; rintro e w1 ⟨hb1, hq⟩; have hq := hq.resolve_right (fun h => by rw [HORT.out] at h; cases h.1); obtain ⟨row', v', g', hr', rfl, hnu⟩ := hq; rw [HORT.out] at hr'; cases hr'; have HNU := hid hnu; obtain ⟨ex2, dx2, rfl⟩ := more_of hb1; clear hb1 hnu) | (go_at_call 28; refine (HCL.out b _ v' row HOKT.out HORT.out (by repeat (first | (with_reducible exact Below.refl _ _) | (with_reducible exact bl_mm) | (with_reducible refine bl_dr ?_) | (with_reducible refine bl_drN ?_ _) | (with_reducible refine bl_al ?_ _) | (with_reducible refine bl_more ?_ _ _))) (by simp [more_size]; omega) (HG.out.below (by repeat (first | (with_reducible exact Below.refl _ _) | (with_reducible exact bl_mm) | (with_reducible refine bl_dr ?_) | (with_reducible refine bl_drN ?_ _) | (with_reducible refine bl_al ?_ _) | (with_reducible refine bl_more ?_ _ _)))) (by have := HBG.out; simp at this; omega) (HNU.out.row.mono (fun b' hb' _ => by simp [more_size] at hb'; omega))).mono ?_; rintro e w3 ⟨hx3, hq⟩; obtain ⟨c3, f3, hb3⟩ := keep_cell hx3 HU.out (by simp [more_size]; omega); replace c3 := (c3 0).trans (by go_simp : _ = some (.int .i64 0)); replace f3 := (f3 0).trans (by go_simp : _ = false); clear hx3; rcases hq with ⟨rfl, hp⟩ | ⟨rfl, hp⟩ <;> (have HP := hid hp; clear hp)))
      · refine leaves_cons (f := 30) (args := #[.pointer (some ⟨w.heap.size, 0, none⟩)]) (by simp) (by simp [go_sem]) ?_
        refine (catch_idle ⟨w.heap.size, 0, none⟩ _).mono ?_
        rintro e u' w'' ⟨rfl, rfl, rfl⟩
        simp [Leaves, settle, results, Tryd.results19, go_sem, set_read c3]
        exact ⟨0, rfl, .inr (.inr ⟨HOKT.out, ⟨row, HORT.out⟩, HST.out _ _ _ HP.out (Ext.setCell (S := fun b => b = w.heap.size) _ ⟨w.heap.size, 0, none⟩ _ rfl)⟩)⟩
      · refine leaves_cons (f := 30) (args := #[.pointer (some ⟨w.heap.size, 0, none⟩)]) (by simp) (by simp [go_sem]) ?_
        refine (catch_stray w.heap.size _ _ c3 f3 []).mono ?_
        rintro e u' w'' ⟨rfl, rfl, rfl⟩
        simp [Leaves, settle, results, Tryd.results19, go_sem, set_read2 c3]
        exact ⟨2, rfl, .inr (.inr ⟨HOKT.out, ⟨row, HORT.out⟩, HST.out _ _ _ HP.out try_ext⟩)⟩
end Go.Proofs.YtomhpbhkckjmdaaDoorRR
