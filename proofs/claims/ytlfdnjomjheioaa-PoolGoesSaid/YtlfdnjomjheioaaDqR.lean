/- Jobs of a key let go. -/
import Derived.Test.YtlfdnjomjheioaaDqQ
import Derived.Test.YtlfdnjomjheioaaPut
namespace Go.Proofs.Ytlfdnjomjheioaa
open Go.RowKit

theorem Enc.At.take {α : Type} {d : Enc α} {K : Nat → Prop} {w : World} {b off : Nat} {xs : List α} (h : d.At K w b off xs) (n : Nat) : d.At K w b off (xs.take n) := by
  intro i hi
  rw [List.length_take] at hi
  obtain ⟨cs, h1, h2⟩ := h i (by omega)
  exact ⟨cs, by rw [List.getElem_take]; exact h1, h2⟩
theorem first_of (p : Job → Bool) : ∀ xs : List Job, (∀ x ∈ xs, p x = false) ∨ ∃ k : Nat, ∃ hk : k < xs.length, p xs[k] = true ∧ ∀ x ∈ xs.take k, p x = false
  | [] => .inl (by simp)
  | x :: xs => by
    cases h : p x with
    | true => exact .inr ⟨0, by simp, by simpa using h, by simp⟩
    | false =>
      rcases first_of p xs with h1 | ⟨k, hk, h1, h2⟩
      · exact .inl (by intro y hy; rcases List.mem_cons.1 hy with rfl | hy; exact h; exact h1 y hy)
      · exact .inr ⟨k + 1, by simpa using hk, by simpa using h1, by
          intro y hy
          rw [List.take_succ_cons] at hy
          rcases List.mem_cons.1 hy with rfl | hy
          · exact h
          · exact h2 y hy⟩
theorem index_no {K : Nat → Prop} {w : World} {v : Value} {xs : List Job} {kb : Nat} {a c : Int} {b : Bool} (h : jobE.Row K w v xs) (hk : KeyAt w kb a b c) (hno : ∀ x ∈ xs, isKey a b c x = false) :
    Calls Try.prog 65 #[v, .func (.func 60) #[] #[.pointer (some ⟨kb, 0, none⟩)]] w fun e w' => e = .returned (.int .i64 (-1)) ∧ Below w.heap.size w w' := by
  refine (index_any h hk).mono ?_
  rintro e w' ⟨i, rfl, hb, ⟨rfl, _⟩ | ⟨k, hk, rfl, h1, _⟩⟩
  · exact ⟨rfl, hb⟩
  · rw [hno _ (List.getElem_mem hk)] at h1; cases h1
theorem index_yes {K : Nat → Prop} {w : World} {v : Value} {xs : List Job} {kb : Nat} {a c : Int} {b : Bool} (h : jobE.Row K w v xs) (hk : KeyAt w kb a b c) {k : Nat} (hl : k < xs.length) (hy : isKey a b c xs[k] = true) (hno : ∀ x ∈ xs.take k, isKey a b c x = false) :
    Calls Try.prog 65 #[v, .func (.func 60) #[] #[.pointer (some ⟨kb, 0, none⟩)]] w fun e w' => e = .returned (.int .i64 (k : Int)) ∧ Below w.heap.size w w' := by
  refine (index_any h hk).mono ?_
  rintro e w' ⟨i, rfl, hb, ⟨rfl, h1⟩ | ⟨k', hk', rfl, h1, h2⟩⟩
  · rw [h1 _ (List.getElem_mem hl)] at hy; cases hy
  · have hkk : k' = k := by
      rcases Nat.lt_trichotomy k' k with h | h | h
      · have := hno xs[k'] (by rw [List.mem_take_iff_getElem]; exact ⟨k', by omega, rfl⟩)
        rw [h1] at this; cases this
      · exact h
      · have := h2 xs[k] (by rw [List.mem_take_iff_getElem]; exact ⟨k, by omega, rfl⟩)
        rw [hy] at this; cases this
    subst hkk
    exact ⟨rfl, hb⟩

theorem zero32 (w : World) : (zeroValue 33).run Try.prog w = .ok (.agg #[.int .i64 0, .bool false, .int .i64 0, .bool false, .int .i64 0, .slice none 0 0]) w := by kernel_rfl
theorem sieve_put {K : Nat → Prop} {w wr S W : World} {g off p q cv : Nat} {cur : Array Value} {xs : List Job} {f : Job → Bool} {v : Value} (hlt : p < xs.length) (hk : f xs[p] = false) (hK : ∀ x, K x → x ≠ g) (hq : q = ((xs.take p).filter (fun x => !f x)).length) (hqp : q ≤ p) (hle : xs.length ≤ cv)
    (hblk : wr.heap[g]? = some (.cells cur 33 (0, 0))) (hfit : off + cv * 6 ≤ cur.size) (ha1 : jobE.At K wr g off ((xs.take p).filter (fun x => !f x))) (ha2 : jobE.At K wr g (off + p * 6) (xs.drop p)) (he : Ext (fun x => x = g) w wr)
    (hv : intE.Row K wr v xs[p].stamp) (hS : S = wr.setCells g (off + q * 6) (jobCells xs[p] v)) (hW : Below S.heap.size S W) :
    ∃ cur' : Array Value, W.heap[g]? = some (.cells cur' 33 (0, 0)) ∧ off + cv * 6 ≤ cur'.size ∧ q + 1 = ((xs.take (p + 1)).filter (fun x => !f x)).length ∧ jobE.At K W g off ((xs.take (p + 1)).filter (fun x => !f x)) ∧ jobE.At K W g (off + (p + 1) * 6) (xs.drop (p + 1)) ∧ Ext (fun x => x = g) w W := by
  subst hS
  have hgl : g < wr.heap.size := (Array.getElem?_eq_some_iff.1 hblk).1
  obtain ⟨cur', hb', hs'⟩ := blk_setCells g (jobCells xs[p] v) (off + q * 6) wr cur hblk
  have hcl : (jobCells xs[p] v).length = 6 := rfl
  refine ⟨cur', by rw [hW.block g (by rw [setCells_size]; exact hgl)]; exact hb', by rw [hs']; exact hfit, by rw [filter_no hlt hk, List.length_append, ← hq]; rfl, ?_, ?_, he.trans (T := fun x => x = g) ((ext_setCells g _ _ wr).trans (T := fun x => x = g) (Ext.of_below hW) (fun _ _ h => h)) (fun _ _ h => h)⟩
  · rw [filter_no hlt hk]
    refine Enc.At.below (Enc.At.snoc (cs := jobCells xs[p] v) (ha1.setCells_out hK _ _ (.inl (by rw [← hq]; exact Nat.le_refl _))) (jobE_mk (hv.step (fun b hb _ => heap_setCells g _ _ wr b (hK b hb)))) (fun j u hj => ?_)) hW
    rw [← hq]
    have hjl : j < 6 := (List.getElem?_eq_some_iff.1 hj).1
    have := World.cell?_setCells_in g (jobCells xs[p] v) (off + q * 6) wr (fun i hi => by
      have hi' : i < 6 := hi
      have : off + q * 6 + i < cur.size := by omega
      simp [World.cell?, hblk, this]) j hjl
    have h2 : (jobCells xs[p] v)[j] = u := (List.getElem?_eq_some_iff.1 hj).2
    rw [h2] at this
    exact this
  · refine Enc.At.below ?_ hW
    have h1 := ha2.drop 1
    rw [List.drop_drop] at h1
    have e : off + (p + 1) * 6 = off + p * 6 + 1 * jobE.sz := by show _ = off + p * 6 + 1 * 6; omega
    rw [e]
    exact h1.setCells_out hK _ _ (.inr (by rw [hcl]; show _ ≤ off + p * 6 + 1 * 6; omega))
set_option maxHeartbeats 4000000 in
theorem delete_any {K : Nat → Prop} {w : World} {g : Nat} {v : Value} {xs : List Job} {kb : Nat} {a c : Int} {b : Bool} (hs : jobE.Spine 33 K g w v xs) (hK : ∀ x, K x → x ≠ g) (hk : KeyAt w kb a b c) (hkg : kb ≠ g) (hlen : xs.length ≤ 100000) :
    Calls Try.prog 58 #[v, .func (.func 60) #[] #[.pointer (some ⟨kb, 0, none⟩)]] w fun e w' => ∃ v', e = .returned v' ∧ jobE.Spine 33 K g w' v' (xs.filter (fun x => !isKey a b c x)) ∧ Ext (fun x => x = g) w w' := by
  obtain ⟨A, cv, rfl, h1, h2⟩ := hs.form
  have hr : jobE.Row (fun _ => True) w (.slice A xs.length cv) xs := hs.row (fun _ _ _ => trivial) trivial
  have HR := hid hr
  have HK := hid hk
  have HS := hid hs
  rcases first_of (isKey a b c) xs with hno | ⟨k, hl, hy, hno⟩
  · have HN := hid hno
    clear hr hk hs hno
    go_enter Try.func58, Try.ntmps58
    go_wp2_with (first | (go_at_call 65; refine (index_no (HR.out.below (by repeat (first | (with_reducible exact Below.refl _ _) | (with_reducible refine bl_dr ?_) | (with_reducible refine bl_drN ?_ _) | (with_reducible refine bl_al ?_ _) | (with_reducible refine bl_more ?_ _ _)))) (HK.out.below (by repeat (first | (with_reducible exact Below.refl _ _) | (with_reducible refine bl_dr ?_) | (with_reducible refine bl_drN ?_ _) | (with_reducible refine bl_al ?_ _) | (with_reducible refine bl_more ?_ _ _)))) HN.out).mono ?_; rintro e w1 ⟨rfl, hb1⟩; obtain ⟨ex, dx, rfl⟩ := more_of hb1; clear hb1))
    go_ret
    refine ⟨_, rfl, ?_, Ext.of_below (by repeat (first | (with_reducible exact Below.refl _ _) | (with_reducible refine bl_dr ?_) | (with_reducible refine bl_drN ?_ _) | (with_reducible refine bl_al ?_ _) | (with_reducible refine bl_more ?_ _ _)))⟩
    rw [List.filter_eq_self.2 (fun x hx => by rw [HN.out x hx]; rfl)]
    exact HS.out.below (by repeat (first | (with_reducible exact Below.refl _ _) | (with_reducible refine bl_dr ?_) | (with_reducible refine bl_drN ?_ _) | (with_reducible refine bl_al ?_ _) | (with_reducible refine bl_more ?_ _ _)))
  · have HN := hid hno
    have HL := hid hl
    have HY := hid hy
    have w0 : IntKind.i64.wrap ((k : Int) + 1) = ((k + 1 : Nat) : Int) := by rw [IntWalk.i64_in _ (by omega)]; rfl
    have i0 : ((k : Int) == -1) = false := by simp <;> omega
    clear hr hk hs hno hy
    go_enter Try.func58, Try.ntmps58
    go_wp2_with (first | (go_at_call 65; refine (index_yes (HR.out.below (by repeat (first | (with_reducible exact Below.refl _ _) | (with_reducible refine bl_dr ?_) | (with_reducible refine bl_drN ?_ _) | (with_reducible refine bl_al ?_ _) | (with_reducible refine bl_more ?_ _ _)))) (HK.out.below (by repeat (first | (with_reducible exact Below.refl _ _) | (with_reducible refine bl_dr ?_) | (with_reducible refine bl_drN ?_ _) | (with_reducible refine bl_al ?_ _) | (with_reducible refine bl_more ?_ _ _)))) hl HY.out HN.out).mono ?_; rintro e w1 ⟨rfl, hb1⟩; obtain ⟨ex, dx, rfl⟩ := more_of hb1; clear hb1))
    obtain ⟨off, cur, rfl, hblk, hfit, hat⟩ : ∃ off cur, A = some ⟨g, off, none⟩ ∧ w.heap[g]? = some (.cells cur 33 (0, 0)) ∧ off + cv * 6 ≤ cur.size ∧ jobE.At K w g off xs := by
      obtain ⟨off0, e0, ha⟩ := HS.out.at_ (by omega)
      obtain ⟨A', c', he, _, _, h4⟩ := HS.out
      obtain ⟨rfl, _, rfl⟩ := Value.slice.inj he
      obtain ⟨off, cur, cs, rfl, hb, hfit, _⟩ := h4 (by omega)
      obtain rfl : off = off0 := by simpa using e0
      exact ⟨off, cur, rfl, hb, hfit, ha⟩
    have hgl : g < w.heap.size := (Array.getElem?_eq_some_iff.1 hblk).1
    have hf0 : (xs.take k).filter (fun x => !isKey a b c x) = xs.take k := List.filter_eq_self.2 (fun x hx => by rw [HN.out x hx]; rfl)
    have hl0 : (xs.take k).length = k := by rw [List.length_take]; omega
    have hbx : Below w.heap.size w (more w ex dx) := (by repeat (first | (with_reducible exact Below.refl _ _) | (with_reducible refine bl_dr ?_) | (with_reducible refine bl_drN ?_ _) | (with_reducible refine bl_al ?_ _) | (with_reducible refine bl_more ?_ _ _)))
    go_loopg [5, 6] (xs.length - (k + 1)) (fun n qv pv wr => ∃ (p q : Nat) (cur : Array Value), p + n = xs.length ∧ pv = .int .i64 p ∧ qv = .int .i64 q ∧ q = ((xs.take p).filter (fun x => !isKey a b c x)).length ∧ q ≤ p ∧ wr.heap[g]? = some (.cells cur 33 (0, 0)) ∧ off + cv * 6 ≤ cur.size ∧
      jobE.At K wr g off ((xs.take p).filter (fun x => !isKey a b c x)) ∧ jobE.At K wr g (off + p * 6) (xs.drop p) ∧ Ext (fun x => x = g) w wr)
    case atStart =>
      refine ⟨k + 1, k, cur, ?_, rfl, rfl, ?_, by omega, ?_, hfit, ?_, ?_, Ext.of_below hbx⟩
      · have h := HL.out; omega
      · rw [filter_yes hl HY.out, hf0, hl0]
      · rw [more_heap hgl]; exact hblk
      · rw [filter_yes hl HY.out, hf0]
        exact (hat.below hbx).take k
      · exact (hat.below hbx).drop (k + 1)
    case round =>
      obtain ⟨p, q, cur, hp, rfl, rfl, hq, hqp, hblk, hfit, ha1, ha2, hext⟩ := hrel
      have HP := hid (And.intro hp (And.intro hq hqp))
      have HBL := hid (And.intro hblk hfit)
      have HA1 := hid ha1
      have HA2 := hid ha2
      have HE := hid hext
      have KK := hid (HK.out.ext hext hkg)
      have hgw : g < wr.heap.size := (Array.getElem?_eq_some_iff.1 hblk).1
      by_cases hlt : p < xs.length
      · obtain ⟨cs, hrd, hcs⟩ := ha2 0 (by rw [List.length_drop]; omega)
        have hx : (xs.drop p)[0]'(by rw [List.length_drop]; omega) = xs[p] := by simp
        rw [hx] at hrd
        obtain ⟨vs, rfl, hv⟩ := jobE_open hrd
        obtain ⟨B, cb, rfl, _⟩ := hv.form
        have hc : ∀ j u, (jobCells xs[p] (.slice B xs[p].stamp.length cb))[j]? = some u → wr.cell? ⟨g, off + p * 6 + j, none⟩ = some u := fun j u hj => by have := hcs j u hj; simpa using this
        have e0 : wr.cell? ⟨g, off + p * 6, none⟩ = some (.int .i64 xs[p].item) := by have := hc 0 _ rfl; simpa using this
        have e1 : wr.cell? ⟨g, off + p * 6 + 1, none⟩ = some (.bool xs[p].undo) := by have := hc 1 _ rfl; simpa using this
        have e2 : wr.cell? ⟨g, off + p * 6 + 2, none⟩ = some (.int .i64 xs[p].try_) := by have := hc 2 _ rfl; simpa using this
        have e3 : wr.cell? ⟨g, off + p * 6 + 3, none⟩ = some (.bool xs[p].begun) := by have := hc 3 _ rfl; simpa using this
        have e4 : wr.cell? ⟨g, off + p * 6 + 4, none⟩ = some (.int .i64 xs[p].token) := by have := hc 4 _ rfl; simpa using this
        have e5 : wr.cell? ⟨g, off + p * 6 + 5, none⟩ = some (.slice B xs[p].stamp.length cb) := by have := hc 5 _ rfl; simpa using this
        have HV := hid hv
        have ht : ∀ j, j < 6 → ∃ u, wr.cell? ⟨g, off + q * 6 + j, none⟩ = some u := fun j hj => by
          have : off + q * 6 + j < cur.size := by omega
          exact ⟨cur[off + q * 6 + j], by simp [World.cell?, hblk, this]⟩
        obtain ⟨u0, t0⟩ := ht 0 (by omega)
        obtain ⟨u1, t1⟩ := ht 1 (by omega)
        obtain ⟨u2, t2⟩ := ht 2 (by omega)
        obtain ⟨u3, t3⟩ := ht 3 (by omega)
        obtain ⟨u4', t4⟩ := ht 4 (by omega)
        obtain ⟨u5', t5⟩ := ht 5 (by omega)
        simp only [Nat.add_zero] at t0
        have z0 : wr.frozen? ⟨g, off + q * 6, none⟩ = false := frz_blk hblk _
        have z1 : wr.frozen? ⟨g, off + q * 6 + 1, none⟩ = false := frz_blk hblk _
        have z2 : wr.frozen? ⟨g, off + q * 6 + 2, none⟩ = false := frz_blk hblk _
        have z3 : wr.frozen? ⟨g, off + q * 6 + 3, none⟩ = false := frz_blk hblk _
        have z4 : wr.frozen? ⟨g, off + q * 6 + 4, none⟩ = false := frz_blk hblk _
        have z5 : wr.frozen? ⟨g, off + q * 6 + 5, none⟩ = false := frz_blk hblk _
        have i1 : (p : Int) < (xs.length : Int) := by omega
        have i2 : (0 : Int) ≤ (p : Int) := by omega
        have i3 : (0 : Int) ≤ (q : Int) := by omega
        have i4 : (q : Int) < (xs.length : Int) := by omega
        have w1' : IntKind.i64.wrap ((p : Int) + 1) = ((p + 1 : Nat) : Int) := by rw [IntWalk.i64_in _ (by omega)]; rfl
        have w2' : IntKind.i64.wrap ((q : Int) + 1) = ((q + 1 : Nat) : Int) := by rw [IntWalk.i64_in _ (by omega)]; rfl
        clear hc hcs hrd hx hv ht hp hq hqp hblk hfit ha1 ha2 hext hf0 hl0 hat hbx i0 w0
        cases hk : isKey a b c xs[p] with
        | true =>
          go_wp2_with (first | (go_at_call 60; refine (pred_any (x := xs[p]) (v := .slice B xs[p].stamp.length cb) (KK.out.below (by repeat (first | (with_reducible exact Below.refl _ _) | (with_reducible refine bl_dr ?_) | (with_reducible refine bl_drN ?_ _) | (with_reducible refine bl_al ?_ _) | (with_reducible refine bl_more ?_ _ _))))).mono ?_; rintro e w1 ⟨rfl, hb1⟩; obtain ⟨ex, dx, rfl⟩ := more_of hb1; clear hb1))
          obtain ⟨hp, hq, hqp⟩ := HP.out
          obtain ⟨hblk, hfit⟩ := HBL.out
          have hF : Below wr.heap.size wr (more (wr.alloc (.cells #[.int .i64 xs[p].item, .bool xs[p].undo, .int .i64 xs[p].try_, .bool xs[p].begun, .int .i64 xs[p].token, .slice B xs[p].stamp.length cb] 33)) ex dx) := (by repeat (first | (with_reducible exact Below.refl _ _) | (with_reducible refine bl_dr ?_) | (with_reducible refine bl_drN ?_ _) | (with_reducible refine bl_al ?_ _) | (with_reducible refine bl_more ?_ _ _)))
          go_roundg (xs.length - (p + 1))
          case measure => omega
          case rel =>
            refine ⟨p + 1, q, cur, by omega, rfl, rfl, ?_, by omega, ?_, hfit, ?_, ?_, HE.out.trans (T := fun x => x = g) (Ext.of_below hF) (fun _ _ h => h)⟩
            · rw [filter_yes hlt hk]; exact hq
            · rw [hF.block g hgw]; exact hblk
            · rw [filter_yes hlt hk]; exact HA1.out.below hF
            · have := (HA2.out.below hF).drop 1
              rw [List.drop_drop] at this
              have e : off + (p + 1) * 6 = off + p * 6 + 1 * jobE.sz := by show _ = off + p * 6 + 1 * 6; omega
              rw [e]; exact this
        | false =>
          go_wp2_with (first | (go_at_call 60; refine (pred_any (x := xs[p]) (v := .slice B xs[p].stamp.length cb) (KK.out.below (by repeat (first | (with_reducible exact Below.refl _ _) | (with_reducible refine bl_dr ?_) | (with_reducible refine bl_drN ?_ _) | (with_reducible refine bl_al ?_ _) | (with_reducible refine bl_more ?_ _ _))))).mono ?_; rintro e w1 ⟨rfl, hb1⟩; obtain ⟨ex, dx, rfl⟩ := more_of hb1; clear hb1))
          obtain ⟨hp, hq, hqp⟩ := HP.out
          obtain ⟨hblk, hfit⟩ := HBL.out
          go_roundg (xs.length - (p + 1))
          case measure => omega
          case rel =>
            obtain ⟨cur', r1, r2, r3, r4, r5, r6⟩ := sieve_put (W := _) hlt hk hK hq hqp h1 hblk hfit HA1.out HA2.out HE.out HV.out rfl (show Below _ _ (more ((wr.setCells g (off + q * 6) (jobCells xs[p] (.slice B xs[p].stamp.length cb))).alloc (.cells #[.int .i64 xs[p].item, .bool xs[p].undo, .int .i64 xs[p].try_, .bool xs[p].begun, .int .i64 xs[p].token, .slice B xs[p].stamp.length cb] 33)) ex dx) from (by repeat (first | (with_reducible exact Below.refl _ _) | (with_reducible refine bl_dr ?_) | (with_reducible refine bl_drN ?_ _) | (with_reducible refine bl_al ?_ _) | (with_reducible refine bl_more ?_ _ _))))
            exact ⟨p + 1, q + 1, cur', by omega, rfl, rfl, r3, by omega, r1, r2, r4, r5, r6⟩
      · obtain rfl : p = xs.length := by omega
        rw [List.take_length] at hq ha1
        have hqn : q < xs.length := by
          rw [hq]
          exact List.length_filter_lt_length_iff_exists.2 ⟨xs[k], List.getElem_mem hl, by have hyk := HY.out; simp; exact hyk⟩
        obtain ⟨i0, hi, _, hz1, _⟩ := info_parts info32
        obtain ⟨A1, hA1, hsl⟩ := run_slice_low (P := Try.prog) 61 33 6 Try.underlying61 hi hz1 (some ⟨g, off, none⟩) xs.length cv q (by omega)
        obtain rfl : A1 = some ⟨g, off + q * 6, none⟩ := by rw [hA1 (by omega)]; simp [Addr.add_lit]
        obtain ⟨vs, hvs, hcl⟩ := run_clear_any (P := Try.prog) (w := wr) (g := g) (off := off + q * 6) (n := xs.length - q) (c := cv - q) (cur := cur) (E := 33) (t := 61) (ty := 0) Try.underlying61 zero32 (by simp [Value.cells, Value.oneCell']) hblk (by show _ + (xs.length - q) * 6 ≤ _; omega)
        have i1 : ¬ (xs.length : Int) < (xs.length : Int) := by omega
        have i3 : (0 : Int) ≤ (q : Int) := by omega
        have i4 : (q : Int) ≤ (xs.length : Int) := by omega
        have i5 : (q : Int) ≤ (cv : Int) := by omega
        have HQ := hid hq
        have HVS := hid hvs
        clear hp hq hqp hfit ha2 hext hf0 hl0 hat hbx w0 hA1 hi hz1 hvs ha1 hblk
        go_wp2_with (first | (go_at_call 60; refine (pred_any (x := xs[p]) (v := .slice B xs[p].stamp.length cb) (KK.out.below (by repeat (first | (with_reducible exact Below.refl _ _) | (with_reducible refine bl_dr ?_) | (with_reducible refine bl_drN ?_ _) | (with_reducible refine bl_al ?_ _) | (with_reducible refine bl_more ?_ _ _))))).mono ?_; rintro e w1 ⟨rfl, hb1⟩; obtain ⟨ex, dx, rfl⟩ := more_of hb1; clear hb1))
        go_ret
        obtain ⟨hblk, hfit⟩ := HBL.out
        obtain ⟨cur', hb', hs'⟩ := blk_setCells g vs (off + q * 6) wr cur hblk
        have ha := HA1.out
        rw [List.take_length] at ha
        have hat' := ha.setCells_out hK vs (off + q * 6) (.inl (by rw [← HQ.out]; exact Nat.le_refl _))
        refine ⟨_, rfl, ?_, HE.out.trans (T := fun x => x = g) (ext_setCells g _ _ wr) (fun _ _ h => h)⟩
        have := Enc.Spine.of_at (d := jobE) hb' (by rw [hs']; exact hfit) (by rw [← HQ.out]; omega) h2 hat'
        rw [← HQ.out] at this
        exact this
end Go.Proofs.Ytlfdnjomjheioaa
