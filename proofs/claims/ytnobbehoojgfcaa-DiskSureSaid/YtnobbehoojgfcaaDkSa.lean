/- What was synced stands behind any crash. -/
import Derived.Test.YtnobbehoojgfcaaDkZ
namespace Go.Proofs.Ytnobbehoojgfcaa
open Go.RowKit

theorem crash_done (s : DS) (ks : List Int) {j : Nat} (hj : j < s.fs.length) : ∀ n, j < n → n ≤ s.fs.length → (crashN s ks n).fs[j]? = some ⟨(s.fs[j].b).take (cutN s.fs[j] ks[j]?), cutN s.fs[j] ks[j]?⟩
  | 0, h, _ => by omega
  | n + 1, h, hn => by
    by_cases hjn : j = n
    · subst hjn
      have h1 : j < (crashN s ks j).fs.length := by rw [crash_len]; exact hj
      rw [crash_next hj rfl, keep_eq h1, crash_file s ks hj]
      simp [h1]
    · show ((crashN s ks n).fs.set n _)[j]? = _
      rw [List.getElem?_set_ne (by omega)]
      exact crash_done s ks hj n (by omega) (by omega)
theorem crash_get {s : DS} {C : Int} (hs : s.Ok C) (ks : List Int) {j : Nat} (hj : j < s.fs.length) : ∃ h : j < (s.crash ks).fs.length, ∃ l : List UInt8, ((s.crash ks).fs[j]'h).b = l ∧ ((s.crash ks).fs[j]'h).synced = l.length ∧ s.fs[j].synced ≤ l.length ∧ l.length ≤ s.fs[j].b.length ∧ l = s.fs[j].b.take l.length := by
  have h1 := crash_done s ks hj s.fs.length hj (Nat.le_refl _)
  have h2 : j < (s.crash ks).fs.length := by show j < (crashN s ks s.fs.length).fs.length; rw [crash_len]; exact hj
  have h3 : (s.crash ks).fs[j]'h2 = ⟨(s.fs[j].b).take (cutN s.fs[j] ks[j]?), cutN s.fs[j] ks[j]?⟩ := by
    have : (s.crash ks).fs[j]? = some ((s.crash ks).fs[j]'h2) := List.getElem?_eq_getElem h2
    have h4 : (s.crash ks).fs[j]? = (crashN s ks s.fs.length).fs[j]? := rfl
    rw [h4, h1] at this
    exact (Option.some.inj this).symm
  have hle := cutN_le (hs.sync _ (List.getElem_mem hj)) ks[j]?
  have hge : s.fs[j].synced ≤ cutN s.fs[j] ks[j]? := by unfold cutN; omega
  refine ⟨h2, (s.fs[j].b).take (cutN s.fs[j] ks[j]?), by rw [h3], ?_, ?_, ?_, ?_⟩
  · rw [h3]; simp; omega
  · simp; omega
  · simp; omega
  · simp [Nat.min_eq_left hle]
/-- An array's first values. -/
def Arr (w : World) (b : Nat) (t : TypeId) (vals : List Value) : Prop := ∃ cur : Array Value, w.heap[b]? = some (.cells cur t (0, 0)) ∧ cur.size = 3 ∧ ∀ (k : Nat) (v : Value), vals[k]? = some v → cur[k]? = some v
theorem Arr.ext {w w' : World} {b : Nat} {t : TypeId} {vals : List Value} {S : Nat → Prop} (h : Arr w b t vals) (he : Ext S w w') (hb : ¬ S b) : Arr w' b t vals := by
  obtain ⟨cur, h1, h2⟩ := h
  exact ⟨cur, (he.block b (Array.getElem?_eq_some_iff.1 h1).1 hb).trans h1, h2⟩
theorem Arr.below {w w' : World} {b : Nat} {t : TypeId} {vals : List Value} (h : Arr w b t vals) (hb : Below w.heap.size w w') : Arr w' b t vals := h.ext (S := fun _ => False) (Ext.of_below hb) (fun h => h)
theorem Arr.lt {w : World} {b : Nat} {t : TypeId} {vals : List Value} (h : Arr w b t vals) : b < w.heap.size := by
  obtain ⟨cur, h1, _⟩ := h
  exact (Array.getElem?_eq_some_iff.1 h1).1
theorem Arr.snoc {w : World} {b j : Nat} {t : TypeId} {vals : List Value} (h : Arr w b t vals) (hj : vals.length = j) (h3 : j < 3) (v : Value) : Arr (w.setCell ⟨b, j, none⟩ v) b t (vals ++ [v]) := by
  obtain ⟨cur, h1, h2, h4⟩ := h
  refine ⟨cur.setIfInBounds j v, by simp [World.setCell, Array.getElem?_modify, h1], by simpa using h2, fun k u hk => ?_⟩
  rw [Array.getElem?_setIfInBounds]
  by_cases hkj : k < vals.length
  · rw [List.getElem?_append_left hkj] at hk
    rw [if_neg (by omega)]
    exact h4 k u hk
  · rw [List.getElem?_append_right (by omega)] at hk
    have : k - vals.length = 0 := by have := (List.getElem?_eq_some_iff.1 hk).1; simp at this; omega
    rw [this] at hk
    simp at hk
    subst hk
    rw [if_pos (by omega), if_pos (by omega)]
theorem Arr.frz {w : World} {b : Nat} {t : TypeId} {vals : List Value} (h : Arr w b t vals) (k : Nat) : w.frozen? ⟨b, k, none⟩ = false := by
  obtain ⟨cur, h1, _⟩ := h
  exact frz_blk h1 k
theorem Arr.has {w : World} {b k : Nat} {t : TypeId} {vals : List Value} (h : Arr w b t vals) (hk : k < 3) : ∃ u, w.cell? ⟨b, k, none⟩ = some u := by
  obtain ⟨cur, h1, h2, _⟩ := h
  exact ⟨cur[k]'(by omega), by rw [cell_blk h1]; exact Array.getElem?_eq_getElem _⟩
theorem Arr.get {w : World} {b k : Nat} {t : TypeId} {vals : List Value} {v : Value} (h : Arr w b t vals) (hk : vals[k]? = some v) : w.cell? ⟨b, k, none⟩ = some v := by
  obtain ⟨cur, h1, _, h3⟩ := h
  rw [cell_blk h1]; exact h3 k v hk
def strs (s : DS) (j : Nat) : List Value := (s.fs.take j).map (fun f => Value.string (bs f.b))
def ints (s : DS) (j : Nat) : List Value := (s.fs.take j).map (fun f => Value.int .i64 (f.synced : Int))
theorem strs_snoc {s : DS} {j : Nat} (h : j < s.fs.length) : strs s (j + 1) = strs s j ++ [.string (bs s.fs[j].b)] := by unfold strs; rw [List.take_succ_eq_append_getElem h, List.map_append]; rfl
theorem ints_snoc {s : DS} {j : Nat} (h : j < s.fs.length) : ints s (j + 1) = ints s j ++ [.int .i64 (s.fs[j].synced : Int)] := by unfold ints; rw [List.take_succ_eq_append_getElem h, List.map_append]; rfl
theorem strs_get {s : DS} {j : Nat} (h : j < s.fs.length) (n : Nat) (hn : j < n) : (strs s n)[j]? = some (.string (bs s.fs[j].b)) := by unfold strs; simp [h, hn]
theorem ints_get {s : DS} {j : Nat} (h : j < s.fs.length) (n : Nat) (hn : j < n) : (ints s n)[j]? = some (.int .i64 (s.fs[j].synced : Int)) := by unfold ints; simp [h, hn]
structure Sv (w0 w : World) (d p q : Nat) (s : DS) (xs ys : List Value) : Prop where
  dk : Dk w d (fun b => w0.heap.size ≤ b ∧ b ≠ p ∧ b ≠ q) s
  bw : Below w0.heap.size w0 w
  ld : w0.heap.size ≤ d
  lp : w0.heap.size ≤ p
  lq : w0.heap.size ≤ q
  pq : p ≠ q
  dp : d ≠ p
  dq : d ≠ q
  a : Arr w p 40 xs
  b : Arr w q 41 ys
theorem Sv.below {w0 w W : World} {d p q : Nat} {s : DS} {xs ys : List Value} (h : Sv w0 w d p q s xs ys) (hb : Below w.heap.size w W) : Sv w0 W d p q s xs ys :=
  ⟨h.dk.below hb, h.bw.trans (hb.mono h.bw.size), h.ld, h.lp, h.lq, h.pq, h.dp, h.dq, h.a.below hb, h.b.below hb⟩
theorem Sv.new {w0 w1 W : World} {d : Nat} {s : DS} (h : Dv w0 w1 d s) (hb : Below w1.heap.size w1 W) (h1 : Arr W w1.heap.size 40 []) (h2 : Arr W (w1.heap.size + 1) 41 []) : Sv w0 W d w1.heap.size (w1.heap.size + 1) s [] [] := by
  have l1 := h.bw.size
  have l2 := h.dk.lt
  exact ⟨(h.dk.mono (fun b hb lt => ⟨hb, by omega, by omega⟩)).below hb, h.bw.trans (hb.mono l1), h.ld, l1, by omega, by omega, by omega, by omega, h1, h2⟩
theorem Sv.next {w0 w : World} {d p q j : Nat} {s : DS} {xs ys : List Value} (h : Sv w0 w d p q s xs ys) (h1 : xs.length = j) (h2 : ys.length = j) (hj : j < 3) (v u : Value) :
    Sv w0 ((w.setCell ⟨p, j, none⟩ v).setCell ⟨q, j, none⟩ u) d p q s (xs ++ [v]) (ys ++ [u]) := by
  have e1 : Ext (fun b => b = p) w (w.setCell ⟨p, j, none⟩ v) := (Ext.refl _ _).set p j v rfl
  have e2 : Ext (fun b => b = q) (w.setCell ⟨p, j, none⟩ v) ((w.setCell ⟨p, j, none⟩ v).setCell ⟨q, j, none⟩ u) := (Ext.refl _ _).set q j u rfl
  have s1 := h.bw.size
  have l1 := h.lp
  have l2 := h.lq
  have l3 := h.dp
  have l4 := h.dq
  have l5 := h.pq
  refine ⟨(h.dk.ext e1 h.dp (fun b hb => hb.2.1)).ext e2 h.dq (fun b hb => hb.2.2), ?_, h.ld, h.lp, h.lq, h.pq, h.dp, h.dq, ?_, ?_⟩
  · have b1 := e1.toBelow s1 (fun x hx e => by omega)
    exact (h.bw.trans b1).trans (e2.toBelow (by have := b1.size; have := e1.size; omega) (fun x hx e => by omega))
  · exact (h.a.snoc h1 hj v).ext e2 h.pq
  · exact (h.b.ext e1 (fun e => h.pq e.symm)).snoc h2 hj u
theorem sv_crash {w0 w : World} {d p q : Nat} {s : DS} {xs ys : List Value} {C : Int} {v : Value} {ks : List Int} (h : Sv w0 w d p q s xs ys) (hs : s.Ok C) (hC : C ≤ 1000000000) (hk : intE.Row (fun b => b ≠ d) w v ks) :
    Calls Try.prog 17 #[.pointer (some ⟨d, 0, none⟩), v] w fun e w' => e = .returned (.int .i64 0) ∧ Sv w0 w' d p q (s.crash ks) xs ys :=
  (crash_any h.dk hs hC hk (fun b hb => hb)).mono fun e w' ⟨h1, h2, h3⟩ => by
    have l1 := h.ld
    have b1 := h3.toBelow h.bw.size (fun x hx e => by omega)
    exact ⟨h1, h2, h.bw.trans b1, h.ld, h.lp, h.lq, h.pq, h.dp, h.dq, h.a.ext h3 (fun e => h.dp e.symm), h.b.ext h3 (fun e => h.dq e.symm)⟩
theorem sv_read {w0 w : World} {d p q j : Nat} {s : DS} {xs ys : List Value} {C : Int} {l : List UInt8} (h : Sv w0 w d p q s xs ys) (hs : s.Ok C) (hC : C ≤ 1000000000) (hl : ∃ hj : j < s.fs.length, (s.fs[j]'hj).b = l) :
    Calls Try.prog 15 #[.pointer (some ⟨d, 0, none⟩), .int .i64 j] w fun e w' => ∃ A c, e = .returned (.slice A l.length c) ∧ u8E.Row (fun b => w.heap.size ≤ b) w' (.slice A l.length c) l ∧ Below w.heap.size w w' := by
  obtain ⟨hj, hl⟩ := hl
  refine (read_any h.dk hs hC j hj).mono fun e w' ⟨v, h1, h2, h3⟩ => ?_
  rw [hl] at h2
  obtain ⟨A, c, rfl, _, _⟩ := h2.form
  exact ⟨A, c, h1, h2, h3⟩
theorem sv_sync {w0 w : World} {d p q j n : Nat} {s : DS} {xs ys : List Value} {C : Int} (h : Sv w0 w d p q s xs ys) (hs : s.Ok C) (hl : ∃ hj : j < s.fs.length, (s.fs[j]'hj).synced = n) :
    Calls Try.prog 16 #[.pointer (some ⟨d, 0, none⟩), .int .i64 j] w fun e w' => e = .returned (.int .i64 n) ∧ Below w.heap.size w w' := by
  obtain ⟨hj, rfl⟩ := hl
  exact synced_any h.dk hs.n2 j hj
theorem zero40 (w : World) : (zeroValue 40).run Try.prog w = .ok (.agg #[.string ByteArray.empty, .string ByteArray.empty, .string ByteArray.empty]) w := by kernel_rfl
theorem zero41 (w : World) : (zeroValue 41).run Try.prog w = .ok (.agg #[.int .i64 0, .int .i64 0, .int .i64 0]) w := by kernel_rfl

theorem bl_dw {W X : World} {e : Array Obj} {n : Nat} (h : Below (more W e n).heap.size (more W e n) X) : Below (more W.drew e n).heap.size (more W.drew e n) X := h
set_option maxRecDepth 8000 in
set_option maxHeartbeats 4000000 in
theorem sure_any {w : World} {v vk : Value} {xs : List ActD} {ks : List Int} (h : actE.Row (fun _ => True) w v xs) (hnb : ∀ x ∈ xs, x.n ≤ 9223372036854775807) (hk : intE.Row (fun _ => True) w vk ks) :
    Calls Try.prog 4 #[v, vk] w fun e w' => e = .returned (.bool true) ∧ Below w.heap.size w w' := by
  obtain ⟨A, c, rfl, _, _⟩ := h.form
  obtain ⟨B, cb, rfl, _, _⟩ := hk.form
  have HX := hid h
  have HNB := hid hnb
  have HKP := hid (hk.bound.mono (K' := fun b => b < w.heap.size) (fun b hb _ => hb.2))
  clear h hnb hk
  cases hf : fewB xs with
  | false =>
    have HF := hid hf
    clear hf
    go_enter Try.func4, Try.ntmps4
    go_wp2_with (first | (go_at_call 8; refine (few_no (HX.out.below (by repeat (first | (with_reducible exact Below.refl _ _) | (with_reducible exact bl_mm) | (with_reducible refine bl_dr ?_) | (with_reducible refine bl_drN ?_ _) | (with_reducible refine bl_al ?_ _) | (with_reducible refine bl_more ?_ _ _)))) HF.out).mono ?_; rintro e w2 ⟨rfl, hb1⟩; obtain ⟨ex, dx, rfl⟩ := more_of hb1; clear hb1) | (go_at_call 9; refine (lives_any _).mono ?_; rintro e w2 ⟨rfl, hb1⟩; obtain ⟨ex, dx, rfl⟩ := more_of hb1; clear hb1))
    go_ret
    exact ⟨rfl, (by repeat (first | (with_reducible exact Below.refl _ _) | (with_reducible exact bl_mm) | (with_reducible refine bl_dr ?_) | (with_reducible refine bl_drN ?_ _) | (with_reducible refine bl_al ?_ _) | (with_reducible refine bl_more ?_ _ _)))⟩
  | true =>
    have HF := hid hf
    clear hf
    by_cases h1 : 200 < ks.length
    · have h1' : (200 : Int) < (ks.length : Int) := by omega
      go_enter Try.func4, Try.ntmps4
      go_wp2_with (first | (go_at_call 8; refine (few_yes (HX.out.below (by repeat (first | (with_reducible exact Below.refl _ _) | (with_reducible exact bl_mm) | (with_reducible refine bl_dr ?_) | (with_reducible refine bl_drN ?_ _) | (with_reducible refine bl_al ?_ _) | (with_reducible refine bl_more ?_ _ _)))) HF.out).mono ?_; rintro e w2 ⟨rfl, hb1⟩; obtain ⟨ex0, dx0, rfl⟩ := more_of hb1; clear hb1) | (go_at_call 9; refine (lives_any _).mono ?_; rintro e w2 ⟨rfl, hb1⟩; obtain ⟨ex, dx, rfl⟩ := more_of hb1; clear hb1))
      go_ret
      exact ⟨rfl, (by repeat (first | (with_reducible exact Below.refl _ _) | (with_reducible exact bl_mm) | (with_reducible refine bl_dr ?_) | (with_reducible refine bl_drN ?_ _) | (with_reducible refine bl_al ?_ _) | (with_reducible refine bl_more ?_ _ _)))⟩
    · have h1' : ¬ (200 : Int) < (ks.length : Int) := by omega
      have hz40 := zero40
      have hz41 := zero41
      clear h1
      go_enter Try.func4, Try.ntmps4
      go_wp2_with (first | (go_at_call 8; refine (few_yes (HX.out.below (by repeat (first | (with_reducible exact Below.refl _ _) | (with_reducible exact bl_mm) | (with_reducible refine bl_dr ?_) | (with_reducible refine bl_drN ?_ _) | (with_reducible refine bl_al ?_ _) | (with_reducible refine bl_more ?_ _ _)))) HF.out).mono ?_; rintro e w2 ⟨rfl, hb1⟩; obtain ⟨ex0, dx0, rfl⟩ := more_of hb1; clear hb1) | (go_at_call 14; refine (begun_any (HX.out.below (by repeat (first | (with_reducible exact Below.refl _ _) | (with_reducible exact bl_mm) | (with_reducible refine bl_dr ?_) | (with_reducible refine bl_drN ?_ _) | (with_reducible refine bl_al ?_ _) | (with_reducible refine bl_more ?_ _ _)))) HNB.out HF.out).mono ?_; rintro e w1 ⟨d, s0, rfl, hq, hld, hb1, hok, hl3⟩; have HD := hid (Dv.mk (w0 := w) (hq.mono (fun b hb _ => by simp only [more_size] at hb; omega)) ((show Below w.heap.size w _ from (by repeat (first | (with_reducible exact Below.refl _ _) | (with_reducible exact bl_mm) | (with_reducible refine bl_dr ?_) | (with_reducible refine bl_drN ?_ _) | (with_reducible refine bl_al ?_ _) | (with_reducible refine bl_more ?_ _ _)))).trans (hb1.mono (by simp only [more_size]; omega))) (by simp only [more_size] at hld; omega)); have HOK := hid hok; have HL3 := hid hl3; clear hq hld hb1 hok hl3))
      have HD1 : Hid (Sv w _ d _ _ s0 [] []) := hid (Sv.new (W := (w1.alloc (.cells #[.string ByteArray.empty, .string ByteArray.empty, .string ByteArray.empty] 40)).alloc (.cells #[.int .i64 0, .int .i64 0, .int .i64 0] 41)) HD.out (by repeat (first | (with_reducible exact Below.refl _ _) | (with_reducible exact bl_mm) | (with_reducible refine bl_dr ?_) | (with_reducible refine bl_drN ?_ _) | (with_reducible refine bl_al ?_ _) | (with_reducible refine bl_more ?_ _ _))) (Arr.below (⟨_, alloc_blk rfl, rfl, fun k v h => by simp at h⟩ : Arr (w1.alloc (.cells #[.string ByteArray.empty, .string ByteArray.empty, .string ByteArray.empty] 40)) _ 40 []) (by repeat (first | (with_reducible exact Below.refl _ _) | (with_reducible exact bl_mm) | (with_reducible refine bl_dr ?_) | (with_reducible refine bl_drN ?_ _) | (with_reducible refine bl_al ?_ _) | (with_reducible refine bl_more ?_ _ _)))) ⟨_, alloc_blk (o := .cells #[.int .i64 0, .int .i64 0, .int .i64 0] 41) (by simp only [World.size_alloc]), rfl, fun k v h => by simp at h⟩)
      clear HD
      go_loopg [8] 3 (fun k i wr => ∃ j : Nat, j + k = 3 ∧ i = .int .i64 j ∧ Sv w wr d w1.heap.size (w1.heap.size + 1) s0 (strs s0 j) (ints s0 j))
      case atStart => exact ⟨0, by omega, rfl, HD1.out⟩
      case round =>
        obtain ⟨j, hj, rfl, hq⟩ := hrel
        clear HD1
        have HD := hid hq
        have HJ := hid hj
        have p1 := hq.a.lt
        have p2 := hq.b.lt
        by_cases hlt : j < 3
        · have hjl : j < s0.fs.length := by rw [HL3.out]; exact hlt
          have HT1 := hid (strs_snoc hjl)
          have HT2 := hid (ints_snoc hjl)
          have HT3 := hid (show (strs s0 j).length = j by unfold strs; rw [List.length_map, List.length_take]; omega)
          have HT4 := hid (show (ints s0 j).length = j by unfold ints; rw [List.length_map, List.length_take]; omega)
          obtain ⟨l, hl⟩ : ∃ l, (s0.fs[j]'hjl).b = l := ⟨_, rfl⟩
          obtain ⟨n, hn⟩ : ∃ n, (s0.fs[j]'hjl).synced = n := ⟨_, rfl⟩
          rw [hl] at HT1
          rw [hn] at HT2
          have HLB := hid (show ∃ hj : j < s0.fs.length, (s0.fs[j]'hj).b = l from ⟨hjl, hl⟩)
          have HLN := hid (show ∃ hj : j < s0.fs.length, (s0.fs[j]'hj).synced = n from ⟨hjl, hn⟩)
          have p3 := hq.a.frz j
          have p4 := hq.b.frz j
          obtain ⟨u1, p5⟩ := hq.a.has hlt
          obtain ⟨u2, p6⟩ := hq.b.has hlt
          have i1 : (j : Int) < 3 := by omega
          have i3 : (0 : Int) ≤ (j : Int) := by omega
          have w1' : IntKind.i64.wrap ((j : Int) + 1) = ((j + 1 : Nat) : Int) := by rw [IntWalk.i64_in _ (by omega)]; rfl
          have HLT := hid (And.intro hlt trivial)
          clear hl hn hjl hlt hj hq
          go_wp2_with (first | ((with_reducible refine wp_region_plan (id := 11) (.eff [(true, 0), (true, 1), (false, 2), (false, 3), (true, 6), (true, 7)] 4 [0, 1, 6, 7] (.two [] 5 [0, 1, 6, 7] (.eff [(true, 9)] 8 [0, 1, 9] (.eff [] 10 [1] (.eff [(false, 11)] 12 [] (.fin [])))) 8 [0, 1] (.eff [] 5 [0, 1, 6, 7] (.eff [(false, 9)] 10 [1] (.eff [(false, 11)] 12 [] (.fin [])))))) ?_ ?_ ?_ ?_ ?_ ?_); kernel_rfl; kernel_rfl; kernel_rfl; kernel_rfl; (intro c a d v w h; cases d <;> exact h)) | (with_reducible refine wpPlan_eff ?_) | (with_reducible refine wpPlan_fin ?_) | (with_reducible refine wpPlan_two ?_) | (with_reducible refine wpOpPair ?_ ?_) | ((with_reducible apply wpPre_keep); rfl; intro K' hK'; go_simp; refine hK' _ _ ?_; intro f hf; clear hK' K') | ((with_reducible apply wpPre_drop); rfl; intro K' hK'; go_simp; refine hK' _ _ ?_; intro f; clear hK' K') | (with_reducible refine wpPre_nil ?_) | ((with_reducible apply wpOp_list); rfl) | (with_reducible refine heldPair ?_ ?_) | ((with_reducible refine heldH_no ?_ ?_); rfl) | (with_reducible refine heldH_yes ?_ ?_) | (with_reducible exact heldH_nil) | (unfold YAt; go_simp; done) | (go_at_call 15; refine (sv_read (j := j) (HD.out.below (by repeat (first | (with_reducible exact Below.refl _ _) | (with_reducible exact bl_mm) | (with_reducible refine bl_dr ?_) | (with_reducible refine bl_drN ?_ _) | (with_reducible refine bl_al ?_ _) | (with_reducible refine bl_more ?_ _ _)))) HOK.out (by omega) HLB.out).mono ?_; rintro e w2 ⟨B1, c1, rfl, hr1, hb1⟩; obtain ⟨ex1, dx1, rfl⟩ := more_of hb1; clear hb1; have HR1 := hid hr1; clear hr1) | (rw [str_run (HR1.out.below (by first | ((repeat (first | (with_reducible exact Below.refl _ _) | (with_reducible exact bl_mm) | (with_reducible refine bl_dr ?_) | (with_reducible refine bl_drN ?_ _) | (with_reducible refine bl_al ?_ _) | (with_reducible refine bl_more ?_ _ _))); done) | (refine bl_dw ?_; (repeat (first | (with_reducible exact Below.refl _ _) | (with_reducible exact bl_mm) | (with_reducible refine bl_dr ?_) | (with_reducible refine bl_drN ?_ _) | (with_reducible refine bl_al ?_ _) | (with_reducible refine bl_more ?_ _ _))); done)))]) | (go_at_call 16; refine (sv_sync (j := j) (HD.out.below (by repeat (first | (with_reducible exact Below.refl _ _) | (with_reducible exact bl_mm) | (with_reducible refine bl_dr ?_) | (with_reducible refine bl_drN ?_ _) | (with_reducible refine bl_al ?_ _) | (with_reducible refine bl_more ?_ _ _)))) HOK.out HLN.out).mono ?_; rintro e w2 ⟨rfl, hb1⟩; obtain ⟨ex2, dx2, rfl⟩ := more_of hb1; clear hb1))
          all_goals
            go_roundg (3 - (j + 1))
            case measure => have := HJ.out; omega
            case rel =>
              refine ⟨j + 1, by have := HJ.out; omega, rfl, ?_⟩
              rw [HT1.out, HT2.out]
              exact (HD.out.next HT3.out HT4.out HLT.out.1 _ _).below (by repeat (first | (with_reducible exact Below.refl _ _) | (with_reducible exact bl_mm) | (with_reducible refine bl_dr ?_) | (with_reducible refine bl_drN ?_ _) | (with_reducible refine bl_al ?_ _) | (with_reducible refine bl_more ?_ _ _)))
        · obtain rfl : j = 3 := by omega
          have i1 : ¬ (3 : Int) < 3 := by omega
          have HOK2 := hid (crashS_ok HOK.out ks)
          have hd3 : (s0.crash ks).down = false := rfl
          clear hj hq hlt
          go_wp2_with (first | ((with_reducible refine wp_region_plan (id := 11) (.eff [(true, 0), (true, 1), (false, 2), (false, 3), (true, 6), (true, 7)] 4 [0, 1, 6, 7] (.two [] 5 [0, 1, 6, 7] (.eff [(true, 9)] 8 [0, 1, 9] (.eff [] 10 [1] (.eff [(false, 11)] 12 [] (.fin [])))) 8 [0, 1] (.eff [] 5 [0, 1, 6, 7] (.eff [(false, 9)] 10 [1] (.eff [(false, 11)] 12 [] (.fin [])))))) ?_ ?_ ?_ ?_ ?_ ?_); kernel_rfl; kernel_rfl; kernel_rfl; kernel_rfl; (intro c a d v w h; cases d <;> exact h)) | (with_reducible refine wpPlan_eff ?_) | (with_reducible refine wpPlan_fin ?_) | (with_reducible refine wpPlan_two ?_) | (with_reducible refine wpOpPair ?_ ?_) | ((with_reducible apply wpPre_keep); rfl; intro K' hK'; go_simp; refine hK' _ _ ?_; intro f hf; clear hK' K') | ((with_reducible apply wpPre_drop); rfl; intro K' hK'; go_simp; refine hK' _ _ ?_; intro f; clear hK' K') | (with_reducible refine wpPre_nil ?_) | ((with_reducible apply wpOp_list); rfl) | (with_reducible refine heldPair ?_ ?_) | ((with_reducible refine heldH_no ?_ ?_); rfl) | (with_reducible refine heldH_yes ?_ ?_) | (with_reducible exact heldH_nil) | (unfold YAt; go_simp; done) | (go_at_call 17; refine (sv_crash (ks := ks) (HD.out.below (by repeat (first | (with_reducible exact Below.refl _ _) | (with_reducible exact bl_mm) | (with_reducible refine bl_dr ?_) | (with_reducible refine bl_drN ?_ _) | (with_reducible refine bl_al ?_ _) | (with_reducible refine bl_more ?_ _ _)))) HOK.out (by omega) ((HKP.out.below (show Below w.heap.size w _ from HD.out.bw.trans ((show Below wr.heap.size wr _ from (by repeat (first | (with_reducible exact Below.refl _ _) | (with_reducible exact bl_mm) | (with_reducible refine bl_dr ?_) | (with_reducible refine bl_drN ?_ _) | (with_reducible refine bl_al ?_ _) | (with_reducible refine bl_more ?_ _ _)))).mono HD.out.bw.size))).mono (fun b hb _ => by have := HD.out.ld; omega))).mono ?_; rintro e w2 ⟨rfl, hq⟩; have HD2 := hid hq; clear hq))
          go_wp2_with (first | ((with_reducible refine wp_region_plan (id := 11) (.eff [(true, 0), (true, 1), (false, 2), (false, 3), (true, 6), (true, 7)] 4 [0, 1, 6, 7] (.two [] 5 [0, 1, 6, 7] (.eff [(true, 9)] 8 [0, 1, 9] (.eff [] 10 [1] (.eff [(false, 11)] 12 [] (.fin [])))) 8 [0, 1] (.eff [] 5 [0, 1, 6, 7] (.eff [(false, 9)] 10 [1] (.eff [(false, 11)] 12 [] (.fin [])))))) ?_ ?_ ?_ ?_ ?_ ?_); kernel_rfl; kernel_rfl; kernel_rfl; kernel_rfl; (intro c a d v w h; cases d <;> exact h)) | (with_reducible refine wpPlan_eff ?_) | (with_reducible refine wpPlan_fin ?_) | (with_reducible refine wpPlan_two ?_) | (with_reducible refine wpOpPair ?_ ?_) | ((with_reducible apply wpPre_keep); rfl; intro K' hK'; go_simp; refine hK' _ _ ?_; intro f hf; clear hK' K') | ((with_reducible apply wpPre_drop); rfl; intro K' hK'; go_simp; refine hK' _ _ ?_; intro f; clear hK' K') | (with_reducible refine wpPre_nil ?_) | ((with_reducible apply wpOp_list); rfl) | (with_reducible refine heldPair ?_ ?_) | ((with_reducible refine heldH_no ?_ ?_); rfl) | (with_reducible refine heldH_yes ?_ ?_) | (with_reducible exact heldH_nil) | (unfold YAt; go_simp; done) | (go_at_call 18; refine (down_any (s := s0.crash ks) (HD2.out.below (by repeat (first | (with_reducible exact Below.refl _ _) | (with_reducible exact bl_mm) | (with_reducible refine bl_dr ?_) | (with_reducible refine bl_drN ?_ _) | (with_reducible refine bl_al ?_ _) | (with_reducible refine bl_more ?_ _ _)))).dk HOK2.out.n1).mono ?_; rintro e w1 ⟨rfl, hb1⟩; obtain ⟨ex2, dx2, rfl⟩ := more_of hb1; clear hb1))
          go_loopg [9] 3 (fun k i wr2 => ∃ j : Nat, j + k = 3 ∧ i = .int .i64 j ∧ Sv w wr2 d w1.heap.size (w1.heap.size + 1) (s0.crash ks) (strs s0 3) (ints s0 3))
          case atStart => exact ⟨0, by omega, rfl, HD2.out.below (by repeat (first | (with_reducible exact Below.refl _ _) | (with_reducible exact bl_mm) | (with_reducible refine bl_dr ?_) | (with_reducible refine bl_drN ?_ _) | (with_reducible refine bl_al ?_ _) | (with_reducible refine bl_more ?_ _ _)))⟩
          case round =>
            obtain ⟨j, hj, rfl, hq⟩ := hrel
            clear HD2 HD p1 p2
            have HD := hid hq
            have p1 := hq.a.lt
            have p2 := hq.b.lt
            clear HJ
            have HJ := hid hj
            by_cases hlt : j < 3
            · have hjl : j < s0.fs.length := by rw [HL3.out]; exact hlt
              obtain ⟨hc, l, g1, g2, g3, g4, g5⟩ := crash_get HOK.out ks hjl
              have HLB := hid (show ∃ hj : j < (s0.crash ks).fs.length, ((s0.crash ks).fs[j]'hj).b = l from ⟨hc, g1⟩)
              have HLN := hid (show ∃ hj : j < (s0.crash ks).fs.length, ((s0.crash ks).fs[j]'hj).synced = l.length from ⟨hc, g2⟩)
              have p3 := hq.a.get (strs_get hjl 3 hlt)
              have p4 := hq.b.get (ints_get hjl 3 hlt)
              obtain ⟨b0, hb0⟩ : ∃ b0, (s0.fs[j]'hjl).b = b0 := ⟨_, rfl⟩
              obtain ⟨n0, hn0⟩ : ∃ n0, (s0.fs[j]'hjl).synced = n0 := ⟨_, rfl⟩
              rw [hb0] at p3 g4 g5
              rw [hn0] at p4 g3
              have y1 : ¬ ((l.length : Int) < (n0 : Int)) := by omega
              have y2 : ¬ ((b0.length : Int) < (l.length : Int)) := by omega
              have y3 := bs_take b0 l.length
              rw [← g5] at y3
              have y4 : (l.length : Int) ≤ (b0.length : Int) := by omega
              have i1 : (j : Int) < 3 := by omega
              have i3 : (0 : Int) ≤ (j : Int) := by omega
              have w1' : IntKind.i64.wrap ((j : Int) + 1) = ((j + 1 : Nat) : Int) := by rw [IntWalk.i64_in _ (by omega)]; rfl
              have HOKO := HOK
              clear HOK
              have HOK := HOK2
              clear hb0 hn0 g1 g2 g5 hc hjl hlt hj hq
              go_wp2_with (first | ((with_reducible refine wp_region_plan (id := 11) (.eff [(true, 0), (true, 1), (false, 2), (false, 3), (true, 6), (true, 7)] 4 [0, 1, 6, 7] (.two [] 5 [0, 1, 6, 7] (.eff [(true, 9)] 8 [0, 1, 9] (.eff [] 10 [1] (.eff [(false, 11)] 12 [] (.fin [])))) 8 [0, 1] (.eff [] 5 [0, 1, 6, 7] (.eff [(false, 9)] 10 [1] (.eff [(false, 11)] 12 [] (.fin [])))))) ?_ ?_ ?_ ?_ ?_ ?_); kernel_rfl; kernel_rfl; kernel_rfl; kernel_rfl; (intro c a d v w h; cases d <;> exact h)) | (with_reducible refine wpPlan_eff ?_) | (with_reducible refine wpPlan_fin ?_) | (with_reducible refine wpPlan_two ?_) | (with_reducible refine wpOpPair ?_ ?_) | ((with_reducible apply wpPre_keep); rfl; intro K' hK'; go_simp; refine hK' _ _ ?_; intro f hf; clear hK' K') | ((with_reducible apply wpPre_drop); rfl; intro K' hK'; go_simp; refine hK' _ _ ?_; intro f; clear hK' K') | (with_reducible refine wpPre_nil ?_) | ((with_reducible apply wpOp_list); rfl) | (with_reducible refine heldPair ?_ ?_) | ((with_reducible refine heldH_no ?_ ?_); rfl) | (with_reducible refine heldH_yes ?_ ?_) | (with_reducible exact heldH_nil) | (unfold YAt; go_simp; done) | (go_at_call 15; refine (sv_read (j := j) (HD.out.below (by repeat (first | (with_reducible exact Below.refl _ _) | (with_reducible exact bl_mm) | (with_reducible refine bl_dr ?_) | (with_reducible refine bl_drN ?_ _) | (with_reducible refine bl_al ?_ _) | (with_reducible refine bl_more ?_ _ _)))) HOK.out (by omega) HLB.out).mono ?_; rintro e w2 ⟨B1, c1, rfl, hr1, hb1⟩; obtain ⟨ex1, dx1, rfl⟩ := more_of hb1; clear hb1; have HR1 := hid hr1; clear hr1) | (rw [str_run (HR1.out.below (by first | ((repeat (first | (with_reducible exact Below.refl _ _) | (with_reducible exact bl_mm) | (with_reducible refine bl_dr ?_) | (with_reducible refine bl_drN ?_ _) | (with_reducible refine bl_al ?_ _) | (with_reducible refine bl_more ?_ _ _))); done) | (refine bl_dw ?_; (repeat (first | (with_reducible exact Below.refl _ _) | (with_reducible exact bl_mm) | (with_reducible refine bl_dr ?_) | (with_reducible refine bl_drN ?_ _) | (with_reducible refine bl_al ?_ _) | (with_reducible refine bl_more ?_ _ _))); done)))]) | (go_at_call 16; refine (sv_sync (j := j) (HD.out.below (by repeat (first | (with_reducible exact Below.refl _ _) | (with_reducible exact bl_mm) | (with_reducible refine bl_dr ?_) | (with_reducible refine bl_drN ?_ _) | (with_reducible refine bl_al ?_ _) | (with_reducible refine bl_more ?_ _ _)))) HOK.out HLN.out).mono ?_; rintro e w2 ⟨rfl, hb1⟩; obtain ⟨ex2, dx2, rfl⟩ := more_of hb1; clear hb1))
              go_roundg (3 - (j + 1))
              case measure => have := HJ.out; omega
              case rel => exact ⟨j + 1, by have := HJ.out; omega, rfl, HD.out.below (by repeat (first | (with_reducible exact Below.refl _ _) | (with_reducible exact bl_mm) | (with_reducible refine bl_dr ?_) | (with_reducible refine bl_drN ?_ _) | (with_reducible refine bl_al ?_ _) | (with_reducible refine bl_more ?_ _ _)))⟩
            · obtain rfl : j = 3 := by omega
              clear hj hq hlt
              go_wp2_with (first | ((with_reducible refine wp_region_plan (id := 11) (.eff [(true, 0), (true, 1), (false, 2), (false, 3), (true, 6), (true, 7)] 4 [0, 1, 6, 7] (.two [] 5 [0, 1, 6, 7] (.eff [(true, 9)] 8 [0, 1, 9] (.eff [] 10 [1] (.eff [(false, 11)] 12 [] (.fin [])))) 8 [0, 1] (.eff [] 5 [0, 1, 6, 7] (.eff [(false, 9)] 10 [1] (.eff [(false, 11)] 12 [] (.fin [])))))) ?_ ?_ ?_ ?_ ?_ ?_); kernel_rfl; kernel_rfl; kernel_rfl; kernel_rfl; (intro c a d v w h; cases d <;> exact h)) | (with_reducible refine wpPlan_eff ?_) | (with_reducible refine wpPlan_fin ?_) | (with_reducible refine wpPlan_two ?_) | (with_reducible refine wpOpPair ?_ ?_) | ((with_reducible apply wpPre_keep); rfl; intro K' hK'; go_simp; refine hK' _ _ ?_; intro f hf; clear hK' K') | ((with_reducible apply wpPre_drop); rfl; intro K' hK'; go_simp; refine hK' _ _ ?_; intro f; clear hK' K') | (with_reducible refine wpPre_nil ?_) | ((with_reducible apply wpOp_list); rfl) | (with_reducible refine heldPair ?_ ?_) | ((with_reducible refine heldH_no ?_ ?_); rfl) | (with_reducible refine heldH_yes ?_ ?_) | (with_reducible exact heldH_nil) | (unfold YAt; go_simp; done) | (go_at_call 9; refine (lives_any _).mono ?_; rintro e w2 ⟨rfl, hb1⟩; obtain ⟨ex, dx, rfl⟩ := more_of hb1; clear hb1))
              go_ret
              exact ⟨rfl, (HD.out.below (by repeat (first | (with_reducible exact Below.refl _ _) | (with_reducible exact bl_mm) | (with_reducible refine bl_dr ?_) | (with_reducible refine bl_drN ?_ _) | (with_reducible refine bl_al ?_ _) | (with_reducible refine bl_more ?_ _ _)))).bw⟩
end Go.Proofs.Ytnobbehoojgfcaa
