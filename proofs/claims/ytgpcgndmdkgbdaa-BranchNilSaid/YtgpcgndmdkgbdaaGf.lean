/- A branch's log, told. -/
import Derived.Test.YtgpcgndmdkgbdaaGc
import Derived.Test.YtgpcgndmdkgbdaaGd
import Derived.Test.YtgpcgndmdkgbdaaGa
import Derived.Laws.IdiomStrings
import Derived.Laws.BytesArg
import Derived.Test.YtgpcgndmdkgbdaaGe
/- A branch's log, told. -/
namespace Go.Proofs.Ytgpcgndmdkgbdaa
open Go.RowKit Go.Shelf
attribute [local go_sem] Oper.semAt_some

/-- Bytes, as numbers. -/
def byt (l : List UInt8) : List Int := l.map (fun x => (x.toNat : Int))
theorem byt_len (l : List UInt8) : (byt l).length = l.length := by simp [byt]
theorem byt_in (l : List UInt8) : ∀ b ∈ byt l, 0 ≤ b ∧ b < 256 := by
  intro b hb
  obtain ⟨x, _, rfl⟩ := List.mem_map.1 hb
  have := x.toNat_lt
  omega
theorem row_byt {K : Nat → Prop} {w : World} {v : Value} {l : List UInt8} (h : u8E.Row K w v l) : byteE.Row K w v (byt l) := by
  obtain ⟨A, c, rfl, h1, h2, h3⟩ := h
  refine ⟨A, c, by rw [byt_len], by rw [byt_len]; exact h1, h2, fun hx => ?_⟩
  obtain ⟨b, off, rfl, hb, hl, ha⟩ := h3 (fun h0 => hx (by rw [h0]; rfl))
  refine ⟨b, off, rfl, hb, hl, fun i hi => ?_⟩
  rw [byt_len] at hi
  obtain ⟨cs, h5, h6⟩ := ha i hi
  refine ⟨cs, ?_, h6⟩
  have : cs = [.int .u8 ((l[i].toNat : Nat) : Int)] := h5
  show cs = [.int .u8 (byt l)[i]]
  rw [this]
  simp [byt]
theorem width_any {w : World} {d : Nat} {G : Nat → Prop} {s : DS} (h : Dk w d G s) (hn : 1 ≤ s.fs.length) (hn2 : s.fs.length ≤ 65) : Calls Try.prog 29 #[.pointer (some ⟨d, 0, none⟩)] w fun e w' => e = .returned (.int .i64 ((s.fs.length - 1 : Nat) : Int)) ∧ Below w.heap.size w w' := by
  have HD := hid h
  have HN := hid hn
  have hw : IntKind.i64.wrap ((s.fs.length : Int) - 1) = ((s.fs.length - 1 : Nat) : Int) := by rw [IntWalk.i64_in _ (by omega)]; omega
  clear h hn hn2
  go_enter Try.func29, Try.ntmps29
  go_wp2_with (go_at_call 59; refine (files_any (HD.out.below (by repeat (first | (with_reducible exact Below.refl _ _) | (with_reducible exact bl_mm) | (with_reducible refine bl_dr ?_) | (with_reducible refine bl_drN ?_ _) | (with_reducible refine bl_al ?_ _) | (with_reducible refine bl_more ?_ _ _)))) HN.out).mono ?_; rintro e w1 ⟨rfl, hb1⟩; obtain ⟨ex1, dx1, rfl⟩ := more_of hb1; clear hb1)
  go_ret
  exact ⟨rfl, (by repeat (first | (with_reducible exact Below.refl _ _) | (with_reducible exact bl_mm) | (with_reducible refine bl_dr ?_) | (with_reducible refine bl_drN ?_ _) | (with_reducible refine bl_al ?_ _) | (with_reducible refine bl_more ?_ _ _)))⟩
theorem events_make {w : World} {A : Option Addr} {L c : Nat} {i n : Int} : Calls Try.prog 30 #[.slice A L c, .int .i64 i, .int .i64 n] w fun e w' =>
    e = .returned (.func (.func 60) #[] #[.pointer (some ⟨w.heap.size, 0, none⟩), .pointer (some ⟨w.heap.size + 1 + 1, 0, none⟩), .pointer (some ⟨w.heap.size + 1, 0, none⟩)]) ∧ w' = ((w.alloc (.cells #[.slice A L c] 30)).alloc (.cells #[.int .i64 i] 3)).alloc (.cells #[.int .i64 n] 3) := by
  go_enter Try.func30, Try.ntmps30
  go_wp2
  go_ret
  exact ⟨rfl, rfl⟩
/-- Events in memory. -/
def evE : Enc Ev := Enc.pair intE (Enc.pair intE (Enc.pair intE (Enc.slice intE)))
theorem evE_rd {K : Nat → Prop} {w : World} {k i t : Int} {st : List Int} {v : Value} (h : intE.Row K w v st) : evE.rd K w (k, i, t, st) [.int .i64 k, .int .i64 i, .int .i64 t, v] :=
  ⟨[.int .i64 k], [.int .i64 i, .int .i64 t, v], rfl, rfl, [.int .i64 i], [.int .i64 t, v], rfl, rfl, [.int .i64 t], [v], rfl, rfl, v, rfl, h⟩
def atF (L : List (Ev × Nat)) (s : Nat) : Nat := ((L.take s).map (·.2)).getLast?.getD 0
theorem info52 : (Try.prog.info? 52).map (fun i => (i.zero, i.size, i.bytes)) = some (some (.agg #[.int .i64 0, .int .i64 0, .int .i64 0, .slice none 0 0]), 4, 48) := by kernel_rfl
theorem app22 {K : Nat → Prop} {g : Nat} {w : World} {v x : Value} {xs ys : List Ev} (h : evE.Spine 52 K g w v xs) (hy : evE.Src K w x ys) (hKg : ∀ b, K b → b < w.heap.size → b ≠ g) (hlen : xs.length + ys.length ≤ 4294967296) :
    ∃ v' w' g', (Builtin.append_ #[22, 22] 22 #[v, x]).run Try.prog w = .ok v' w' ∧ evE.Spine 52 (fun b => K b ∧ b < w.heap.size) g' w' v' (xs ++ ys) ∧ Ext (fun b => b = g ∧ capOf v ≠ 0) w w' ∧ Grew g w w' v v' g' := by
  obtain ⟨i0, hi, hz0, hz1, hz2⟩ := info_parts info52
  exact h.append 22 22 22 i0 _ Try.underlying22 ⟨_, Try.underlying22⟩ hi hz0 hz1 rfl (by decide) hy hKg hlen (by rw [hz2]; decide)
theorem wpList_app22 {w : World} {ops : Array Oper} {rest : List Oper} {o : Oper} {a : Act} {Q : Exit → Act → World → Prop} {K : Nat → Prop} {g : Nat} {xs ys : List Ev} {v x : Value}
    (hg : o.guard = none) (s x' : Operand) (hop : o.op = Op.call { callee := Callee.builtin Builtin.append, args := #[s, x'], argTypes := #[22, 22] }) (hty : o.type = 22)
    (hv : a.eval s = v) (hx : a.eval x' = x) (hs : evE.Spine 52 K g w v xs) (hy : evE.Src K w x ys) (hKg : ∀ b, K b → b < w.heap.size → b ≠ g) (hlen : xs.length + ys.length ≤ 4294967296)
    (h : ∀ v' w' g', evE.Spine 52 (fun b => K b ∧ b < w.heap.size) g' w' v' (xs ++ ys) → Ext (fun b => b = g ∧ capOf v ≠ 0) w w' → Grew g w w' v v' g' → wpList Try.prog ops Q rest (a.put o.dst v') w') :
    wpList Try.prog ops Q (o :: rest) a w := by
  subst hv; subst hx
  obtain ⟨v', w', g', hrun, h1, h2, h3⟩ := app22 hs hy hKg hlen
  exact wpList_append_run hg s x' 22 22 hop (by rw [hty]; exact hrun) (h v' w' g' h1 h2 h3)
/-- What a round of Load finds, and leaves. -/
structure LoadI (N : Nat) (W0 : World) (b7 b8 : Nat) (L : List (Ev × Nat)) (s : Nat) (W : World) : Prop where
  b7 : ∃ v g, W.heap[b7]? = some (.cells #[v] 22 (0, 0)) ∧ evE.OutP 52 (fun b => W0.heap.size ≤ b) b7 W0.heap.size g W v ((L.take s).map (·.1)) ∧ (s = 0 → g = b7)
  b8 : W.heap[b8]? = some (.cells #[.int .i64 (atF L s)] 3 (0, 0))
  low : Below N W0 W
  size : W0.heap.size ≤ W.heap.size
theorem LoadI.past {N B : Nat} {W0 W X : World} {b7 b8 : Nat} {L : List (Ev × Nat)} {s : Nat} (h : LoadI N W0 b7 b8 L s W) (he : Past B W X) (hN : N ≤ B) (hN0 : N ≤ W0.heap.size) : LoadI N W0 b7 b8 L s X := by
  obtain ⟨v, g, h1, h2, h3⟩ := h.b7
  exact ⟨⟨v, g, he.row h1, h2.past he, h3⟩, he.row h.b8, h.low.trans (he.below hN (by have := h.size; omega)), Nat.le_trans h.size he.size⟩
/-- .. the box of what was found. -/
structure LoadM (N : Nat) (W0 : World) (b7 b8 : Nat) (L : List (Ev × Nat)) (s : Nat) (x : Fo) (b : Nat) (W : World) : Prop where
  i : LoadI N W0 b7 b8 L s W
  at_ : FoAt W0.heap.size L s x W
  box : W.heap[b]? = some (.cells #[.int .i64 x.k, .int .i64 x.i, .int .i64 x.t, .slice x.A x.n x.c, .int .i64 x.to] 70 (0, 0))
  far : W0.heap.size ≤ b
theorem FoAt.past {N B : Nat} {L : List (Ev × Nat)} {s : Nat} {x : Fo} {W X : World} (h : FoAt N L s x W) (he : Past B W X) : FoAt N L s x X := by
  obtain ⟨st, to, g, h1, h2, h3, h4⟩ := h
  exact ⟨st, to, g, h1, h2, h3.past he, h4⟩
theorem LoadM.past {N B : Nat} {W0 W X : World} {b7 b8 : Nat} {L : List (Ev × Nat)} {s : Nat} {x : Fo} {b : Nat} (h : LoadM N W0 b7 b8 L s x b W) (he : Past B W X) (hN : N ≤ B) (hN0 : N ≤ W0.heap.size) : LoadM N W0 b7 b8 L s x b X :=
  ⟨h.i.past he hN hN0, h.at_.past he, he.row h.box, h.far⟩
theorem blk_in {X W : World} {o : Obj} {b : Nat} (h : Below (X.alloc o).heap.size (X.alloc o) W) (hb : b = X.heap.size) : W.heap[b]? = some o := (h.block b (by simp; omega)).trans (alloc_blk hb)
theorem atF_succ {L : List (Ev × Nat)} {s : Nat} {e : Ev} {to : Nat} (h : L[s]? = some (e, to)) : atF L (s + 1) = to ∧ (L.take (s + 1)).map (·.1) = (L.take s).map (·.1) ++ [e] := by
  have h1 : L.take (s + 1) = L.take s ++ [(e, to)] := by rw [List.take_add_one, h]; rfl
  unfold atF
  rw [h1]
  simp
theorem blk1_set {W : World} {b : Nat} {u v : Value} {t : TypeId} (h : W.heap[b]? = some (.cells #[u] t (0, 0))) : (W.setCell ⟨b, 0, none⟩ v).heap[b]? = some (.cells #[v] t (0, 0)) := by
  unfold World.setCell
  simp only [Array.getElem?_modify, if_true, h, Option.map_some]
  rfl
theorem Spine_rowN {α : Type} {d : Enc α} {E : TypeId} {K' : Nat → Prop} {g : Nat} {w : World} {v : Value} {xs : List α} (h : d.Spine E No g w v xs) (hg : xs ≠ [] → K' g) : d.Row K' w v xs := by
  by_cases hx : xs = []
  · subst hx
    obtain ⟨A, c, rfl, h2, h3, _⟩ := h
    exact ⟨A, c, rfl, h2, h3, fun h => absurd rfl h⟩
  · exact h.row (fun _ h _ => h.elim) (hg hx)
theorem capOf_ne {α : Type} {d : Enc α} {E : TypeId} {K : Nat → Prop} {g : Nat} {w : World} {v : Value} {xs : List α} (h : d.Spine E K g w v xs) (hx : xs ≠ []) : capOf v ≠ 0 := by
  obtain ⟨A, c, rfl, h2, _⟩ := h
  intro h0
  have : c = 0 := h0
  exact hx (List.eq_nil_of_length_eq_zero (by omega))
/-- Rows of elements of two types lie apart. -/
theorem types_ne {α β : Type} {d : Enc α} {d' : Enc β} {E E' : TypeId} {K K' : Nat → Prop} {g g' : Nat} {w : World} {v v' : Value} {xs : List α} {ys : List β} (hE : E ≠ E') (h : d.Spine E K g w v xs) (h' : d'.Spine E' K' g' w v' ys) (hx : capOf v ≠ 0) (hy : capOf v' ≠ 0) : g ≠ g' := by
  intro e
  subst e
  obtain ⟨c1, e1⟩ := h.type hx
  obtain ⟨c2, e2⟩ := h'.type hy
  rw [e1] at e2
  cases e2
  exact hE rfl
theorem Enc.OutP.core {α : Type} {d : Enc α} {E : TypeId} {Pr : Nat → Prop} {lo hi g g3 : Nat} {wr X W2 : World} {v v2 : Value} {xs zs : List α} (h : d.OutP E Pr lo hi g wr v xs) (hX : Below wr.heap.size wr X)
    (hs : d.Spine E (fun b => (Pr b ∧ b ≠ g) ∧ b < X.heap.size) g3 W2 v2 zs) (he : Ext (fun b => b = g ∧ capOf v ≠ 0) X W2) (hg : Grew g X W2 v v2 g3) (hhi : hi ≤ wr.heap.size) : d.OutP E Pr lo hi g3 W2 v2 zs := by
  have h1 := hX.size
  have h3 := he.size
  have hl := h.lt
  rcases hg with ⟨rfl, h4, h5⟩ | ⟨rfl, h4⟩
  · exact ⟨hs.mono (fun b hb _ => hb.1), by omega, h.off, fun hc => h.cap (by rwa [h5] at hc)⟩
  · exact ⟨hs.mono (fun b hb _ => ⟨hb.1.1, by omega⟩), by omega, .inr (by omega), fun _ => by omega⟩
theorem load_round {N b7 b8 s g g2 to : Nat} {W0 W X W2 : World} {L : List (Ev × Nat)} {v v2 : Value} {e : Ev} (hI : LoadI N W0 b7 b8 L s W) (q1 : W.heap[b7]? = some (.cells #[v] 22 (0, 0))) (q2 : evE.OutP 52 (fun b => W0.heap.size ≤ b) b7 W0.heap.size g W v ((L.take s).map (·.1)))
    (hL : L[s]? = some (e, to)) (hX : Below W.heap.size W X) (hs : evE.Spine 52 (fun b => (W0.heap.size ≤ b ∧ b ≠ g) ∧ b < X.heap.size) g2 W2 v2 ((L.take s).map (·.1) ++ [e])) (he : Ext (fun b => b = g ∧ capOf v ≠ 0) X W2) (hg : Grew g X W2 v v2 g2)
    (_hN : N ≤ W0.heap.size) (h7 : b7 < W0.heap.size) (h8 : b8 < W0.heap.size) (h78 : b7 ≠ b8) (hN7 : N ≤ b7) (hN8 : N ≤ b8) :
    KeepsFrom W0.heap.size W ((W2.setCell ⟨b7, 0, none⟩ v2).setCell ⟨b8, 0, none⟩ (.int .i64 to)) ∧ (∀ T : Nat → Prop, (∀ b, T b → b < W0.heap.size ∧ b ≠ b7 ∧ b ≠ b8) → KeepT T W ((W2.setCell ⟨b7, 0, none⟩ v2).setCell ⟨b8, 0, none⟩ (.int .i64 to))) ∧ LoadI N W0 b7 b8 L (s + 1) ((W2.setCell ⟨b7, 0, none⟩ v2).setCell ⟨b8, 0, none⟩ (.int .i64 to)) := by
  have hsz := hI.size
  have hcg : capOf v ≠ 0 → W0.heap.size ≤ g := q2.cap
  have h1 : Ext (fun b => b = g ∧ capOf v ≠ 0) W W2 := (Ext.of_below hX).trans he (fun _ _ h => h)
  have hXs := hX.size
  have k7 : W2.heap[b7]? = some (.cells #[v] 22 (0, 0)) := (h1.block b7 (by omega) (fun h => by have := hcg h.2; omega)).trans q1
  have k8 : W2.heap[b8]? = some (.cells #[.int .i64 (atF L s)] 3 (0, 0)) := (h1.block b8 (by omega) (fun h => by have := hcg h.2; omega)).trans hI.b8
  have h2 : Ext (fun b => b = b7 ∨ b = b8 ∨ (b = g ∧ capOf v ≠ 0)) W ((W2.setCell ⟨b7, 0, none⟩ v2).setCell ⟨b8, 0, none⟩ (.int .i64 to)) :=
    ((h1.mono (T := fun b => b = b7 ∨ b = b8 ∨ (b = g ∧ capOf v ≠ 0)) (fun _ _ h => .inr (.inr h))).set b7 0 v2 (.inl rfl)).set b8 0 (.int .i64 to) (.inr (.inl rfl))
  have hp := q2.core hX hs he hg hsz
  have hg2 : W0.heap.size ≤ g2 := hp.cap (capOf_ne hp.sp (by simp))
  refine ⟨kf_ext h2 (fun b hB hb => ?_), fun T hT => KeepT.ext h2 (fun b hb => ?_), ⟨⟨v2, g2, ?_, ?_, fun h => by omega⟩, ?_, ?_, by have := h2.size; omega⟩⟩
  · rcases hb with rfl | rfl | ⟨rfl, hc⟩
    · omega
    · omega
    · obtain ⟨cur, hcur⟩ := q2.sp.type hc
      exact ⟨_, _, _, hcur⟩
  · obtain ⟨t1, t2, t3⟩ := hT b hb
    refine ⟨by omega, fun h => ?_⟩
    rcases h with h | h | ⟨h, hc⟩
    · exact t2 h
    · exact t3 h
    · have := hcg hc
      omega
  · exact (Below.heap_setCell _ _ _ _ h78).trans (blk1_set k7)
  · rw [(atF_succ hL).2]
    refine ⟨hp.sp.step (fun cur hc => ?_) (fun b hb _ => ⟨hb, ?_⟩), by simpa [World.setCell] using hp.lt, hp.off, hp.cap⟩
    · exact (Below.heap_setCell _ _ _ _ (by show g2 ≠ b8; omega)).trans ((Below.heap_setCell _ _ _ _ (by show g2 ≠ b7; omega)).trans hc)
    · exact (Below.heap_setCell _ _ _ _ (by show b ≠ b8; omega)).trans (Below.heap_setCell _ _ _ _ (by show b ≠ b7; omega))
  · rw [(atF_succ hL).1]
    exact blk1_set ((Below.heap_setCell _ _ _ _ (Ne.symm h78)).trans k8)
  · exact hI.low.trans (h2.toBelow (by omega) (fun x hx h => by
      rcases h with rfl | rfl | ⟨rfl, hc⟩
      · omega
      · omega
      · have := hcg hc
        omega))
theorem logF_len (bs : List Int) (i n : Int) : ∀ (f k a : Nat), (logF bs i n f k a).length ≤ f
  | 0, _, _ => by simp [logF]
  | f + 1, k, a => by
    rw [logF_succ]
    split
    · simp
    · simp only [List.length_cons]
      have := logF_len bs i n f (k + 1)
      rename_i to _
      have := this to
      omega
theorem logW_len (bs : List Int) (i n : Int) : (logW bs i n).length ≤ bs.length + 1 := logF_len _ _ _ _ _ _
theorem Past.step_ {B D : Nat} {W X : World} {o : List Deferred} (h : Past B W X) (hK : X.heap[D]? = some (.deferred (some o))) (hD : B ≤ D) : Past B W (X.putObj D (.deferred none)) :=
  h.step (grownBy_putObj' X D (.deferred none)) (fun r e => by cases e; exact ⟨hD, _, hK, rfl⟩)
theorem Enc.OutP.widen {α : Type} {d : Enc α} {E : TypeId} {Pr P' : Nat → Prop} {lo hi lo' hi' g : Nat} {w : World} {v : Value} {xs : List α} (h : d.OutP E Pr lo hi g w v xs) (hP : ∀ b, Pr b → P' b) (hlo : hi' ≤ lo) (hhi : hi' ≤ hi) : d.OutP E P' lo' hi' g w v xs :=
  ⟨h.sp.mono (fun b hb _ => ⟨hP b hb.1, hb.2⟩), h.lt, .inr (by rcases h.off with e | e <;> omega), fun hc => by have := h.cap hc; omega⟩
def LoadR (L : List (Ev × Nat)) (w : World) (e : Ending) (w' : World) : Prop := ∃ v g, e = .returned (.tuple #[v, .int .i64 (atF L L.length)]) ∧ evE.OutP 52 (fun b => w.heap.size ≤ b) w.heap.size w.heap.size g w' v (L.map (·.1)) ∧ Below w.heap.size w w'
set_option maxRecDepth 8000 in
set_option maxHeartbeats 4000000 in
theorem load_any {w : World} {d : Nat} {G : Nat → Prop} {s : DS} {C : Int} (h : Dk w d G s) (hs : s.Ok C) (hC : C ≤ 1000000000) (i : Nat) (hi : i < s.fs.length) (hi' : i + 1 < s.fs.length) :
    Calls Try.prog 10 #[.pointer (some ⟨d, 0, none⟩), .int .i64 i] w fun e w' => LoadR (logW (byt s.fs[i].b) i ((s.fs.length - 1 : Nat) : Int)) w e w' := by
  have HD := hid h
  have HS := hid hs
  have HC := hid hC
  have HI := hid (And.intro hi' hi)
  have hi1 : (0 : Int) ≤ (i : Int) := by omega
  have hi2 : (i : Int) < ((s.fs.length - 1 : Nat) : Int) := by omega
  have hlen : s.fs[i].b.length ≤ 3000000000 := by have := hs.len (List.getElem_mem hi); omega
  obtain ⟨B, hB⟩ : ∃ B, s.fs[i].b = B := ⟨_, rfl⟩
  have HB : Hid (∃ h, (s.fs[i]'h).b = B) := hid ⟨hi, hB⟩
  rw [hB] at hlen ⊢
  obtain ⟨L, hL⟩ : ∃ L, logW (byt B) i ((s.fs.length - 1 : Nat) : Int) = L := ⟨_, rfl⟩
  rw [hL]
  have HLL := hid hL
  have HLEN := hid hlen
  clear h hs hC hi hi' hlen hB hL
  refine (callsIn_wide (n := 9)).1 ?_
  refine callsIn_of_wp_marks Try.func10 rfl trivial ?_ rfl
  simp only [Try.ntmps10, List.size_toArray, List.length_cons, List.length_nil, Nat.reduceAdd, Nat.reduceSub, Array.replicate_succ, Array.replicate_zero, List.push_toArray, List.append_toArray, List.nil_append, List.cons_append]
  refine wpIn_wide.2 ?_
  go_wp2_with (first | ((with_reducible refine wp_region_plan (id := 8) (.eff [(true, 0), (false, 1), (false, 2), (true, 5), (true, 6)] 3 [0, 5, 6] (.eff [] 4 [5, 6] (.eff [] 7 [5, 6] (.eff [] 8 [] (.fin []))))) ?_ ?_ ?_ ?_ ?_ ?_); kernel_rfl; kernel_rfl; kernel_rfl; kernel_rfl; (intro c a d v w h; cases d <;> exact h)) | ((with_reducible refine wp_region_plan (id := 9) (.fin [(false, 0), (false, 1), (false, 2), (false, 3)]) ?_ ?_ ?_ ?_ ?_ ?_); kernel_rfl; kernel_rfl; kernel_rfl; kernel_rfl; (intro c a d v w h; cases d <;> exact h)) | (with_reducible refine wpPlan_eff ?_) | (with_reducible refine wpPlan_fin ?_) | (with_reducible refine wpPlan_two ?_) | (with_reducible refine wpOpPair ?_ ?_) | ((with_reducible apply wpPre_keep); rfl; intro K' hK'; go_simp; refine hK' _ _ ?_; intro f hf; clear hK' K') | ((with_reducible apply wpPre_drop); rfl; intro K' hK'; go_simp; refine hK' _ _ ?_; intro f; clear hK' K') | (with_reducible refine wpPre_nil ?_) | ((with_reducible apply wpOp_list); rfl) | (with_reducible refine heldPair ?_ ?_) | ((with_reducible refine heldH_no ?_ ?_); rfl) | (with_reducible refine heldH_yes ?_ ?_) | (with_reducible exact heldH_nil) | (unfold YAt; go_simp; done) | (go_at_call 29; refine (width_any (HD.out.below (by repeat (first | (with_reducible exact Below.refl _ _) | (with_reducible exact bl_mm) | (with_reducible refine bl_dr ?_) | (with_reducible refine bl_drN ?_ _) | (with_reducible refine bl_al ?_ _) | (with_reducible refine bl_more ?_ _ _)))) HS.out.n1 HS.out.n2).mono ?_; rintro e w1 ⟨rfl, hb1⟩; obtain ⟨ex1, dx1, rfl⟩ := more_of hb1; clear hb1) | (go_at_call 12; refine (read_any (HD.out.below (by repeat (first | (with_reducible exact Below.refl _ _) | (with_reducible exact bl_mm) | (with_reducible refine bl_dr ?_) | (with_reducible refine bl_drN ?_ _) | (with_reducible refine bl_al ?_ _) | (with_reducible refine bl_more ?_ _ _)))) HS.out HC.out i HI.out.2).mono ?_; rintro e w2 ⟨v2, rfl, hr2, hb2⟩; rw [HB.out.2] at hr2; obtain ⟨A2, c2, rfl, _, _⟩ := hr2.form; have HR2 := hid hr2; obtain ⟨ex2, dx2, rfl⟩ := more_of hb2; clear hr2 hb2) | (go_at_call 30; refine events_make.mono ?_; rintro e w3 ⟨rfl, rfl⟩))
  refine wp_name (fun W0 hW0 => ?_)
  have b0 : Below w.heap.size w W0 := by rw [hW0]; exact (by repeat (first | (with_reducible exact Below.refl _ _) | (with_reducible exact bl_mm) | (with_reducible refine bl_dr ?_) | (with_reducible refine bl_drN ?_ _) | (with_reducible refine bl_al ?_ _) | (with_reducible refine bl_more ?_ _ _)))
  have hsz : W0.heap.size = w.heap.size + ex1.size + 1 + 1 + ex2.size + 1 + 1 + 1 := by rw [hW0]; simp [more_size]
  have hcB : W0.cell? ⟨w.heap.size + ex1.size + 1 + 1 + ex2.size, 0, none⟩ = some (.slice A2 B.length c2) := by rw [hW0]; go_simp
  have hcI : W0.cell? ⟨w.heap.size + ex1.size + 1 + 1 + ex2.size + 1, 0, none⟩ = some (.int .i64 i) := by rw [hW0]; go_simp
  have hcN : W0.cell? ⟨w.heap.size + ex1.size + 1 + 1 + ex2.size + 1 + 1, 0, none⟩ = some (.int .i64 ((s.fs.length - 1 : Nat) : Int)) := by rw [hW0]; go_simp
  have h7 : W0.heap[w.heap.size + ex1.size]? = some (.cells #[.slice none 0 0] 22 (0, 0)) := by
    rw [hW0]; exact blk_in (X := more w ex1 dx1) (by repeat (first | (with_reducible exact Below.refl _ _) | (with_reducible exact bl_mm) | (with_reducible refine bl_dr ?_) | (with_reducible refine bl_drN ?_ _) | (with_reducible refine bl_al ?_ _) | (with_reducible refine bl_more ?_ _ _))) (by simp [more_size])
  have h8 : W0.heap[w.heap.size + ex1.size + 1]? = some (.cells #[.int .i64 0] 3 (0, 0)) := by
    rw [hW0]; exact blk_in (X := (more w ex1 dx1).alloc (Obj.cells #[.slice none 0 0] 22)) (by repeat (first | (with_reducible exact Below.refl _ _) | (with_reducible exact bl_mm) | (with_reducible refine bl_dr ?_) | (with_reducible refine bl_drN ?_ _) | (with_reducible refine bl_al ?_ _) | (with_reducible refine bl_more ?_ _ _))) (by simp [more_size])
  have hrow : byteE.Row (fun b => w.heap.size + ex1.size + 1 < b ∧ b < W0.heap.size) W0 (.slice A2 B.length c2) (byt B) := by
    have h1 : byteE.Row (fun b => w.heap.size + ex1.size + 1 < b) W0 (.slice A2 B.length c2) (byt B) :=
      (row_byt ((HR2.out.mono (K' := fun b => w.heap.size + ex1.size + 1 < b) (fun b hb _ => by simp [more_size] at hb; omega)).below (by rw [hW0]; exact (by repeat (first | (with_reducible exact Below.refl _ _) | (with_reducible exact bl_mm) | (with_reducible refine bl_dr ?_) | (with_reducible refine bl_drN ?_ _) | (with_reducible refine bl_al ?_ _) | (with_reducible refine bl_more ?_ _ _))))))
    exact h1.bound
  have hw0 : 0 < W0.heap.size := by omega
  have hev := events_at (m := 8) (i := (i : Int)) (n := ((s.fs.length - 1 : Nat) : Int)) (by omega) hrow (byt_in B) (by rw [byt_len]; have := HLEN.out; omega) (fun b hb => hb.2) hcB hcN hcI (by omega) (by omega) (by omega)
  rw [HLL.out] at hev
  refine (wpIn_wide (n := 9)).1 ?_
  refine' rangeFunc_at (F := Fence.wide) (n := 9) rfl (by omega) (gf := 60) (lb := #[.pointer (some ⟨w.heap.size + ex1.size + 1 + 1 + ex2.size, 0, none⟩), .pointer (some ⟨w.heap.size + ex1.size + 1 + 1 + ex2.size + 1 + 1, 0, none⟩), .pointer (some ⟨w.heap.size + ex1.size + 1 + 1 + ex2.size + 1, 0, none⟩)]) rfl trivial (enters_of Try.func60 (by kernel_rfl) rfl) hev
    (fun h k => KeepT.trans h k) (fun W l o o' hl _ _ => KeepT.put o' (fun hT => by rcases hT with h | h | h | h <;> omega)) (Below.refl _ _) (fun _ h => h.elim) (fun _ => rfl)
    (LoadI w.heap.size W0 (w.heap.size + ex1.size) (w.heap.size + ex1.size + 1) L) (fun _ _ _ => False) (own_past (fun s' W X hI hP => hI.past hP (by omega) (by omega))) (fun _ _ _ _ _ h _ _ => h) (fun s' X Y hI he => hI.past (B := X.heap.size) (he.mono (fun _ _ h => h.elim)) (by have := hI.size; omega) (by omega)) (fun _ _ _ _ h _ => h) ?start _
    (LoadM w.heap.size W0 (w.heap.size + ex1.size) (w.heap.size + ex1.size + 1) L) (fun s' x b => own_past (fun _ W X hM hP => hM.past hP (by omega) (by omega))) ?assign ?body ?done ?stop
  case start =>
    exact ⟨⟨_, w.heap.size + ex1.size, h7, Enc.OutP.start _ _ (by omega), fun _ => rfl⟩, h8, Below.refl _ _, Nat.le_refl _⟩
  case assign =>
    intro l s' x W K hI hV hK
    dsimp only [Fo.enc]
    gi_wp2
    have hbe := bl_al (Below.refl W.heap.size W) (Obj.cells #[Value.int IntKind.i64 x.k, Value.int IntKind.i64 x.i, Value.int IntKind.i64 x.t, Value.slice x.A x.n x.c, Value.int IntKind.i64 x.to] 70)
    have hsz2 := hI.size
    have halb : (W.alloc (Obj.cells #[Value.int IntKind.i64 x.k, Value.int IntKind.i64 x.i, Value.int IntKind.i64 x.t, Value.slice x.A x.n x.c, Value.int IntKind.i64 x.to] 70)).heap[W.heap.size]? = _ := alloc_blk rfl
    have hfar : W0.heap.size ≤ W.heap.size := hsz2
    have hT : ∀ b, (b = w.heap.size + ex1.size + 1 + 1 + ex2.size ∨ b = w.heap.size + ex1.size + 1 + 1 + ex2.size + 1 + 1 ∨ b = w.heap.size + ex1.size + 1 + 1 + ex2.size + 1 ∨ w.heap.size + ex1.size + 1 < b ∧ b < W0.heap.size) → b < W.heap.size := fun b hb => by rcases hb with h | h | h | h <;> omega
    have hkt := KeepT.below hbe hT
    have hi2 := hI.past (B := W.heap.size) (Ext.of_below hbe) (by omega) (by omega)
    have hkf := kf_below (B := W0.heap.size) hbe
    have hv2 := hV.past (B := W.heap.size) (Ext.of_below hbe)
    clear hT
    revert halb hfar
    generalize W.heap.size = bx
    intro halb hfar
    exact hK bx _ hkf hkt ⟨hi2, hv2, halb, hfar⟩
  case body =>
    rintro l s' x b W hl hM
    obtain ⟨v7, g, q1, q2, q3⟩ := hM.i.b7
    obtain ⟨st, to, g3, p1, p2, p3, p4⟩ := hM.at_
    obtain ⟨A7, cp7, rfl, p5, p6⟩ := q2.sp.form
    have q4 := hM.i.b8
    have q5 := hM.box
    have c7 := cell_blk q1 0
    have f7 := frz_blk q1 0
    have c8 := cell_blk q4 0
    have f8 := frz_blk q4 0
    have k0 := cell_blk q5 0
    have k1 := cell_blk q5 1
    have k2 := cell_blk q5 2
    have k3 := cell_blk q5 3
    have k4 := cell_blk q5 4
    simp only [List.getElem?_toArray, List.getElem?_cons_zero, List.getElem?_cons_succ] at c7 c8 k0 k1 k2 k3 k4
    have hs'L : s' < L.length := (List.getElem?_eq_some_iff.1 p1).1
    obtain ⟨XS, hXS⟩ : ∃ XS, (L.take s').map (·.1) = XS := ⟨_, rfl⟩
    have hxl : XS.length = s' := by rw [← hXS]; simp; omega
    have hLl : L.length ≤ 4000000000 := by rw [← HLL.out]; exact Nat.le_trans (logW_len _ _ _) (by rw [byt_len]; have := HLEN.out; omega)
    have hcapg : XS ≠ [] → capOf (.slice A7 XS.length cp7) ≠ 0 := fun hx => by rw [hXS] at q2; exact capOf_ne q2.sp hx
    have hgne : st ≠ [] → g3 ≠ g := fun hst => by
      by_cases hx : XS = []
      · have : s' = 0 := by rw [← hxl, hx]; rfl
        have := q3 this
        omega
      · exact types_ne (by decide) p3 q2.sp (capOf_ne p3 hst) (by have := hcapg hx; rwa [hXS])
    have HP2 := hid p2
    have HSR : Hid (intE.Row (fun b => W0.heap.size ≤ b ∧ b ≠ g) W (.slice x.A x.n x.c) st) := hid (Spine_rowN p3 (fun hst => ⟨p4, hgne hst⟩))
    have HLEN2 : Hid (XS.length + [(x.k, x.i, x.t, st)].length ≤ 4294967296) := hid (by simp; omega)
    have hbg : ¬ (b = g ∧ capOf (.slice A7 XS.length cp7) ≠ 0) := fun ⟨h1, h2⟩ => by
      rw [hXS] at q2
      obtain ⟨cur, hcur⟩ := q2.sp.type h2
      rw [← h1, hM.box] at hcur
      cases hcur
    have HBG := hid (And.intro hbg (And.intro hM.box (Array.getElem?_eq_some_iff.1 hM.box).1))
    have HR := hid (fun (X W2 : World) (v2 : Value) (g2 : Nat) => load_round (N := w.heap.size) (X := X) (W2 := W2) (v2 := v2) (g2 := g2) hM.i q1 q2 p1)
    have HCG := hid q2.cap
    have HQ1 := hid (And.intro q1 (And.intro q4 hM.i.size))
    rw [hXS] at q2 HR HCG
    have HQ2 := hid q2
    rw [hXS] at HQ1 c7 q1
    clear hM q1 q2 q3 q4 q5 p1 p2 p3 p4 p5 p6 hcB hcI hcN h7 h8 hrow hev b0 hXS hxl hLl hcapg hgne hs'L hbg
    have l1 : b < W.heap.size := HBG.out.2.2
    have l2 : w.heap.size + ex1.size < W.heap.size := by have := HQ1.out.2.2; omega
    have l3 : w.heap.size + ex1.size + 1 < W.heap.size := by have := HQ1.out.2.2; omega
    gi_wp2_with (first | ((with_reducible refine wpIn_region_plan (id := 8) (.eff [(true, 0), (false, 1), (false, 2), (true, 5), (true, 6)] 3 [0, 5, 6] (.eff [] 4 [5, 6] (.eff [] 7 [5, 6] (.eff [] 8 [] (.fin []))))) ?_ ?_ ?_ ?_ ?_ ?_ ?_); kernel_rfl; kernel_rfl; kernel_rfl; kernel_rfl; kernel_rfl; (intro c a d v w h; cases d <;> exact h)) | ((with_reducible refine wpIn_region_plan (id := 9) (.fin [(false, 0), (false, 1), (false, 2), (false, 3)]) ?_ ?_ ?_ ?_ ?_ ?_ ?_); kernel_rfl; kernel_rfl; kernel_rfl; kernel_rfl; kernel_rfl; (intro c a d v w h; cases d <;> exact h)) | (with_reducible refine wpPlan_eff ?_) | (with_reducible refine wpPlan_fin ?_) | (with_reducible refine wpPlan_two ?_) | (with_reducible refine wpOpPair ?_ ?_) | ((with_reducible apply wpPre_keep); rfl; intro K' hK'; go_simp; refine hK' _ _ ?_; intro f hf; clear hK' K') | ((with_reducible apply wpPre_drop); rfl; intro K' hK'; go_simp; refine hK' _ _ ?_; intro f; clear hK' K') | (with_reducible refine wpPre_nil ?_) | ((with_reducible apply wpOp_list); rfl) | (with_reducible refine heldPair ?_ ?_) | ((with_reducible refine heldH_no ?_ ?_); rfl) | (with_reducible refine heldH_yes ?_ ?_) | (with_reducible exact heldH_nil) | (unfold YAt; go_simp; done) | ((with_reducible refine nOnly_in ?_); dsimp only))
    go_wp2_with (first | ((with_reducible refine wp_region_plan (id := 8) (.eff [(true, 0), (false, 1), (false, 2), (true, 5), (true, 6)] 3 [0, 5, 6] (.eff [] 4 [5, 6] (.eff [] 7 [5, 6] (.eff [] 8 [] (.fin []))))) ?_ ?_ ?_ ?_ ?_ ?_); kernel_rfl; kernel_rfl; kernel_rfl; kernel_rfl; (intro c a d v w h; cases d <;> exact h)) | ((with_reducible refine wp_region_plan (id := 9) (.fin [(false, 0), (false, 1), (false, 2), (false, 3)]) ?_ ?_ ?_ ?_ ?_ ?_); kernel_rfl; kernel_rfl; kernel_rfl; kernel_rfl; (intro c a d v w h; cases d <;> exact h)) | (with_reducible refine wpPlan_eff ?_) | (with_reducible refine wpPlan_fin ?_) | (with_reducible refine wpPlan_two ?_) | (with_reducible refine wpOpPair ?_ ?_) | ((with_reducible apply wpPre_keep); rfl; intro K' hK'; go_simp; refine hK' _ _ ?_; intro f hf; clear hK' K') | ((with_reducible apply wpPre_drop); rfl; intro K' hK'; go_simp; refine hK' _ _ ?_; intro f; clear hK' K') | (with_reducible refine wpPre_nil ?_) | ((with_reducible apply wpOp_list); rfl) | (with_reducible refine heldPair ?_ ?_) | ((with_reducible refine heldH_no ?_ ?_); rfl) | (with_reducible refine heldH_yes ?_ ?_) | (with_reducible exact heldH_nil) | (unfold YAt; go_simp; done) | (at_builtin; refine wpList_app22 (K := fun b => W0.heap.size ≤ b ∧ b ≠ g) (ys := [(x.k, x.i, x.t, st)]) (by rfl) (.tmp 26) (.tmp 29) (by rfl) (by rfl) (by rfl) (by rfl) (HQ2.out.below (by repeat (first | (with_reducible exact Below.refl _ _) | (with_reducible exact bl_mm) | (with_reducible refine bl_dr ?_) | (with_reducible refine bl_drN ?_ _) | (with_reducible refine bl_al ?_ _) | (with_reducible refine bl_more ?_ _ _)))).sp (by exact Enc.Src.one_blk (cs := [.int .i64 x.k, .int .i64 x.i, .int .i64 x.t, .slice x.A x.n x.c]) (alloc_blk rfl) (evE_rd (HSR.out.below (by repeat (first | (with_reducible exact Below.refl _ _) | (with_reducible exact bl_mm) | (with_reducible refine bl_dr ?_) | (with_reducible refine bl_drN ?_ _) | (with_reducible refine bl_al ?_ _) | (with_reducible refine bl_more ?_ _ _)))))) (fun _ h _ => h.2) HLEN2.out ?_; intro v4 w4 g4 hs4 he4 hg4; obtain ⟨A4, c4, hv4, _, _⟩ := hs4.form; rw [List.length_append, List.length_singleton] at hv4; subst hv4; have hx4 : Ext (fun b => b = g ∧ capOf (.slice A7 XS.length cp7) ≠ 0) W w4 := (Ext.of_below (by repeat (first | (with_reducible exact Below.refl _ _) | (with_reducible exact bl_mm) | (with_reducible refine bl_dr ?_) | (with_reducible refine bl_drN ?_ _) | (with_reducible refine bl_al ?_ _) | (with_reducible refine bl_more ?_ _ _)))).trans he4 (fun _ _ h => h); have r7 := (hx4.block (w.heap.size + ex1.size) (by have := HQ1.out.2.2; omega) (fun h => by have := HCG.out h.2; omega)).trans HQ1.out.1; have r8 := (hx4.block (w.heap.size + ex1.size + 1) (by have := HQ1.out.2.2; omega) (fun h => by have := HCG.out h.2; omega)).trans HQ1.out.2.1; have r9 := (hx4.block b HBG.out.2.2 HBG.out.1).trans HBG.out.2.1; have k4 := cell_blk r9 4; have c7 := cell_blk r7 0; have f7 := frz_blk r7 0; have c8 := cell_blk r8 0; have f8 := frz_blk r8 0; simp only [List.getElem?_toArray, List.getElem?_cons_zero, List.getElem?_cons_succ] at c7 c8 k4; have HS4 := hid hs4; have HE4 := hid he4; have HG4 := hid hg4; clear hs4 he4 hg4 hx4 r7 r8 r9))
    rw [HP2.out]
    obtain ⟨r1, r2, r3⟩ := HR.out _ _ _ _ (by repeat (first | (with_reducible exact Below.refl _ _) | (with_reducible exact bl_mm) | (with_reducible refine bl_dr ?_) | (with_reducible refine bl_drN ?_ _) | (with_reducible refine bl_al ?_ _) | (with_reducible refine bl_more ?_ _ _))) HS4.out HE4.out HG4.out (by omega) (by omega) (by omega) (by omega) (by omega) (by omega)
    exact ⟨r1, r2 _ (fun b' hb' => by rcases hb' with h | h | h | h <;> omega), r3⟩
  case done =>
    rintro D s' W hD rfl hI hK
    obtain ⟨v7, g, q1, q2, q3⟩ := hI.b7
    have c7 := cell_blk q1 0
    have c8 := cell_blk hI.b8 0
    simp only [List.getElem?_toArray, List.getElem?_cons_zero] at c7 c8
    have HI2 := hid hI
    have HQ2 := hid q2
    have HK := hid hK
    have HD2 := hid hD
    clear q1 q2 q3 hI hK hcB hcI hcN h7 h8 hrow hev b0 hD
    go_wp2
    go_region
    go_wp2
    have hp : Past W0.heap.size W ((W.drew).putObj D (.deferred none)) := Past.step_ (Ext.of_below (bl_dr (Below.refl _ _))) HK.out HD2.out
    have hK2 : (W.drew).heap[D]? = some (.deferred (some [])) := HK.out
    have hlow : Below w.heap.size w W := (show Below w.heap.size w W0 by rw [hW0]; exact (by repeat (first | (with_reducible exact Below.refl _ _) | (with_reducible exact bl_mm) | (with_reducible refine bl_dr ?_) | (with_reducible refine bl_drN ?_ _) | (with_reducible refine bl_al ?_ _) | (with_reducible refine bl_more ?_ _ _)))).trans HI2.out.low
    refine ⟨by simp, .inl ⟨_, _, rfl, run_takeDeferred hK2, ?_⟩⟩
    refine ⟨_, results_tmp2 rfl _ _ _, ?_⟩
    refine ⟨_, g, rfl, ?_, hlow.trans (hp.below (by omega) hlow.size)⟩
    have h1 := (HQ2.out.past hp).widen (P' := fun b => w.heap.size ≤ b) (lo' := w.heap.size) (hi' := w.heap.size) (fun b hb => by omega) (by omega) (by omega)
    rw [List.take_length] at h1
    exact h1
  case stop =>
    intro D c s' W hD _ h
    exact h.elim
end Go.Proofs.Ytgpcgndmdkgbdaa

/- A text's pieces, and its frames. -/
namespace Go.Proofs.Ytgpcgndmdkgbdaa
open Go.RowKit Go.Shelf
attribute [local go_sem] Oper.semAt_some

def sbs (s : ByteArray) : List Int := byt s.data.toList
theorem sbs_len (s : ByteArray) : (sbs s).length = s.size := by simp [sbs, byt]
/-- A text's pieces; the last one is empty. -/
def pcB : Nat → ByteArray → List ByteArray
  | 0, _ => []
  | f + 1, s => if s.size = 0 then [ByteArray.empty] else s.extract 0 (min s.size 1000) :: pcB f (s.extract (min s.size 1000) s.size)
def pieces (s : ByteArray) : List ByteArray := pcB (s.size + 1) s
theorem extract_all (s : ByteArray) : s.extract 0 s.size = s := by
  apply ByteArray.ext
  rw [ByteArray.data_extract]
  exact Array.extract_eq_self_of_le (Nat.le_refl _)
theorem extract_end (s : ByteArray) : s.extract s.size s.size = ByteArray.empty := by
  apply ByteArray.ext
  rw [ByteArray.data_extract]
  apply Array.ext'
  simp
theorem pcB_succ (f : Nat) (s : ByteArray) : pcB (f + 1) s = if s.size = 0 then [ByteArray.empty] else s.extract 0 (min s.size 1000) :: pcB f (s.extract (min s.size 1000) s.size) := rfl
theorem pc_end {L : List ByteArray} {n j : Nat} {t : ByteArray} (h : L.drop j = pcB (n + 1 - j) t) (hj : j ≤ n) (ht : t.size = 0) : L[j]? = some ByteArray.empty ∧ j + 1 = L.length := by
  rw [show n + 1 - j = (n - j) + 1 by omega, pcB_succ, if_pos ht] at h
  have h1 : L[j]? = some ByteArray.empty := by rw [← List.head?_drop, h]; rfl
  refine ⟨h1, ?_⟩
  have := congrArg List.length h
  have := (List.getElem?_eq_some_iff.1 h1).1
  simp at *
  omega
theorem pc_next {L : List ByteArray} {n j q : Nat} {t : ByteArray} (h : L.drop j = pcB (n + 1 - j) t) (hj : j ≤ n) (ht : ¬ t.size = 0) (hq : min t.size 1000 = q) : L[j]? = some (t.extract 0 q) ∧ L.drop (j + 1) = pcB (n + 1 - (j + 1)) (t.extract q t.size) := by
  rw [show n + 1 - j = (n - j) + 1 by omega, pcB_succ, if_neg ht, hq] at h
  refine ⟨by rw [← List.head?_drop, h]; rfl, ?_⟩
  rw [← List.tail_drop, h, show n + 1 - (j + 1) = n - j by omega]
  rfl
set_option maxRecDepth 8000 in
set_option maxHeartbeats 4000000 in
theorem pieces_at {m bS : Nat} {s : ByteArray} {w : World} (_hm : 1 ≤ m) (_hl : s.size ≤ 4000000000) (hS : w.heap[bS]? = some (.cells #[.string s] 9 (0, 0))) :
    SeqAt Fence.wide m Try.prog 89 #[.pointer (some ⟨bS, 0, none⟩)] (fun b => b = bS) (fun p : ByteArray => #[.string p]) (fun j p _ => (pieces s)[j]? = some p) (· + 1) (KeepT (fun b => b = bS))
      (fun j => j = (pieces s).length) (fun _ => True) 0 w := by
  intro l J Jx W hW hJ hJx hY h0
  have c0 := (hW.block bS (Array.getElem?_eq_some_iff.1 hS).1).trans hS
  have HYY := hid hY
  have HJ := hid hJ
  clear hY hJ hJx hW hS
  refine callsIn_of_wp Try.func89 rfl trivial ?_ rfl
  simp only [Try.ntmps89, List.size_toArray, List.length_cons, List.length_nil, Nat.reduceAdd, Nat.reduceSub, Array.replicate_succ, Array.replicate_zero, List.push_toArray, List.append_toArray, List.nil_append, List.cons_append]
  gi_wp2
  gi_loopw [] (fun wr => ∃ (j : Nat) (t : ByteArray), j + t.size ≤ s.size ∧ (pieces s).drop j = pcB (s.size + 1 - j) t ∧ J j wr ∧ wr.heap[bS]? = some (.cells #[.string t] 9 (0, 0))) (fun wr => match wr.cell? ⟨bS, 0, none⟩ with | some (.string t) => t.size | _ => 0)
  case atStart => exact ⟨0, s, by omega, rfl, h0, c0⟩
  case round =>
    obtain ⟨j, t, hjt, hlog, hJs, c1⟩ := hrel
    have hc := cell_blk c1 0
    have hf := frz_blk c1 0
    simp only [List.getElem?_toArray, List.getElem?_cons_zero] at hc
    have hbl := (Array.getElem?_eq_some_iff.1 c1).1
    have HJS := hid hJs
    have HC1 := hid c1
    have HLOG := hid hlog
    have HJT := hid hjt
    by_cases ht : t.size = 0
    · have ht0 : (t.size : Int) = 0 := by omega
      have ht1 : ¬ (0 : Int) < (t.size : Int) := by omega
      have HNX := hid (pc_end hlog (by omega) ht)
      clear hlog hjt hJs c1
      gi_wp2
      refine upon_yield (HYY.out j ByteArray.empty _ HJS.out ?hV) (fun h => by cases h) ?yes ?no
      case hV => exact (HNX.out).1
      case yes =>
        rintro X ⟨hJ3, _⟩
        gi_wp2
        go_end0
        exact ⟨⟨_, rfl⟩, .inl (HNX.out.2 ▸ hJ3)⟩
      case no =>
        intro X hJx3
        gi_wp2
        go_end0
        exact ⟨⟨_, rfl⟩, .inr ⟨_, hJx3⟩⟩
    · have ht1 : (0 : Int) < (t.size : Int) := by omega
      by_cases hq : t.size ≤ 1000
      · have hq1 : (t.size : Int) ≤ 1000 := by omega
        have HNX := hid (pc_next hlog (by omega) ht (q := t.size) (by omega))
        rw [extract_all, extract_end] at HNX
        clear hlog hjt hJs c1
        gi_wp2
        all_goals try (exact absurd hq1 (by omega))
        refine upon_yield (HYY.out j t _ HJS.out ?hV) (fun h => by cases h) ?yes ?no
        case hV => exact (HNX.out).1
        case yes =>
          rintro X ⟨hJ3, hk3⟩
          have e1 : X.heap[bS]? = some (.cells #[.string t] 9 (0, 0)) := (hk3.2 bS rfl).trans HC1.out
          have hc := cell_blk e1 0
          have hf := frz_blk e1 0
          simp only [List.getElem?_toArray, List.getElem?_cons_zero] at hc
          have HJ3 := hid hJ3
          have HE1 := hid e1
          clear hJ3 hk3 e1
          gi_wp2
          go_roundw
          case rel =>
            obtain ⟨_, h2⟩ := HNX.out
            refine ⟨j + 1, _, ?_, h2, HJ.out _ _ _ HJ3.out (Ext.setCell (S := fun b => b = bS) X ⟨bS, 0, none⟩ _ rfl), blk1_set HE1.out⟩
            have := HJT.out
            simp
            omega
          case measure =>
            rw [cell_blk (blk1_set HE1.out) 0, cell_blk HC1.out 0]
            simp
            omega
        case no =>
          intro X hJx3
          gi_wp2
          refine bodyPost_ret (results_none rfl _ _ _) rfl ?_
          exact ⟨⟨_, rfl⟩, .inr ⟨_, trivial, hJx3⟩⟩
      · have hq1 : ¬ (t.size : Int) ≤ 1000 := by omega
        have hq2 : (1000 : Int) < t.size := by omega
        have HNX := hid (pc_next hlog (by omega) ht (q := 1000) (by omega))
        clear hlog hjt hJs c1
        gi_wp2
        all_goals try (exact absurd hq1 (by omega))
        refine upon_yield (HYY.out j (t.extract 0 1000) _ HJS.out ?hV) (fun h => by cases h) ?yes ?no
        case hV => exact (HNX.out).1
        case yes =>
          rintro X ⟨hJ3, hk3⟩
          have e1 : X.heap[bS]? = some (.cells #[.string t] 9 (0, 0)) := (hk3.2 bS rfl).trans HC1.out
          have hc := cell_blk e1 0
          have hf := frz_blk e1 0
          simp only [List.getElem?_toArray, List.getElem?_cons_zero] at hc
          have HJ3 := hid hJ3
          have HE1 := hid e1
          clear hJ3 hk3 e1
          gi_wp2
          go_roundw
          case rel =>
            obtain ⟨_, h2⟩ := HNX.out
            refine ⟨j + 1, _, ?_, h2, HJ.out _ _ _ HJ3.out (Ext.setCell (S := fun b => b = bS) X ⟨bS, 0, none⟩ _ rfl), blk1_set HE1.out⟩
            have := HJT.out
            simp
            omega
          case measure =>
            rw [cell_blk (blk1_set HE1.out) 0, cell_blk HC1.out 0]
            simp
            omega
        case no =>
          intro X hJx3
          gi_wp2
          refine bodyPost_ret (results_none rfl _ _ _) rfl ?_
          exact ⟨⟨_, rfl⟩, .inr ⟨_, trivial, hJx3⟩⟩
end Go.Proofs.Ytgpcgndmdkgbdaa

/- A text's frames. -/
namespace Go.Proofs.Ytgpcgndmdkgbdaa
open Go.RowKit Go.Shelf
attribute [local go_sem] Oper.semAt_some

def cvC (W : World) (s : ByteArray) : Nat := grownCap W s.size 0 5
def cvO (W : World) (s : ByteArray) : Obj := .cells (bytesRow s (cvC W s)) 5 ((bytesRow s (cvC W s)).size, (bytesRow s (cvC W s)).size + 1)
theorem conv_any (s : ByteArray) : ∀ W, (convert 9 30 (.string s)).run Try.prog W = .ok (.slice (some ⟨W.heap.size, 0, none⟩) s.size (cvC W s)) (W.drew.alloc (cvO W s)) :=
  fun W => run_bytes_of_string W 9 30 5 s Try.underlying9 Try.underlying30 Try.underlying5
theorem conv_row {K : Nat → Prop} {W X : World} {b : Nat} {s : ByteArray} (hs : s.size ≤ 4000000000) (hb : X.heap[b]? = some (cvO W s)) (hK : K b) : byteE.Row K X (.slice (some ⟨b, 0, none⟩) s.size (cvC W s)) (sbs s) := by
  refine ⟨some ⟨b, 0, none⟩, cvC W s, by rw [sbs_len], by rw [sbs_len]; exact grownCap_ge _ _ _ _, grownCap_le_maxLen _ _ _ _ (by simp only [maxLen]; omega), fun _ => ⟨b, 0, rfl, hK, (Array.getElem?_eq_some_iff.1 hb).1, fun i hi => ⟨[.int .u8 (sbs s)[i]], rfl, fun j u hj => ?_⟩⟩⟩
  rcases j with _ | j
  · simp only [List.getElem?_cons_zero, Option.some.injEq] at hj
    subst hj
    have hi' : i < s.data.size := by simpa [sbs, byt] using hi
    have h1 := bytesRow_at s (cvC W s) i hi'
    rw [cell_blk hb, show 0 + i * Enc.sz byteE + 0 = i from by simp [Enc.int, Enc.scalar], h1]
    simp [sbs, byt]
  · simp at hj
theorem frameL_len {body : List Int} : (frameL body).length = body.length + 6 := by simp [frameL, headL, tailL]
/-- The frames of texts. -/
def flL (P : List ByteArray) : List Int := P.flatMap (fun p => frameL (sbs p))
theorem flL_snoc {P : List ByteArray} {s : Nat} {p : ByteArray} (h : P[s]? = some p) : flL (P.take (s + 1)) = flL (P.take s) ++ frameL (sbs p) := by
  rw [List.take_add_one, h]
  simp [flL]
theorem pcB_len : ∀ (f : Nat) (s : ByteArray), s.size < f → (flL (pcB f s)).length ≤ 7 * s.size + 6 ∧ ∀ p ∈ pcB f s, p.size ≤ 1000
  | 0, s, h => by omega
  | f + 1, s, h => by
    rw [pcB_succ]
    split
    · refine ⟨by simp [flL, frameL_len, sbs_len], fun p hp => ?_⟩
      simp at hp
      subst hp
      simp
    · obtain ⟨h1, h2⟩ := pcB_len f (s.extract (min s.size 1000) s.size) (by simp; omega)
      constructor
      · simp only [flL, List.flatMap_cons, List.length_append, frameL_len, sbs_len] at h1 ⊢
        simp at h1 ⊢
        omega
      · intro p hp
        rcases List.mem_cons.1 hp with rfl | hp
        · simp; omega
        · exact h2 p hp
/-- A text's frames. -/
def laidL (s : ByteArray) : List Int := flL (pieces s)
theorem take_flL (P : List ByteArray) (s : Nat) : (flL (P.take s)).length ≤ (flL P).length := by
  conv => rhs; rw [← List.take_append_drop s P]
  simp only [flL, List.flatMap_append, List.length_append]
  omega
theorem pieces_make {w : World} {s : ByteArray} : Calls Try.prog 69 #[.string s] w fun e w' => e = .returned (.func (.func 89) #[] #[.pointer (some ⟨w.heap.size, 0, none⟩)]) ∧ w' = w.alloc (.cells #[.string s] 9) := by
  go_enter Try.func69, Try.ntmps69
  go_wp2
  go_ret
  exact ⟨rfl, rfl⟩
/-- What a round of laid finds, and leaves. -/
structure LaidI (N : Nat) (W0 : World) (b3 : Nat) (P : List ByteArray) (s : Nat) (W : World) : Prop where
  b3 : ∃ v g, W.heap[b3]? = some (.cells #[v] 30 (0, 0)) ∧ byteE.Spine 5 No g W v (flL (P.take s)) ∧ (capOf v ≠ 0 → W0.heap.size ≤ g)
  low : Below N W0 W
  size : W0.heap.size ≤ W.heap.size
theorem LaidI.past {N B : Nat} {W0 W X : World} {b3 : Nat} {P : List ByteArray} {s : Nat} (h : LaidI N W0 b3 P s W) (he : Past B W X) (hN : N ≤ B) (hN0 : N ≤ W0.heap.size) : LaidI N W0 b3 P s X := by
  obtain ⟨v, g, h1, h2, h3⟩ := h.b3
  exact ⟨⟨v, g, he.row h1, h2.past he, h3⟩, h.low.trans (he.below hN (by have := h.size; omega)), Nat.le_trans h.size he.size⟩
theorem LaidI.ext {N : Nat} {W0 W X : World} {b3 bS : Nat} {P : List ByteArray} {s : Nat} (h : LaidI N W0 b3 P s W) (he : Ext (fun b => b = bS) W X) (h3 : b3 ≠ bS) (hN : N ≤ bS) (hS : bS < W0.heap.size) : LaidI N W0 b3 P s X := by
  obtain ⟨v, g, h1, h2, h3'⟩ := h.b3
  have hsz := h.size
  refine ⟨⟨v, g, (he.block _ (Array.getElem?_eq_some_iff.1 h1).1 h3).trans h1, ?_, h3'⟩, h.low.trans (he.toBelow (by omega) (fun x hx e => by omega)), Nat.le_trans h.size he.size⟩
  by_cases hc : capOf v = 0
  · exact h2.empty hc
  · exact h2.step (fun cur hcur => (he.block g (Array.getElem?_eq_some_iff.1 hcur).1 (fun e => by have := h3' hc; omega)).trans hcur) (fun _ hk _ => hk.elim)
set_option maxRecDepth 8000 in
set_option maxHeartbeats 4000000 in
theorem laid_any {w : World} {s : ByteArray} (hs : s.size ≤ 100000000) : Calls Try.prog 38 #[.string s] w fun e w' => ∃ v' g, e = .returned v' ∧ byteE.Spine 5 No g w' v' (laidL s) ∧ (capOf v' ≠ 0 → w.heap.size ≤ g) ∧ Below w.heap.size w w' := by
  have HS := hid hs
  clear hs
  refine (callsIn_wide (n := 9)).1 ?_
  refine callsIn_of_wp_marks Try.func38 rfl trivial ?_ rfl
  simp only [Try.ntmps38, List.size_toArray, List.length_cons, List.length_nil, Nat.reduceAdd, Nat.reduceSub, Array.replicate_succ, Array.replicate_zero, List.push_toArray, List.append_toArray, List.nil_append, List.cons_append]
  refine wpIn_wide.2 ?_
  go_wp2_with (first | (go_at_call 69; refine pieces_make.mono ?_; rintro e w3 ⟨rfl, rfl⟩))
  refine wp_name (fun W0 hW0 => ?_)
  have b0 : Below w.heap.size w W0 := by rw [hW0]; exact (by repeat (first | (with_reducible exact Below.refl _ _) | (with_reducible exact bl_mm) | (with_reducible refine bl_dr ?_) | (with_reducible refine bl_drN ?_ _) | (with_reducible refine bl_al ?_ _) | (with_reducible refine bl_more ?_ _ _)))
  have hsz : W0.heap.size = w.heap.size + 1 + 1 := by rw [hW0]; simp
  have h3 : W0.heap[w.heap.size]? = some (.cells #[.slice none 0 0] 30 (0, 0)) := by
    rw [hW0]; exact blk_in (X := w) (by repeat (first | (with_reducible exact Below.refl _ _) | (with_reducible exact bl_mm) | (with_reducible refine bl_dr ?_) | (with_reducible refine bl_drN ?_ _) | (with_reducible refine bl_al ?_ _) | (with_reducible refine bl_more ?_ _ _))) rfl
  have hS : W0.heap[w.heap.size + 1]? = some (.cells #[.string s] 9 (0, 0)) := by
    rw [hW0]; exact blk_in (X := w.alloc (Obj.cells #[.slice none 0 0] 30)) (by repeat (first | (with_reducible exact Below.refl _ _) | (with_reducible exact bl_mm) | (with_reducible refine bl_dr ?_) | (with_reducible refine bl_drN ?_ _) | (with_reducible refine bl_al ?_ _) | (with_reducible refine bl_more ?_ _ _))) (by simp)
  have hev := pieces_at (m := 8) (by omega) (by have := HS.out; omega) hS
  have hps : (flL (pieces s)).length ≤ 7 * s.size + 6 ∧ ∀ p ∈ pieces s, p.size ≤ 1000 := pcB_len _ _ (by omega)
  refine (wpIn_wide (n := 9)).1 ?_
  refine' rangeFunc_at (F := Fence.wide) (n := 9) rfl (by omega) (gf := 89) (lb := #[.pointer (some ⟨w.heap.size + 1, 0, none⟩)]) rfl trivial (enters_of Try.func89 (by kernel_rfl) rfl) hev
    (fun h k => KeepT.trans h k) (fun W l o o' hl _ _ => KeepT.put o' (by omega)) (Below.refl _ _) (fun b hb => by omega) (fun _ => rfl)
    (LaidI w.heap.size W0 w.heap.size (pieces s)) (fun _ _ _ => False) (own_past (fun s' W X hI hP => hI.past hP (by omega) (by omega))) (fun _ _ _ _ _ h _ _ => h) (fun s' X Y hI he => hI.ext he (by omega) (by omega) (by omega)) (fun _ _ _ _ h _ => h) ?start _
    (fun s' x _ W => LaidI w.heap.size W0 w.heap.size (pieces s) s' W ∧ (pieces s)[s']? = some x) (fun s' x b => own_past (fun _ W X hM hP => ⟨hM.1.past hP (by omega) (by omega), hM.2⟩)) ?assign ?body ?done ?stop
  case start =>
    exact ⟨⟨_, w.heap.size, h3, Enc.Spine.nil _ _ _ _ _, fun h => absurd rfl h⟩, Below.refl _ _, Nat.le_refl _⟩
  case assign =>
    intro l s' x W K hI hV hK
    gi_wp2
    obtain ⟨bx, _⟩ : ∃ n : Nat, n = n := ⟨0, rfl⟩
    exact hK bx W (kf_below (Below.refl _ _)) (KeepT.refl _ _) ⟨hI, hV⟩
  case body =>
    rintro l s' x b W hl ⟨hM, hx⟩
    obtain ⟨v, g, q1, q2, q3⟩ := hM.b3
    obtain ⟨A, cp, rfl, p5, p6⟩ := q2.form
    have hsz2 := hM.size
    have hxm := hps.2 x (List.mem_of_getElem? hx)
    have hmin := take_flL (pieces s) s'
    have HXL : Hid (x.size ≤ 4000000000 ∧ (sbs x).length ≤ 1024) := hid ⟨by omega, by rw [sbs_len]; omega⟩
    obtain ⟨XS, hXS⟩ : ∃ XS, flL ((pieces s).take s') = XS := ⟨_, rfl⟩
    have hsn := flL_snoc hx
    rw [hXS] at q2 hmin hsn q1
    have HLEN : Hid (XS.length ≤ 1000000000) := hid (by have := HS.out; omega)
    have HQ2 := hid q2
    have HSN := hid hsn
    have HM := hid hM
    have HQ1 := hid (And.intro q1 q3)
    have c3 := cell_blk q1 0
    have f3 := frz_blk q1 0
    simp only [List.getElem?_toArray, List.getElem?_cons_zero] at c3
    have l3 : w.heap.size < W.heap.size := by omega
    have hcv := conv_any x
    have HPS := hid hps
    clear q1 q2 q3 p5 p6 hsn hM h3 hS hev hXS hmin hxm hx hps b0
    gi_wp2_with (first | (refine ⟨trivial, ?_⟩; gi_at_call 42; refine (CallsIn.inRound l (callsIn_wide.2 (fput_any (N := (W.drew.alloc (cvO W x)).heap.size) (w0 := W.drew.alloc (cvO W x)) (K := fun _ => True) (HQ2.out.below (by repeat (first | (with_reducible exact Below.refl _ _) | (with_reducible exact bl_mm) | (with_reducible refine bl_dr ?_) | (with_reducible refine bl_drN ?_ _) | (with_reducible refine bl_al ?_ _) | (with_reducible refine bl_more ?_ _ _)))) (Nat.le_refl _) (Below.refl _ _) (conv_row HXL.out.1 (alloc_blk rfl) trivial) (byt_in _) HXL.out.2 HLEN.out))).mono ?_; rintro e w4 ⟨v4, g4, rfl, hm4, hg4⟩; obtain ⟨A4, c4, rfl, _, _⟩ := hm4.sp.form; have HM4 := hid (And.intro hm4 hg4); obtain ⟨ex4, dx4, rfl⟩ := more_of hm4.low; clear hm4 hg4))
    have h2 : Ext (fun b => b = w.heap.size) W (more ((W.setCell { block := w.heap.size, off := 0 } (Value.slice A4 (XS.length + (frameL (sbs x)).length) c4)).alloc (cvO W x)) ex4 dx4) := (by repeat (first | (with_reducible exact Ext.refl _ _) | (with_reducible refine ex_dr ?_) | (with_reducible refine ex_drN ?_ _) | (with_reducible refine ex_al ?_ _) | (with_reducible refine ex_more ?_ _ _) | (with_reducible refine Ext.set ?_ _ _ _ (by first | exact rfl | exact .inl rfl | exact .inr rfl))))
    have h4 := HM4.out.2
    simp at h4
    refine ⟨kf_ext h2 (fun b hB hb => by omega), KeepT.ext h2 (fun b hb => ⟨by omega, by omega⟩), ⟨⟨.slice A4 (XS.length + (frameL (sbs x)).length) c4, g4, ?_, ?_, fun _ => by omega⟩, HM.out.low.trans (h2.toBelow (by omega) (fun x hx e => by omega)), by have := h2.size; omega⟩⟩
    · exact (Below.block (B := (W.setCell { block := w.heap.size, off := 0 } (Value.slice A4 (XS.length + (frameL (sbs x)).length) c4)).heap.size) (by repeat (first | (with_reducible exact Below.refl _ _) | (with_reducible exact bl_mm) | (with_reducible refine bl_dr ?_) | (with_reducible refine bl_drN ?_ _) | (with_reducible refine bl_al ?_ _) | (with_reducible refine bl_more ?_ _ _))) _ (by simpa [World.setCell] using l3)).trans (blk1_set HQ1.out.1)
    · rw [HSN.out]
      have := HM4.out.1.sp
      rw [List.length_append] at this
      exact this.step (fun cur hc => (more_top (X := W.drew.alloc (cvO W x)) (by simp [World.setCell]) (by simpa using h4)).symm.trans hc) (fun _ hk _ => hk.elim)
  case done =>
    rintro D s' W hD rfl hI hK
    obtain ⟨v, g, q1, q2, q3⟩ := hI.b3
    have c3 := cell_blk q1 0
    simp only [List.getElem?_toArray, List.getElem?_cons_zero] at c3
    have HI2 := hid hI
    have HQ := hid (And.intro q2 q3)
    have HK := hid hK
    have HD2 := hid hD
    clear q1 q2 q3 hI hK h3 hS hev hps b0 hD
    go_wp2
    have hp : Past W0.heap.size W (W.putObj D (.deferred none)) := Past.step_ (Ext.of_below (Below.refl _ _)) HK.out HD2.out
    have hlow : Below w.heap.size w W := (show Below w.heap.size w W0 by rw [hW0]; exact (by repeat (first | (with_reducible exact Below.refl _ _) | (with_reducible exact bl_mm) | (with_reducible refine bl_dr ?_) | (with_reducible refine bl_drN ?_ _) | (with_reducible refine bl_al ?_ _) | (with_reducible refine bl_more ?_ _ _)))).trans HI2.out.low
    refine ⟨by simp, .inl ⟨_, _, rfl, run_takeDeferred HK.out, ?_⟩⟩
    refine ⟨_, results_tmp rfl _ _ _, ?_⟩
    refine ⟨_, g, rfl, ?_, fun hc => by have := HQ.out.2 hc; omega, hlow.trans (hp.below (by omega) hlow.size)⟩
    have h1 := HQ.out.1.past hp
    rw [List.take_length] at h1
    exact h1
  case stop =>
    intro D c s' W hD _ h
    exact h.elim
end Go.Proofs.Ytgpcgndmdkgbdaa

/- The text of what is run, told. -/
namespace Go.Proofs.Ytgpcgndmdkgbdaa
open Go.RowKit Go.Shelf

theorem bl_dw {W X : World} {e : Array Obj} {n : Nat} (h : Below (more W e n).heap.size (more W e n) X) : Below (more W.drew e n).heap.size (more W.drew e n) X := h
theorem str_ne {a b : ByteArray} (h : ¬ a = b) : (a.toList == b.toList) = false := by rw [beq_eq_false_iff_ne]; exact fun e => h (ByteArray.ext (Array.ext' (by rw [← ByteArray.toList_eq, ← ByteArray.toList_eq]; exact e)))
theorem row_conv {K : Nat → Prop} {w : World} {v : Value} {xs : List Int} (h : byteE.Row K w v xs) : (convert 30 9 v).run Try.prog w = .ok (.string (strOfNums xs)) w := by
  obtain ⟨A, c, rfl, h1, h2, h3⟩ := h
  by_cases hx : xs = []
  · subst hx
    rw [run_convert_bytes_string w 30 9 5 _ _ _ Try.underlying30 Try.underlying5 Try.underlying9]
    cases A <;> simp [Conv.bytesToString, strOfNums, loadCells, loadCellsFrom] <;> rfl
  · obtain ⟨b, off, rfl, _, _, ha⟩ := h3 hx
    refine run_convert_bytes_arg w 30 5 Try.underlying30 Try.underlying5 b off xs.length c xs rfl (fun i hi => ?_) 9 Try.underlying9
    obtain ⟨cs, h5, h6⟩ := ha i hi
    have h7 : cs = [.int .u8 xs[i]] := h5
    subst h7
    have := h6 0 _ rfl
    simpa [List.getD, hi, show byteE.sz = 1 from rfl] using this
theorem wpList_conv {w : World} {ops : Array Oper} {rest : List Oper} {a : Act} {Q : Exit → Act → World → Prop} {K : Nat → Prop} {xs : List Int} {v : Value} {dst : Option Tmp} {ty : TypeId} {pos : String} {after : Array Edge} {guard : Option (Tmp × Bool)} (x : Operand)
    (hg : Region.wanted { dst := dst, op := Op.convert 30 9 x, type := ty, pos := pos, after := after, guard := guard } (yielded ops a.tmps) = true) (hx : a.eval x = v) (hr : byteE.Row K w v xs)
    (h : wpList Try.prog ops Q rest (a.put dst (.string (strOfNums xs))) w) : wpList Try.prog ops Q ({ dst := dst, op := Op.convert 30 9 x, type := ty, pos := pos, after := after, guard := guard } :: rest) a w := by
  subst hx
  simp only [wpList]
  rw [if_pos hg]
  refine .inl ?_
  unfold Oper.wp
  simp [execOp, row_conv hr, Result.andThen]
  exact h
theorem allF_in (bs : List Int) : ∀ (k a : Nat) (out : List (List Int)), a ≤ bs.length → out.flatten.length ≤ a → (∀ b ∈ out.flatten, b ∈ bs) → (allF bs k a out).1.flatten.length ≤ bs.length ∧ ∀ b ∈ (allF bs k a out).1.flatten, b ∈ bs
  | 0, a, out, ha, ho, hb => ⟨by simp only [allF]; omega, hb⟩
  | k + 1, a, out, ha, ho, hb => by
    rw [allF]
    obtain ⟨x, n, E, ht⟩ : ∃ x n E, takeF bs a = (x, n, E) := ⟨_, _, _, rfl⟩
    rw [ht]
    simp only
    split
    · rename_i hE
      subst hE
      obtain ⟨h1, h2, h3, h4⟩ := takeF_ok ha ht
      refine allF_in bs k n _ h2 ?_ (fun b hbm => ?_)
      · rw [List.flatten_append, List.length_append]; simp only [List.flatten_cons, List.flatten_nil, List.append_nil]; omega
      · rw [List.flatten_append, List.mem_append] at hbm
        rcases hbm with h | h
        · exact hb b h
        · exact h4 b (by simpa using h)
    · exact ⟨Nat.le_trans ho ha, hb⟩
theorem allW_in (bs : List Int) : (allW bs).1.flatten.length ≤ bs.length ∧ ∀ b ∈ (allW bs).1.flatten, b ∈ bs := allF_in bs _ 0 [] (Nat.zero_le _) (by simp) (by simp)
theorem take_flat (l : List (List Int)) (k : Nat) : (l.take k).flatten.length ≤ l.flatten.length := by
  conv => rhs; rw [← List.take_append_drop k l]
  simp only [List.flatten_append, List.length_append]
  omega
theorem take_flat_succ {l : List (List Int)} {k : Nat} (h : k < l.length) : (l.take (k + 1)).flatten = (l.take k).flatten ++ l[k] := by
  rw [List.take_add_one, List.getElem?_eq_getElem h, List.flatten_append]
  simp only [Option.toList, List.flatten_cons, List.flatten_nil, List.append_nil]
/-- What the bytes of the last file tell. -/
def toldV (bs : List Int) : ByteArray × Int :=
  if 65536 < (allW bs).1.flatten.length then (ByteArray.empty, 6)
  else if strOfNums (laidL (strOfNums (allW bs).1.flatten)) = strOfNums bs then (strOfNums (allW bs).1.flatten, 0) else (ByteArray.empty, 6)
theorem told_big {bs : List Int} (h : 65536 < (allW bs).1.flatten.length) : toldV bs = (ByteArray.empty, 6) := if_pos h
theorem told_no {bs : List Int} (h : ¬ 65536 < (allW bs).1.flatten.length) (h2 : strOfNums (laidL (strOfNums (allW bs).1.flatten)) ≠ strOfNums bs) : toldV bs = (ByteArray.empty, 6) := by unfold toldV; rw [if_neg h, if_neg h2]
theorem told_yes {bs : List Int} (h : ¬ 65536 < (allW bs).1.flatten.length) (h2 : strOfNums (laidL (strOfNums (allW bs).1.flatten)) = strOfNums bs) : toldV bs = (strOfNums (allW bs).1.flatten, 0) := by unfold toldV; rw [if_neg h, if_pos h2]
set_option maxRecDepth 8000 in
set_option maxHeartbeats 4000000 in
theorem told_any {w : World} {d : Nat} {G : Nat → Prop} {s : DS} {C : Int} {B : List UInt8} {i : Nat} (h : Dk w d G s) (hs : s.Ok C) (hC : C ≤ 1000000000) (hi : i + 1 = s.fs.length) (hB : (s.fs[i]'(by omega)).b = B) :
    Calls Try.prog 17 #[.pointer (some ⟨d, 0, none⟩)] w fun e w' => e = .returned (.tuple #[.string (toldV (byt B)).1, .int .i64 (toldV (byt B)).2]) ∧ Below w.heap.size w w' := by
  have HD := hid h
  have HS := hid hs
  have HC := hid hC
  have HI : Hid (i < s.fs.length) := hid (by omega)
  have HB : Hid ((s.fs[i]'HI.out).b = B) := hid hB
  have hi1 : s.fs.length - 1 = i := by omega
  have HLEN : Hid ((byt B).length ≤ 4000000000) := hid (by rw [byt_len, ← hB]; have := hs.len (List.getElem_mem HI.out); omega)
  have HPOS : Hid (0 < w.heap.size) := hid (by have := h.lt; omega)
  obtain ⟨L, hL⟩ : ∃ L, (allW (byt B)).1 = L := ⟨_, rfl⟩
  have HL := hid hL
  clear h hs hC hi hB hL
  go_enter Try.func17, Try.ntmps17
  go_wp2_with (first | ((with_reducible refine wp_region_plan (id := 11) (.two [(false, 0), (false, 1), (false, 2), (false, 3), (true, 4), (true, 8)] 5 [8] (.two [] 6 [8] (.two [] 7 [8] (.eff [] 9 [4] (.fin [(false, 10), (false, 11)])) 9 [4] (.eff [] 7 [8] (.fin [(false, 10), (false, 11)]))) 9 [4] (.eff [] 6 [8] (.eff [] 7 [8] (.fin [(false, 10), (false, 11)])))) 9 [4] (.eff [] 5 [8] (.eff [] 6 [8] (.eff [] 7 [8] (.fin [(false, 10), (false, 11)]))))) ?_ ?_ ?_ ?_ ?_ ?_); kernel_rfl; kernel_rfl; kernel_rfl; kernel_rfl; (intro c a d v w h; cases d <;> exact h)) | (with_reducible refine wpPlan_eff ?_) | (with_reducible refine wpPlan_fin ?_) | (with_reducible refine wpPlan_two ?_) | (with_reducible refine wpOpPair ?_ ?_) | ((with_reducible apply wpPre_keep); rfl; intro K' hK'; go_simp; refine hK' _ _ ?_; intro f hf; clear hK' K') | ((with_reducible apply wpPre_drop); rfl; intro K' hK'; go_simp; refine hK' _ _ ?_; intro f; clear hK' K') | (with_reducible refine wpPre_nil ?_) | ((with_reducible apply wpOp_list); rfl) | (with_reducible refine heldPair ?_ ?_) | ((with_reducible refine heldH_no ?_ ?_); rfl) | (with_reducible refine heldH_yes ?_ ?_) | (with_reducible exact heldH_nil) | (unfold YAt; go_simp; done) | (go_at_call 29; refine (width_any (HD.out.below (by repeat (first | (with_reducible exact Below.refl _ _) | (with_reducible exact bl_mm) | (with_reducible refine bl_dr ?_) | (with_reducible refine bl_drN ?_ _) | (with_reducible refine bl_al ?_ _) | (with_reducible refine bl_more ?_ _ _)))) HS.out.n1 HS.out.n2).mono ?_; rintro e w1 ⟨rfl, hb1⟩; obtain ⟨ex1, dx1, rfl⟩ := more_of hb1; clear hb1) | (go_at_call 12; refine (read_any (HD.out.below (by repeat (first | (with_reducible exact Below.refl _ _) | (with_reducible exact bl_mm) | (with_reducible refine bl_dr ?_) | (with_reducible refine bl_drN ?_ _) | (with_reducible refine bl_al ?_ _) | (with_reducible refine bl_more ?_ _ _)))) HS.out HC.out i HI.out).mono ?_; rintro e w2 ⟨v2, rfl, hr2, hb2⟩; rw [HB.out] at hr2; obtain ⟨A2, c2, rfl, _, _⟩ := hr2.form; have HR2 := hid hr2; obtain ⟨ex2, dx2, rfl⟩ := more_of hb2; clear hr2 hb2) | (go_at_call 40; refine (all_any (row_byt (HR2.out.below (by repeat (first | (with_reducible exact Below.refl _ _) | (with_reducible exact bl_mm) | (with_reducible refine bl_dr ?_) | (with_reducible refine bl_drN ?_ _) | (with_reducible refine bl_al ?_ _) | (with_reducible refine bl_more ?_ _ _))))) (byt_in B) HLEN.out (by have := HPOS.out; simp [more_size]; omega)).mono ?_; rintro e w3 ⟨v3, g3, rfl, ho3, hb3⟩; rw [HL.out] at ho3; have HO3 := hid (And.intro (ho3.row (fun b hb => hb)) trivial); obtain ⟨A3, c3, rfl, _, _⟩ := ho3.sp.form; obtain ⟨ex3, dx3, rfl⟩ := more_of hb3; clear ho3 hb3))
  refine wp_name (fun W0 hW0 => ?_)
  have b0 : Below w.heap.size w W0 := by rw [hW0]; exact (by repeat (first | (with_reducible exact Below.refl _ _) | (with_reducible exact bl_mm) | (with_reducible refine bl_dr ?_) | (with_reducible refine bl_drN ?_ _) | (with_reducible refine bl_al ?_ _) | (with_reducible refine bl_more ?_ _ _)))
  have hrow : bytesE'.Row (fun b => b < W0.heap.size) W0 (.slice A3 L.length c3) L := ((show bytesE'.Row _ W0 (.slice A3 L.length c3) L by rw [hW0]; exact HO3.out.1).bound).mono (fun b hb _ => hb.2)
  have HROW := hid hrow
  have HB0 := hid b0
  have hRB : byteE.Row (fun _ => True) W0 (.slice A2 B.length c2) (byt B) := by
    rw [hW0]
    exact ((row_byt (HR2.out.below (by repeat (first | (with_reducible exact Below.refl _ _) | (with_reducible exact bl_mm) | (with_reducible refine bl_dr ?_) | (with_reducible refine bl_drN ?_ _) | (with_reducible refine bl_al ?_ _) | (with_reducible refine bl_more ?_ _ _))))).mono (fun _ _ _ => trivial))
  have HRB := hid hRB
  have HFL := hid (allW_in (byt B))
  rw [HL.out] at HFL
  clear hrow b0 hRB
  go_loopg [8, 26] L.length (fun k v8 v26 wr => ∃ (j g : Nat), v26 = .int .i64 (j : Int) ∧ j + k = L.length ∧ Made byteE 5 W0.heap.size W0 wr g v8 (L.take j).flatten)
  case atStart => exact ⟨0, W0.heap.size, rfl, by omega, Made.nil _ _ _⟩
  case round =>
    obtain ⟨j, g, rfl, hj, hm⟩ := hrel
    obtain ⟨A8, c8, rfl, _, _⟩ := hm.sp.form
    have HM := hid hm
    have HJ := hid hj
    by_cases hlt : j < L.length
    · obtain ⟨k2, rfl⟩ : ∃ k2, gk = k2 + 1 := ⟨gk - 1, by omega⟩
      have hwr : Below W0.heap.size W0 wr := hm.low
      obtain ⟨b, off, cs, hA3, hKb, hbl, ⟨v, rfl, hv⟩, hcell⟩ := ((HROW.out.step (w1 := wr) (fun b hb hl => hwr.block b hb))).get j hlt
      subst hA3
      have hc := hcell 0 v rfl
      obtain ⟨A9, c9, rfl, z1, z2⟩ := hv.form
      have HV := hid hv
      replace hc : wr.cell? ⟨b, off + j, none⟩ = some (.slice A9 L[j].length c9) := by rw [show bytesE'.sz = 1 from rfl, Nat.mul_one, Nat.add_zero] at hc; exact hc
      obtain ⟨XS, hXS⟩ : ∃ XS, (L.take j).flatten = XS := ⟨_, rfl⟩
      have hsn := take_flat_succ hlt
      have hmx := take_flat L (j + 1)
      rw [hXS] at hsn HM
      rw [hXS]
      obtain ⟨ys, hys⟩ : ∃ ys, L[j] = ys := ⟨_, rfl⟩
      rw [hys] at hsn HV hc
      rw [hsn, List.length_append] at hmx
      have HLEN2 : Hid (XS.length + ys.length ≤ 4294967296) := hid (by have := HFL.out.1; have := HLEN.out; omega)
      have HSN := hid hsn
      have hj1 : (j : Int) < (L.length : Int) := by omega
      have hj2 : (0 : Int) ≤ (j : Int) := by omega
      have hwj : IntKind.i64.wrap ((j : Int) + 1) = ((j + 1 : Nat) : Int) := by
        have hml : L.length ≤ maxLen := by obtain ⟨_, _, _, h1, h2, _⟩ := HROW.out; omega
        simp only [maxLen] at hml
        rw [IntWalk.i64_in _ (by omega)]
        rfl
      clear z1 z2 hm hj hwr hcell hv hXS hsn hmx hys hlt
      go_wp2_with (first | ((with_reducible refine wp_region_plan (id := 11) (.two [(false, 0), (false, 1), (false, 2), (false, 3), (true, 4), (true, 8)] 5 [8] (.two [] 6 [8] (.two [] 7 [8] (.eff [] 9 [4] (.fin [(false, 10), (false, 11)])) 9 [4] (.eff [] 7 [8] (.fin [(false, 10), (false, 11)]))) 9 [4] (.eff [] 6 [8] (.eff [] 7 [8] (.fin [(false, 10), (false, 11)])))) 9 [4] (.eff [] 5 [8] (.eff [] 6 [8] (.eff [] 7 [8] (.fin [(false, 10), (false, 11)]))))) ?_ ?_ ?_ ?_ ?_ ?_); kernel_rfl; kernel_rfl; kernel_rfl; kernel_rfl; (intro c a d v w h; cases d <;> exact h)) | (with_reducible refine wpPlan_eff ?_) | (with_reducible refine wpPlan_fin ?_) | (with_reducible refine wpPlan_two ?_) | (with_reducible refine wpOpPair ?_ ?_) | ((with_reducible apply wpPre_keep); rfl; intro K' hK'; go_simp; refine hK' _ _ ?_; intro f hf; clear hK' K') | ((with_reducible apply wpPre_drop); rfl; intro K' hK'; go_simp; refine hK' _ _ ?_; intro f; clear hK' K') | (with_reducible refine wpPre_nil ?_) | ((with_reducible apply wpOp_list); rfl) | (with_reducible refine heldPair ?_ ?_) | ((with_reducible refine heldH_no ?_ ?_); rfl) | (with_reducible refine heldH_yes ?_ ?_) | (with_reducible exact heldH_nil) | (unfold YAt; go_simp; done) | (at_builtin; refine wpList_app30 (ys := ys) (by rfl) (.tmp 30) (.tmp 31) (by rfl) (by rfl) (by rfl) (by rfl) (HM.out.below (by repeat (first | (with_reducible exact Below.refl _ _) | (with_reducible exact bl_mm) | (with_reducible refine bl_dr ?_) | (with_reducible refine bl_drN ?_ _) | (with_reducible refine bl_al ?_ _) | (with_reducible refine bl_more ?_ _ _)))).sp (HV.out.below (by repeat (first | (with_reducible exact Below.refl _ _) | (with_reducible exact bl_mm) | (with_reducible refine bl_dr ?_) | (with_reducible refine bl_drN ?_ _) | (with_reducible refine bl_al ?_ _) | (with_reducible refine bl_more ?_ _ _)))).src (fun _ h _ => h.elim) HLEN2.out ?_; intro v4 w4 g4 hs4 he4 hg4; have HM4 := hid (HM.out.grown hs4 (fun _ h => h.1) (he4.mono (fun _ _ h => ⟨h.1, h.2.1⟩)) hg4); clear hs4 he4 hg4))
      go_roundg k2
      case measure => omega
      case rel => exact ⟨j + 1, g4, rfl, by have := HJ.out; omega, by rw [HSN.out]; exact HM4.out⟩
    · have hjl : j = L.length := by omega
      subst hjl
      rw [List.take_length] at HM
      rw [List.take_length]
      obtain ⟨S, hS⟩ : ∃ S, L.flatten = S := ⟨_, rfl⟩
      rw [hS] at HM HFL
      rw [hS]
      have hTV : ((allW (byt B)).1.flatten) = S := by rw [HL.out, hS]
      have HRB2 := hid (HRB.out.below HM.out.low)
      have HSB : Hid (S.length ≤ 4000000000) := hid (by have := HFL.out.1; have := HLEN.out; omega)
      have hl1 : ¬ (L.length : Int) < (L.length : Int) := by omega
      by_cases hbig : 65536 < S.length
      · have HT := hid (told_big (bs := byt B) (by rw [hTV]; exact hbig))
        have hd : decide ((65536 : Int) < (S.length : Int)) = true := decide_eq_true (by omega)
        have hd2 : (65536 : Int) < (S.length : Int) := by omega
        clear hm hj hS hTV hbig hlt
        go_wp2_with (first | ((with_reducible refine wp_region_plan (id := 11) (.two [(false, 0), (false, 1), (false, 2), (false, 3), (true, 4), (true, 8)] 5 [8] (.two [] 6 [8] (.two [] 7 [8] (.eff [] 9 [4] (.fin [(false, 10), (false, 11)])) 9 [4] (.eff [] 7 [8] (.fin [(false, 10), (false, 11)]))) 9 [4] (.eff [] 6 [8] (.eff [] 7 [8] (.fin [(false, 10), (false, 11)])))) 9 [4] (.eff [] 5 [8] (.eff [] 6 [8] (.eff [] 7 [8] (.fin [(false, 10), (false, 11)]))))) ?_ ?_ ?_ ?_ ?_ ?_); kernel_rfl; kernel_rfl; kernel_rfl; kernel_rfl; (intro c a d v w h; cases d <;> exact h)) | (with_reducible refine wpPlan_eff ?_) | (with_reducible refine wpPlan_fin ?_) | (with_reducible refine wpPlan_two ?_) | (with_reducible refine wpOpPair ?_ ?_) | ((with_reducible apply wpPre_keep); rfl; intro K' hK'; go_simp; refine hK' _ _ ?_; intro f hf; clear hK' K') | ((with_reducible apply wpPre_drop); rfl; intro K' hK'; go_simp; refine hK' _ _ ?_; intro f; clear hK' K') | (with_reducible refine wpPre_nil ?_) | ((with_reducible apply wpOp_list); rfl) | (with_reducible refine heldPair ?_ ?_) | ((with_reducible refine heldH_no ?_ ?_); rfl) | (with_reducible refine heldH_yes ?_ ?_) | (with_reducible exact heldH_nil) | (unfold YAt; go_simp; done))
        all_goals go_ret2
        all_goals rw [HT.out]
        all_goals exact ⟨rfl, bl_then (bl_then HB0.out HM.out.low) (by repeat (first | (with_reducible exact Below.refl _ _) | (with_reducible exact bl_mm) | (with_reducible refine bl_dr ?_) | (with_reducible refine bl_drN ?_ _) | (with_reducible refine bl_al ?_ _) | (with_reducible refine bl_more ?_ _ _)))⟩
      · have hd : decide ((65536 : Int) < (S.length : Int)) = false := decide_eq_false (by omega)
        have HS6 : Hid ((strOfNums S).size ≤ 100000000) := hid (by rw [strOfNums_size]; omega)
        obtain ⟨X2, hX2⟩ : ∃ X2, strOfNums (byt B) = X2 := ⟨_, rfl⟩
        obtain ⟨X1, hX1⟩ : ∃ X1, strOfNums (laidL (strOfNums S)) = X1 := ⟨_, rfl⟩
        have HX2 := hid hX2
        have HX1 := hid hX1
        by_cases hne : X1 = X2
        · have HT := hid (told_yes (bs := byt B) (by rw [hTV]; exact hbig) (by rw [hTV, hX1, hX2]; exact hne))
          rw [hTV] at HT
          subst hne
          clear hm hj hS hTV hbig hlt hX1 hX2
          go_wp2_with (first | ((with_reducible refine wp_region_plan (id := 11) (.two [(false, 0), (false, 1), (false, 2), (false, 3), (true, 4), (true, 8)] 5 [8] (.two [] 6 [8] (.two [] 7 [8] (.eff [] 9 [4] (.fin [(false, 10), (false, 11)])) 9 [4] (.eff [] 7 [8] (.fin [(false, 10), (false, 11)]))) 9 [4] (.eff [] 6 [8] (.eff [] 7 [8] (.fin [(false, 10), (false, 11)])))) 9 [4] (.eff [] 5 [8] (.eff [] 6 [8] (.eff [] 7 [8] (.fin [(false, 10), (false, 11)]))))) ?_ ?_ ?_ ?_ ?_ ?_); kernel_rfl; kernel_rfl; kernel_rfl; kernel_rfl; (intro c a d v w h; cases d <;> exact h)) | (with_reducible refine wpPlan_eff ?_) | (with_reducible refine wpPlan_fin ?_) | (with_reducible refine wpPlan_two ?_) | (with_reducible refine wpOpPair ?_ ?_) | ((with_reducible apply wpPre_keep); rfl; intro K' hK'; go_simp; refine hK' _ _ ?_; intro f hf; clear hK' K') | ((with_reducible apply wpPre_drop); rfl; intro K' hK'; go_simp; refine hK' _ _ ?_; intro f; clear hK' K') | (with_reducible refine wpPre_nil ?_) | ((with_reducible apply wpOp_list); rfl) | (with_reducible refine heldPair ?_ ?_) | ((with_reducible refine heldH_no ?_ ?_); rfl) | (with_reducible refine heldH_yes ?_ ?_) | (with_reducible exact heldH_nil) | (unfold YAt; go_simp; done) | (refine wpList_conv (.tmp 38) (by first | rfl | (simp [Region.wanted, yielded]; done)) (by rfl) (K := fun _ => True) (xs := S) ((HM.out.below (by repeat (first | (with_reducible exact Below.refl _ _) | (with_reducible exact bl_mm) | (with_reducible refine bl_dr ?_) | (with_reducible refine bl_drN ?_ _) | (with_reducible refine bl_al ?_ _) | (with_reducible refine bl_more ?_ _ _)))).sp.row (fun _ h _ => h.elim) trivial) ?_) | (go_at_call 38; refine (laid_any HS6.out).mono ?_; rintro e w4 ⟨v4, g4, rfl, hs4, _, hb4⟩; obtain ⟨A4, c4, rfl, _, _⟩ := hs4.form; have HS4 := hid hs4; obtain ⟨ex4, dx4, rfl⟩ := more_of hb4; clear hs4 hb4) | (refine wpList_conv (.tmp 40) (by first | rfl | (simp [Region.wanted, yielded]; done)) (by rfl) (K := fun _ => True) (xs := laidL (strOfNums S)) ((HS4.out.below (by first | ((repeat (first | (with_reducible exact Below.refl _ _) | (with_reducible exact bl_mm) | (with_reducible refine bl_dr ?_) | (with_reducible refine bl_drN ?_ _) | (with_reducible refine bl_al ?_ _) | (with_reducible refine bl_more ?_ _ _))); done) | (refine bl_dw ?_; (repeat (first | (with_reducible exact Below.refl _ _) | (with_reducible exact bl_mm) | (with_reducible refine bl_dr ?_) | (with_reducible refine bl_drN ?_ _) | (with_reducible refine bl_al ?_ _) | (with_reducible refine bl_more ?_ _ _))); done))).row (fun _ h _ => h.elim) trivial) ?_; rw [HX1.out]) | (refine wpList_conv (.tmp 42) (by first | rfl | (simp [Region.wanted, yielded]; done)) (by rfl) (K := fun _ => True) (xs := byt B) (HRB2.out.below (by repeat (first | (with_reducible exact Below.refl _ _) | (with_reducible exact bl_mm) | (with_reducible refine bl_dr ?_) | (with_reducible refine bl_drN ?_ _) | (with_reducible refine bl_al ?_ _) | (with_reducible refine bl_more ?_ _ _)))) ?_; rw [HX2.out]) | (refine wpList_conv (.tmp 46) (by first | rfl | (simp [Region.wanted, yielded]; done)) (by rfl) (K := fun _ => True) (xs := S) ((HM.out.below (by repeat (first | (with_reducible exact Below.refl _ _) | (with_reducible exact bl_mm) | (with_reducible refine bl_dr ?_) | (with_reducible refine bl_drN ?_ _) | (with_reducible refine bl_al ?_ _) | (with_reducible refine bl_more ?_ _ _)))).sp.row (fun _ h _ => h.elim) trivial) ?_))
          all_goals go_ret2
          all_goals rw [HT.out]
          all_goals exact ⟨rfl, bl_then (bl_then HB0.out HM.out.low) (by repeat (first | (with_reducible exact Below.refl _ _) | (with_reducible exact bl_mm) | (with_reducible refine bl_dr ?_) | (with_reducible refine bl_drN ?_ _) | (with_reducible refine bl_al ?_ _) | (with_reducible refine bl_more ?_ _ _)))⟩
        · have HT := hid (told_no (bs := byt B) (by rw [hTV]; exact hbig) (by rw [hTV, hX1, hX2]; exact hne))
          have hne3 := str_ne hne
          clear hm hj hS hTV hbig hlt hX1 hX2
          go_wp2_with (first | ((with_reducible refine wp_region_plan (id := 11) (.two [(false, 0), (false, 1), (false, 2), (false, 3), (true, 4), (true, 8)] 5 [8] (.two [] 6 [8] (.two [] 7 [8] (.eff [] 9 [4] (.fin [(false, 10), (false, 11)])) 9 [4] (.eff [] 7 [8] (.fin [(false, 10), (false, 11)]))) 9 [4] (.eff [] 6 [8] (.eff [] 7 [8] (.fin [(false, 10), (false, 11)])))) 9 [4] (.eff [] 5 [8] (.eff [] 6 [8] (.eff [] 7 [8] (.fin [(false, 10), (false, 11)]))))) ?_ ?_ ?_ ?_ ?_ ?_); kernel_rfl; kernel_rfl; kernel_rfl; kernel_rfl; (intro c a d v w h; cases d <;> exact h)) | (with_reducible refine wpPlan_eff ?_) | (with_reducible refine wpPlan_fin ?_) | (with_reducible refine wpPlan_two ?_) | (with_reducible refine wpOpPair ?_ ?_) | ((with_reducible apply wpPre_keep); rfl; intro K' hK'; go_simp; refine hK' _ _ ?_; intro f hf; clear hK' K') | ((with_reducible apply wpPre_drop); rfl; intro K' hK'; go_simp; refine hK' _ _ ?_; intro f; clear hK' K') | (with_reducible refine wpPre_nil ?_) | ((with_reducible apply wpOp_list); rfl) | (with_reducible refine heldPair ?_ ?_) | ((with_reducible refine heldH_no ?_ ?_); rfl) | (with_reducible refine heldH_yes ?_ ?_) | (with_reducible exact heldH_nil) | (unfold YAt; go_simp; done) | (refine wpList_conv (.tmp 38) (by first | rfl | (simp [Region.wanted, yielded]; done)) (by rfl) (K := fun _ => True) (xs := S) ((HM.out.below (by repeat (first | (with_reducible exact Below.refl _ _) | (with_reducible exact bl_mm) | (with_reducible refine bl_dr ?_) | (with_reducible refine bl_drN ?_ _) | (with_reducible refine bl_al ?_ _) | (with_reducible refine bl_more ?_ _ _)))).sp.row (fun _ h _ => h.elim) trivial) ?_) | (go_at_call 38; refine (laid_any HS6.out).mono ?_; rintro e w4 ⟨v4, g4, rfl, hs4, _, hb4⟩; obtain ⟨A4, c4, rfl, _, _⟩ := hs4.form; have HS4 := hid hs4; obtain ⟨ex4, dx4, rfl⟩ := more_of hb4; clear hs4 hb4) | (refine wpList_conv (.tmp 40) (by first | rfl | (simp [Region.wanted, yielded]; done)) (by rfl) (K := fun _ => True) (xs := laidL (strOfNums S)) ((HS4.out.below (by first | ((repeat (first | (with_reducible exact Below.refl _ _) | (with_reducible exact bl_mm) | (with_reducible refine bl_dr ?_) | (with_reducible refine bl_drN ?_ _) | (with_reducible refine bl_al ?_ _) | (with_reducible refine bl_more ?_ _ _))); done) | (refine bl_dw ?_; (repeat (first | (with_reducible exact Below.refl _ _) | (with_reducible exact bl_mm) | (with_reducible refine bl_dr ?_) | (with_reducible refine bl_drN ?_ _) | (with_reducible refine bl_al ?_ _) | (with_reducible refine bl_more ?_ _ _))); done))).row (fun _ h _ => h.elim) trivial) ?_; rw [HX1.out]) | (refine wpList_conv (.tmp 42) (by first | rfl | (simp [Region.wanted, yielded]; done)) (by rfl) (K := fun _ => True) (xs := byt B) (HRB2.out.below (by repeat (first | (with_reducible exact Below.refl _ _) | (with_reducible exact bl_mm) | (with_reducible refine bl_dr ?_) | (with_reducible refine bl_drN ?_ _) | (with_reducible refine bl_al ?_ _) | (with_reducible refine bl_more ?_ _ _)))) ?_; rw [HX2.out]))
          all_goals go_ret2
          all_goals rw [HT.out]
          all_goals exact ⟨rfl, bl_then (bl_then HB0.out HM.out.low) (by repeat (first | (with_reducible exact Below.refl _ _) | (with_reducible exact bl_mm) | (with_reducible refine bl_dr ?_) | (with_reducible refine bl_drN ?_ _) | (with_reducible refine bl_al ?_ _) | (with_reducible refine bl_more ?_ _ _)))⟩
end Go.Proofs.Ytgpcgndmdkgbdaa

/- An event appended to a branch. -/
namespace Go.Proofs.Ytgpcgndmdkgbdaa
open Go.RowKit Go.Shelf

/-- Numbers, as bytes. -/
def ofI (l : List Int) : List UInt8 := l.map (fun x => UInt8.ofNat x.toNat)
theorem ofI_len (l : List Int) : (ofI l).length = l.length := by simp [ofI]
theorem byt_ofI {l : List Int} (h : ∀ b ∈ l, 0 ≤ b ∧ b < 256) : byt (ofI l) = l := by
  unfold byt ofI
  rw [List.map_map]
  conv => rhs; rw [← List.map_id l]
  refine List.map_congr_left (fun x hx => ?_)
  have := h x hx
  simp
  omega
theorem ofI_byt (l : List UInt8) : ofI (byt l) = l := by
  unfold byt ofI
  rw [List.map_map]
  conv => rhs; rw [← List.map_id l]
  exact List.map_congr_left (fun x hx => by simp)
theorem row_ofI {K : Nat → Prop} {w : World} {v : Value} {l : List Int} (h : byteE.Row K w v l) (hl : ∀ b ∈ l, 0 ≤ b ∧ b < 256) : u8E.Row K w v (ofI l) := by
  obtain ⟨A, c, rfl, h1, h2, h3⟩ := h
  refine ⟨A, c, by rw [ofI_len], by rw [ofI_len]; exact h1, h2, fun hx => ?_⟩
  obtain ⟨b, off, rfl, hb, hl', ha⟩ := h3 (fun h0 => hx (by rw [h0]; rfl))
  refine ⟨b, off, rfl, hb, hl', fun i hi => ?_⟩
  rw [ofI_len] at hi
  obtain ⟨cs, h5, h6⟩ := ha i hi
  refine ⟨cs, ?_, h6⟩
  have h7 : cs = [.int .u8 l[i]] := h5
  show cs = [.int .u8 (((ofI l)[i]'(by rw [ofI_len]; exact hi)).toNat : Int)]
  have := hl l[i] (List.getElem_mem hi)
  rw [h7]
  simp [ofI]
  omega
theorem oneL_in (n : Nat) : ∀ b ∈ oneL n, 0 ≤ b ∧ b < 256 := by
  induction n using Nat.strongRecOn with
  | _ n ih =>
    intro b hb
    by_cases h : n < 128
    · rw [oneL_small h] at hb
      simp at hb
      omega
    · rw [oneL_more h] at hb
      rcases List.mem_cons.1 hb with rfl | hb
      · omega
      · exact ih (n / 128) (by omega) b hb
theorem bytesE_in {k i t : Int} {st : List Int} (hk : 0 ≤ k ∧ k < 256) : ∀ b ∈ bytesE k i t st, 0 ≤ b ∧ b < 256 := by
  intro b hb
  unfold bytesE putsL manyL at hb
  simp only [List.mem_append, List.mem_singleton, List.mem_flatMap] at hb
  rcases hb with ((rfl | hb) | hb) | hb | ⟨x, _, hb⟩
  · exact hk
  · exact oneL_in _ b hb
  · split at hb
    · simp at hb
    · exact oneL_in _ b hb
  · exact oneL_in _ b hb
  · exact oneL_in _ b hb
theorem tailL_in (s : Nat) : ∀ b ∈ tailL s, 0 ≤ b ∧ b < 256 := by
  intro b hb
  unfold tailL at hb
  simp only [List.mem_cons, List.not_mem_nil, or_false] at hb
  rcases hb with rfl | rfl | rfl | rfl <;> omega
theorem frameL_in {body : List Int} (h : ∀ b ∈ body, 0 ≤ b ∧ b < 256) (hl : body.length ≤ 1024) : ∀ b ∈ frameL body, 0 ≤ b ∧ b < 256 := by
  intro b hb
  unfold frameL at hb
  rcases List.mem_append.1 hb with hb | hb
  · exact headL_in h hl b hb
  · exact tailL_in _ b hb
theorem rightE_k {k i t : Int} {st : List Int} (h : rightE k i t st = true) : 1 ≤ k ∧ k ≤ 6 ∧ 0 < i ∧ i < 64 ∧ 0 ≤ t ∧ t ≤ 3 ∧ (k ≤ 3 → t = 0) ∧ rightS st = true := by
  unfold rightE at h
  rw [Bool.and_eq_true] at h
  rcases of_cases k i t with ⟨h1, h2, h3, h4, h5, h6, _⟩ | ⟨h1, h2, h3, h4, h5, h6, h7, _⟩ | ⟨h1, _⟩
  · exact ⟨h3, by omega, h4, h5, by omega, by omega, fun _ => h6, h.2⟩
  · exact ⟨by omega, h3, h4, h5, h6, h7, fun _ => by omega, h.2⟩
  · rw [h1] at h; exact absurd h.1 (by simp)
theorem bytesE_len {k i t : Int} {st : List Int} (h : rightE k i t st = true) : (bytesE k i t st).length ≤ 700 := by
  obtain ⟨h1, h2, h3, h4, h5, h6, _, h7⟩ := rightE_k h
  obtain ⟨s1, s2, s3⟩ := rightS_parts h7
  have m1 := manyL_len st (fun x hx => by have := s3 x hx; unfold isN at this; simp at this; omega)
  have o1 := oneL_9 (n := i.toNat) (by omega)
  have o2 := oneL_9 (n := t.toNat) (by omega)
  have o3 := oneL_9 (n := st.length) (by omega)
  unfold bytesE putsL
  simp only [List.length_append, List.length_singleton]
  split
  · simp; omega
  · omega
set_option maxHeartbeats 1000000 in
theorem ebytes_bad {w : World} {k i t : Int} {v : Value} {st : List Int} {K : Nat → Prop} (h : intE.Row K w v st) (hl : st.length ≤ 4000000000) (hr : rightE k i t st = false) : Calls Try.prog 41 #[evV k i t v] w fun e w' => e = .returned (.tuple #[.slice none 0 0, .int .i64 2]) ∧ Below w.heap.size w w' := by
  obtain ⟨A, c, rfl, _, _⟩ := h.form
  have HR := hid h
  have HL := hid hl
  have HE : Hid ((if rightE k i t st = true then (0 : Int) else 2) = 2) := hid (by rw [hr]; rfl)
  clear h hl hr
  go_enter Try.func41, Try.ntmps41
  go_wp2_with (go_at_call 70; refine (echeck_any (HR.out.below (by repeat (first | (with_reducible exact Below.refl _ _) | (with_reducible exact bl_mm) | (with_reducible refine bl_dr ?_) | (with_reducible refine bl_drN ?_ _) | (with_reducible refine bl_al ?_ _) | (with_reducible refine bl_more ?_ _ _)))) HL.out).mono ?_; rintro e w1 ⟨rfl, hb1⟩; obtain ⟨ex1, dx1, rfl⟩ := more_of hb1; clear hb1; rw [HE.out])
  go_ret2
  exact ⟨rfl, (by repeat (first | (with_reducible exact Below.refl _ _) | (with_reducible exact bl_mm) | (with_reducible refine bl_dr ?_) | (with_reducible refine bl_drN ?_ _) | (with_reducible refine bl_al ?_ _) | (with_reducible refine bl_more ?_ _ _)))⟩
/-- An event appended, as the code does it. -/
def appB (s : DS) (i : Int) (e : Ev) : DS × Int :=
  if i < 0 ∨ ((s.fs.length - 1 : Nat) : Int) ≤ i ∨ rightE e.1 e.2.1 e.2.2.1 e.2.2.2 = false ∨ (e.2.2.2.length : Int) ≠ ((s.fs.length - 1 : Nat) : Int) then (s, 2) else appR s i (ofI (frameL (bytesE e.1 e.2.1 e.2.2.1 e.2.2.2)))
theorem appB_bad {s : DS} {n : Nat} (hn : s.fs.length - 1 = n) {i : Int} {e : Ev} (h : i < 0 ∨ (n : Int) ≤ i ∨ rightE e.1 e.2.1 e.2.2.1 e.2.2.2 = false ∨ ¬ e.2.2.2.length = n) : appB s i e = (s, 2) := by
  subst hn
  refine if_pos ?_
  rcases h with h | h | h | h
  · exact .inl h
  · exact .inr (.inl h)
  · exact .inr (.inr (.inl h))
  · exact .inr (.inr (.inr (by omega)))
theorem appB_ok {s : DS} {n : Nat} (hn : s.fs.length - 1 = n) {i : Int} {e : Ev} (h1 : ¬ i < 0) (h2 : ¬ (n : Int) ≤ i) (h3 : rightE e.1 e.2.1 e.2.2.1 e.2.2.2 = true) (h4 : e.2.2.2.length = n) : appB s i e = appR s i (ofI (frameL (bytesE e.1 e.2.1 e.2.2.1 e.2.2.2))) := by
  subst hn
  refine if_neg (fun h => ?_)
  rcases h with h | h | h | h
  · exact h1 h
  · exact h2 h
  · rw [h3] at h; cases h
  · exact h (by omega)
theorem dkTo_after {w W w' : World} {d : Nat} {G : Nat → Prop} {p : DS × Int} {e : Ending} (hb : Below w.heap.size w W) (h : DkTo W d G p e w') : DkTo w d G p e w' :=
  ⟨h.1, h.2.1.mono (fun _b hb' _ => hb'.imp id (fun h => Nat.le_trans hb.size h)), (Ext.of_below hb).trans h.2.2 (fun _ _ h => h)⟩
set_option maxRecDepth 8000 in
set_option maxHeartbeats 4000000 in
theorem bapp_any {w : World} {d : Nat} {G K : Nat → Prop} {s : DS} {C : Int} {i k it t : Int} {v : Value} {st : List Int} (h : Dk w d G s) (hs : s.Ok C) (hC : C ≤ 1000000000) (hr : intE.Row K w v st) (hK : ∀ b, K b → b < w.heap.size) (hsl : st.length ≤ 4000000000) :
    Calls Try.prog 22 #[.pointer (some ⟨d, 0, none⟩), .int .i64 i, evV k it t v] w (DkTo w d G (appB s i (k, it, t, st))) := by
  obtain ⟨A, c, rfl, _, _⟩ := hr.form
  have HD := hid h
  have HS := hid hs
  have HC := hid hC
  have HR := hid hr
  have HK := hid hK
  have HSL := hid hsl
  obtain ⟨n, hn⟩ : ∃ n, s.fs.length - 1 = n := ⟨_, rfl⟩
  have HN := hid hn
  have hn0 : (0 : Int) ≤ (n : Int) := by omega
  by_cases hi1 : i < 0
  · have HB := hid (appB_bad hn (i := i) (e := (k, it, t, st)) (.inl hi1))
    by_cases hE : rightE k it t st = true
    · have HE := hid hE
      clear h hs hC hr hK hsl hE hn
      go_enter Try.func22, Try.ntmps22
      go_wp2_with (first | (go_at_call 29; refine (width_any (HD.out.below (by repeat (first | (with_reducible exact Below.refl _ _) | (with_reducible exact bl_mm) | (with_reducible refine bl_dr ?_) | (with_reducible refine bl_drN ?_ _) | (with_reducible refine bl_al ?_ _) | (with_reducible refine bl_more ?_ _ _)))) HS.out.n1 HS.out.n2).mono ?_; rintro e w1 ⟨rfl, hb1⟩; obtain ⟨ex1, dx1, rfl⟩ := more_of hb1; clear hb1; rw [HN.out]) | (go_at_call 41; refine (ebytes_any (HR.out.below (by repeat (first | (with_reducible exact Below.refl _ _) | (with_reducible exact bl_mm) | (with_reducible refine bl_dr ?_) | (with_reducible refine bl_drN ?_ _) | (with_reducible refine bl_al ?_ _) | (with_reducible refine bl_more ?_ _ _)))) (fun _ hb => Nat.lt_of_lt_of_le (HK.out _ hb) (by simp [more_size]; omega)) HE.out).mono ?_; rintro e w2 ⟨v2, g2, rfl, hm2⟩; obtain ⟨A2, c2, rfl, _, _⟩ := hm2.sp.form; have HM2 := hid hm2; obtain ⟨ex2, dx2, rfl⟩ := more_of hm2.low; clear hm2))
      go_ret
      rw [HB.out]
      exact dkTo_below HD.out rfl (by repeat (first | (with_reducible exact Below.refl _ _) | (with_reducible exact bl_mm) | (with_reducible refine bl_dr ?_) | (with_reducible refine bl_drN ?_ _) | (with_reducible refine bl_al ?_ _) | (with_reducible refine bl_more ?_ _ _)))
    · have HE := hid ((Bool.not_eq_true _).mp hE)
      clear h hs hC hr hK hsl hE hn
      go_enter Try.func22, Try.ntmps22
      go_wp2_with (first | (go_at_call 29; refine (width_any (HD.out.below (by repeat (first | (with_reducible exact Below.refl _ _) | (with_reducible exact bl_mm) | (with_reducible refine bl_dr ?_) | (with_reducible refine bl_drN ?_ _) | (with_reducible refine bl_al ?_ _) | (with_reducible refine bl_more ?_ _ _)))) HS.out.n1 HS.out.n2).mono ?_; rintro e w1 ⟨rfl, hb1⟩; obtain ⟨ex1, dx1, rfl⟩ := more_of hb1; clear hb1; rw [HN.out]) | (go_at_call 41; refine (ebytes_bad (HR.out.below (by repeat (first | (with_reducible exact Below.refl _ _) | (with_reducible exact bl_mm) | (with_reducible refine bl_dr ?_) | (with_reducible refine bl_drN ?_ _) | (with_reducible refine bl_al ?_ _) | (with_reducible refine bl_more ?_ _ _)))) HSL.out HE.out).mono ?_; rintro e w2 ⟨rfl, hb2⟩; obtain ⟨ex2, dx2, rfl⟩ := more_of hb2; clear hb2))
      go_ret
      rw [HB.out]
      exact dkTo_below HD.out rfl (by repeat (first | (with_reducible exact Below.refl _ _) | (with_reducible exact bl_mm) | (with_reducible refine bl_dr ?_) | (with_reducible refine bl_drN ?_ _) | (with_reducible refine bl_al ?_ _) | (with_reducible refine bl_more ?_ _ _)))
  · by_cases hi2 : (n : Int) ≤ i
    · have HB := hid (appB_bad hn (i := i) (e := (k, it, t, st)) (.inr (.inl hi2)))
      by_cases hE : rightE k it t st = true
      · have HE := hid hE
        clear h hs hC hr hK hsl hE hn
        go_enter Try.func22, Try.ntmps22
        go_wp2_with (first | (go_at_call 29; refine (width_any (HD.out.below (by repeat (first | (with_reducible exact Below.refl _ _) | (with_reducible exact bl_mm) | (with_reducible refine bl_dr ?_) | (with_reducible refine bl_drN ?_ _) | (with_reducible refine bl_al ?_ _) | (with_reducible refine bl_more ?_ _ _)))) HS.out.n1 HS.out.n2).mono ?_; rintro e w1 ⟨rfl, hb1⟩; obtain ⟨ex1, dx1, rfl⟩ := more_of hb1; clear hb1; rw [HN.out]) | (go_at_call 41; refine (ebytes_any (HR.out.below (by repeat (first | (with_reducible exact Below.refl _ _) | (with_reducible exact bl_mm) | (with_reducible refine bl_dr ?_) | (with_reducible refine bl_drN ?_ _) | (with_reducible refine bl_al ?_ _) | (with_reducible refine bl_more ?_ _ _)))) (fun _ hb => Nat.lt_of_lt_of_le (HK.out _ hb) (by simp [more_size]; omega)) HE.out).mono ?_; rintro e w2 ⟨v2, g2, rfl, hm2⟩; obtain ⟨A2, c2, rfl, _, _⟩ := hm2.sp.form; have HM2 := hid hm2; obtain ⟨ex2, dx2, rfl⟩ := more_of hm2.low; clear hm2))
        go_ret
        rw [HB.out]
        exact dkTo_below HD.out rfl (by repeat (first | (with_reducible exact Below.refl _ _) | (with_reducible exact bl_mm) | (with_reducible refine bl_dr ?_) | (with_reducible refine bl_drN ?_ _) | (with_reducible refine bl_al ?_ _) | (with_reducible refine bl_more ?_ _ _)))
      · have HE := hid ((Bool.not_eq_true _).mp hE)
        clear h hs hC hr hK hsl hE hn
        go_enter Try.func22, Try.ntmps22
        go_wp2_with (first | (go_at_call 29; refine (width_any (HD.out.below (by repeat (first | (with_reducible exact Below.refl _ _) | (with_reducible exact bl_mm) | (with_reducible refine bl_dr ?_) | (with_reducible refine bl_drN ?_ _) | (with_reducible refine bl_al ?_ _) | (with_reducible refine bl_more ?_ _ _)))) HS.out.n1 HS.out.n2).mono ?_; rintro e w1 ⟨rfl, hb1⟩; obtain ⟨ex1, dx1, rfl⟩ := more_of hb1; clear hb1; rw [HN.out]) | (go_at_call 41; refine (ebytes_bad (HR.out.below (by repeat (first | (with_reducible exact Below.refl _ _) | (with_reducible exact bl_mm) | (with_reducible refine bl_dr ?_) | (with_reducible refine bl_drN ?_ _) | (with_reducible refine bl_al ?_ _) | (with_reducible refine bl_more ?_ _ _)))) HSL.out HE.out).mono ?_; rintro e w2 ⟨rfl, hb2⟩; obtain ⟨ex2, dx2, rfl⟩ := more_of hb2; clear hb2))
        go_ret
        rw [HB.out]
        exact dkTo_below HD.out rfl (by repeat (first | (with_reducible exact Below.refl _ _) | (with_reducible exact bl_mm) | (with_reducible refine bl_dr ?_) | (with_reducible refine bl_drN ?_ _) | (with_reducible refine bl_al ?_ _) | (with_reducible refine bl_more ?_ _ _)))
    · by_cases hE : rightE k it t st = true
      · have HE := hid hE
        by_cases hlen : st.length = n
        · have HB := hid (appB_ok hn (i := i) (e := (k, it, t, st)) hi1 hi2 hE hlen)
          have hk := rightE_k hE
          have HBI := hid (bytesE_in (i := it) (t := t) (st := st) (k := k) (by omega))
          have HBL : Hid ((bytesE k it t st).length ≤ 1024) := hid (by have := bytesE_len hE; omega)
          obtain ⟨l, hl⟩ : ∃ l, ofI (frameL (bytesE k it t st)) = l := ⟨_, rfl⟩
          have HFL : Hid ((frameL (bytesE k it t st)).length = l.length) := hid (by rw [← hl, ofI_len])
          have HLL := hid hl
          subst hlen
          clear h hs hC hr hK hsl hE hn hk hl
          go_enter Try.func22, Try.ntmps22
          go_wp2_with (first | (go_at_call 29; refine (width_any (HD.out.below (by repeat (first | (with_reducible exact Below.refl _ _) | (with_reducible exact bl_mm) | (with_reducible refine bl_dr ?_) | (with_reducible refine bl_drN ?_ _) | (with_reducible refine bl_al ?_ _) | (with_reducible refine bl_more ?_ _ _)))) HS.out.n1 HS.out.n2).mono ?_; rintro e w1 ⟨rfl, hb1⟩; obtain ⟨ex1, dx1, rfl⟩ := more_of hb1; clear hb1; rw [HN.out]) | (go_at_call 41; refine (ebytes_any (HR.out.below (by repeat (first | (with_reducible exact Below.refl _ _) | (with_reducible exact bl_mm) | (with_reducible refine bl_dr ?_) | (with_reducible refine bl_drN ?_ _) | (with_reducible refine bl_al ?_ _) | (with_reducible refine bl_more ?_ _ _)))) (fun _ hb => Nat.lt_of_lt_of_le (HK.out _ hb) (by simp [more_size]; omega)) HE.out).mono ?_; rintro e w2 ⟨v2, g2, rfl, hm2⟩; obtain ⟨A2, c2, rfl, _, _⟩ := hm2.sp.form; have HM2 := hid hm2; obtain ⟨ex2, dx2, rfl⟩ := more_of hm2.low; clear hm2) | (go_at_call 42; refine (fput_any (g := 0) (xs := []) (N := (more (more (w.alloc (Obj.cells #[Value.int .i64 k, Value.int .i64 it, Value.int .i64 t, Value.slice A st.length c] 52)) ex1 dx1) ex2 dx2).heap.size) (w0 := more (more (w.alloc (Obj.cells #[Value.int .i64 k, Value.int .i64 it, Value.int .i64 t, Value.slice A st.length c] 52)) ex1 dx1) ex2 dx2) (K := fun _ => True) (Enc.Spine.nil _ _ _ _ _) (Nat.le_refl _) (Below.refl _ _) ((HM2.out.below (by repeat (first | (with_reducible exact Below.refl _ _) | (with_reducible exact bl_mm) | (with_reducible refine bl_dr ?_) | (with_reducible refine bl_drN ?_ _) | (with_reducible refine bl_al ?_ _) | (with_reducible refine bl_more ?_ _ _)))).sp.row (fun _ h _ => h.elim) trivial) HBI.out HBL.out (by simp)).mono ?_; rintro e w3 ⟨v3, g3, rfl, hm3, hg3⟩; obtain ⟨A3, c3, hv3, _, _⟩ := hm3.sp.form; rw [List.nil_append] at hm3 hv3; rw [HFL.out] at hv3; subst hv3; have HM3 := hid (And.intro hm3 hg3); obtain ⟨ex3, dx3, rfl⟩ := more_of hm3.low; clear hm3 hg3) | (go_at_call 37; refine (append_all (K := fun b => b ≠ d) (HD.out.below (by repeat (first | (with_reducible exact Below.refl _ _) | (with_reducible exact bl_mm) | (with_reducible refine bl_dr ?_) | (with_reducible refine bl_drN ?_ _) | (with_reducible refine bl_al ?_ _) | (with_reducible refine bl_more ?_ _ _)))) HS.out HC.out i (by have hro := row_ofI ((HM3.out.1.below (by repeat (first | (with_reducible exact Below.refl _ _) | (with_reducible exact bl_mm) | (with_reducible refine bl_dr ?_) | (with_reducible refine bl_drN ?_ _) | (with_reducible refine bl_al ?_ _) | (with_reducible refine bl_more ?_ _ _)))).sp.row (K' := fun b => b ≠ d) (fun _ h _ => h.elim) (by have q1 := HM3.out.2; have q2 := HD.out.lt; simp [more_size] at q1; show g3 ≠ d; omega)) (frameL_in HBI.out HBL.out); rw [HLL.out] at hro; exact hro) (fun b hb => hb)).mono ?_; rintro e w4 ⟨rfl, hd4, he4⟩))
          go_ret
          rw [HB.out]
          simp only
          rw [HLL.out]
          exact dkTo_after (W := more (more (more (w.alloc (Obj.cells #[Value.int .i64 k, Value.int .i64 it, Value.int .i64 t, Value.slice A st.length c] 52)) ex1 dx1) ex2 dx2) ex3 dx3) (by repeat (first | (with_reducible exact Below.refl _ _) | (with_reducible exact bl_mm) | (with_reducible refine bl_dr ?_) | (with_reducible refine bl_drN ?_ _) | (with_reducible refine bl_al ?_ _) | (with_reducible refine bl_more ?_ _ _))) ⟨rfl, hd4, he4⟩
        · have HB := hid (appB_bad hn (i := i) (e := (k, it, t, st)) (.inr (.inr (.inr hlen))))
          have hlb : ((st.length : Int) != (n : Int)) = true := by simp only [bne_iff_ne, ne_eq]; omega
          clear h hs hC hr hK hsl hE hn hlen
          go_enter Try.func22, Try.ntmps22
          go_wp2_with (first | (go_at_call 29; refine (width_any (HD.out.below (by repeat (first | (with_reducible exact Below.refl _ _) | (with_reducible exact bl_mm) | (with_reducible refine bl_dr ?_) | (with_reducible refine bl_drN ?_ _) | (with_reducible refine bl_al ?_ _) | (with_reducible refine bl_more ?_ _ _)))) HS.out.n1 HS.out.n2).mono ?_; rintro e w1 ⟨rfl, hb1⟩; obtain ⟨ex1, dx1, rfl⟩ := more_of hb1; clear hb1; rw [HN.out]) | (go_at_call 41; refine (ebytes_any (HR.out.below (by repeat (first | (with_reducible exact Below.refl _ _) | (with_reducible exact bl_mm) | (with_reducible refine bl_dr ?_) | (with_reducible refine bl_drN ?_ _) | (with_reducible refine bl_al ?_ _) | (with_reducible refine bl_more ?_ _ _)))) (fun _ hb => Nat.lt_of_lt_of_le (HK.out _ hb) (by simp [more_size]; omega)) HE.out).mono ?_; rintro e w2 ⟨v2, g2, rfl, hm2⟩; obtain ⟨A2, c2, rfl, _, _⟩ := hm2.sp.form; have HM2 := hid hm2; obtain ⟨ex2, dx2, rfl⟩ := more_of hm2.low; clear hm2))
          go_ret
          rw [HB.out]
          exact dkTo_below HD.out rfl (by repeat (first | (with_reducible exact Below.refl _ _) | (with_reducible exact bl_mm) | (with_reducible refine bl_dr ?_) | (with_reducible refine bl_drN ?_ _) | (with_reducible refine bl_al ?_ _) | (with_reducible refine bl_more ?_ _ _)))
      · have HE := hid ((Bool.not_eq_true _).mp hE)
        have HB := hid (appB_bad hn (i := i) (e := (k, it, t, st)) (.inr (.inr (.inl HE.out))))
        clear h hs hC hr hK hsl hE hn
        go_enter Try.func22, Try.ntmps22
        go_wp2_with (first | (go_at_call 29; refine (width_any (HD.out.below (by repeat (first | (with_reducible exact Below.refl _ _) | (with_reducible exact bl_mm) | (with_reducible refine bl_dr ?_) | (with_reducible refine bl_drN ?_ _) | (with_reducible refine bl_al ?_ _) | (with_reducible refine bl_more ?_ _ _)))) HS.out.n1 HS.out.n2).mono ?_; rintro e w1 ⟨rfl, hb1⟩; obtain ⟨ex1, dx1, rfl⟩ := more_of hb1; clear hb1; rw [HN.out]) | (go_at_call 41; refine (ebytes_bad (HR.out.below (by repeat (first | (with_reducible exact Below.refl _ _) | (with_reducible exact bl_mm) | (with_reducible refine bl_dr ?_) | (with_reducible refine bl_drN ?_ _) | (with_reducible refine bl_al ?_ _) | (with_reducible refine bl_more ?_ _ _)))) HSL.out HE.out).mono ?_; rintro e w2 ⟨rfl, hb2⟩; obtain ⟨ex2, dx2, rfl⟩ := more_of hb2; clear hb2))
        go_ret
        rw [HB.out]
        exact dkTo_below HD.out rfl (by repeat (first | (with_reducible exact Below.refl _ _) | (with_reducible exact bl_mm) | (with_reducible refine bl_dr ?_) | (with_reducible refine bl_drN ?_ _) | (with_reducible refine bl_al ?_ _) | (with_reducible refine bl_more ?_ _ _)))
end Go.Proofs.Ytgpcgndmdkgbdaa

/- A text begun. -/
namespace Go.Proofs.Ytgpcgndmdkgbdaa
open Go.RowKit Go.Shelf

def fileB (s : DS) (i : Nat) : List UInt8 := (s.fs.getD i ⟨[], 0⟩).b
/-- What is put down, behind the cut. -/
def putS (s : DS) (i : Nat) (text : ByteArray) : DS × Int := if (appR s i (ofI (laidL text))).2 ≠ 0 then appR s i (ofI (laidL text)) else syncR (appR s i (ofI (laidL text))).1 i
/-- A text begun, as the code does it. -/
def beginS (s : DS) (text : ByteArray) : DS × Int :=
  if 65536 < text.size then (s, 5)
  else if (toldV (byt (fileB s (s.fs.length - 1)))).2 = 0 then (s, 7)
  else if fileB s (s.fs.length - 1) = [] then putS s (s.fs.length - 1) text
  else if (cutR s (s.fs.length - 1 : Nat) 0).2 ≠ 0 then cutR s (s.fs.length - 1 : Nat) 0 else putS (cutR s (s.fs.length - 1 : Nat) 0).1 (s.fs.length - 1) text
theorem dkTo_step {w w1 W w2 : World} {d : Nat} {G : Nat → Prop} {p : DS × Int} {e : Ending} (he : Ext (fun b => b = d ∨ G b) w w1) (hb : Below w1.heap.size w1 W) (h : DkTo W d (fun b => G b ∨ w.heap.size ≤ b) p e w2) : DkTo w d G p e w2 := by
  have h1 := he.size
  have h2 := hb.size
  refine ⟨h.1, h.2.1.mono (fun b hb _ => ?_), (he.more_ hb).trans h.2.2 (fun x hx hx2 => ?_)⟩
  · rcases hb with (h | h) | h
    · exact .inl h
    · exact .inr h
    · exact .inr (by omega)
  · rcases hx2 with h | h | h
    · exact .inl h
    · exact .inr h
    · omega
theorem laidL_ne (s : ByteArray) : laidL s ≠ [] := by
  unfold laidL pieces
  rw [pcB_succ]
  split
  · intro h
    have := congrArg List.length h
    simp [flL, frameL_len] at this
  · intro h
    have := congrArg List.length h
    simp [flL, frameL_len] at this
theorem frameL_in' {P : List ByteArray} (h : ∀ p ∈ P, p.size ≤ 1000) : ∀ b ∈ flL P, 0 ≤ b ∧ b < 256 := by
  intro b hb
  obtain ⟨p, hp, hb⟩ := List.mem_flatMap.1 hb
  exact frameL_in (byt_in _) (by have := h p hp; have e : (byt p.data.toList).length = p.size := sbs_len p; rw [e]; omega) b hb
theorem laidL_in (s : ByteArray) : ∀ b ∈ laidL s, 0 ≤ b ∧ b < 256 := frameL_in' (pcB_len _ _ (by omega)).2
set_option maxRecDepth 8000 in
set_option maxHeartbeats 4000000 in
theorem begin_any {w : World} {d : Nat} {G : Nat → Prop} {s : DS} {C : Int} {text : ByteArray} (h : Dk w d G s) (hs : s.Ok C) (hC : C ≤ 1000000000) (htx : text.size ≤ 100000000) :
    Calls Try.prog 15 #[.pointer (some ⟨d, 0, none⟩), .string text] w (DkTo w d G (beginS s text)) := by
  have HD := hid h
  have HS := hid hs
  have HC := hid hC
  obtain ⟨n, hn⟩ : ∃ n, s.fs.length - 1 = n := ⟨_, rfl⟩
  have HN := hid hn
  have hn1 := hs.n1
  have HI : Hid (n + 1 = s.fs.length) := hid (by omega)
  have HI2 : Hid (n < s.fs.length) := hid (by omega)
  obtain ⟨B, hB⟩ : ∃ B, (s.fs[n]'HI2.out).b = B := ⟨_, rfl⟩
  have HB2 := hid hB
  have hfB : fileB s n = B := by unfold fileB; rw [← hB]; simp [HI2.out]
  have hbs : beginS s text = if 65536 < text.size then (s, 5) else if (toldV (byt B)).2 = 0 then (s, 7) else if B = [] then putS s n text else if (cutR s n 0).2 ≠ 0 then cutR s n 0 else putS (cutR s n 0).1 n text := by
    unfold beginS
    rw [hn, hfB]
  rw [hbs]
  obtain ⟨T, e0, hT⟩ : ∃ T e0, toldV (byt B) = (T, e0) := ⟨_, _, rfl⟩
  have HT := hid hT
  rw [hT]
  simp only
  have hn0 : ¬ (n : Int) < 0 := by omega
  by_cases hbig : 65536 < text.size
  · rw [if_pos hbig]
    have hb1 : (65536 : Int) < (text.size : Int) := by omega
    clear h hs hC htx hn hB hfB hbs hT hbig
    go_enter Try.func15, Try.ntmps15
    go_wp2_with (first | (go_at_call 29; refine (width_any (HD.out.below (by repeat (first | (with_reducible exact Below.refl _ _) | (with_reducible exact bl_mm) | (with_reducible refine bl_dr ?_) | (with_reducible refine bl_drN ?_ _) | (with_reducible refine bl_al ?_ _) | (with_reducible refine bl_more ?_ _ _)))) HS.out.n1 HS.out.n2).mono ?_; rintro e w1 ⟨rfl, hb1⟩; obtain ⟨ex1, dx1, rfl⟩ := more_of hb1; clear hb1; rw [HN.out]) | (go_at_call 17; refine (told_any (HD.out.below (by repeat (first | (with_reducible exact Below.refl _ _) | (with_reducible exact bl_mm) | (with_reducible refine bl_dr ?_) | (with_reducible refine bl_drN ?_ _) | (with_reducible refine bl_al ?_ _) | (with_reducible refine bl_more ?_ _ _)))) HS.out HC.out HI.out HB2.out).mono ?_; rintro e w2 ⟨rfl, hb2⟩; rw [HT.out]; obtain ⟨ex2, dx2, rfl⟩ := more_of hb2; clear hb2))
    go_ret
    exact dkTo_below HD.out rfl (by repeat (first | (with_reducible exact Below.refl _ _) | (with_reducible exact bl_mm) | (with_reducible refine bl_dr ?_) | (with_reducible refine bl_drN ?_ _) | (with_reducible refine bl_al ?_ _) | (with_reducible refine bl_more ?_ _ _)))
  · rw [if_neg hbig]
    have hb1 : ¬ (65536 : Int) < (text.size : Int) := by omega
    by_cases he0 : e0 = 0
    · rw [if_pos he0]
      subst he0
      clear h hs hC htx hn hB hfB hbs hT hbig
      go_enter Try.func15, Try.ntmps15
      go_wp2_with (first | (go_at_call 29; refine (width_any (HD.out.below (by repeat (first | (with_reducible exact Below.refl _ _) | (with_reducible exact bl_mm) | (with_reducible refine bl_dr ?_) | (with_reducible refine bl_drN ?_ _) | (with_reducible refine bl_al ?_ _) | (with_reducible refine bl_more ?_ _ _)))) HS.out.n1 HS.out.n2).mono ?_; rintro e w1 ⟨rfl, hb1⟩; obtain ⟨ex1, dx1, rfl⟩ := more_of hb1; clear hb1; rw [HN.out]) | (go_at_call 17; refine (told_any (HD.out.below (by repeat (first | (with_reducible exact Below.refl _ _) | (with_reducible exact bl_mm) | (with_reducible refine bl_dr ?_) | (with_reducible refine bl_drN ?_ _) | (with_reducible refine bl_al ?_ _) | (with_reducible refine bl_more ?_ _ _)))) HS.out HC.out HI.out HB2.out).mono ?_; rintro e w2 ⟨rfl, hb2⟩; rw [HT.out]; obtain ⟨ex2, dx2, rfl⟩ := more_of hb2; clear hb2))
      go_ret
      exact dkTo_below HD.out rfl (by repeat (first | (with_reducible exact Below.refl _ _) | (with_reducible exact bl_mm) | (with_reducible refine bl_dr ?_) | (with_reducible refine bl_drN ?_ _) | (with_reducible refine bl_al ?_ _) | (with_reducible refine bl_more ?_ _ _)))
    · rw [if_neg he0]
      have heb : (e0 == 0) = false := by simpa using he0
      have HTX : Hid (text.size ≤ 100000000) := hid htx
      obtain ⟨l, hl⟩ : ∃ l, ofI (laidL text) = l := ⟨_, rfl⟩
      have HLL := hid hl
      have HFL : Hid ((laidL text).length = l.length) := hid (by rw [← hl, ofI_len])
      have hput : ∀ s' : DS, putS s' n text = if (appR s' n l).2 ≠ 0 then appR s' n l else syncR (appR s' n l).1 n := fun s' => by unfold putS; rw [hl]
      by_cases hB0 : B = []
      · rw [if_pos hB0, hput]
        have hB1 : ¬ (0 : Int) < (B.length : Int) := by rw [hB0]; simp
        obtain ⟨s5, e5, happ⟩ : ∃ s5 e5, appR s n l = (s5, e5) := ⟨_, _, rfl⟩
        have HAPP := hid happ
        have HS5 : Hid (s5.Ok C) := hid (by have := app_ok hs n l; rw [happ] at this; exact this)
        rw [happ]
        simp only
        by_cases h5 : e5 = 0
        · subst h5
          rw [if_neg (by simp)]
          clear h hs hC htx hn hB hfB hbs hT hbig hl hput hB0 happ he0
          go_enter Try.func15, Try.ntmps15
          go_wp2_with (first | (go_at_call 29; refine (width_any (HD.out.below (by repeat (first | (with_reducible exact Below.refl _ _) | (with_reducible exact bl_mm) | (with_reducible refine bl_dr ?_) | (with_reducible refine bl_drN ?_ _) | (with_reducible refine bl_al ?_ _) | (with_reducible refine bl_more ?_ _ _)))) HS.out.n1 HS.out.n2).mono ?_; rintro e w1 ⟨rfl, hb1⟩; obtain ⟨ex1, dx1, rfl⟩ := more_of hb1; clear hb1; rw [HN.out]) | (go_at_call 17; refine (told_any (HD.out.below (by repeat (first | (with_reducible exact Below.refl _ _) | (with_reducible exact bl_mm) | (with_reducible refine bl_dr ?_) | (with_reducible refine bl_drN ?_ _) | (with_reducible refine bl_al ?_ _) | (with_reducible refine bl_more ?_ _ _)))) HS.out HC.out HI.out HB2.out).mono ?_; rintro e w2 ⟨rfl, hb2⟩; rw [HT.out]; obtain ⟨ex2, dx2, rfl⟩ := more_of hb2; clear hb2) | (go_at_call 12; refine (read_any (HD.out.below (by repeat (first | (with_reducible exact Below.refl _ _) | (with_reducible exact bl_mm) | (with_reducible refine bl_dr ?_) | (with_reducible refine bl_drN ?_ _) | (with_reducible refine bl_al ?_ _) | (with_reducible refine bl_more ?_ _ _)))) HS.out HC.out n HI2.out).mono ?_; rintro e w3 ⟨v3, rfl, hr3, hb3⟩; rw [HB2.out] at hr3; obtain ⟨A3, c3, rfl, _, _⟩ := hr3.form; clear hr3; obtain ⟨ex3, dx3, rfl⟩ := more_of hb3; clear hb3) | (go_at_call 38; refine (laid_any HTX.out).mono ?_; rintro e w4 ⟨v4, g4, rfl, hs4, hg4, hb4⟩; obtain ⟨A4, c4, hv4, _, _⟩ := hs4.form; rw [HFL.out] at hv4; subst hv4; have HS4 := hid (And.intro hs4 hg4); obtain ⟨ex4, dx4, rfl⟩ := more_of hb4; clear hs4 hg4 hb4) | (go_at_call 37; refine (append_all (K := fun b => b ≠ d) (HD.out.below (by repeat (first | (with_reducible exact Below.refl _ _) | (with_reducible exact bl_mm) | (with_reducible refine bl_dr ?_) | (with_reducible refine bl_drN ?_ _) | (with_reducible refine bl_al ?_ _) | (with_reducible refine bl_more ?_ _ _)))) HS.out HC.out n (by have hro := row_ofI (Spine_rowN (K' := fun b => b ≠ d) (HS4.out.1.below (by repeat (first | (with_reducible exact Below.refl _ _) | (with_reducible exact bl_mm) | (with_reducible refine bl_dr ?_) | (with_reducible refine bl_drN ?_ _) | (with_reducible refine bl_al ?_ _) | (with_reducible refine bl_more ?_ _ _)))) (fun hx => by have q1 := HS4.out.2 (capOf_ne HS4.out.1 hx); have q2 := HD.out.lt; (try simp [more_size] at q1); show g4 ≠ d; omega)) (laidL_in text); rw [HLL.out] at hro; exact hro) (fun b hb => hb)).mono ?_; rintro e w5 ⟨rfl, hd5, he5⟩; rw [HAPP.out] at hd5 ⊢; have HD5 := hid (And.intro hd5 he5); clear hd5 he5) | (go_at_call 28; refine (sync_all (HD5.out.1.below (by repeat (first | (with_reducible exact Below.refl _ _) | (with_reducible exact bl_mm) | (with_reducible refine bl_dr ?_) | (with_reducible refine bl_drN ?_ _) | (with_reducible refine bl_al ?_ _) | (with_reducible refine bl_more ?_ _ _)))) HS5.out HC.out n).mono ?_; rintro e w6 ⟨rfl, hd6, he6⟩))
          go_ret
          exact dkTo_after (by repeat (first | (with_reducible exact Below.refl _ _) | (with_reducible exact bl_mm) | (with_reducible refine bl_dr ?_) | (with_reducible refine bl_drN ?_ _) | (with_reducible refine bl_al ?_ _) | (with_reducible refine bl_more ?_ _ _))) (dkTo_step HD5.out.2 (Below.refl _ _) ⟨rfl, hd6, he6⟩)
        · rw [if_pos h5]
          have h5b : (e5 != 0) = true := by simpa using h5
          clear h hs hC htx hn hB hfB hbs hT hbig hl hput hB0 happ he0 h5
          go_enter Try.func15, Try.ntmps15
          go_wp2_with (first | (go_at_call 29; refine (width_any (HD.out.below (by repeat (first | (with_reducible exact Below.refl _ _) | (with_reducible exact bl_mm) | (with_reducible refine bl_dr ?_) | (with_reducible refine bl_drN ?_ _) | (with_reducible refine bl_al ?_ _) | (with_reducible refine bl_more ?_ _ _)))) HS.out.n1 HS.out.n2).mono ?_; rintro e w1 ⟨rfl, hb1⟩; obtain ⟨ex1, dx1, rfl⟩ := more_of hb1; clear hb1; rw [HN.out]) | (go_at_call 17; refine (told_any (HD.out.below (by repeat (first | (with_reducible exact Below.refl _ _) | (with_reducible exact bl_mm) | (with_reducible refine bl_dr ?_) | (with_reducible refine bl_drN ?_ _) | (with_reducible refine bl_al ?_ _) | (with_reducible refine bl_more ?_ _ _)))) HS.out HC.out HI.out HB2.out).mono ?_; rintro e w2 ⟨rfl, hb2⟩; rw [HT.out]; obtain ⟨ex2, dx2, rfl⟩ := more_of hb2; clear hb2) | (go_at_call 12; refine (read_any (HD.out.below (by repeat (first | (with_reducible exact Below.refl _ _) | (with_reducible exact bl_mm) | (with_reducible refine bl_dr ?_) | (with_reducible refine bl_drN ?_ _) | (with_reducible refine bl_al ?_ _) | (with_reducible refine bl_more ?_ _ _)))) HS.out HC.out n HI2.out).mono ?_; rintro e w3 ⟨v3, rfl, hr3, hb3⟩; rw [HB2.out] at hr3; obtain ⟨A3, c3, rfl, _, _⟩ := hr3.form; clear hr3; obtain ⟨ex3, dx3, rfl⟩ := more_of hb3; clear hb3) | (go_at_call 38; refine (laid_any HTX.out).mono ?_; rintro e w4 ⟨v4, g4, rfl, hs4, hg4, hb4⟩; obtain ⟨A4, c4, hv4, _, _⟩ := hs4.form; rw [HFL.out] at hv4; subst hv4; have HS4 := hid (And.intro hs4 hg4); obtain ⟨ex4, dx4, rfl⟩ := more_of hb4; clear hs4 hg4 hb4) | (go_at_call 37; refine (append_all (K := fun b => b ≠ d) (HD.out.below (by repeat (first | (with_reducible exact Below.refl _ _) | (with_reducible exact bl_mm) | (with_reducible refine bl_dr ?_) | (with_reducible refine bl_drN ?_ _) | (with_reducible refine bl_al ?_ _) | (with_reducible refine bl_more ?_ _ _)))) HS.out HC.out n (by have hro := row_ofI (Spine_rowN (K' := fun b => b ≠ d) (HS4.out.1.below (by repeat (first | (with_reducible exact Below.refl _ _) | (with_reducible exact bl_mm) | (with_reducible refine bl_dr ?_) | (with_reducible refine bl_drN ?_ _) | (with_reducible refine bl_al ?_ _) | (with_reducible refine bl_more ?_ _ _)))) (fun hx => by have q1 := HS4.out.2 (capOf_ne HS4.out.1 hx); have q2 := HD.out.lt; (try simp [more_size] at q1); show g4 ≠ d; omega)) (laidL_in text); rw [HLL.out] at hro; exact hro) (fun b hb => hb)).mono ?_; rintro e w5 ⟨rfl, hd5, he5⟩; rw [HAPP.out] at hd5 ⊢; have HD5 := hid (And.intro hd5 he5); clear hd5 he5))
          go_ret
          exact dkTo_after (by repeat (first | (with_reducible exact Below.refl _ _) | (with_reducible exact bl_mm) | (with_reducible refine bl_dr ?_) | (with_reducible refine bl_drN ?_ _) | (with_reducible refine bl_al ?_ _) | (with_reducible refine bl_more ?_ _ _))) ⟨rfl, HD5.out.1, HD5.out.2⟩
      · rw [if_neg hB0]
        have hB1 : (0 : Int) < (B.length : Int) := by have := List.length_pos_iff.2 hB0; omega
        obtain ⟨sc, ec, hcut⟩ : ∃ sc ec, cutR s n 0 = (sc, ec) := ⟨_, _, rfl⟩
        have HCUT := hid hcut
        have HSC : Hid (sc.Ok C) := hid (by have := cut_ok hs n 0; rw [hcut] at this; exact this)
        rw [hcut]
        simp only
        by_cases hc : ec = 0
        · subst hc
          rw [if_neg (by simp), hput]
          obtain ⟨s5, e5, happ⟩ : ∃ s5 e5, appR sc n l = (s5, e5) := ⟨_, _, rfl⟩
          have HAPP := hid happ
          have HS5 : Hid (s5.Ok C) := hid (by have := app_ok HSC.out n l; rw [happ] at this; exact this)
          rw [happ]
          simp only
          by_cases h5 : e5 = 0
          · subst h5
            rw [if_neg (by simp)]
            clear h hs hC htx hn hB hfB hbs hT hbig hl hput hB0 happ he0 hcut
            go_enter Try.func15, Try.ntmps15
            go_wp2_with (first | (go_at_call 29; refine (width_any (HD.out.below (by repeat (first | (with_reducible exact Below.refl _ _) | (with_reducible exact bl_mm) | (with_reducible refine bl_dr ?_) | (with_reducible refine bl_drN ?_ _) | (with_reducible refine bl_al ?_ _) | (with_reducible refine bl_more ?_ _ _)))) HS.out.n1 HS.out.n2).mono ?_; rintro e w1 ⟨rfl, hb1⟩; obtain ⟨ex1, dx1, rfl⟩ := more_of hb1; clear hb1; rw [HN.out]) | (go_at_call 17; refine (told_any (HD.out.below (by repeat (first | (with_reducible exact Below.refl _ _) | (with_reducible exact bl_mm) | (with_reducible refine bl_dr ?_) | (with_reducible refine bl_drN ?_ _) | (with_reducible refine bl_al ?_ _) | (with_reducible refine bl_more ?_ _ _)))) HS.out HC.out HI.out HB2.out).mono ?_; rintro e w2 ⟨rfl, hb2⟩; rw [HT.out]; obtain ⟨ex2, dx2, rfl⟩ := more_of hb2; clear hb2) | (go_at_call 12; refine (read_any (HD.out.below (by repeat (first | (with_reducible exact Below.refl _ _) | (with_reducible exact bl_mm) | (with_reducible refine bl_dr ?_) | (with_reducible refine bl_drN ?_ _) | (with_reducible refine bl_al ?_ _) | (with_reducible refine bl_more ?_ _ _)))) HS.out HC.out n HI2.out).mono ?_; rintro e w3 ⟨v3, rfl, hr3, hb3⟩; rw [HB2.out] at hr3; obtain ⟨A3, c3, rfl, _, _⟩ := hr3.form; clear hr3; obtain ⟨ex3, dx3, rfl⟩ := more_of hb3; clear hb3) | (go_at_call 36; refine (cut_all (HD.out.below (by repeat (first | (with_reducible exact Below.refl _ _) | (with_reducible exact bl_mm) | (with_reducible refine bl_dr ?_) | (with_reducible refine bl_drN ?_ _) | (with_reducible refine bl_al ?_ _) | (with_reducible refine bl_more ?_ _ _)))) HS.out HC.out n 0).mono ?_; rintro e wc ⟨rfl, hdc, hec⟩; rw [HCUT.out] at hdc ⊢; have HDC := hid (And.intro hdc hec); clear hdc hec) | (go_at_call 38; refine (laid_any HTX.out).mono ?_; rintro e w4 ⟨v4, g4, rfl, hs4, hg4, hb4⟩; obtain ⟨A4, c4, hv4, _, _⟩ := hs4.form; rw [HFL.out] at hv4; subst hv4; have HS4 := hid (And.intro hs4 hg4); obtain ⟨ex4, dx4, rfl⟩ := more_of hb4; clear hs4 hg4 hb4) | (go_at_call 37; refine (append_all (K := fun b => b ≠ d) (HDC.out.1.below (by repeat (first | (with_reducible exact Below.refl _ _) | (with_reducible exact bl_mm) | (with_reducible refine bl_dr ?_) | (with_reducible refine bl_drN ?_ _) | (with_reducible refine bl_al ?_ _) | (with_reducible refine bl_more ?_ _ _)))) HSC.out HC.out n (by have hro := row_ofI (Spine_rowN (K' := fun b => b ≠ d) (HS4.out.1.below (by repeat (first | (with_reducible exact Below.refl _ _) | (with_reducible exact bl_mm) | (with_reducible refine bl_dr ?_) | (with_reducible refine bl_drN ?_ _) | (with_reducible refine bl_al ?_ _) | (with_reducible refine bl_more ?_ _ _)))) (fun hx => by have q1 := HS4.out.2 (capOf_ne HS4.out.1 hx); have q2 := HDC.out.1.lt; (try simp [more_size] at q1); show g4 ≠ d; omega)) (laidL_in text); rw [HLL.out] at hro; exact hro) (fun b hb => hb)).mono ?_; rintro e w5 ⟨rfl, hd5, he5⟩; rw [HAPP.out] at hd5 ⊢; have HD5 := hid (And.intro hd5 he5); clear hd5 he5) | (go_at_call 28; refine (sync_all (HD5.out.1.below (by repeat (first | (with_reducible exact Below.refl _ _) | (with_reducible exact bl_mm) | (with_reducible refine bl_dr ?_) | (with_reducible refine bl_drN ?_ _) | (with_reducible refine bl_al ?_ _) | (with_reducible refine bl_more ?_ _ _)))) HS5.out HC.out n).mono ?_; rintro e w6 ⟨rfl, hd6, he6⟩))
            go_ret
            exact dkTo_after (by repeat (first | (with_reducible exact Below.refl _ _) | (with_reducible exact bl_mm) | (with_reducible refine bl_dr ?_) | (with_reducible refine bl_drN ?_ _) | (with_reducible refine bl_al ?_ _) | (with_reducible refine bl_more ?_ _ _))) (dkTo_step HDC.out.2 (by repeat (first | (with_reducible exact Below.refl _ _) | (with_reducible exact bl_mm) | (with_reducible refine bl_dr ?_) | (with_reducible refine bl_drN ?_ _) | (with_reducible refine bl_al ?_ _) | (with_reducible refine bl_more ?_ _ _))) (dkTo_step HD5.out.2 (Below.refl _ _) ⟨rfl, hd6, he6⟩))
          · rw [if_pos h5]
            have h5b : (e5 != 0) = true := by simpa using h5
            clear h hs hC htx hn hB hfB hbs hT hbig hl hput hB0 happ he0 hcut h5
            go_enter Try.func15, Try.ntmps15
            go_wp2_with (first | (go_at_call 29; refine (width_any (HD.out.below (by repeat (first | (with_reducible exact Below.refl _ _) | (with_reducible exact bl_mm) | (with_reducible refine bl_dr ?_) | (with_reducible refine bl_drN ?_ _) | (with_reducible refine bl_al ?_ _) | (with_reducible refine bl_more ?_ _ _)))) HS.out.n1 HS.out.n2).mono ?_; rintro e w1 ⟨rfl, hb1⟩; obtain ⟨ex1, dx1, rfl⟩ := more_of hb1; clear hb1; rw [HN.out]) | (go_at_call 17; refine (told_any (HD.out.below (by repeat (first | (with_reducible exact Below.refl _ _) | (with_reducible exact bl_mm) | (with_reducible refine bl_dr ?_) | (with_reducible refine bl_drN ?_ _) | (with_reducible refine bl_al ?_ _) | (with_reducible refine bl_more ?_ _ _)))) HS.out HC.out HI.out HB2.out).mono ?_; rintro e w2 ⟨rfl, hb2⟩; rw [HT.out]; obtain ⟨ex2, dx2, rfl⟩ := more_of hb2; clear hb2) | (go_at_call 12; refine (read_any (HD.out.below (by repeat (first | (with_reducible exact Below.refl _ _) | (with_reducible exact bl_mm) | (with_reducible refine bl_dr ?_) | (with_reducible refine bl_drN ?_ _) | (with_reducible refine bl_al ?_ _) | (with_reducible refine bl_more ?_ _ _)))) HS.out HC.out n HI2.out).mono ?_; rintro e w3 ⟨v3, rfl, hr3, hb3⟩; rw [HB2.out] at hr3; obtain ⟨A3, c3, rfl, _, _⟩ := hr3.form; clear hr3; obtain ⟨ex3, dx3, rfl⟩ := more_of hb3; clear hb3) | (go_at_call 36; refine (cut_all (HD.out.below (by repeat (first | (with_reducible exact Below.refl _ _) | (with_reducible exact bl_mm) | (with_reducible refine bl_dr ?_) | (with_reducible refine bl_drN ?_ _) | (with_reducible refine bl_al ?_ _) | (with_reducible refine bl_more ?_ _ _)))) HS.out HC.out n 0).mono ?_; rintro e wc ⟨rfl, hdc, hec⟩; rw [HCUT.out] at hdc ⊢; have HDC := hid (And.intro hdc hec); clear hdc hec) | (go_at_call 38; refine (laid_any HTX.out).mono ?_; rintro e w4 ⟨v4, g4, rfl, hs4, hg4, hb4⟩; obtain ⟨A4, c4, hv4, _, _⟩ := hs4.form; rw [HFL.out] at hv4; subst hv4; have HS4 := hid (And.intro hs4 hg4); obtain ⟨ex4, dx4, rfl⟩ := more_of hb4; clear hs4 hg4 hb4) | (go_at_call 37; refine (append_all (K := fun b => b ≠ d) (HDC.out.1.below (by repeat (first | (with_reducible exact Below.refl _ _) | (with_reducible exact bl_mm) | (with_reducible refine bl_dr ?_) | (with_reducible refine bl_drN ?_ _) | (with_reducible refine bl_al ?_ _) | (with_reducible refine bl_more ?_ _ _)))) HSC.out HC.out n (by have hro := row_ofI (Spine_rowN (K' := fun b => b ≠ d) (HS4.out.1.below (by repeat (first | (with_reducible exact Below.refl _ _) | (with_reducible exact bl_mm) | (with_reducible refine bl_dr ?_) | (with_reducible refine bl_drN ?_ _) | (with_reducible refine bl_al ?_ _) | (with_reducible refine bl_more ?_ _ _)))) (fun hx => by have q1 := HS4.out.2 (capOf_ne HS4.out.1 hx); have q2 := HDC.out.1.lt; (try simp [more_size] at q1); show g4 ≠ d; omega)) (laidL_in text); rw [HLL.out] at hro; exact hro) (fun b hb => hb)).mono ?_; rintro e w5 ⟨rfl, hd5, he5⟩; rw [HAPP.out] at hd5 ⊢; have HD5 := hid (And.intro hd5 he5); clear hd5 he5))
            go_ret
            exact dkTo_after (by repeat (first | (with_reducible exact Below.refl _ _) | (with_reducible exact bl_mm) | (with_reducible refine bl_dr ?_) | (with_reducible refine bl_drN ?_ _) | (with_reducible refine bl_al ?_ _) | (with_reducible refine bl_more ?_ _ _))) (dkTo_step HDC.out.2 (by repeat (first | (with_reducible exact Below.refl _ _) | (with_reducible exact bl_mm) | (with_reducible refine bl_dr ?_) | (with_reducible refine bl_drN ?_ _) | (with_reducible refine bl_al ?_ _) | (with_reducible refine bl_more ?_ _ _))) ⟨rfl, HD5.out.1, HD5.out.2⟩)
        · rw [if_pos hc]
          have hcb : (ec != 0) = true := by simpa using hc
          clear h hs hC htx hn hB hfB hbs hT hbig hl hput hB0 he0 hcut hc
          go_enter Try.func15, Try.ntmps15
          go_wp2_with (first | (go_at_call 29; refine (width_any (HD.out.below (by repeat (first | (with_reducible exact Below.refl _ _) | (with_reducible exact bl_mm) | (with_reducible refine bl_dr ?_) | (with_reducible refine bl_drN ?_ _) | (with_reducible refine bl_al ?_ _) | (with_reducible refine bl_more ?_ _ _)))) HS.out.n1 HS.out.n2).mono ?_; rintro e w1 ⟨rfl, hb1⟩; obtain ⟨ex1, dx1, rfl⟩ := more_of hb1; clear hb1; rw [HN.out]) | (go_at_call 17; refine (told_any (HD.out.below (by repeat (first | (with_reducible exact Below.refl _ _) | (with_reducible exact bl_mm) | (with_reducible refine bl_dr ?_) | (with_reducible refine bl_drN ?_ _) | (with_reducible refine bl_al ?_ _) | (with_reducible refine bl_more ?_ _ _)))) HS.out HC.out HI.out HB2.out).mono ?_; rintro e w2 ⟨rfl, hb2⟩; rw [HT.out]; obtain ⟨ex2, dx2, rfl⟩ := more_of hb2; clear hb2) | (go_at_call 12; refine (read_any (HD.out.below (by repeat (first | (with_reducible exact Below.refl _ _) | (with_reducible exact bl_mm) | (with_reducible refine bl_dr ?_) | (with_reducible refine bl_drN ?_ _) | (with_reducible refine bl_al ?_ _) | (with_reducible refine bl_more ?_ _ _)))) HS.out HC.out n HI2.out).mono ?_; rintro e w3 ⟨v3, rfl, hr3, hb3⟩; rw [HB2.out] at hr3; obtain ⟨A3, c3, rfl, _, _⟩ := hr3.form; clear hr3; obtain ⟨ex3, dx3, rfl⟩ := more_of hb3; clear hb3) | (go_at_call 36; refine (cut_all (HD.out.below (by repeat (first | (with_reducible exact Below.refl _ _) | (with_reducible exact bl_mm) | (with_reducible refine bl_dr ?_) | (with_reducible refine bl_drN ?_ _) | (with_reducible refine bl_al ?_ _) | (with_reducible refine bl_more ?_ _ _)))) HS.out HC.out n 0).mono ?_; rintro e wc ⟨rfl, hdc, hec⟩; rw [HCUT.out] at hdc ⊢; have HDC := hid (And.intro hdc hec); clear hdc hec))
          go_ret
          exact dkTo_after (by repeat (first | (with_reducible exact Below.refl _ _) | (with_reducible exact bl_mm) | (with_reducible refine bl_dr ?_) | (with_reducible refine bl_drN ?_ _) | (with_reducible refine bl_al ?_ _) | (with_reducible refine bl_more ?_ _ _))) ⟨rfl, HDC.out.1, HDC.out.2⟩
end Go.Proofs.Ytgpcgndmdkgbdaa
