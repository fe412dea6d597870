/- LexNames, walked. -/
import Derived.Test.YthekoefcienipaaLxBb
import Derived.Test.YthekoefcienipaaRows
namespace Go.Proofs.Ythekoefcienipaa
open Go.RowKit

theorem wpList_append_runG {P : Program} {w w' : World} {ops : Array Oper} {rest : List Oper} {o : Oper} {a : Act} {Q : Exit → Act → World → Prop} {v' : Value}
    (hg : Region.wanted o (yielded ops a.tmps) = true) (s x : Operand) (t t' : TypeId) (hop : o.op = Op.call { callee := Callee.builtin Builtin.append, args := #[s, x], argTypes := #[t, t'] })
    (hrun : (Builtin.append_ #[t, t'] o.type #[a.eval s, a.eval x]).run P w = .ok v' w')
    (h : wpList P ops Q rest (a.put o.dst v') w') : wpList P ops Q (o :: rest) a w := by
  refine wpList_step fun K hK' => ?_
  rw [if_pos hg]
  unfold Oper.wp
  simp [execOp, hop, resolve, invoke, builtin, hrun, Result.andThen]
  exact hK' _ _ h
theorem wpList_app23G {w : World} {ops : Array Oper} {rest : List Oper} {o : Oper} {a : Act} {Q : Exit → Act → World → Prop} {K : Nat → Prop} {g : Nat} {xs ys : List Tok} {v x : Value}
    (hg : Region.wanted o (yielded ops a.tmps) = true) (s x' : Operand) (hop : o.op = Op.call { callee := Callee.builtin Builtin.append, args := #[s, x'], argTypes := #[23, 23] }) (hty : o.type = 23)
    (hv : a.eval s = v) (hx : a.eval x' = x) (hs : tokE.Spine 38 K g w v xs) (hy : tokE.Src K w x ys) (hKg : ∀ b, K b → b < w.heap.size → b ≠ g) (hlen : xs.length + ys.length ≤ 4294967296)
    (h : ∀ v' w' g', tokE.Spine 38 (fun b => K b ∧ b < w.heap.size) g' w' v' (xs ++ ys) → Ext (fun b => b = g ∧ capOf v ≠ 0) w w' → Grew g w w' v v' g' → wpList Try.prog ops Q rest (a.put o.dst v') w') :
    wpList Try.prog ops Q (o :: rest) a w := by
  subst hv; subst hx
  obtain ⟨v', w', g', hrun, h1, h2, h3⟩ := app23 hs hy hKg hlen
  exact wpList_append_runG hg s x' 23 23 hop (by rw [hty]; exact hrun) (h v' w' g' h1 h2 h3)
theorem src_any {K : Nat → Prop} {w : World} {v : Value} {l : List Tok} (h : tokE.Row K w v l) : tokE.Src (fun _ => True) w v l := (h.mono (K' := fun _ => True) (fun _ _ _ => trivial)).src
theorem nm_self (b : Bool) : (b == b) = true := by simp
set_option maxRecDepth 4000 in
set_option maxHeartbeats 4000000 in
theorem names_any {w : World} {v : Value} {s : ByteArray} {l : List Tok} {K : Nat → Prop} (h : tokE.Row K w v l) (hj : l.length ≤ 500 → (Lib.join (l.map (·.text.data.toList)) [32]).length ≤ 140737488355328) : Calls Try.prog 4 #[.string s, v] w fun e w' => e = .returned (.bool true) ∧ Below w.heap.size w w' := by
  obtain ⟨A, ca, rfl, _, _⟩ := h.form
  have Mlives := hid trivial
  by_cases h5 : (5000 : Int) < s.size
  · clear hj
    go_enter Try.func4, Try.ntmps4
    go_wp2_with (first | (go_at_call 9; clear Mlives; refine lives_any.mono ?_; rintro e w8 ⟨rfl, hb8⟩; obtain ⟨ex8, dx8, rfl⟩ := more_of hb8; clear hb8))
    go_ret
    exact ⟨rfl, (by repeat (first | (with_reducible exact Below.refl _ _) | (with_reducible exact bl_mm) | (with_reducible refine bl_dr ?_) | (with_reducible refine bl_drN ?_ _) | (with_reducible refine bl_al ?_ _) | (with_reducible refine bl_more ?_ _ _)))⟩
  · by_cases hl : (500 : Int) < l.length
    · clear hj
      go_enter Try.func4, Try.ntmps4
      go_wp2_with (first | (go_at_call 9; clear Mlives; refine lives_any.mono ?_; rintro e w8 ⟨rfl, hb8⟩; obtain ⟨ex8, dx8, rfl⟩ := more_of hb8; clear hb8))
      go_ret
      exact ⟨rfl, (by repeat (first | (with_reducible exact Below.refl _ _) | (with_reducible exact bl_mm) | (with_reducible refine bl_dr ?_) | (with_reducible refine bl_drN ?_ _) | (with_reducible refine bl_al ?_ _) | (with_reducible refine bl_more ?_ _ _)))⟩
    · have HR := hid h
      have hjl := hj (by omega)
      have HJN := hid hjl
      have HJB : Hid ((joinB l).size ≤ 140737488355328) := hid (by
        have e : (joinB l).size = (Lib.join (l.map (·.text.data.toList)) [32]).length := by simp [joinB, ByteArray.size]
        omega)
      have HL : Hid (l.length ≤ 100000) := hid (by omega)
      have HLEN : Hid (([] : List Tok).length + l.length ≤ 4294967296) := hid (by simp; omega)
      have Mn1 := hid trivial
      have Mn2 := hid trivial
      have Mo1 := hid trivial
      have Mo2 := hid trivial
      have Mjoin := hid trivial
      have Mdjoin := hid trivial
      clear h hj hjl
      go_enter Try.func4, Try.ntmps4
      go_wp2_with (first | (go_at_call 13; clear Mn1; refine (name_any (s := s)).mono ?_; rintro e w1 ⟨rfl, hb1⟩; rw [name_eq]; obtain ⟨ex1, dx1, rfl⟩ := more_of hb1; clear hb1))
      go_wp2_with (first | (go_at_call 14; clear Mn2; refine (dname_any (s := s)).mono ?_; rintro e w2 ⟨rfl, hb2⟩; obtain ⟨ex2, dx2, rfl⟩ := more_of hb2; clear hb2))
      go_wp2_with (first | (go_at_call 15; clear Mo1; refine (word_any (s := s)).mono ?_; rintro e w3 ⟨rfl, rfl⟩))
      go_wp2_with (first | (go_at_call 16; clear Mo2; refine (dword_any (s := s)).mono ?_; rintro e w4 ⟨rfl, hb4⟩; obtain ⟨ex4, dx4, rfl⟩ := more_of hb4; clear hb4) | (at_builtin; refine wpList_app23G (K := fun _ => True) (xs := []) (ys := l) (by first | rfl | (simp [Region.wanted, yielded]; done)) (.tmp 27) (.tmp 28) (by rfl) (by rfl) (by rfl) (by rfl) (Enc.Spine.bare _ _ _ _ _ _) (src_any (HR.out.below (by repeat (first | (with_reducible exact Below.refl _ _) | (with_reducible exact bl_mm) | (with_reducible refine bl_dr ?_) | (with_reducible refine bl_drN ?_ _) | (with_reducible refine bl_al ?_ _) | (with_reducible refine bl_more ?_ _ _))))) (fun b _ hb => Nat.ne_of_lt hb) HLEN.out ?_; intro v5 w5 g5 hs5 he5 hg5; have HV5 := hid (hs5.row (K' := fun _ => True) (fun _ _ _ => trivial) trivial); have hb5 := below_of_ext he5 (by simp [capOf]); clear hs5 he5 hg5; obtain ⟨ex5, dx5, rfl⟩ := more_of hb5; clear hb5))
      go_wp2_with (first | (go_at_call 17; clear Mjoin; refine (join_any HV5.out HL.out HJN.out).mono ?_; rintro e w6 ⟨rfl, hb6⟩; obtain ⟨ex6, dx6, rfl⟩ := more_of hb6; clear hb6))
      go_wp2_with (first | (go_at_call 18; clear Mdjoin; refine (djoin_any (HR.out.below (by repeat (first | (with_reducible exact Below.refl _ _) | (with_reducible exact bl_mm) | (with_reducible refine bl_dr ?_) | (with_reducible refine bl_drN ?_ _) | (with_reducible refine bl_al ?_ _) | (with_reducible refine bl_more ?_ _ _)))) HL.out HJB.out).mono ?_; rintro e w7 ⟨rfl, hb7⟩; obtain ⟨ex7, dx7, rfl⟩ := more_of hb7; clear hb7))
      go_wp2_with (first | (go_at_call 9; clear Mlives; refine lives_any.mono ?_; rintro e w8 ⟨rfl, hb8⟩; obtain ⟨ex8, dx8, rfl⟩ := more_of hb8; clear hb8))
      go_ret
      exact ⟨rfl, (by repeat (first | (with_reducible exact Below.refl _ _) | (with_reducible exact bl_mm) | (with_reducible refine bl_dr ?_) | (with_reducible refine bl_drN ?_ _) | (with_reducible refine bl_al ?_ _) | (with_reducible refine bl_more ?_ _ _)))⟩
theorem bulk_part {H : Type} {d : DataW H} {l : List (DataW H)} (h : d ∈ l) : Rows.uptoBulk d ≤ Rows.uptoBulkAll l := by
  induction l with
  | nil => cases h
  | cons x r ih =>
    simp only [Rows.uptoBulkAll]
    cases List.mem_cons.1 h with
    | inl e => subst e; omega
    | inr e => have := ih e; omega
/-- A token, opened: its text is no longer than its bulk. -/
theorem tok_bulk {H : Type} {enc : TypeId × Value → H} {w : World} {base : Nat} {spare : Nat → Bool} {held : Bool} {fuel : Nat} {cs : List Value} {x : DataW H × List MemPlace}
    (h : DataW.trod enc Try.prog w base spare held fuel 38 cs = some x) : ∃ a : Tok, tokE.rd (fun _ => True) w a cs ∧ a.text.size ≤ Rows.uptoBulk x.1 := by
  obtain ⟨ys, n, _, rfl, hl, hyl, hf⟩ := DataW.trod_struct Try.underlying38 h
  have hl : cs.length = 3 := hl.trans (by kernel_rfl)
  have hyl : ys.length = 3 := hyl
  have c36 : Try.prog.cellsOf 36 = 1 := by kernel_rfl
  have c9 : Try.prog.cellsOf 9 = 1 := by kernel_rfl
  have c3 : Try.prog.cellsOf 3 = 1 := by kernel_rfl
  obtain ⟨y0, y1, y2, rfl⟩ : ∃ y0 y1 y2, ys = [y0, y1, y2] := by
    match ys, hyl with
    | [a, b, c], _ => exact ⟨a, b, c, rfl⟩
  obtain ⟨u0, u1, u2, rfl⟩ : ∃ u0 u1 u2, cs = [u0, u1, u2] := by
    match cs, hl with
    | [a, b, c], _ => exact ⟨a, b, c, rfl⟩
  have h0 := hf 0 _ rfl
  have h1 := hf 1 _ rfl
  have h2 := hf 2 _ rfl
  simp only [c36, c9, c3, List.drop_zero, List.drop_succ_cons, List.take_succ_cons, List.take_zero, List.getElem?_cons_zero, List.getElem?_cons_succ] at h0 h1 h2
  obtain ⟨k, e0, _, _⟩ := DataW.trod_int Try.underlying36 h0
  obtain ⟨t, e1, ex1, _⟩ := DataW.trod_string Try.underlying9 h1
  obtain ⟨a, e2, _, _⟩ := DataW.trod_int Try.underlying3 h2
  cases e0
  cases e1
  cases e2
  refine ⟨⟨k, t, a⟩, tokE_mk _, ?_⟩
  subst ex1
  have hb : Rows.uptoBulk (DataW.lit (H := H) (.string t.data.toList)) = t.data.toList.length + 1 := by simp only [Rows.uptoBulk]
  have hp := bulk_part (d := DataW.lit (H := H) (.string t.data.toList)) (l := [y0, (DataW.lit (.string t.data.toList), []), y2].map (·.1)) (by simp)
  have ht : t.data.toList.length = t.size := rfl
  show t.size ≤ Rows.uptoBulk (.agg _)
  simp only [Rows.uptoBulk]
  omega
theorem sum_bulk {H : Type} : ∀ (xs : List Tok) (D : Nat → DataW H), (∀ i (h : i < xs.length), (xs[i]'h).text.size ≤ Rows.uptoBulk (D i)) → (xs.map (·.text.size)).sum ≤ Rows.uptoBulkAll ((List.range xs.length).map D) := by
  intro xs
  induction xs with
  | nil => intro D _; exact Nat.le_refl _
  | cons x r ih =>
    intro D h
    have h0 := h 0 (by simp)
    have h1 := ih (fun i => D (i + 1)) (fun i hi => h (i + 1) (Nat.succ_lt_succ hi))
    rw [List.length_cons, List.range_succ_eq_map, List.map_cons, List.map_cons, List.map_map, List.sum_cons]
    simp only [Rows.uptoBulkAll]
    have e : (D ∘ Nat.succ) = fun i => D (i + 1) := rfl
    rw [e]
    have h0 : x.text.size ≤ Rows.uptoBulk (D 0) := h0
    omega
/-- The argument of tokens, opened: their texts are together no longer than its bulk. -/
theorem toks_bulk {H : Type} {enc : TypeId × Value → H} {w : World} {base : Nat} {spare : Nat → Bool} {held : Bool} {a : Option Addr} {n c : Nat} {x : DataW H} {p : List MemPlace}
    (hx : DataW.Trod enc Try.prog w base spare held 23 (.slice a n c) x p) : ∃ xs : List Tok, (xs.map (·.text.size)).sum ≤ Rows.uptoBulk x ∧ tokE.Row (fun _ => True) w (.slice a n c) xs := by
  obtain ⟨fuel, hf⟩ := hx
  have hsz : Try.prog.cellsOf 38 = tokE.sz := by kernel_rfl
  rcases Go.Deep.open_slice Try.underlying23 hf with ⟨e, hx⟩ | ⟨b, len, cap, m, k, D, Pl, e, _, hl, hm, hmm, hx, hi⟩
  · have e : Value.slice a n c = .slice none 0 0 := by simpa [Value.cells] using e
    cases e
    exact ⟨[], Nat.zero_le _, Enc.Row.nil _ _ _⟩
  · have e : Value.slice a n c = .slice (some b) len cap := by simpa [Value.cells] using e
    cases e
    rw [hsz] at hi
    have hlm : n ≤ m := by rw [hmm]; split <;> omega
    obtain ⟨xs, hlen, hxs⟩ := list_of (p := fun i (y : Tok) => y.text.size ≤ Rows.uptoBulk (D i) ∧ ∃ cs', tokE.rd (fun _ => True) w y cs' ∧ ∀ j u, cs'[j]? = some u → w.cell? ((b.add (i * tokE.sz)).add j) = some u) n (fun i hlt => by
      obtain ⟨cs', hc, htr⟩ := hi i (by omega)
      obtain ⟨y, hy, hg⟩ := tok_bulk htr
      obtain ⟨_, hcl, hat⟩ := World.cells?_some hc
      refine ⟨y, hg, cs', hy, fun j u hj => ?_⟩
      rw [hat j (by have := (List.getElem?_eq_some_iff.1 hj).1; omega), hj])
    refine ⟨xs, ?_, some b, c, by rw [hlen], by omega, hm, fun hne => ?_⟩
    · have hs := sum_bulk xs D (fun i hi => (hxs i hi).1)
      have hx1 : x = .slice ((List.range n).map D) ((List.range (m - n)).map fun j => D (n + j)) := congrArg Prod.fst hx
      rw [hx1]
      simp only [Rows.uptoBulk]
      rw [hlen] at hs
      omega
    · have h0 : 0 < xs.length := List.length_pos_iff.2 hne
      obtain ⟨_, cs', hrd, hat⟩ := hxs 0 h0
      have hl0 := tokE.len hrd
      have hsz3 : tokE.sz = 3 := rfl
      have hc0 := hat 0 (cs'[0]'(by omega)) (List.getElem?_eq_getElem (by omega))
      obtain ⟨b, off, spot⟩ := b
      have hspot : spot = none := by simpa [Addr.add] using World.cell?_spot hc0
      subst hspot
      refine ⟨b, off, rfl, trivial, ?_, fun i hi => ?_⟩
      · have := World.block_lt_of_cell? w _ hc0
        simpa [Addr.add] using this
      · obtain ⟨_, cs', hrd, hat⟩ := hxs i hi
        refine ⟨cs', hrd, fun j u hj => ?_⟩
        have := hat j u hj
        rwa [Addr.add_lit, Addr.add_lit] at this
theorem join_short {l : List Tok} {N : Nat} (hs : (l.map (·.text.size)).sum ≤ N) (hN : N ≤ 1048576) : l.length ≤ 500 → (Lib.join (l.map (·.text.data.toList)) [32]).length ≤ 140737488355328 := by
  intro hl
  have hsum : ∀ m : List Tok, Lib.lens (m.map (·.text.data.toList)) = (m.map (·.text.size)).sum := by
    intro m
    induction m with
    | nil => rfl
    | cons x r ih =>
      have hx : x.text.data.toList.length = x.text.size := rfl
      simp only [Lib.lens, List.map_cons, List.sum_cons] at ih ⊢
      first | (rw [hx, ih]) | (simp only [List.foldr_cons]; rw [hx, ih]) | (simp [Lib.lens, hx, ih])
  cases l with
  | nil => exact Nat.zero_le _
  | cons x r =>
    have h1 := hsum (x :: r)
    rw [List.map_cons] at h1
    rw [List.map_cons, Lib.join_length, h1, List.length_map]
    have : ([32] : List UInt8).length = 1 := rfl
    simp only [List.length_cons] at hl
    rw [this]
    omega
end Go.Proofs.Ythekoefcienipaa
