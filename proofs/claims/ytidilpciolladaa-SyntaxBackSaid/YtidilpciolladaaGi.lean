/- The reader's state; look, word, mark, name. -/
import Derived.Test.YtidilpciolladaaGh
import Derived.Test.YtidilpciolladaaGe
/- The reader's state; look, word, mark, name. -/
namespace Go.Proofs.Ytidilpciolladaa
open Go.RowKit

/-- A token as 'Lex' tells it: a name or a mark. -/
def GoodT (x : Tok) : Prop := (x.kind = 1 ∧ nameB x.text = true) ∨ (x.kind = 2 ∧ isMk x.text = true)
/-- Is the first token of such a text? -/
def isT (t : List Tok) (s : ByteArray) : Bool := match t with
  | x :: _ => decide (x.text = s)
  | [] => false
def isN (t : List Tok) : Bool := match t with
  | x :: _ => nmR x.text
  | [] => false
def txN (t : List Tok) : ByteArray := match t with
  | x :: _ => x.text
  | [] => ⟨#[]⟩
/-- The reader at r has the tokens l, of which t are left. -/
structure RD (w : World) (r : Nat) (l t : List Tok) : Prop where
  ex : ∃ (i c : Nat) (A : Option Addr), w.heap[r]? = some (.cells #[.slice A l.length c, .int .i64 (i : Int)] 52 (0, 0)) ∧ l.drop i = t ∧ i ≤ l.length ∧ tokE.Row (fun b => b < r) w (.slice A l.length c) l
  good : ∀ x ∈ l, GoodT x
  few : l.length ≤ 100000
theorem RD.lt {w : World} {r : Nat} {l t : List Tok} (h : RD w r l t) : r < w.heap.size := by
  obtain ⟨_, _, _, hb, _⟩ := h.ex
  exact (Array.getElem?_eq_some_iff.1 hb).1
theorem RD.goodT {w : World} {r : Nat} {l t : List Tok} (h : RD w r l t) : ∀ x ∈ t, GoodT x := by
  obtain ⟨i, _, _, _, rfl, _⟩ := h.ex
  exact fun x hx => h.good x (List.mem_of_mem_drop hx)
theorem RD.ext {S : Nat → Prop} {w w' : World} {r : Nat} {l t : List Tok} (h : RD w r l t) (he : Ext S w w') (hs : ∀ b, b ≤ r → ¬ S b) : RD w' r l t := by
  have hlt := h.lt
  obtain ⟨i, c, A, hb, ht, hi, hr⟩ := h.ex
  exact ⟨⟨i, c, A, (he.block r hlt (hs r (Nat.le_refl _))).trans hb, ht, hi, hr.ext he (fun b hb _ => hs b (Nat.le_of_lt hb))⟩, h.good, h.few⟩
theorem RD.below {w w' : World} {r : Nat} {l t : List Tok} (h : RD w r l t) (hb : Below w.heap.size w w') : RD w' r l t := h.ext (S := fun _ => False) (Ext.of_below hb) (fun _ _ h => h)
theorem RD.next {w : World} {r i c : Nat} {A : Option Addr} {l : List Tok} (hb : w.heap[r]? = some (.cells #[.slice A l.length c, .int .i64 (i : Int)] 52 (0, 0))) (hi : i < l.length) (hr : tokE.Row (fun b => b < r) w (.slice A l.length c) l) (hg : ∀ x ∈ l, GoodT x) (hf : l.length ≤ 100000) :
    RD (w.setCell ⟨r, 1, none⟩ (.int .i64 ((i + 1 : Nat) : Int))) r l (l.drop (i + 1)) := by
  refine ⟨⟨i + 1, c, A, ?_, rfl, hi, hr.step (fun b hb _ => Below.heap_setCell _ _ _ _ (fun e => Nat.ne_of_lt hb e))⟩, hg, hf⟩
  simp [World.setCell, Array.getElem?_modify, hb]
def lookV (t : List Tok) : Value := match t with
  | x :: _ => if x.kind = 2 then .iface 129 (.string x.text) else if wordB x.text then .iface 108 (.string x.text) else .iface 127 (.string x.text)
  | [] => .iface 110 (.agg #[])
def kindV (x : Tok) : Value := if x.kind = 2 then .iface 129 (.string x.text) else if wordB x.text then .iface 108 (.string x.text) else .iface 127 (.string x.text)
theorem kind_any {w : World} {x : Tok} : Calls Try.prog 87 #[.agg #[.int .i64 x.kind, .string x.text, .int .i64 x.at_]] w fun e w' => e = .returned (kindV x) ∧ Below w.heap.size w w' := by
  unfold kindV
  by_cases hk : x.kind = 2
  · rw [if_pos hk]
    have hk2 : (x.kind == 2) = true := by simpa using hk
    clear hk
    go_enter Try.func87, Try.ntmps87
    go_wp2
    go_ret
    exact ⟨rfl, (by repeat (first | (with_reducible exact Below.refl _ _) | (with_reducible exact bl_mm) | (with_reducible refine bl_dr ?_) | (with_reducible refine bl_drN ?_ _) | (with_reducible refine bl_al ?_ _) | (with_reducible refine bl_more ?_ _ _)))⟩
  · rw [if_neg hk]
    have hk2 : (x.kind == 2) = false := by simpa using hk
    clear hk
    cases hw : wordB x.text with
    | true =>
      have HWD := hid hw
      clear hw
      go_enter Try.func87, Try.ntmps87
      go_wp2_with (first | (go_at_call 57; refine word_any.mono ?_; rw [HWD.out]; rintro e w2 ⟨rfl, rfl⟩))
      go_ret
      exact ⟨rfl, (by repeat (first | (with_reducible exact Below.refl _ _) | (with_reducible exact bl_mm) | (with_reducible refine bl_dr ?_) | (with_reducible refine bl_drN ?_ _) | (with_reducible refine bl_al ?_ _) | (with_reducible refine bl_more ?_ _ _)))⟩
    | false =>
      have HWD := hid hw
      clear hw
      go_enter Try.func87, Try.ntmps87
      go_wp2_with (first | (go_at_call 57; refine word_any.mono ?_; rw [HWD.out]; rintro e w2 ⟨rfl, rfl⟩))
      go_ret
      exact ⟨rfl, (by repeat (first | (with_reducible exact Below.refl _ _) | (with_reducible exact bl_mm) | (with_reducible refine bl_dr ?_) | (with_reducible refine bl_drN ?_ _) | (with_reducible refine bl_al ?_ _) | (with_reducible refine bl_more ?_ _ _)))⟩
set_option maxHeartbeats 1000000 in
theorem look_any {w : World} {r : Nat} {l t : List Tok} (h : RD w r l t) : Calls Try.prog 71 #[.pointer (some ⟨r, 0, none⟩)] w fun e w' => e = .returned (lookV t) ∧ Below w.heap.size w w' := by
  have hlt := h.lt
  obtain ⟨i, c, A, hb, ht, hi, hr⟩ := h.ex
  have x0 := cell_blk hb 0
  have x1 := cell_blk hb 1
  have x0 : w.cell? ⟨r, 0, none⟩ = some (.slice A l.length c) := x0
  have x1 : w.cell? ⟨r, 1, none⟩ = some (.int .i64 (i : Int)) := x1
  by_cases hil : i < l.length
  · have hn : ((i : Int) == (l.length : Int)) = false := by rw [beq_eq_false_iff_ne]; omega
    have hne : ¬ (i : Int) = (l.length : Int) := by omega
    obtain ⟨b1, o1, rfl, _, hl1, y1, y2, y3⟩ := row_tok hr i hil
    have hi0 : (0 : Int) ≤ i := by omega
    have hi1 : (i : Int) < l.length := by omega
    have HT : Hid (lookV t = kindV (l[i]'hil)) := hid (by rw [← ht, List.drop_eq_getElem_cons hil]; rfl)
    rw [HT.out]
    obtain ⟨x, hx⟩ : ∃ x, l[i]'hil = x := ⟨_, rfl⟩
    rw [hx] at y1 y2 y3 ⊢
    clear h hb ht hi hr hil hx HT
    go_enter Try.func71, Try.ntmps71
    go_wp2_with (first | ((with_reducible refine wp_region_plan (id := 1) (.fin [(false, 0), (false, 1), (false, 2), (false, 3), (false, 4), (false, 5), (false, 6), (false, 7), (false, 8), (false, 9)]) ?_ ?_ ?_ ?_ ?_ ?_); kernel_rfl; kernel_rfl; kernel_rfl; kernel_rfl; (intro c a d v w h; cases d <;> exact h)) | ((with_reducible refine wp_region_plan (id := 3) (.eff [(false, 0), (false, 1), (false, 2), (false, 3), (false, 4), (false, 5), (false, 6), (false, 7), (false, 8), (false, 9)] 10 [] (.fin [(false, 11)])) ?_ ?_ ?_ ?_ ?_ ?_); kernel_rfl; kernel_rfl; kernel_rfl; kernel_rfl; (intro c a d v w h; cases d <;> exact h)) | (with_reducible refine wpPlan_eff ?_) | (with_reducible refine wpPlan_fin ?_) | (with_reducible refine wpPlan_two ?_) | (with_reducible refine wpOpPair ?_ ?_) | ((with_reducible apply wpPre_keep); rfl; intro K' hK'; go_simp; refine hK' _ _ ?_; intro f hf; clear hK' K') | ((with_reducible apply wpPre_drop); rfl; intro K' hK'; go_simp; refine hK' _ _ ?_; intro f; clear hK' K') | (with_reducible refine wpPre_nil ?_) | ((with_reducible apply wpOp_list); rfl) | (with_reducible refine heldPair ?_ ?_) | ((with_reducible refine heldH_no ?_ ?_); rfl) | (with_reducible refine heldH_yes ?_ ?_) | (with_reducible exact heldH_nil) | (unfold YAt; go_simp; done) | (go_at_call 87; refine kind_any.mono ?_; rintro e w2 ⟨rfl, hb2⟩; obtain ⟨ex2, dx2, rfl⟩ := more_of hb2; clear hb2))
    all_goals (go_ret; exact ⟨rfl, (by repeat (first | (with_reducible exact Below.refl _ _) | (with_reducible exact bl_mm) | (with_reducible refine bl_dr ?_) | (with_reducible refine bl_drN ?_ _) | (with_reducible refine bl_al ?_ _) | (with_reducible refine bl_more ?_ _ _)))⟩)
  · have hie : i = l.length := by omega
    subst hie
    rw [List.drop_length] at ht
    subst ht
    clear h hb hi hr hil
    go_enter Try.func71, Try.ntmps71
    go_wp2_with (first | ((with_reducible refine wp_region_plan (id := 1) (.fin [(false, 0), (false, 1), (false, 2), (false, 3), (false, 4), (false, 5), (false, 6), (false, 7), (false, 8), (false, 9)]) ?_ ?_ ?_ ?_ ?_ ?_); kernel_rfl; kernel_rfl; kernel_rfl; kernel_rfl; (intro c a d v w h; cases d <;> exact h)) | ((with_reducible refine wp_region_plan (id := 3) (.eff [(false, 0), (false, 1), (false, 2), (false, 3), (false, 4), (false, 5), (false, 6), (false, 7), (false, 8), (false, 9)] 10 [] (.fin [(false, 11)])) ?_ ?_ ?_ ?_ ?_ ?_); kernel_rfl; kernel_rfl; kernel_rfl; kernel_rfl; (intro c a d v w h; cases d <;> exact h)) | (with_reducible refine wpPlan_eff ?_) | (with_reducible refine wpPlan_fin ?_) | (with_reducible refine wpPlan_two ?_) | (with_reducible refine wpOpPair ?_ ?_) | ((with_reducible apply wpPre_keep); rfl; intro K' hK'; go_simp; refine hK' _ _ ?_; intro f hf; clear hK' K') | ((with_reducible apply wpPre_drop); rfl; intro K' hK'; go_simp; refine hK' _ _ ?_; intro f; clear hK' K') | (with_reducible refine wpPre_nil ?_) | ((with_reducible apply wpOp_list); rfl) | (with_reducible refine heldPair ?_ ?_) | ((with_reducible refine heldH_no ?_ ?_); rfl) | (with_reducible refine heldH_yes ?_ ?_) | (with_reducible exact heldH_nil) | (unfold YAt; go_simp; done) | (go_at_call 87; refine kind_any.mono ?_; rintro e w2 ⟨rfl, hb2⟩; obtain ⟨ex2, dx2, rfl⟩ := more_of hb2; clear hb2))
    all_goals (go_ret; exact ⟨rfl, (by repeat (first | (with_reducible exact Below.refl _ _) | (with_reducible exact bl_mm) | (with_reducible refine bl_dr ?_) | (with_reducible refine bl_drN ?_ _) | (with_reducible refine bl_al ?_ _) | (with_reducible refine bl_more ?_ _ _)))⟩)
end Go.Proofs.Ytidilpciolladaa

/- word, mark, name, must. -/
namespace Go.Proofs.Ytidilpciolladaa
open Go.RowKit

/-- Something can't follow. -/
def PE (e : Ending) : Prop := ∃ (t : TypeId) (v : Value), e = .panicked [{ v := .iface t v, recovered := false }]
theorem taW (W : World) (u : ByteArray) : (Instr.typeAssert (.iface 108 (.string u)) 111 108 true).run Try.prog W = .ok (.tuple #[.string u, .bool true]) W := by kernel_rfl
theorem taWm (W : World) (u : ByteArray) : (Instr.typeAssert (.iface 129 (.string u)) 111 108 true).run Try.prog W = .ok (.tuple #[.string ⟨#[]⟩, .bool false]) W := by kernel_rfl
theorem taWn (W : World) (u : ByteArray) : (Instr.typeAssert (.iface 127 (.string u)) 111 108 true).run Try.prog W = .ok (.tuple #[.string ⟨#[]⟩, .bool false]) W := by kernel_rfl
theorem taWe (W : World) : (Instr.typeAssert (.iface 110 (.agg #[])) 111 108 true).run Try.prog W = .ok (.tuple #[.string ⟨#[]⟩, .bool false]) W := by kernel_rfl
theorem taM (W : World) (u : ByteArray) : (Instr.typeAssert (.iface 129 (.string u)) 111 129 true).run Try.prog W = .ok (.tuple #[.string u, .bool true]) W := by kernel_rfl
theorem taMw (W : World) (u : ByteArray) : (Instr.typeAssert (.iface 108 (.string u)) 111 129 true).run Try.prog W = .ok (.tuple #[.string ⟨#[]⟩, .bool false]) W := by kernel_rfl
theorem taMn (W : World) (u : ByteArray) : (Instr.typeAssert (.iface 127 (.string u)) 111 129 true).run Try.prog W = .ok (.tuple #[.string ⟨#[]⟩, .bool false]) W := by kernel_rfl
theorem taMe (W : World) : (Instr.typeAssert (.iface 110 (.agg #[])) 111 129 true).run Try.prog W = .ok (.tuple #[.string ⟨#[]⟩, .bool false]) W := by kernel_rfl
theorem taN (W : World) (u : ByteArray) : (Instr.typeAssert (.iface 127 (.string u)) 111 127 false).run Try.prog W = .ok (.string u) W := by kernel_rfl
theorem taE (W : World) : (Instr.typeAssert (.iface 110 (.agg #[])) 111 110 false).run Try.prog W = .ok (.agg #[]) W := by kernel_rfl
theorem taNm : ∃ o, ∀ (W : World) (u : ByteArray), (Instr.typeAssert (.iface 129 (.string u)) 111 127 false).run Try.prog W = .halt (.panic (.iface 15 (.pointer (some ⟨W.heap.size, 0, none⟩)))) (W.alloc o) := ⟨.cells #[typeHandle Try.prog 111, typeHandle Try.prog 129, typeHandle Try.prog 127, strVal ""] 145, fun _ _ => by simp [Instr.typeAssert, go_sem, runtimePanic, elemOf, run_underlying Try.underlying15]⟩
theorem taNw : ∃ o, ∀ (W : World) (u : ByteArray), (Instr.typeAssert (.iface 108 (.string u)) 111 127 false).run Try.prog W = .halt (.panic (.iface 15 (.pointer (some ⟨W.heap.size, 0, none⟩)))) (W.alloc o) := ⟨.cells #[typeHandle Try.prog 111, typeHandle Try.prog 108, typeHandle Try.prog 127, strVal ""] 145, fun _ _ => by simp [Instr.typeAssert, go_sem, runtimePanic, elemOf, run_underlying Try.underlying15]⟩
theorem taNe : ∃ o, ∀ (W : World), (Instr.typeAssert (.iface 110 (.agg #[])) 111 127 false).run Try.prog W = .halt (.panic (.iface 15 (.pointer (some ⟨W.heap.size, 0, none⟩)))) (W.alloc o) := ⟨.cells #[typeHandle Try.prog 111, typeHandle Try.prog 110, typeHandle Try.prog 127, strVal ""] 145, fun _ => by simp [Instr.typeAssert, go_sem, runtimePanic, elemOf, run_underlying Try.underlying15]⟩
theorem emp_ne {s : ByteArray} (h : wordB s = true) : s ≠ ⟨#[]⟩ := by
  rintro rfl
  revert h
  decide
theorem wd_notmk {s : ByteArray} (h : wordB s = true) : isMk s = false := by
  unfold wordB at h
  simp only [Bool.or_eq_true, decide_eq_true_eq] at h
  rcases h with ((((((h | h) | h) | h) | h) | h) | h) | h <;> subst h <;> decide
theorem mk_notname {s : ByteArray} (h : isMk s = true) : nameB s = false := by
  unfold isMk marks6 at h
  simp only [List.any_cons, List.any_nil, Bool.or_eq_true, decide_eq_true_eq, Bool.or_false] at h
  rcases h with h | h | h | h | h | h <;> subst h <;> kernel_rfl
/-- What is looked at. -/
theorem look_w {t : List Tok} {s : ByteArray} (hg : ∀ x ∈ t, GoodT x) (hs : wordB s = true) (h : isT t s = true) : ∃ x t', t = x :: t' ∧ x.text = s ∧ lookV t = .iface 108 (.string s) := by
  cases t with
  | nil => cases h
  | cons x t =>
    have he : x.text = s := of_decide_eq_true h
    refine ⟨x, t, rfl, he, ?_⟩
    unfold lookV
    have hk : x.kind ≠ 2 := by
      intro hk
      rcases hg x (List.mem_cons_self ..) with ⟨h1, _⟩ | ⟨_, h2⟩
      · omega
      · rw [he, wd_notmk hs] at h2; cases h2
    simp only [if_neg hk, he, hs, if_true]
theorem look_nw {t : List Tok} {s : ByteArray} (h : isT t s = false) : (∃ u, lookV t = .iface 129 (.string u)) ∨ (∃ u, lookV t = .iface 127 (.string u)) ∨ lookV t = .iface 110 (.agg #[]) ∨ ∃ u, lookV t = .iface 108 (.string u) ∧ u ≠ s := by
  cases t with
  | nil => exact .inr (.inr (.inl rfl))
  | cons x t =>
    have he : x.text ≠ s := of_decide_eq_false h
    unfold lookV
    by_cases hk : x.kind = 2
    · exact .inl ⟨x.text, by simp only [if_pos hk]⟩
    · cases hw : wordB x.text with
      | true => exact .inr (.inr (.inr ⟨x.text, by simp only [if_neg hk, hw, if_true], he⟩))
      | false => exact .inr (.inl ⟨x.text, by simp only [if_neg hk, hw, Bool.false_eq_true, if_false]⟩)
theorem look_m {t : List Tok} {s : ByteArray} (hg : ∀ x ∈ t, GoodT x) (hs : isMk s = true) (h : isT t s = true) : ∃ x t', t = x :: t' ∧ x.text = s ∧ lookV t = .iface 129 (.string s) := by
  cases t with
  | nil => cases h
  | cons x t =>
    have he : x.text = s := of_decide_eq_true h
    refine ⟨x, t, rfl, he, ?_⟩
    unfold lookV
    have hk : x.kind = 2 := by
      rcases hg x (List.mem_cons_self ..) with ⟨_, h2⟩ | ⟨h1, _⟩
      · rw [he, mk_notname hs] at h2; cases h2
      · exact h1
    simp only [if_pos hk, he]
theorem look_nm {t : List Tok} {s : ByteArray} (h : isT t s = false) : (∃ u, lookV t = .iface 108 (.string u)) ∨ (∃ u, lookV t = .iface 127 (.string u)) ∨ lookV t = .iface 110 (.agg #[]) ∨ ∃ u, lookV t = .iface 129 (.string u) ∧ u ≠ s := by
  cases t with
  | nil => exact .inr (.inr (.inl rfl))
  | cons x t =>
    have he : x.text ≠ s := of_decide_eq_false h
    unfold lookV
    by_cases hk : x.kind = 2
    · exact .inr (.inr (.inr ⟨x.text, by simp only [if_pos hk], he⟩))
    · cases hw : wordB x.text with
      | true => exact .inl ⟨x.text, by simp only [if_neg hk, hw, if_true]⟩
      | false => exact .inr (.inl ⟨x.text, by simp only [if_neg hk, hw, Bool.false_eq_true, if_false]⟩)
theorem look_n {t : List Tok} (hg : ∀ x ∈ t, GoodT x) (h : isN t = true) : ∃ x t', t = x :: t' ∧ lookV t = .iface 127 (.string x.text) := by
  cases t with
  | nil => cases h
  | cons x t =>
    have hn : nmR x.text = true := h
    unfold nmR at hn
    rw [Bool.and_eq_true, Bool.not_eq_true'] at hn
    refine ⟨x, t, rfl, ?_⟩
    unfold lookV
    have hk : x.kind ≠ 2 := by
      intro hk
      rcases hg x (List.mem_cons_self ..) with ⟨h1, _⟩ | ⟨_, h2⟩
      · omega
      · rw [mk_notname h2] at hn; cases hn.1
    simp only [if_neg hk, hn.2, Bool.false_eq_true, if_false]
theorem look_nn {t : List Tok} (hg : ∀ x ∈ t, GoodT x) (h : isN t = false) : (∃ u, lookV t = .iface 108 (.string u)) ∨ (∃ u, lookV t = .iface 129 (.string u)) ∨ lookV t = .iface 110 (.agg #[]) := by
  cases t with
  | nil => exact .inr (.inr rfl)
  | cons x t =>
    have hn : nmR x.text = false := h
    unfold lookV
    by_cases hk : x.kind = 2
    · exact .inr (.inl ⟨x.text, by simp only [if_pos hk]⟩)
    · cases hw : wordB x.text with
      | true => exact .inl ⟨x.text, by simp only [if_neg hk, hw, if_true]⟩
      | false =>
        rcases hg x (List.mem_cons_self ..) with ⟨_, h2⟩ | ⟨h1, _⟩
        · unfold nmR at hn; rw [h2, hw] at hn; cases hn
        · exact absurd h1 hk
theorem ext_set {w W : World} {r : Nat} (h : Below w.heap.size w W) (o : Nat) (v : Value) : Ext (fun b => b = r) w (W.setCell ⟨r, o, none⟩ v) :=
  (Ext.of_below (S := fun b => b = r) h).trans (Ext.setCell (S := fun b => b = r) W ⟨r, o, none⟩ v rfl) (fun _ _ h => h)
/-- One token on. -/
theorem RD.on {w : World} {r : Nat} {l t : List Tok} {x : Tok} (h : RD w r l (x :: t)) : ∃ (i c : Nat) (A : Option Addr), w.cell? ⟨r, 0, none⟩ = some (.slice A l.length c) ∧ w.cell? ⟨r, 1, none⟩ = some (.int .i64 (i : Int)) ∧ w.frozen? ⟨r, 1, none⟩ = false ∧ (i : Int) < 100000 ∧
    RD (w.setCell ⟨r, 1, none⟩ (.int .i64 ((i : Int) + 1))) r l t := by
  obtain ⟨i, c, A, hc, ht, hi, hr⟩ := h.ex
  have hil : i < l.length := by
    rcases Nat.lt_or_ge i l.length with h | h
    · exact h
    · rw [List.drop_of_length_le h] at ht; cases ht
  have htt : l.drop (i + 1) = t := by
    rw [List.drop_eq_getElem_cons hil] at ht
    exact (List.cons.inj ht).2
  have hf := h.few
  refine ⟨i, c, A, cell_blk hc 0, cell_blk hc 1, frz_blk hc 1, by omega, ?_⟩
  have := RD.next hc hil hr h.good hf
  rw [htt] at this
  exact this
set_option maxHeartbeats 1000000 in
theorem rword_yes {w : World} {r : Nat} {l t : List Tok} {s : ByteArray} (h : RD w r l t) (hs : wordB s = true) (ht : isT t s = true) :
    Calls Try.prog 68 #[.pointer (some ⟨r, 0, none⟩), .string s] w fun e w' => e = .returned (.bool true) ∧ Ext (fun b => b = r) w w' ∧ RD w' r l t.tail := by
  obtain ⟨x, t', rfl, _, hlk⟩ := look_w h.goodT hs ht
  obtain ⟨i, c, A, x0, x1, f1, hi2, hon⟩ := h.on
  have hlt := h.lt
  have HON := hid hon
  have HR := hid h
  have HLK := hid hlk
  have hi0 : (0 : Int) ≤ i := by omega
  have hta := taW
  have hw := IntWalk.i64_in ((i : Int) + 1) (by omega)
  clear h hs ht hlk hon
  go_enter Try.func68, Try.ntmps68
  go_wp2_with (first | (go_at_call 71; refine (look_any HR.out).mono ?_; rw [HLK.out]; rintro e w2 ⟨rfl, hb2⟩; have HB2 := hid hb2; obtain ⟨ex2, dx2, rfl⟩ := more_of hb2; clear hb2))
  all_goals (
    go_ret
    exact ⟨rfl, (ext_set (Below.refl _ w) _ _).trans (T := fun _ => False) (Ext.of_below (more_below _ _ _)) (fun _ _ h => h.elim), HON.out.below (more_below _ _ _)⟩)
set_option maxHeartbeats 1000000 in
theorem rword_no {w : World} {r : Nat} {l t : List Tok} {s : ByteArray} (h : RD w r l t) (ht : isT t s = false) :
    Calls Try.prog 68 #[.pointer (some ⟨r, 0, none⟩), .string s] w fun e w' => e = .returned (.bool false) ∧ Below w.heap.size w w' := by
  have HR := hid h
  rcases look_nw ht with ⟨u, hu⟩ | ⟨u, hu⟩ | hu | ⟨u, hu, hne⟩
  · have HLK := hid hu
    have hta := taWm
    clear h ht hu
    go_enter Try.func68, Try.ntmps68
    go_wp2_with (first | (go_at_call 71; refine (look_any HR.out).mono ?_; rw [HLK.out]; rintro e w2 ⟨rfl, hb2⟩; have HB2 := hid hb2; obtain ⟨ex2, dx2, rfl⟩ := more_of hb2; clear hb2))
    go_ret
    exact ⟨rfl, (by repeat (first | (with_reducible exact Below.refl _ _) | (with_reducible exact bl_mm) | (with_reducible refine bl_dr ?_) | (with_reducible refine bl_drN ?_ _) | (with_reducible refine bl_al ?_ _) | (with_reducible refine bl_more ?_ _ _)))⟩
  · have HLK := hid hu
    have hta := taWn
    clear h ht hu
    go_enter Try.func68, Try.ntmps68
    go_wp2_with (first | (go_at_call 71; refine (look_any HR.out).mono ?_; rw [HLK.out]; rintro e w2 ⟨rfl, hb2⟩; have HB2 := hid hb2; obtain ⟨ex2, dx2, rfl⟩ := more_of hb2; clear hb2))
    go_ret
    exact ⟨rfl, (by repeat (first | (with_reducible exact Below.refl _ _) | (with_reducible exact bl_mm) | (with_reducible refine bl_dr ?_) | (with_reducible refine bl_drN ?_ _) | (with_reducible refine bl_al ?_ _) | (with_reducible refine bl_more ?_ _ _)))⟩
  · have HLK := hid hu
    have hta := taWe
    clear h ht hu
    go_enter Try.func68, Try.ntmps68
    go_wp2_with (first | (go_at_call 71; refine (look_any HR.out).mono ?_; rw [HLK.out]; rintro e w2 ⟨rfl, hb2⟩; have HB2 := hid hb2; obtain ⟨ex2, dx2, rfl⟩ := more_of hb2; clear hb2))
    go_ret
    exact ⟨rfl, (by repeat (first | (with_reducible exact Below.refl _ _) | (with_reducible exact bl_mm) | (with_reducible refine bl_dr ?_) | (with_reducible refine bl_drN ?_ _) | (with_reducible refine bl_al ?_ _) | (with_reducible refine bl_more ?_ _ _)))⟩
  · have HLK := hid hu
    have hta := taW
    have hq : (u.toList == s.toList) = false := eqs_f hne
    clear h ht hu hne
    go_enter Try.func68, Try.ntmps68
    go_wp2_with (first | (go_at_call 71; refine (look_any HR.out).mono ?_; rw [HLK.out]; rintro e w2 ⟨rfl, hb2⟩; have HB2 := hid hb2; obtain ⟨ex2, dx2, rfl⟩ := more_of hb2; clear hb2))
    go_ret
    exact ⟨rfl, (by repeat (first | (with_reducible exact Below.refl _ _) | (with_reducible exact bl_mm) | (with_reducible refine bl_dr ?_) | (with_reducible refine bl_drN ?_ _) | (with_reducible refine bl_al ?_ _) | (with_reducible refine bl_more ?_ _ _)))⟩
set_option maxHeartbeats 1000000 in
theorem rmark_yes {w : World} {r : Nat} {l t : List Tok} {s : ByteArray} (h : RD w r l t) (hs : isMk s = true) (ht : isT t s = true) :
    Calls Try.prog 85 #[.pointer (some ⟨r, 0, none⟩), .string s] w fun e w' => e = .returned (.bool true) ∧ Ext (fun b => b = r) w w' ∧ RD w' r l t.tail := by
  obtain ⟨x, t', rfl, _, hlk⟩ := look_m h.goodT hs ht
  obtain ⟨i, c, A, x0, x1, f1, hi2, hon⟩ := h.on
  have hlt := h.lt
  have HON := hid hon
  have HR := hid h
  have HLK := hid hlk
  have hi0 : (0 : Int) ≤ i := by omega
  have hta := taM
  have hw := IntWalk.i64_in ((i : Int) + 1) (by omega)
  clear h hs ht hlk hon
  go_enter Try.func85, Try.ntmps85
  go_wp2_with (first | (go_at_call 71; refine (look_any HR.out).mono ?_; rw [HLK.out]; rintro e w2 ⟨rfl, hb2⟩; have HB2 := hid hb2; obtain ⟨ex2, dx2, rfl⟩ := more_of hb2; clear hb2))
  all_goals (
    go_ret
    exact ⟨rfl, (ext_set (Below.refl _ w) _ _).trans (T := fun _ => False) (Ext.of_below (more_below _ _ _)) (fun _ _ h => h.elim), HON.out.below (more_below _ _ _)⟩)
set_option maxHeartbeats 1000000 in
theorem rmark_no {w : World} {r : Nat} {l t : List Tok} {s : ByteArray} (h : RD w r l t) (ht : isT t s = false) :
    Calls Try.prog 85 #[.pointer (some ⟨r, 0, none⟩), .string s] w fun e w' => e = .returned (.bool false) ∧ Below w.heap.size w w' := by
  have HR := hid h
  rcases look_nm ht with ⟨u, hu⟩ | ⟨u, hu⟩ | hu | ⟨u, hu, hne⟩
  · have HLK := hid hu
    have hta := taMw
    clear h ht hu
    go_enter Try.func85, Try.ntmps85
    go_wp2_with (first | (go_at_call 71; refine (look_any HR.out).mono ?_; rw [HLK.out]; rintro e w2 ⟨rfl, hb2⟩; have HB2 := hid hb2; obtain ⟨ex2, dx2, rfl⟩ := more_of hb2; clear hb2))
    go_ret
    exact ⟨rfl, (by repeat (first | (with_reducible exact Below.refl _ _) | (with_reducible exact bl_mm) | (with_reducible refine bl_dr ?_) | (with_reducible refine bl_drN ?_ _) | (with_reducible refine bl_al ?_ _) | (with_reducible refine bl_more ?_ _ _)))⟩
  · have HLK := hid hu
    have hta := taMn
    clear h ht hu
    go_enter Try.func85, Try.ntmps85
    go_wp2_with (first | (go_at_call 71; refine (look_any HR.out).mono ?_; rw [HLK.out]; rintro e w2 ⟨rfl, hb2⟩; have HB2 := hid hb2; obtain ⟨ex2, dx2, rfl⟩ := more_of hb2; clear hb2))
    go_ret
    exact ⟨rfl, (by repeat (first | (with_reducible exact Below.refl _ _) | (with_reducible exact bl_mm) | (with_reducible refine bl_dr ?_) | (with_reducible refine bl_drN ?_ _) | (with_reducible refine bl_al ?_ _) | (with_reducible refine bl_more ?_ _ _)))⟩
  · have HLK := hid hu
    have hta := taMe
    clear h ht hu
    go_enter Try.func85, Try.ntmps85
    go_wp2_with (first | (go_at_call 71; refine (look_any HR.out).mono ?_; rw [HLK.out]; rintro e w2 ⟨rfl, hb2⟩; have HB2 := hid hb2; obtain ⟨ex2, dx2, rfl⟩ := more_of hb2; clear hb2))
    go_ret
    exact ⟨rfl, (by repeat (first | (with_reducible exact Below.refl _ _) | (with_reducible exact bl_mm) | (with_reducible refine bl_dr ?_) | (with_reducible refine bl_drN ?_ _) | (with_reducible refine bl_al ?_ _) | (with_reducible refine bl_more ?_ _ _)))⟩
  · have HLK := hid hu
    have hta := taM
    have hq : (u.toList == s.toList) = false := eqs_f hne
    clear h ht hu hne
    go_enter Try.func85, Try.ntmps85
    go_wp2_with (first | (go_at_call 71; refine (look_any HR.out).mono ?_; rw [HLK.out]; rintro e w2 ⟨rfl, hb2⟩; have HB2 := hid hb2; obtain ⟨ex2, dx2, rfl⟩ := more_of hb2; clear hb2))
    go_ret
    exact ⟨rfl, (by repeat (first | (with_reducible exact Below.refl _ _) | (with_reducible exact bl_mm) | (with_reducible refine bl_dr ?_) | (with_reducible refine bl_drN ?_ _) | (with_reducible refine bl_al ?_ _) | (with_reducible refine bl_more ?_ _ _)))⟩
set_option maxHeartbeats 1000000 in
theorem rname_yes {w : World} {r : Nat} {l t : List Tok} (h : RD w r l t) (ht : isN t = true) :
    Calls Try.prog 69 #[.pointer (some ⟨r, 0, none⟩)] w fun e w' => e = .returned (.string (txN t)) ∧ Ext (fun b => b = r) w w' ∧ RD w' r l t.tail := by
  obtain ⟨x, t', rfl, hlk⟩ := look_n h.goodT ht
  obtain ⟨i, c, A, x0, x1, f1, hi2, hon⟩ := h.on
  have hlt := h.lt
  have HON := hid hon
  have HR := hid h
  have HLK := hid hlk
  have hi0 : (0 : Int) ≤ i := by omega
  have hta := taN
  have hw := IntWalk.i64_in ((i : Int) + 1) (by omega)
  clear h ht hlk hon
  go_enter Try.func69, Try.ntmps69
  go_wp2_with (first | (go_at_call 71; refine (look_any HR.out).mono ?_; rw [HLK.out]; rintro e w2 ⟨rfl, hb2⟩; have HB2 := hid hb2; obtain ⟨ex2, dx2, rfl⟩ := more_of hb2; clear hb2))
  all_goals (
    go_ret
    exact ⟨rfl, (ext_set (Below.refl _ w) _ _).trans (T := fun _ => False) (Ext.of_below (more_below _ _ _)) (fun _ _ h => h.elim), HON.out.below (more_below _ _ _)⟩)
set_option maxHeartbeats 1000000 in
theorem rname_no {w : World} {r : Nat} {l t : List Tok} (h : RD w r l t) (ht : isN t = false) :
    Calls Try.prog 69 #[.pointer (some ⟨r, 0, none⟩)] w fun e w' => PE e ∧ Below w.heap.size w w' := by
  have HR := hid h
  rcases look_nn h.goodT ht with ⟨u, hu⟩ | ⟨u, hu⟩ | hu
  · obtain ⟨o, hta⟩ := taNw
    have HLK := hid hu
    clear h ht hu
    go_enter Try.func69, Try.ntmps69
    go_wp2_with (first | (go_at_call 71; refine (look_any HR.out).mono ?_; rw [HLK.out]; rintro e w2 ⟨rfl, hb2⟩; have HB2 := hid hb2; obtain ⟨ex2, dx2, rfl⟩ := more_of hb2; clear hb2))
    exact ⟨rfl, ⟨_, _, rfl⟩, (by repeat (first | (with_reducible exact Below.refl _ _) | (with_reducible exact bl_mm) | (with_reducible refine bl_dr ?_) | (with_reducible refine bl_drN ?_ _) | (with_reducible refine bl_al ?_ _) | (with_reducible refine bl_more ?_ _ _)))⟩
  · obtain ⟨o, hta⟩ := taNm
    have HLK := hid hu
    clear h ht hu
    go_enter Try.func69, Try.ntmps69
    go_wp2_with (first | (go_at_call 71; refine (look_any HR.out).mono ?_; rw [HLK.out]; rintro e w2 ⟨rfl, hb2⟩; have HB2 := hid hb2; obtain ⟨ex2, dx2, rfl⟩ := more_of hb2; clear hb2))
    exact ⟨rfl, ⟨_, _, rfl⟩, (by repeat (first | (with_reducible exact Below.refl _ _) | (with_reducible exact bl_mm) | (with_reducible refine bl_dr ?_) | (with_reducible refine bl_drN ?_ _) | (with_reducible refine bl_al ?_ _) | (with_reducible refine bl_more ?_ _ _)))⟩
  · obtain ⟨o, hta⟩ := taNe
    have HLK := hid hu
    clear h ht hu
    go_enter Try.func69, Try.ntmps69
    go_wp2_with (first | (go_at_call 71; refine (look_any HR.out).mono ?_; rw [HLK.out]; rintro e w2 ⟨rfl, hb2⟩; have HB2 := hid hb2; obtain ⟨ex2, dx2, rfl⟩ := more_of hb2; clear hb2))
    exact ⟨rfl, ⟨_, _, rfl⟩, (by repeat (first | (with_reducible exact Below.refl _ _) | (with_reducible exact bl_mm) | (with_reducible refine bl_dr ?_) | (with_reducible refine bl_drN ?_ _) | (with_reducible refine bl_al ?_ _) | (with_reducible refine bl_more ?_ _ _)))⟩
end Go.Proofs.Ytidilpciolladaa

/- must, names; rows that grow while the reader goes on. -/
namespace Go.Proofs.Ytidilpciolladaa
open Go.RowKit

theorem must_yes {w : World} : Calls Try.prog 67 #[.bool true] w fun e w' => e = .returned (.tuple #[]) ∧ w' = w := by
  go_enter Try.func67, Try.ntmps67
  go_wp2
  exact ⟨rfl, _, results_none rfl _ _ _, rfl, rfl⟩
theorem must_no {w : World} : Calls Try.prog 67 #[.bool false] w fun e w' => PE e ∧ w' = w := by
  go_enter Try.func67, Try.ntmps67
  go_wp2
  exact ⟨rfl, ⟨_, _, rfl⟩, rfl⟩
inductive Res (α : Type) where
  | ok (a : α) (t : List Tok)
  | bad (t : List Tok)
def Res.map {α β : Type} (f : α → β) : Res α → Res β
  | .ok a t => .ok (f a) t
  | .bad t => .bad t
theorem Res.map_map {α β γ : Type} (f : α → β) (g : β → γ) (x : Res α) : (x.map f).map g = x.map (fun a => g (f a)) := by cases x <;> rfl
/-- Names behind commas. -/
def pMore : List Tok → Res (List ByteArray)
  | [] => .ok [] []
  | [c] => if c.text = cCm then .bad [] else .ok [] [c]
  | c :: x :: t => if c.text = cCm then (if nmR x.text then (pMore t).map (x.text :: ·) else .bad (x :: t)) else .ok [] (c :: x :: t)
theorem pMore_no {t : List Tok} (h : isT t cCm = false) : pMore t = .ok [] t := by
  cases t with
  | nil => rfl
  | cons c t =>
    have hc : ¬ c.text = cCm := of_decide_eq_false h
    cases t with
    | nil => rw [pMore, if_neg hc]
    | cons x t => rw [pMore, if_neg hc]
theorem pMore_bad {t : List Tok} (h : isT t cCm = true) (hn : isN t.tail = false) : pMore t = .bad t.tail := by
  cases t with
  | nil => cases h
  | cons c t =>
    have hc : c.text = cCm := of_decide_eq_true h
    cases t with
    | nil => rw [pMore, if_pos hc]; rfl
    | cons x t =>
      have hn : nmR x.text = false := hn
      rw [pMore, if_pos hc, if_neg (by rw [hn]; decide)]; rfl
theorem pMore_yes {t : List Tok} (h : isT t cCm = true) (hn : isN t.tail = true) : pMore t = (pMore t.tail.tail).map (txN t.tail :: ·) := by
  cases t with
  | nil => cases h
  | cons c t =>
    have hc : c.text = cCm := of_decide_eq_true h
    cases t with
    | nil => cases hn
    | cons x t =>
      have hn : nmR x.text = true := hn
      rw [pMore, if_pos hc, if_pos hn]; rfl
def pNames (t : List Tok) : Res (List ByteArray) := if isN t then (pMore t.tail).map (txN t :: ·) else .bad t
/-- What a reader's function tells. -/
def RP {α : Type} (w : World) (r : Nat) (l : List Tok) (V : α → Value → World → Prop) (res : Res α) (e : Ending) (w' : World) : Prop :=
  Ext (fun b => b = r) w w' ∧ match res with
    | .ok a t => RD w' r l t ∧ ∃ v, e = .returned v ∧ V a v w'
    | .bad t => RD w' r l t ∧ PE e
/-- A row that grows; all of it lies from block N on. -/
structure Acc {α : Type} (d : Enc α) (E : TypeId) (N : Nat) (w : World) (g : Nat) (v : Value) (xs : List α) : Prop where
  sp : d.Spine E (fun b => N ≤ b ∧ b ≠ g) g w v xs
  cap : capOf v ≠ 0 → N ≤ g
  lt : g < w.heap.size
theorem Acc.ext {α : Type} {d : Enc α} {E : TypeId} {N g : Nat} {w w' : World} {v : Value} {xs : List α} {S : Nat → Prop} (h : Acc d E N w g v xs) (he : Ext S w w') (hS : ∀ b, S b → b < N) : Acc d E N w' g v xs := by
  refine ⟨?_, h.cap, Nat.lt_of_lt_of_le h.lt he.size⟩
  by_cases hc : capOf v = 0
  · obtain ⟨A, c, rfl, h2, h3, _⟩ := h.sp
    exact ⟨A, c, rfl, h2, h3, fun h => absurd hc h⟩
  · have hg := h.cap hc
    exact h.sp.step (fun cur hcur => (he.block g h.lt (fun hs => by have := hS g hs; omega)).trans hcur) (fun b hb hl => ⟨hb, he.block b hl (fun hs => by have := hS b hs; have := hb.1; omega)⟩)
theorem Acc.below {α : Type} {d : Enc α} {E : TypeId} {N g : Nat} {w w' : World} {v : Value} {xs : List α} (h : Acc d E N w g v xs) (hb : Below w.heap.size w w') : Acc d E N w' g v xs := h.ext (S := fun _ => False) (Ext.of_below hb) (fun _ h => h.elim)
theorem Acc.grown {α : Type} {d : Enc α} {E : TypeId} {N g g2 : Nat} {w w2 : World} {v v2 : Value} {xs ys : List α} (h : Acc d E N w g v xs) (hN : N ≤ w.heap.size) (hs : d.Spine E (fun b => (N ≤ b ∧ b ≠ g) ∧ b < w.heap.size) g2 w2 v2 ys) (he : Ext (fun b => b = g ∧ capOf v ≠ 0) w w2) (hg : Grew g w w2 v v2 g2) : Acc d E N w2 g2 v2 ys := by
  have h1 := h.lt
  rcases hg with ⟨rfl, h2, h3⟩ | ⟨rfl, h2⟩
  · exact ⟨hs.mono (fun b hb _ => hb.1), fun hc => h.cap (by rwa [← h3]), by omega⟩
  · exact ⟨hs.mono (fun b hb _ => ⟨hb.1.1, by omega⟩), fun _ => by omega, by omega⟩
theorem Acc.row {α : Type} {d : Enc α} {E : TypeId} {N g : Nat} {w : World} {v : Value} {xs : List α} (h : Acc d E N w g v xs) : d.Row (fun b => N ≤ b) w v xs := by
  by_cases hc : capOf v = 0
  · obtain ⟨A, c, rfl, h1, h2, _⟩ := h.sp
    have hc' : c = 0 := hc
    exact ⟨A, c, rfl, h1, h2, fun hx => absurd (List.eq_nil_of_length_eq_zero (by omega)) hx⟩
  · exact h.sp.row (fun b hb _ => hb.1) (h.cap hc)
theorem Acc.form {α : Type} {d : Enc α} {E : TypeId} {N g : Nat} {w : World} {v : Value} {xs : List α} (h : Acc d E N w g v xs) : ∃ A c, v = .slice A xs.length c := by
  obtain ⟨A, c, e, _⟩ := h.sp.form
  exact ⟨A, c, e⟩
/-- What an append leaves is behind N, but for what the row had. -/
theorem Acc.grew {α : Type} {d : Enc α} {E : TypeId} {N g : Nat} {w w2 : World} {v : Value} {xs : List α} (h : Acc d E N w g v xs) (he : Ext (fun b => b = g ∧ capOf v ≠ 0) w w2) : Ext (fun b => N ≤ b) w w2 := he.mono (fun b _ hb => by have := h.cap hb.2; omega)
theorem Acc.lit {α : Type} {d : Enc α} {E : TypeId} {N b : Nat} {W : World} {cs : List Value} {x : α} (hy : W.heap[b]? = some (.cells cs.toArray E (0, 0))) (hx : d.rd (fun q => N ≤ q ∧ q ≠ b) W x cs) (hb : N ≤ b) : Acc d E N W b (.slice (some ⟨b, 0, none⟩) 1 1) [x] := by
  refine ⟨?_, fun _ => hb, (Array.getElem?_eq_some_iff.1 hy).1⟩
  have hl := d.len hx
  refine Enc.Spine.of_at (xs := [x]) (off := 0) (c := 1) hy (by simp [hl]) (Nat.le_refl _) (by unfold maxLen; omega) (fun i hi => ?_)
  obtain rfl : i = 0 := by simpa using hi
  refine ⟨cs, hx, fun j u hj => ?_⟩
  simp only [World.cell?, hy]
  simpa using hj
end Go.Proofs.Ytidilpciolladaa

/- names. -/
namespace Go.Proofs.Ytidilpciolladaa
open Go.RowKit

theorem RD.len {w : World} {r : Nat} {l t : List Tok} (h : RD w r l t) : t.length ≤ 100000 := by
  have := h.few
  obtain ⟨i, _, _, _, rfl, _⟩ := h.ex
  rw [List.length_drop]; omega
theorem Ext.three {P Q R S : Nat → Prop} {a b c d : World} (h : Ext P a b) (k : Ext Q b c) (m : Ext R c d) (hp : ∀ x, x < a.heap.size → P x → S x) (hq : ∀ x, x < a.heap.size → Q x → S x) (hr : ∀ x, x < a.heap.size → R x → S x) : Ext S a d :=
  ((h.mono hp).trans k hq).trans m hr
theorem tail_len {t : List Tok} {s : ByteArray} (h : isT t s = true) : t.tail.length + 1 = t.length := by
  cases t with
  | nil => cases h
  | cons x t => rfl
theorem tail_lenN {t : List Tok} (h : isN t = true) : t.tail.length + 1 = t.length := by
  cases t with
  | nil => cases h
  | cons x t => rfl
abbrev strV (N : Nat) (l : List ByteArray) (v : Value) (w : World) : Prop := Enc.str.Row (fun b => N ≤ b) w v l
set_option maxHeartbeats 4000000 in
theorem rnames_any {w : World} {r : Nat} {l t : List Tok} (h : RD w r l t) : Calls Try.prog 104 #[.pointer (some ⟨r, 0, none⟩)] w (RP w r l (strV w.heap.size) (pNames t)) := by
  have HR := hid h
  have HLT := hid h.lt
  unfold pNames
  cases hn : isN t with
  | false =>
    have HNN := hid hn
    clear h hn
    go_enter Try.func104, Try.ntmps104
    go_wp2_with (first | (go_at_call 69; refine (rname_no HR.out HNN.out).mono ?_; rintro e w2 ⟨⟨te, ve, rfl⟩, hb2⟩; have HB2 := hid hb2; clear hb2))
    exact ⟨rfl, Ext.of_below HB2.out, HR.out.below HB2.out, ⟨_, _, rfl⟩⟩
  | true =>
    have HNY := hid hn
    clear h hn
    go_enter Try.func104, Try.ntmps104
    go_wp2_with (first | (go_at_call 69; refine (rname_yes HR.out HNY.out).mono ?_; rintro e w2 ⟨rfl, hx2, hr2⟩; have HX2 := hid hx2; have HR2 := hid hr2; clear hx2 hr2))
    have HN2 := hid (Nat.le_of_lt (Nat.lt_of_lt_of_le HLT.out HX2.out.size))
    go_loopg [3] t.length (fun k va wr => ∃ (t1 : List Tok) (acc : List ByteArray) (g : Nat) (B : Option Addr) (cb : Nat), t1.length + 1 = k ∧ va = .slice B acc.length cb ∧ acc.length + t1.length ≤ 100000 ∧ Acc Enc.str 9 w.heap.size wr g va acc ∧ RD wr r l t1 ∧ Ext (fun b => b = r) w wr ∧ (pMore t.tail).map (txN t :: ·) = (pMore t1).map (acc ++ ·))
    case atStart =>
      have h1 := HR.out.len
      have h2 := tail_lenN HNY.out
      exact ⟨t.tail, [txN t], w2.heap.size, _, 1, h2, rfl, by simp only [List.length_cons, List.length_nil]; omega, Acc.lit (alloc_blk rfl) (by rfl) (HX2.out.size), HR2.out.below (by repeat (first | (with_reducible exact Below.refl _ _) | (with_reducible exact bl_mm) | (with_reducible refine bl_dr ?_) | (with_reducible refine bl_drN ?_ _) | (with_reducible refine bl_al ?_ _) | (with_reducible refine bl_more ?_ _ _))), (HX2.out.trans (T := fun _ => False) (Ext.of_below (by repeat (first | (with_reducible exact Below.refl _ _) | (with_reducible exact bl_mm) | (with_reducible refine bl_dr ?_) | (with_reducible refine bl_drN ?_ _) | (with_reducible refine bl_al ?_ _) | (with_reducible refine bl_more ?_ _ _)))) (fun _ _ h => h.elim)), rfl⟩
    case round =>
      obtain ⟨t1, acc, g, B, cb, hk, rfl, hal, ha, hr, hx, hp⟩ := hrel
      have HK := hid hk
      have HAL := hid hal
      have HA := hid ha
      have HX := hid hx
      have HP := hid hp
      clear HR HR2 HX2
      have HR := hid hr
      clear hk hal ha hx hp hr
      cases hc : isT t1 cCm with
      | false =>
        have HCN := hid hc
        clear hc
        go_wp2_with (first | (go_at_call 85; refine (rmark_no HR.out HCN.out).mono ?_; rintro e w3 ⟨rfl, hb3⟩; have HB3 := hid hb3; clear hb3))
        go_ret
        rw [HP.out, pMore_no HCN.out]
        refine ⟨HX.out.trans (T := fun _ => False) (Ext.of_below HB3.out) (fun _ _ h => h.elim), HR.out.below HB3.out, _, rfl, ?_⟩
        have := (HA.out.below HB3.out).row
        show strV _ (acc ++ []) (.slice B acc.length cb) w3
        rw [List.append_nil]
        exact this
      | true =>
        have HCY := hid hc
        clear hc
        cases hn : isN t1.tail with
        | false =>
          clear HNY
          have HNN := hid hn
          clear hn
          go_wp2_with (first | (go_at_call 85; refine (rmark_yes HR.out (by decide) HCY.out).mono ?_; rintro e w3 ⟨rfl, hx3, hr3⟩; have HX3 := hid hx3; have HR3 := hid hr3; clear hx3 hr3) | (go_at_call 69; refine (rname_no HR3.out HNN.out).mono ?_; rintro e w4 ⟨⟨te, ve, rfl⟩, hb4⟩; have HB4 := hid hb4; clear hb4))
          refine ⟨rfl, ?_⟩
          rw [HP.out, pMore_bad HCY.out HNN.out]
          exact ⟨Ext.three HX.out HX3.out (Ext.of_below (S := fun b => b = r) HB4.out) (fun _ _ h => h) (fun _ _ h => h) (fun _ _ h => h), HR3.out.below HB4.out, ⟨_, _, rfl⟩⟩
        | true =>
          clear HNY
          have HNY := hid hn
          have HLEN : Hid (acc.length + [txN t1.tail].length ≤ 4294967296) := hid (by have := HAL.out; simp only [List.length_cons, List.length_nil]; omega)
          clear hn
          go_wp2_with (first | (go_at_call 85; refine (rmark_yes HR.out (by decide) HCY.out).mono ?_; rintro e w3 ⟨rfl, hx3, hr3⟩; have HX3 := hid hx3; have HR3 := hid hr3; clear hx3 hr3) | (go_at_call 69; refine (rname_yes HR3.out HNY.out).mono ?_; rintro e w4 ⟨rfl, hx4, hr4⟩; have HX4 := hid hx4; have HR4 := hid hr4; have HA4 := hid ((HA.out.ext HX3.out (fun b hb => hb ▸ HLT.out)).ext HX4.out (fun b hb => hb ▸ HLT.out)); clear hx4 hr4) | (at_builtin; refine wpList_app33 (ys := [txN t1.tail]) (by rfl) (.tmp 9) (.tmp 12) (by rfl) (by rfl) (by rfl) (by rfl) (HA4.out.below (by repeat (first | (with_reducible exact Below.refl _ _) | (with_reducible exact bl_mm) | (with_reducible refine bl_dr ?_) | (with_reducible refine bl_drN ?_ _) | (with_reducible refine bl_al ?_ _) | (with_reducible refine bl_more ?_ _ _)))).sp (by exact Enc.Src.one_blk (cs := [.string (txN t1.tail)]) (alloc_blk (by simp [more_size])) rfl) (fun b h _ => h.2) HLEN.out ?_; intro v2 w5 g2 hs2 he2 hg2; obtain ⟨acc2, hx1⟩ : ∃ y, acc ++ [txN t1.tail] = y := ⟨_, rfl⟩; rw [hx1] at hs2; have HE2 := hid hx1; clear hx1; obtain ⟨A2, cq, rfl, _, _⟩ := hs2.form; have HS2 := hid hs2; have HX5 := hid he2; have HG2 := hid hg2; clear hs2 he2 hg2))
          go_roundg (t1.length - 1)
          case measure => have h1 := tail_len HCY.out; have := HK.out; omega
          case rel =>
            have h1 := tail_len HCY.out
            have h2 := tail_lenN HNY.out
            have hsz : w.heap.size ≤ w4.heap.size := Nat.le_trans HX.out.size (Nat.le_trans HX3.out.size HX4.out.size)
            have hac := (HA4.out.below (w' := w4.alloc (.cells #[.string (txN t1.tail)] 9)) (by repeat (first | (with_reducible exact Below.refl _ _) | (with_reducible exact bl_mm) | (with_reducible refine bl_dr ?_) | (with_reducible refine bl_drN ?_ _) | (with_reducible refine bl_al ?_ _) | (with_reducible refine bl_more ?_ _ _)))).grown (by rw [World.size_alloc]; omega) HS2.out HX5.out HG2.out
            have hgr := (HA4.out.below (w' := w4.alloc (.cells #[.string (txN t1.tail)] 9)) (by repeat (first | (with_reducible exact Below.refl _ _) | (with_reducible exact bl_mm) | (with_reducible refine bl_dr ?_) | (with_reducible refine bl_drN ?_ _) | (with_reducible refine bl_al ?_ _) | (with_reducible refine bl_more ?_ _ _)))).grew HX5.out
            refine ⟨t1.tail.tail, acc2, g2, A2, cq, by omega, rfl, by rw [← HE2.out, List.length_append, List.length_singleton]; have := HAL.out; omega, hac, ?_, ?_, ?_⟩
            · exact (HR4.out.below (w' := w4.alloc (.cells #[.string (txN t1.tail)] 9)) (by repeat (first | (with_reducible exact Below.refl _ _) | (with_reducible exact bl_mm) | (with_reducible refine bl_dr ?_) | (with_reducible refine bl_drN ?_ _) | (with_reducible refine bl_al ?_ _) | (with_reducible refine bl_more ?_ _ _)))).ext hgr (fun b hb h => by have := HLT.out; omega)
            · exact (Ext.three HX.out HX3.out HX4.out (fun _ _ h => h) (fun _ _ h => h) (fun _ _ h => h)).trans (T := fun b => w.heap.size ≤ b) ((Ext.of_below (a := w4) (b := w4.alloc (.cells #[.string (txN t1.tail)] 9)) (by repeat (first | (with_reducible exact Below.refl _ _) | (with_reducible exact bl_mm) | (with_reducible refine bl_dr ?_) | (with_reducible refine bl_drN ?_ _) | (with_reducible refine bl_al ?_ _) | (with_reducible refine bl_more ?_ _ _)))).trans hgr (fun _ _ h => h)) (fun x hx h => absurd hx (Nat.not_lt.2 h))
            · rw [HP.out, pMore_yes HCY.out HNY.out, Res.map_map, ← HE2.out]
              congr 1
              funext x
              simp
end Go.Proofs.Ytidilpciolladaa

/- The reader, plain. -/
namespace Go.Proofs.Ytidilpciolladaa
open Go.RowKit

def Res.bind {α β : Type} (x : Res α) (k : α → List Tok → Res β) : Res β := match x with
  | .ok a t => k a t
  | .bad t => .bad t
def pHead2 (sb vt : Bool) (wd : ByteArray) (t : List Tok) : Res (Bool × Bool × ByteArray) :=
  if isT t wd then (if isN t.tail then .ok (sb, vt, txN t.tail) t.tail.tail else .bad t.tail) else .bad t
def pHead (t : List Tok) : Res (Bool × Bool × ByteArray) :=
  if isT t wd5 then pHead2 true true wd2 t.tail else if isT t wd6 then pHead2 true false wd2 t.tail else pHead2 false false wd1 t
def pUndo (sb : Bool) (t : List Tok) : Res ByteArray :=
  if sb then .ok ⟨#[]⟩ t else if isT t wd3 then (if isN t.tail then .ok (txN t.tail) t.tail.tail else .bad t.tail) else .ok ⟨#[]⟩ t
def pAfter (t : List Tok) : Res (List ByteArray) := if isT t wd4 then pNames t.tail else .ok [] t
def pEnd (bo : List Tok → Res (List (List Nd))) (sb : Bool) (t : List Tok) : Res (List (List Nd)) :=
  if sb then bo t else if isT t cSm then .ok [] t.tail else .bad t
def kE (bo : List Tok → Res (List (List Nd))) (sb vt : Bool) (nm un : ByteArray) (af : List ByteArray) (t : List Tok) : Res Nd := (pEnd bo sb t).bind fun al t => .ok (.mk nm un af sb vt al) t
def kA (bo : List Tok → Res (List (List Nd))) (sb vt : Bool) (nm un : ByteArray) (t : List Tok) : Res Nd := (pAfter t).bind fun af t => kE bo sb vt nm un af t
def kU (bo : List Tok → Res (List (List Nd))) (sb vt : Bool) (nm : ByteArray) (t : List Tok) : Res Nd := (pUndo sb t).bind fun un t => kA bo sb vt nm un t
def nodeOf (bo : List Tok → Res (List (List Nd))) (t : List Tok) : Res Nd := (pHead t).bind fun h t => kU bo h.1 h.2.1 h.2.2 t
mutual
/-- A node. -/
def pNode : Nat → List Tok → Res Nd
  | 0, t => .bad t
  | f + 1, t => nodeOf (fun t => pBodies f t) t
/-- Bodies. -/
def pBodies : Nat → List Tok → Res (List (List Nd))
  | 0, t => .bad t
  | f + 1, t => if isT t cLb then (pBody f t.tail).bind (fun b t => (pMoreB f t).bind (fun m t => if isT t cRb then .ok (b :: m) t.tail else .bad t)) else .bad t
/-- A body. -/
def pBody : Nat → List Tok → Res (List Nd)
  | 0, t => .bad t
  | f + 1, t => if isT t cL then pNodes f t.tail else .bad t
/-- Bodies behind 'or'. -/
def pMoreB : Nat → List Tok → Res (List (List Nd))
  | 0, t => .bad t
  | f + 1, t => if isT t wd7 then (pBody f t.tail).bind (fun b t => (pMoreB f t).bind (fun m t => .ok (b :: m) t)) else .ok [] t
/-- Nodes, and the end of a body. -/
def pNodes : Nat → List Tok → Res (List Nd)
  | 0, t => .bad t
  | f + 1, t => if isT t cR then .ok [] t.tail else (pNode f t).bind (fun n t => (pNodes f t).bind (fun m t => .ok (n :: m) t))
end
theorem RP.bad' {α : Type} {w w' : World} {r : Nat} {l t : List Tok} {V : α → Value → World → Prop} {res : Res α} {e : Ending} (he : res = .bad t) (hx : Ext (fun b => b = r) w w') (hr : RD w' r l t) (hp : PE e) : RP w r l V res e w' := by
  subst he; exact ⟨hx, hr, hp⟩
theorem RP.ok' {α : Type} {w w' : World} {r : Nat} {l t : List Tok} {V : α → Value → World → Prop} {res : Res α} {a : α} {v : Value} (he : res = .ok a t) (hx : Ext (fun b => b = r) w w') (hr : RD w' r l t) (hv : V a v w') : RP w r l V res (.returned v) w' := by
  subst he; exact ⟨hx, hr, v, rfl, hv⟩
theorem RP.outB {α : Type} {w w' : World} {r : Nat} {l t : List Tok} {V : α → Value → World → Prop} {res : Res α} {e : Ending} (h : RP w r l V res e w') (he : res = .bad t) : Ext (fun b => b = r) w w' ∧ RD w' r l t ∧ PE e := by
  subst he; exact h
theorem RP.outO {α : Type} {w w' : World} {r : Nat} {l t : List Tok} {V : α → Value → World → Prop} {res : Res α} {a : α} {e : Ending} (h : RP w r l V res e w') (he : res = .ok a t) : Ext (fun b => b = r) w w' ∧ RD w' r l t ∧ ∃ v, e = .returned v ∧ V a v w' := by
  subst he; exact h
/-- What is left is no longer. -/
def Res.le {α : Type} (n : Nat) : Res α → Prop
  | .ok _ t => t.length ≤ n
  | .bad _ => True
theorem Res.le_bind {α β : Type} {n m : Nat} {x : Res α} {k : α → List Tok → Res β} (h : x.le n) (hk : ∀ a t, t.length ≤ n → (k a t).le m) : (x.bind k).le m := by
  cases x with
  | ok a t => exact hk a t h
  | bad t => trivial
theorem Res.le_map {α β : Type} {n : Nat} {x : Res α} {f : α → β} (h : x.le n) : (x.map f).le n := by cases x <;> exact h
theorem Res.le_mono {α : Type} {n m : Nat} {x : Res α} (h : x.le n) (hm : n ≤ m) : x.le m := by
  cases x with
  | ok a t => exact Nat.le_trans h hm
  | bad t => trivial
theorem tl_le (t : List Tok) : t.tail.length ≤ t.length := by cases t <;> simp
theorem pMore_le : ∀ t, (pMore t).le t.length
  | [] => Nat.le_refl _
  | [c] => by
    rw [pMore]
    split
    · trivial
    · exact Nat.le_refl _
  | c :: x :: t => by
    rw [pMore]
    split
    · split
      · exact Res.le_map (Res.le_mono (pMore_le t) (by simp; omega))
      · trivial
    · exact Nat.le_refl _
theorem pNames_le (t : List Tok) : (pNames t).le t.length := by
  unfold pNames
  split
  · exact Res.le_map (Res.le_mono (pMore_le _) (tl_le t))
  · trivial
theorem pHead2_le (sb vt : Bool) (wd : ByteArray) (t : List Tok) : (pHead2 sb vt wd t).le (t.length - 2) := by
  unfold pHead2
  split
  · rename_i h1
    split
    · rename_i h2
      have := tail_len h1
      have := tail_lenN h2
      show t.tail.tail.length ≤ _
      omega
    · trivial
  · trivial
theorem pHead_le (t : List Tok) : (pHead t).le (t.length - 2) := by
  unfold pHead
  have := tl_le t
  split
  · exact Res.le_mono (pHead2_le ..) (by omega)
  · split
    · exact Res.le_mono (pHead2_le ..) (by omega)
    · exact pHead2_le ..
theorem pUndo_le (sb : Bool) (t : List Tok) : (pUndo sb t).le t.length := by
  have h1 := tl_le t
  have h2 := tl_le t.tail
  unfold pUndo
  split
  · exact Nat.le_refl _
  · split
    · split
      · show t.tail.tail.length ≤ _; omega
      · trivial
    · exact Nat.le_refl _
theorem pAfter_le (t : List Tok) : (pAfter t).le t.length := by
  unfold pAfter
  split
  · exact Res.le_mono (pNames_le _) (tl_le t)
  · exact Nat.le_refl _
theorem pEnd_le {bo : List Tok → Res (List (List Nd))} (hb : ∀ t, (bo t).le t.length) (sb : Bool) (t : List Tok) : (pEnd bo sb t).le t.length := by
  unfold pEnd
  split
  · exact hb t
  · split
    · exact tl_le t
    · trivial
theorem nodeOf_le {bo : List Tok → Res (List (List Nd))} (hb : ∀ t, (bo t).le t.length) (t : List Tok) : (nodeOf bo t).le (t.length - 2) := by
  refine Res.le_bind (pHead_le t) (fun h t1 h1 => ?_)
  refine Res.le_bind (Res.le_mono (pUndo_le _ _) h1) (fun un t2 h2 => ?_)
  refine Res.le_bind (Res.le_mono (pAfter_le _) h2) (fun af t3 h3 => ?_)
  exact Res.le_bind (Res.le_mono (pEnd_le hb _ _) h3) (fun al t4 h4 => h4)
theorem p_le : ∀ f, (∀ t, (pNode f t).le (t.length - 2)) ∧ (∀ t, (pBodies f t).le t.length) ∧ (∀ t, (pBody f t).le t.length) ∧ (∀ t, (pMoreB f t).le t.length) ∧ (∀ t, (pNodes f t).le t.length) := by
  intro f
  induction f with
  | zero => exact ⟨fun _ => trivial, fun _ => trivial, fun _ => trivial, fun _ => trivial, fun _ => trivial⟩
  | succ f ih =>
    obtain ⟨h1, h2, h3, h4, h5⟩ := ih
    refine ⟨fun t => ?_, fun t => ?_, fun t => ?_, fun t => ?_, fun t => ?_⟩
    · rw [pNode]; exact nodeOf_le h2 t
    · have ht := tl_le t
      rw [pBodies]
      split
      · refine Res.le_bind (Res.le_mono (h3 _) ht) (fun b t1 k1 => ?_)
        refine Res.le_bind (Res.le_mono (h4 _) k1) (fun m t2 k2 => ?_)
        have := tl_le t2
        split
        · show t2.tail.length ≤ _; omega
        · trivial
      · trivial
    · have ht := tl_le t
      rw [pBody]
      split
      · exact Res.le_mono (h5 _) ht
      · trivial
    · have ht := tl_le t
      rw [pMoreB]
      split
      · refine Res.le_bind (Res.le_mono (h3 _) ht) (fun b t1 k1 => ?_)
        exact Res.le_bind (Res.le_mono (h4 _) k1) (fun m t2 k2 => k2)
      · exact Nat.le_refl _
    · have ht := tl_le t
      rw [pNodes]
      split
      · exact ht
      · refine Res.le_bind (Res.le_mono (h1 _) (by omega : t.length - 2 ≤ t.length)) (fun b t1 k1 => ?_)
        exact Res.le_bind (Res.le_mono (h5 _) k1) (fun m t2 k2 => k2)
/-- A node's state while it is read. -/
structure NS (w0 : World) (r : Nat) (l : List Tok) (b2 b3 N : Nat) (W : World) (t : List Tok) (c0 c1 c2 c3 c4 c5 : Value) : Prop where
  ext : Ext (fun b => b = r) w0 W
  rd : RD W r l t
  box : W.heap[b3]? = some (.cells #[c0, c1, c2, c3, c4, c5] 73 (0, 0))
  res : W.heap[b2]? = some (.cells #[.string ⟨#[]⟩, .string ⟨#[]⟩, .slice none 0 0, .bool false, .bool false, .slice none 0 0] 73 (0, 0))
  n2 : w0.heap.size ≤ b2
  n3 : b2 < b3
  nN : b3 < N
  size : N ≤ W.heap.size
  nr : r < w0.heap.size
theorem NS.call {w0 : World} {r : Nat} {l : List Tok} {b2 b3 N : Nat} {W W' : World} {t t' : List Tok} {c0 c1 c2 c3 c4 c5 : Value} (h : NS w0 r l b2 b3 N W t c0 c1 c2 c3 c4 c5) (hx : Ext (fun b => b = r) W W') (hr : RD W' r l t') : NS w0 r l b2 b3 N W' t' c0 c1 c2 c3 c4 c5 := by
  have h1 := h.n2
  have h2 := h.n3
  have h3 := h.nN
  have h4 := h.nr
  have h5 := h.size
  exact ⟨h.ext.trans hx (fun _ _ h => h), hr, (hx.block b3 (by omega) (by omega)).trans h.box, (hx.block b2 (by omega) (by omega)).trans h.res, h1, h2, h3, Nat.le_trans h5 hx.size, h4⟩
theorem NS.below {w0 : World} {r : Nat} {l : List Tok} {b2 b3 N : Nat} {W W' : World} {t : List Tok} {c0 c1 c2 c3 c4 c5 : Value} (h : NS w0 r l b2 b3 N W t c0 c1 c2 c3 c4 c5) (hb : Below W.heap.size W W') : NS w0 r l b2 b3 N W' t c0 c1 c2 c3 c4 c5 :=
  h.call (Ext.of_below hb) (h.rd.below hb)
theorem NS.set {w0 : World} {r : Nat} {l : List Tok} {b2 b3 N : Nat} {W : World} {t : List Tok} {c0 c1 c2 c3 c4 c5 : Value} (h : NS w0 r l b2 b3 N W t c0 c1 c2 c3 c4 c5) (k : Nat) (v : Value) {d0 d1 d2 d3 d4 d5 : Value} (hd : (#[c0, c1, c2, c3, c4, c5].setIfInBounds k v) = #[d0, d1, d2, d3, d4, d5]) : NS w0 r l b2 b3 N (W.setCell ⟨b3, k, none⟩ v) t d0 d1 d2 d3 d4 d5 := by
  have h1 := h.n2
  have h2 := h.n3
  have h3 := h.nN
  have h4 := h.nr
  have h5 := h.size
  have hs : Ext (fun b => b = b3) W (W.setCell ⟨b3, k, none⟩ v) := Ext.setCell (S := fun b => b = b3) W ⟨b3, k, none⟩ v rfl
  refine ⟨h.ext.trans hs (fun x hx e => by omega), h.rd.ext hs (fun b hb e => by omega), ?_, (hs.block b2 (by omega) (by omega)).trans h.res, h1, h2, h3, Nat.le_trans h5 hs.size, h4⟩
  rw [← hd]
  simp [World.setCell, Array.getElem?_modify, h.box]
theorem NS.facts {w0 : World} {r : Nat} {l : List Tok} {b2 b3 N : Nat} {W : World} {t : List Tok} {c0 c1 c2 c3 c4 c5 : Value} (h : NS w0 r l b2 b3 N W t c0 c1 c2 c3 c4 c5) :
    b3 < W.heap.size ∧ W.cell? ⟨b3, 0, none⟩ = some c0 ∧ W.cell? ⟨b3, 1, none⟩ = some c1 ∧ W.cell? ⟨b3, 2, none⟩ = some c2 ∧ W.cell? ⟨b3, 3, none⟩ = some c3 ∧ W.cell? ⟨b3, 4, none⟩ = some c4 ∧ W.cell? ⟨b3, 5, none⟩ = some c5 ∧ ∀ k, W.frozen? ⟨b3, k, none⟩ = false := by
  have h3 := h.nN
  have h5 := h.size
  exact ⟨by omega, cell_blk h.box 0, cell_blk h.box 1, cell_blk h.box 2, cell_blk h.box 3, cell_blk h.box 4, cell_blk h.box 5, frz_blk h.box⟩
theorem NS.facts2 {w0 : World} {r : Nat} {l : List Tok} {b2 b3 N : Nat} {W : World} {t : List Tok} {c0 c1 c2 c3 c4 c5 : Value} (h : NS w0 r l b2 b3 N W t c0 c1 c2 c3 c4 c5) :
    b2 < W.heap.size ∧ W.cell? ⟨b2, 0, none⟩ = some (.string ⟨#[]⟩) ∧ W.cell? ⟨b2, 1, none⟩ = some (.string ⟨#[]⟩) ∧ W.cell? ⟨b2, 2, none⟩ = some (.slice none 0 0) ∧ W.cell? ⟨b2, 3, none⟩ = some (.bool false) ∧ W.cell? ⟨b2, 4, none⟩ = some (.bool false) ∧ W.cell? ⟨b2, 5, none⟩ = some (.slice none 0 0) ∧ (∀ k, W.frozen? ⟨b2, k, none⟩ = false) ∧ b2 ≠ b3 := by
  have h2 := h.n3
  have h3 := h.nN
  have h5 := h.size
  exact ⟨by omega, cell_blk h.res 0, cell_blk h.res 1, cell_blk h.res 2, cell_blk h.res 3, cell_blk h.res 4, cell_blk h.res 5, frz_blk h.res, by omega⟩
end Go.Proofs.Ytidilpciolladaa
