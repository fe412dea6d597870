/- A text of names, marks and blanks. -/
import Derived.Test.YthekoefcienipaaLxStB
namespace Go.Proofs.Ythekoefcienipaa
open Go.RowKit

def marks6 : List ByteArray := [⟨#[123]⟩, ⟨#[125]⟩, ⟨#[40]⟩, ⟨#[41]⟩, ⟨#[59]⟩, ⟨#[44]⟩]
def isMk (x : ByteArray) : Bool := marks6.any (fun m => decide (x = m))
/-- A name or a mark. -/
def okT (x : ByteArray) : Bool := nameB x || isMk x
def kindT (x : ByteArray) : Int := if nameB x = true then 1 else 2
def StopAt (s : ByteArray) (q : Nat) : Prop := q < s.size → by_ s q < 128 ∧ namC (by_ s q) = false
theorem dec_small {s : ByteArray} {p : Nat} (h : by_ s p < 128) : Utf8.decode s p = (by_ s p, 1) := by
  rw [dec_decB]
  unfold decB
  rw [if_pos h]
theorem bad_small {s : ByteArray} {p : Nat} (h : by_ s p < 128) : bad s p = false := by
  unfold bad
  rw [dec_small h]
  exact decide_eq_false (fun e => by have := congrArg Prod.fst e; simp at this; omega)
theorem run_up {s : ByteArray} {a b i : Nat} (hb : b ≤ s.size) (hab : a ≤ b) (hi : a + i ≤ b) (hr : runE (s.extract a b) i = (s.extract a b).size) (hst : StopAt s b) : runE s (a + i) = b := by
  have hz := size_ext (a := a) hb
  induction hk : b - (a + i) using Nat.strongRecOn generalizing i with
  | _ n ih =>
    by_cases hib : a + i < b
    · have hit : i < (s.extract a b).size := by omega
      cases hbd : bad (s.extract a b) i with
      | true => rw [runE_bad hbd] at hr; omega
      | false =>
        cases hn : namC (Utf8.decode (s.extract a b) i).1 with
        | false => rw [runE_no hn] at hr; omega
        | true =>
          have hd := dec_up hb hit hbd
          have hw := width_pos (s.extract a b) i
          have hwl := width_le hit
          rw [runE_next hit hbd hn] at hr
          rw [runE_next (by omega) (bad_up hb hit hbd) (by rw [hd]; exact hn), hd, Nat.add_assoc]
          exact ih _ (by omega) (by omega) hr rfl
    · have hie : a + i = b := by omega
      rw [hie]
      by_cases hbs : b < s.size
      · obtain ⟨h1, h2⟩ := hst hbs
        exact runE_no (by rw [dec_small h1]; exact h2)
      · exact runE_end hbs
theorem nameB_parts {x : ByteArray} (h : nameB x = true) : x.size ≠ 0 ∧ x.size ≤ 24 ∧ runE x 0 = x.size ∧ cls (ptR x 0) = 1 := by
  rw [name_eq] at h
  unfold nameD at h
  simp only [Bool.and_eq_true, decide_eq_true_eq] at h
  exact ⟨h.1.1.1, h.1.1.2, h.1.2, h.2⟩
theorem mk_byte {x : ByteArray} (h : isMk x = true) : x.size = 1 ∧ by_ x 0 < 128 ∧ markD (by_ x 0) = true := by
  unfold isMk marks6 at h
  simp only [List.any_cons, List.any_nil, Bool.or_eq_true, decide_eq_true_eq, Bool.or_false] at h
  rcases h with h | h | h | h | h | h <;> subst h <;> exact ⟨rfl, by decide, by decide⟩
theorem okT_size {x : ByteArray} (h : okT x = true) : 1 ≤ x.size ∧ x.size ≤ 24 := by
  unfold okT at h
  rw [Bool.or_eq_true] at h
  rcases h with h | h
  · have := nameB_parts h; omega
  · have := mk_byte h; omega
/-- A name or a mark is read as what it is. -/
theorem step_text {s x : ByteArray} {p : Nat} {out : List Tok} (hx : okT x = true) (hp : p + x.size ≤ s.size) (he : s.extract p (p + x.size) = x) (hst : StopAt s (p + x.size)) :
    dL s p false out = dL s (p + x.size) false (out ++ [⟨kindT x, x, p⟩]) := by
  have hz := okT_size hx
  cases hnb : nameB x with
  | true =>
    obtain ⟨h1, h2, h3, h4⟩ := nameB_parts hnb
    have h0 : 0 < (s.extract p (p + x.size)).size := by rw [he]; omega
    have hb0 : bad x 0 = false := by
      cases hb : bad x 0 with
      | false => rfl
      | true => rw [runE_bad hb] at h3; omega
    have hd := dec_up hp h0 (by rw [he]; exact hb0)
    have hb := bad_up hp h0 (by rw [he]; exact hb0)
    rw [he, Nat.add_zero] at hd
    rw [Nat.add_zero] at hb
    have hpt : ptR x 0 = ((Utf8.decode x 0).1 : Int) := by unfold ptR; rw [if_neg (by rw [hb0]; decide)]
    rw [hpt] at h4
    have hr := run_up (a := p) (b := p + x.size) (i := 0) hp (by omega) (by omega) (by rw [he]; exact h3) hst
    rw [Nat.add_zero] at hr
    have hlen : ¬ ((runE s p : Int) - p > 24) := by rw [hr]; omega
    have hc1 : cls (Utf8.decode s p).1 = 1 := by rw [hd]; exact h4
    rw [dL_name (by omega) hb hc1, if_neg hlen, hr, he]
    unfold kindT
    rw [if_pos hnb]
  | false =>
    have hmk : isMk x = true := by unfold okT at hx; rw [hnb] at hx; exact hx
    obtain ⟨h1, h2, h3⟩ := mk_byte hmk
    have hby : by_ s p = by_ x 0 := by
      have := by_ext (s := s) (a := p) (b := p + x.size) (j := 0) hp (.inl (by omega))
      rw [he] at this
      exact this.symm
    have hd : Utf8.decode s p = (by_ x 0, 1) := by rw [dec_small (by omega), hby]
    have hc : cls ((by_ x 0 : Nat) : Int) ≠ 1 := by rw [markD_cls h3]; decide
    rw [dL_char (by omega) (bad_small (by omega)) (by rw [hd]; exact .inr hc), hd]
    have h35 : (((by_ x 0 : Nat) : Int) == 35) = false := by
      rw [beq_eq_false_iff_ne]
      intro e
      have : ((by_ x 0 : Nat) : Int) = 35 := e
      rw [this] at h3
      exact absurd h3 (by decide)
    have hk : kindT x = 2 := by unfold kindT; rw [hnb]; rfl
    have hx1 : s.extract p (p + 1) = x := by rw [← h1]; exact he
    unfold stepC
    rw [h35, Bool.or_false, if_neg Bool.false_ne_true, if_pos h3, h1, hk]
    show dL s (p + 1) false (out ++ [⟨2, s.extract p (p + 1), p⟩]) = _
    rw [hx1]
/-- What holds no token: how it ends. -/
def skipF (t : ByteArray) : Nat → Nat → Bool → Option Bool
  | 0, _, _ => none
  | n + 1, i, rem => if i < t.size then (if bad t i = true then none else if (rem || ((Utf8.decode t i).1 : Int) == 35) = true then skipF t n (i + (Utf8.decode t i).2) (((Utf8.decode t i).1 : Int) != 10) else if cls (Utf8.decode t i).1 = 3 then skipF t n (i + (Utf8.decode t i).2) rem else none) else some rem
theorem skip_up {s t : ByteArray} {a b : Nat} (hb : b ≤ s.size) (hab : a ≤ b) (ht : s.extract a b = t) (out : List Tok) : ∀ n i rem rem', skipF t n i rem = some rem' → a + i ≤ b → dL s (a + i) rem out = dL s b rem' out := by
  have hz := size_ext (a := a) hb
  rw [ht] at hz
  intro n
  induction n with
  | zero => intro i rem rem' h; cases h
  | succ n ih =>
    intro i rem rem' h hi
    unfold skipF at h
    by_cases hit : i < t.size
    · rw [if_pos hit] at h
      split at h
      · cases h
      · rename_i hbd
        have hbd : bad t i = false := by simpa using hbd
        have hd := dec_up hb (by rw [ht]; exact hit) (by rw [ht]; exact hbd)
        have hbs := bad_up hb (by rw [ht]; exact hit) (by rw [ht]; exact hbd)
        rw [ht] at hd
        have hwl := width_le hit
        split at h
        · rename_i h35
          have := ih _ _ _ h (by omega)
          rw [dL_step (by omega) hbs, hd, if_pos h35, Nat.add_assoc]
          exact this
        · rename_i h35
          split at h
          · rename_i hc3
            have := ih _ _ _ h (by omega)
            have hnm : ¬ markD (Utf8.decode t i).1 = true := fun e => by rw [markD_cls e] at hc3; exact absurd hc3 (by decide)
            rw [dL_step (by omega) hbs, hd, if_neg h35, if_neg (by rw [hc3]; decide), if_neg hnm, if_pos hc3, Nat.add_assoc]
            exact this
          · cases h
    · rw [if_neg hit] at h
      cases h
      have hie : a + i = b := by omega
      rw [hie]
/-- Blanks and texts, one behind the other. -/
def flat : List (ByteArray × ByteArray) → List UInt8
  | [] => []
  | (b, x) :: r => b.data.toList ++ (x.data.toList ++ flat r)
def toksP (p : Nat) : List (ByteArray × ByteArray) → List Tok
  | [] => []
  | (b, x) :: r => ⟨kindT x, x, ((p + b.size : Nat) : Int)⟩ :: toksP (p + b.size + x.size) r
def StopL (l : List UInt8) : Prop := ∀ c, l.head? = some c → c.toNat < 128 ∧ namC c.toNat = false
def skips (b : ByteArray) : Prop := skipF b (b.size + 1) 0 false = some false
theorem drop_ext {s : ByteArray} {p : Nat} {a rest : List UInt8} (h : s.data.toList.drop p = a ++ rest) (hp : p ≤ s.size) : p + a.length ≤ s.size ∧ (s.extract p (p + a.length)).data.toList = a ∧ s.data.toList.drop (p + a.length) = rest := by
  have hl := congrArg List.length h
  rw [List.length_drop, List.length_append] at hl
  have hs : s.data.toList.length = s.size := rfl
  refine ⟨by omega, ?_, ?_⟩
  · rw [ByteArray.data_extract, Array.toList_extract, List.extract_eq_take_drop, show p + a.length - p = a.length by omega, h]
    simp
  · rw [← List.drop_drop, h]
    simp
theorem stop_of {s : ByteArray} {q : Nat} (h : StopL (s.data.toList.drop q)) : StopAt s q := by
  intro hq
  have hg := get_all (t := s) (i := q) hq
  have : (s.data.toList.drop q).head? = some (s.get! q) := by rw [List.head?_drop]; exact hg
  exact h _ this
theorem lay {s : ByteArray} {tail : List UInt8} (htl : StopL tail) : ∀ (items : List (ByteArray × ByteArray)) (p : Nat) (out : List Tok), p ≤ s.size → s.data.toList.drop p = flat items ++ tail →
    (∀ y ∈ items, okT y.2 = true ∧ skips y.1) → (∀ y ∈ items.tail, y.1.size ≠ 0 ∧ StopL y.1.data.toList) →
    dL s p false out = dL s (s.size - tail.length) false (out ++ toksP p items) ∧ (∀ x ∈ toksP p items, ∃ a : Nat, x.at_ = a ∧ a + x.text.size ≤ s.size ∧ s.extract a (a + x.text.size) = x.text) := by
  intro items
  induction items with
  | nil =>
    intro p out hp hd _ _
    have hl := congrArg List.length hd
    rw [List.length_drop] at hl
    have hs : s.data.toList.length = s.size := rfl
    have : s.size - tail.length = p := by simp [flat] at hl; omega
    rw [this]
    simp [toksP]
  | cons y r ih =>
    intro p out hp hd hok hst
    obtain ⟨b, x⟩ := y
    obtain ⟨hx, hb⟩ := hok _ (List.mem_cons_self ..)
    have hd : s.data.toList.drop p = b.data.toList ++ (x.data.toList ++ (flat r ++ tail)) := by rw [hd, flat]; simp
    obtain ⟨h1, h2, h3⟩ := drop_ext hd hp
    obtain ⟨k1, k2, k3⟩ := drop_ext h3 h1
    have hbs : b.data.toList.length = b.size := rfl
    have hxs : x.data.toList.length = x.size := rfl
    rw [hbs] at h1 h2 h3 k1 k2 k3
    rw [hxs] at k1 k2 k3
    have e1 : s.extract p (p + b.size) = b := bytes_eq h2
    have e2 : s.extract (p + b.size) (p + b.size + x.size) = x := bytes_eq k2
    have hs1 := skip_up h1 (by omega) e1 out _ _ _ _ hb (by omega)
    rw [Nat.add_zero] at hs1
    have hstop : StopL (flat r ++ tail) := by
      cases r with
      | nil => exact htl
      | cons z r' =>
        obtain ⟨b', x'⟩ := z
        obtain ⟨n1, n2⟩ := hst (b', x') (List.mem_cons_self ..)
        intro c hc
        refine n2 c ?_
        rw [flat, List.append_assoc] at hc
        cases hb' : b'.data.toList with
        | nil => exact absurd (by show b'.data.toList.length = 0; rw [hb']; rfl) n1
        | cons u us => rw [hb'] at hc; exact hc
    have hs2 := step_text (out := out) hx k1 e2 (stop_of (by rw [k3]; exact hstop))
    obtain ⟨i1, i2⟩ := ih (p + b.size + x.size) (out ++ [⟨kindT x, x, ((p + b.size : Nat) : Int)⟩]) k1 k3 (fun y hy => hok y (List.mem_cons_of_mem _ hy)) (fun y hy => hst y (List.mem_of_mem_tail hy))
    refine ⟨?_, ?_⟩
    · rw [hs1, hs2, i1, toksP, List.append_assoc]
      rfl
    · intro z hz
      rw [toksP] at hz
      rcases List.mem_cons.1 hz with rfl | hz
      · exact ⟨p + b.size, rfl, k1, e2⟩
      · exact i2 z hz
theorem toksP_txt (p : Nat) (items : List (ByteArray × ByteArray)) : (toksP p items).map txt = items.map (fun y => (kindT y.2, y.2)) := by
  induction items generalizing p with
  | nil => rfl
  | cons y r ih =>
    obtain ⟨b, x⟩ := y
    rw [toksP, List.map_cons, ih]
    rfl
end Go.Proofs.Ythekoefcienipaa
