/- Plain: a saga's tokens are read as the saga. -/
import Derived.Test.YtidilpciolladaaGl
import Derived.Test.YtidilpciolladaaGd
/- Plain: a saga's tokens are read as the saga. -/
namespace Go.Proofs.Ytidilpciolladaa
open Go.RowKit

abbrev tx (t : List Tok) : List ByteArray := t.map (·.text)
theorem tx_cons {t : List Tok} {a : ByteArray} {ys : List ByteArray} (h : tx t = a :: ys) : ∃ x t', t = x :: t' ∧ x.text = a ∧ tx t' = ys := by
  cases t with
  | nil => cases h
  | cons x t => exact ⟨x, t, rfl, (List.cons.inj h).1, (List.cons.inj h).2⟩
theorem isT_head {t : List Tok} {a s : ByteArray} {ys : List ByteArray} (h : tx t = a :: ys) : isT t s = decide (a = s) := by
  obtain ⟨x, t', rfl, rfl, _⟩ := tx_cons h
  rfl
theorem isT_nil {t : List Tok} {s : ByteArray} (h : tx t = []) : isT t s = false := by
  cases t with
  | nil => rfl
  | cons x t => cases h
theorem isN_head {t : List Tok} {a : ByteArray} {ys : List ByteArray} (h : tx t = a :: ys) : isN t = nmR a ∧ txN t = a ∧ tx t.tail = ys := by
  obtain ⟨x, t', rfl, rfl, h2⟩ := tx_cons h
  exact ⟨rfl, rfl, h2⟩
theorem tx_len (t : List Tok) : (tx t).length = t.length := List.length_map _
/-- Does a list of texts not begin with this? -/
def noH (ys : List ByteArray) (s : ByteArray) : Prop := ∀ a, ys.head? = some a → a ≠ s
theorem isT_no {t : List Tok} {ys : List ByteArray} {s : ByteArray} (h : tx t = ys) (hn : noH ys s) : isT t s = false := by
  cases ys with
  | nil => exact isT_nil h
  | cons a ys => rw [isT_head h]; exact decide_eq_false (hn a rfl)
theorem pMore_back : ∀ (l : List ByteArray) (t : List Tok) (ys : List ByteArray), (∀ s ∈ l, nmR s = true) → noH ys cCm → tx t = aftO l ++ ys → ∃ t', pMore t = .ok l t' ∧ tx t' = ys := by
  intro l
  induction l with
  | nil =>
    intro t ys _ hn h
    exact ⟨t, pMore_no (isT_no h hn), h⟩
  | cons s l ih =>
    intro t ys hl hn h
    have h : tx t = cCm :: (s :: (aftO l ++ ys)) := h
    have h1 := (isN_head h).2.2
    have h2 := isN_head h1
    obtain ⟨t', h3, h4⟩ := ih t.tail.tail ys (fun x hx => hl x (List.mem_cons_of_mem _ hx)) hn h2.2.2
    refine ⟨t', ?_, h4⟩
    rw [pMore_yes (by rw [isT_head h]; exact decide_eq_true rfl) (by rw [h2.1]; exact hl s (List.mem_cons_self ..)), h3, h2.2.1]
    rfl
theorem pAfter_back {l : List ByteArray} {t : List Tok} {ys : List ByteArray} (hl : ∀ s ∈ l, nmR s = true) (hn : noH ys cCm) (hn2 : noH ys wd4) (h : tx t = aftT l ++ ys) : ∃ t', pAfter t = .ok l t' ∧ tx t' = ys := by
  cases l with
  | nil =>
    refine ⟨t, ?_, h⟩
    unfold pAfter
    rw [if_neg (by rw [isT_no h hn2]; decide)]
  | cons s l =>
    have h : tx t = wd4 :: (s :: (aftO l ++ ys)) := h
    have h1 := (isN_head h).2.2
    have h2 := isN_head h1
    obtain ⟨t', h3, h4⟩ := pMore_back l t.tail.tail ys (fun x hx => hl x (List.mem_cons_of_mem _ hx)) hn h2.2.2
    refine ⟨t', ?_, h4⟩
    unfold pAfter pNames
    rw [if_pos (by rw [isT_head h]; exact decide_eq_true rfl), if_pos (by rw [h2.1]; exact hl s (List.mem_cons_self ..)), h3, h2.2.1]
    rfl
theorem pHead2_back {sb vt : Bool} {wd nm : ByteArray} {t : List Tok} {ys : List ByteArray} (hn : nmR nm = true) (h : tx t = wd :: nm :: ys) : ∃ t', pHead2 sb vt wd t = .ok (sb, vt, nm) t' ∧ tx t' = ys := by
  have h1 := (isN_head h).2.2
  have h2 := isN_head h1
  refine ⟨t.tail.tail, ?_, h2.2.2⟩
  unfold pHead2
  rw [if_pos (by rw [isT_head h]; exact decide_eq_true rfl), if_pos (by rw [h2.1]; exact hn), h2.2.1]
theorem pHead_back {sb vt : Bool} {nm : ByteArray} {t : List Tok} {ys : List ByteArray} (hn : nmR nm = true) (hv : vt = true → sb = true) (h : tx t = hdT nm sb vt ++ ys) : ∃ t', pHead t = .ok (sb, vt, nm) t' ∧ tx t' = ys := by
  cases vt with
  | true =>
    rw [hv rfl] at h ⊢
    have h : tx t = wd5 :: (wd2 :: nm :: ys) := h
    obtain ⟨t', h3, h4⟩ := pHead2_back (sb := true) (vt := true) hn (isN_head h).2.2
    refine ⟨t', ?_, h4⟩
    unfold pHead
    rw [if_pos (by rw [isT_head h]; exact decide_eq_true rfl), h3]
  | false =>
    cases sb with
    | true =>
      have h : tx t = wd6 :: (wd2 :: nm :: ys) := h
      obtain ⟨t', h3, h4⟩ := pHead2_back (sb := true) (vt := false) hn (isN_head h).2.2
      refine ⟨t', ?_, h4⟩
      unfold pHead
      rw [if_neg (by rw [isT_head h]; decide), if_pos (by rw [isT_head h]; exact decide_eq_true rfl), h3]
    | false =>
      have h : tx t = wd1 :: nm :: ys := h
      obtain ⟨t', h3, h4⟩ := pHead2_back (sb := false) (vt := false) hn h
      refine ⟨t', ?_, h4⟩
      unfold pHead
      rw [if_neg (by rw [isT_head h]; decide), if_neg (by rw [isT_head h]; decide), h3]
theorem emp_of {s : ByteArray} (h : s.size = 0) : s = ⟨#[]⟩ := by
  apply ByteArray.ext
  apply Array.ext'
  exact List.eq_nil_of_length_eq_zero h
theorem pUndo_back {sb : Bool} {un : ByteArray} {t : List Tok} {ys : List ByteArray} (hu : if sb then un.size = 0 else (un.size = 0 ∨ nmR un = true)) (hn : noH ys wd3) (h : tx t = undoT un ++ ys) : ∃ t', pUndo sb t = .ok un t' ∧ tx t' = ys := by
  cases sb with
  | true =>
    have hu : un.size = 0 := hu
    have he := emp_of hu
    unfold undoT at h
    rw [if_pos hu] at h
    exact ⟨t, by unfold pUndo; rw [if_pos rfl, he], h⟩
  | false =>
    have hu : un.size = 0 ∨ nmR un = true := hu
    unfold undoT at h
    by_cases h0 : un.size = 0
    · rw [if_pos h0] at h
      refine ⟨t, ?_, h⟩
      unfold pUndo
      rw [if_neg (by decide), if_neg (by rw [isT_no h hn]; decide), emp_of h0]
    · rw [if_neg h0] at h
      have h : tx t = wd3 :: un :: ys := h
      have h1 := (isN_head h).2.2
      have h2 := isN_head h1
      refine ⟨t.tail.tail, ?_, h2.2.2⟩
      unfold pUndo
      rw [if_neg (by decide), if_pos (by rw [isT_head h]; exact decide_eq_true rfl), if_pos (by rw [h2.1]; exact hu.resolve_left h0), h2.2.1]
theorem noH_cons {a s : ByteArray} {ys : List ByteArray} (h : a ≠ s) : noH (a :: ys) s := by
  intro b hb
  cases hb
  exact h
theorem noH_end {sb : Bool} {al : List (List Nd)} {ys : List ByteArray} {s : ByteArray} (h1 : cLb ≠ s) (h2 : cSm ≠ s) : noH ((if sb then tkA al else [cSm]) ++ ys) s := by
  cases sb with
  | true => exact noH_cons h1
  | false => exact noH_cons h2
theorem noH_aft {l : List ByteArray} {ys : List ByteArray} {s : ByteArray} (h1 : wd4 ≠ s) (h2 : noH ys s) : noH (aftT l ++ ys) s := by
  cases l with
  | nil => exact h2
  | cons x l => exact noH_cons h1
theorem noH_hd {nm : ByteArray} {sb vt : Bool} {ys : List ByteArray} {s : ByteArray} (h1 : wd5 ≠ s) (h2 : wd6 ≠ s) (h3 : wd1 ≠ s) : noH (hdT nm sb vt ++ ys) s := by
  unfold hdT
  cases vt with
  | true => exact noH_cons h1
  | false =>
    cases sb with
    | true => exact noH_cons h2
    | false => exact noH_cons h3
theorem p_back : ∀ f, (∀ nd t ys, fitN nd = true → tx t = tkN nd ++ ys → 3 * t.length + 1 ≤ f → ∃ t', pNode f t = .ok nd t' ∧ tx t' = ys) ∧
    (∀ al t ys, rightB al = true → tx t = tkA al ++ ys → 3 * t.length + 2 ≤ f → ∃ t', pBodies f t = .ok al t' ∧ tx t' = ys) ∧
    (∀ x t ys, fitL x = true → tx t = cL :: (tkL x ++ cR :: ys) → 3 * t.length + 2 ≤ f → ∃ t', pBody f t = .ok x t' ∧ tx t' = ys) ∧
    (∀ al t ys, fitA al = true → noH ys wd7 → tx t = tkO al ++ ys → 3 * t.length + 2 ≤ f → ∃ t', pMoreB f t = .ok al t' ∧ tx t' = ys) ∧
    (∀ x t ys, fitL x = true → tx t = tkL x ++ cR :: ys → 3 * t.length + 2 ≤ f → ∃ t', pNodes f t = .ok x t' ∧ tx t' = ys) := by
  intro f
  induction f with
  | zero => exact ⟨fun _ _ _ _ _ h => (by omega), fun _ _ _ _ _ h => (by omega), fun _ _ _ _ _ h => (by omega), fun _ _ _ _ _ _ h => (by omega), fun _ _ _ _ _ h => (by omega)⟩
  | succ f ih =>
    obtain ⟨h1, h2, h3, h4, h5⟩ := ih
    refine ⟨fun nd t ys hf ht hl => ?_, fun al t ys hf ht hl => ?_, fun x t ys hf ht hl => ?_, fun al t ys hf hn ht hl => ?_, fun x t ys hf ht hl => ?_⟩
    · rw [fitN_eq] at hf
      rw [tkN_eq, List.append_assoc, List.append_assoc, List.append_assoc] at ht
      simp only [Bool.and_eq_true] at hf
      obtain ⟨⟨hnm, haf⟩, hrest⟩ := hf
      have haf := List.all_eq_true.1 haf
      obtain ⟨nm, un, af, sb, vt, al⟩ := nd
      have hnm : nmR nm = true := hnm
      have haf : ∀ s ∈ af, nmR s = true := haf
      have hrest : (if sb then decide (un.size = 0) && rightB al else !vt && al.isEmpty && (decide (un.size = 0) || nmR un)) = true := hrest
      have ht : tx t = hdT nm sb vt ++ (undoT un ++ (aftT af ++ ((if sb then tkA al else [cSm]) ++ ys))) := ht
      have hvt : vt = true → sb = true := by
        intro hv
        cases sb with
        | true => rfl
        | false => rw [hv] at hrest; cases hrest
      have hun : if sb then un.size = 0 else (un.size = 0 ∨ nmR un = true) := by
        cases sb with
        | true =>
          have hrest : (decide (un.size = 0) && rightB al) = true := hrest
          rw [Bool.and_eq_true] at hrest
          exact of_decide_eq_true hrest.1
        | false =>
          have hrest : (!vt && al.isEmpty && (decide (un.size = 0) || nmR un)) = true := hrest
          rw [Bool.and_eq_true, Bool.or_eq_true] at hrest
          exact hrest.2.imp of_decide_eq_true id
      obtain ⟨t1, k1, e1⟩ := pHead_back hnm hvt ht
      obtain ⟨t2, k2, e2⟩ := pUndo_back (sb := sb) hun (noH_aft (by decide) (noH_end (by decide) (by decide))) e1
      obtain ⟨t3, k3, e3⟩ := pAfter_back haf (noH_end (by decide) (by decide)) (noH_end (by decide) (by decide)) e2
      have l1 := pHead_le t
      rw [k1] at l1
      have l1 : t1.length ≤ t.length - 2 := l1
      have l0 := pHead_pos k1
      have l2 := pUndo_le sb t1
      rw [k2] at l2
      have l2 : t2.length ≤ t1.length := l2
      have l3 := pAfter_le t2
      rw [k3] at l3
      have l3 : t3.length ≤ t2.length := l3
      rw [pNode]
      unfold nodeOf
      rw [k1]
      show ∃ t', kU _ sb vt nm t1 = _ ∧ _
      unfold kU
      rw [k2]
      show ∃ t', kA _ sb vt nm un t2 = _ ∧ _
      unfold kA
      rw [k3]
      show ∃ t', kE _ sb vt nm un af t3 = _ ∧ _
      unfold kE pEnd
      cases sb with
      | true =>
        have hrest : (decide (un.size = 0) && rightB al) = true := hrest
        rw [Bool.and_eq_true] at hrest
        obtain ⟨t4, k4, e4⟩ := h2 al t3 ys hrest.2 e3 (by omega)
        exact ⟨t4, by rw [if_pos rfl]; show (pBodies f t3).bind _ = _; rw [k4]; rfl, e4⟩
      | false =>
        have hrest : (!vt && al.isEmpty && (decide (un.size = 0) || nmR un)) = true := hrest
        rw [Bool.and_eq_true, Bool.and_eq_true] at hrest
        have hal : al = [] := List.isEmpty_iff.1 hrest.1.2
        subst hal
        have e3 : tx t3 = cSm :: ys := e3
        exact ⟨t3.tail, by rw [if_neg (by decide), if_pos (by rw [isT_head e3]; exact decide_eq_true rfl)]; rfl, (isN_head e3).2.2⟩
    · have hf : (fitA al && !al.isEmpty) = true := hf
      cases al with
      | nil => rw [Bool.and_eq_true] at hf; cases hf.2
      | cons b al =>
        rw [Bool.and_eq_true] at hf
        have hfa : (fitL b && fitA al) = true := hf.1
        rw [Bool.and_eq_true] at hfa
        have ht : tx t = cLb :: (cL :: ((tkL b ++ cR :: tkO al) ++ [cRb] ++ ys)) := by rw [ht]; simp [tkA, tkR]
        have hs : isT t cLb = true := by rw [isT_head ht]; exact decide_eq_true rfl
        have hl1 := tail_len hs
        have e0 := (isN_head ht).2.2
        obtain ⟨t1, k1, e1⟩ := h3 b t.tail (tkO al ++ (cRb :: ys)) hfa.1 (by rw [e0]; simp) (by omega)
        have l1 := pBody_le k1
        obtain ⟨t2, k2, e2⟩ := h4 al t1 (cRb :: ys) hfa.2 (noH_cons (by decide)) e1 (by omega)
        refine ⟨t2.tail, ?_, (isN_head e2).2.2⟩
        rw [pBodies, if_pos hs, k1]
        show (pMoreB f t1).bind _ = _
        rw [k2]
        show (if isT t2 cRb then Res.ok (b :: al) t2.tail else .bad t2) = _
        rw [if_pos (by rw [isT_head e2]; exact decide_eq_true rfl)]
    · have hs : isT t cL = true := by rw [isT_head ht]; exact decide_eq_true rfl
      have hl1 := tail_len hs
      obtain ⟨t1, k1, e1⟩ := h5 x t.tail ys hf (isN_head ht).2.2 (by omega)
      exact ⟨t1, by rw [pBody, if_pos hs, k1], e1⟩
    · cases al with
      | nil =>
        have ht : tx t = ys := ht
        exact ⟨t, by rw [pMoreB, if_neg (by rw [isT_no ht hn]; decide)], ht⟩
      | cons b al =>
        have hfa : (fitL b && fitA al) = true := hf
        rw [Bool.and_eq_true] at hfa
        have ht : tx t = wd7 :: (cL :: (tkL b ++ cR :: (tkO al ++ ys))) := by rw [ht]; simp [tkO]
        have hs : isT t wd7 = true := by rw [isT_head ht]; exact decide_eq_true rfl
        have hl1 := tail_len hs
        obtain ⟨t1, k1, e1⟩ := h3 b t.tail (tkO al ++ ys) hfa.1 (isN_head ht).2.2 (by omega)
        have l1 := pBody_le k1
        obtain ⟨t2, k2, e2⟩ := h4 al t1 ys hfa.2 hn e1 (by omega)
        refine ⟨t2, ?_, e2⟩
        rw [pMoreB, if_pos hs, k1]
        show (pMoreB f t1).bind _ = _
        rw [k2]
        rfl
    · cases x with
      | nil =>
        have ht : tx t = cR :: ys := ht
        exact ⟨t.tail, by rw [pNodes, if_pos (by rw [isT_head ht]; exact decide_eq_true rfl)], (isN_head ht).2.2⟩
      | cons nd x =>
        have hfa : (fitN nd && fitL x) = true := hf
        rw [Bool.and_eq_true] at hfa
        have ht : tx t = tkN nd ++ (tkL x ++ cR :: ys) := by rw [ht]; simp [tkL]
        have hno : isT t cR = false := isT_no ht (by rw [tkN_eq, List.append_assoc]; exact noH_hd (by decide) (by decide) (by decide))
        obtain ⟨t1, k1, e1⟩ := h1 nd t (tkL x ++ cR :: ys) hfa.1 ht (by omega)
        have l1 := pNode_lt k1
        obtain ⟨t2, k2, e2⟩ := h5 x t1 ys hfa.2 e1 (by omega)
        refine ⟨t2, ?_, e2⟩
        rw [pNodes, if_neg (by rw [hno]; decide), k1]
        show (pNodes f t1).bind _ = _
        rw [k2]
        rfl
theorem pSaga_back {f : Nat} {nm : ByteArray} {al : List (List Nd)} {t : List Tok} (hn : nmR nm = true) (hr : rightB al = true) (ht : tx t = sagaT nm al) (hl : 3 * t.length + 2 ≤ f) : pSaga f t = .ok (nm, al) [] := by
  have ht : tx t = wd0 :: nm :: (tkA al ++ []) := by rw [ht, List.append_nil]; rfl
  have h1 := (isN_head ht).2.2
  have h2 := isN_head h1
  have hs : isT t wd0 = true := by rw [isT_head ht]; exact decide_eq_true rfl
  have hl1 := tail_len hs
  have hl2 := tl_le t.tail
  obtain ⟨t', k, e⟩ := (p_back f).2.1 al t.tail.tail [] hr h2.2.2 (by omega)
  have he : t' = [] := by cases t' with | nil => rfl | cons x t' => cases e
  unfold pSaga
  rw [if_pos hs, if_pos (by rw [h2.1]; exact hn), k, he, h2.2.1]
  rfl
end Go.Proofs.Ytidilpciolladaa

/- Plain: what is read is right, and of the texts of its tokens; a text that is cut off. -/
namespace Go.Proofs.Ytidilpciolladaa
open Go.RowKit

theorem isT_tx {t : List Tok} {s : ByteArray} (h : isT t s = true) : tx t = s :: tx t.tail := by
  cases t with
  | nil => cases h
  | cons x t => show x.text :: _ = _; rw [of_decide_eq_true h]; rfl
theorem isN_tx {t : List Tok} (h : isN t = true) : tx t = txN t :: tx t.tail ∧ nmR (txN t) = true := by
  cases t with
  | nil => cases h
  | cons x t => exact ⟨rfl, h⟩
theorem nmR_size {s : ByteArray} (h : nmR s = true) : s.size ≠ 0 := by
  unfold nmR at h
  rw [Bool.and_eq_true] at h
  exact (nameB_parts h.1).1
theorem pHead2_inv {sb vt : Bool} {wd : ByteArray} {t t' : List Tok} {h : Bool × Bool × ByteArray} (hp : pHead2 sb vt wd t = .ok h t') : h = (sb, vt, h.2.2) ∧ nmR h.2.2 = true ∧ tx t = wd :: h.2.2 :: tx t' := by
  unfold pHead2 at hp
  split at hp
  · rename_i h1
    split at hp
    · rename_i h2
      cases hp
      refine ⟨rfl, (isN_tx h2).2, ?_⟩
      rw [isT_tx h1, (isN_tx h2).1]
    · cases hp
  · cases hp
theorem pHead_inv {t t' : List Tok} {h : Bool × Bool × ByteArray} (hp : pHead t = .ok h t') : nmR h.2.2 = true ∧ (h.2.1 = true → h.1 = true) ∧ tx t = hdT h.2.2 h.1 h.2.1 ++ tx t' := by
  unfold pHead at hp
  split at hp
  · rename_i h1
    obtain ⟨e, h2, h3⟩ := pHead2_inv hp
    rw [e]
    exact ⟨h2, fun _ => rfl, by rw [isT_tx h1, h3]; rfl⟩
  · split at hp
    · rename_i h1
      obtain ⟨e, h2, h3⟩ := pHead2_inv hp
      rw [e]
      exact ⟨h2, fun _ => rfl, by rw [isT_tx h1, h3]; rfl⟩
    · obtain ⟨e, h2, h3⟩ := pHead2_inv hp
      rw [e]
      exact ⟨h2, fun h => (by cases h), by rw [h3]; rfl⟩
theorem pUndo_inv {sb : Bool} {t t' : List Tok} {un : ByteArray} (hp : pUndo sb t = .ok un t') : (if sb then un.size = 0 else (un.size = 0 ∨ nmR un = true)) ∧ tx t = undoT un ++ tx t' := by
  unfold pUndo at hp
  split at hp
  · rename_i hs
    cases hp
    rw [hs]
    exact ⟨rfl, rfl⟩
  · rename_i hs
    have hs : sb = false := by simpa using hs
    subst hs
    split at hp
    · rename_i h1
      split at hp
      · rename_i h2
        cases hp
        have h3 := (isN_tx h2).2
        refine ⟨.inr h3, ?_⟩
        unfold undoT
        rw [if_neg (nmR_size h3), isT_tx h1, (isN_tx h2).1]
        rfl
      · cases hp
    · cases hp
      exact ⟨.inl rfl, rfl⟩
theorem pMore_inv : ∀ (t t' : List Tok) (l : List ByteArray), pMore t = .ok l t' → (∀ s ∈ l, nmR s = true) ∧ tx t = aftO l ++ tx t'
  | [], t', l, h => by cases h; exact ⟨fun _ h => (by cases h), rfl⟩
  | [c], t', l, h => by
    rw [pMore] at h
    split at h
    · cases h
    · cases h; exact ⟨fun _ h => (by cases h), rfl⟩
  | c :: x :: t, t', l, h => by
    rw [pMore] at h
    split at h
    · rename_i hc
      split at h
      · rename_i hx
        cases e : pMore t with
        | bad u => rw [e] at h; cases h
        | ok m u =>
          rw [e] at h
          have h : Res.ok (x.text :: m) u = .ok l t' := h
          cases h
          obtain ⟨h1, h2⟩ := pMore_inv t _ _ e
          refine ⟨fun s hs => ?_, ?_⟩
          · rcases List.mem_cons.1 hs with rfl | hs
            · exact hx
            · exact h1 s hs
          · show c.text :: x.text :: tx t = _
            rw [hc, h2]
            rfl
      · cases h
    · cases h; exact ⟨fun _ h => (by cases h), rfl⟩
theorem pAfter_inv {t t' : List Tok} {l : List ByteArray} (hp : pAfter t = .ok l t') : (∀ s ∈ l, nmR s = true) ∧ tx t = aftT l ++ tx t' := by
  unfold pAfter at hp
  split at hp
  · rename_i h1
    unfold pNames at hp
    split at hp
    · rename_i h2
      cases e : pMore t.tail.tail with
      | bad u => rw [e] at hp; cases hp
      | ok m u =>
        rw [e] at hp
        have h : Res.ok (txN t.tail :: m) u = .ok l t' := hp
        cases h
        obtain ⟨k1, k2⟩ := pMore_inv _ _ _ e
        refine ⟨fun s hs => ?_, ?_⟩
        · rcases List.mem_cons.1 hs with rfl | hs
          · exact (isN_tx h2).2
          · exact k1 s hs
        · rw [isT_tx h1, (isN_tx h2).1, k2]
          rfl
    · cases hp
  · cases hp
    exact ⟨fun _ h => (by cases h), rfl⟩
theorem p_inv : ∀ f, (∀ t nd t', pNode f t = .ok nd t' → fitN nd = true ∧ tx t = tkN nd ++ tx t') ∧ (∀ t al t', pBodies f t = .ok al t' → rightB al = true ∧ tx t = tkA al ++ tx t') ∧
    (∀ t x t', pBody f t = .ok x t' → fitL x = true ∧ tx t = cL :: (tkL x ++ cR :: tx t')) ∧ (∀ t al t', pMoreB f t = .ok al t' → fitA al = true ∧ tx t = tkO al ++ tx t') ∧ (∀ t x t', pNodes f t = .ok x t' → fitL x = true ∧ tx t = tkL x ++ cR :: tx t') := by
  intro f
  induction f with
  | zero => exact ⟨fun t _ _ h => (by rw [pNode] at h; cases h), fun t _ _ h => (by rw [pBodies] at h; cases h), fun t _ _ h => (by rw [pBody] at h; cases h), fun t _ _ h => (by rw [pMoreB] at h; cases h), fun t _ _ h => (by rw [pNodes] at h; cases h)⟩
  | succ f ih =>
    obtain ⟨h1, h2, h3, h4, h5⟩ := ih
    refine ⟨fun t nd t' h => ?_, fun t al t' h => ?_, fun t x t' h => ?_, fun t al t' h => ?_, fun t x t' h => ?_⟩
    · rw [pNode] at h
      unfold nodeOf at h
      cases e1 : pHead t with
      | bad u => rw [e1] at h; cases h
      | ok hd t1 =>
        rw [e1] at h
        obtain ⟨a1, a2, a3⟩ := pHead_inv e1
        obtain ⟨sb, vt, nm⟩ := hd
        have h : kU _ sb vt nm t1 = .ok nd t' := h
        unfold kU at h
        cases e2 : pUndo sb t1 with
        | bad u => rw [e2] at h; cases h
        | ok un t2 =>
          rw [e2] at h
          obtain ⟨b1, b2⟩ := pUndo_inv e2
          have h : kA _ sb vt nm un t2 = .ok nd t' := h
          unfold kA at h
          cases e3 : pAfter t2 with
          | bad u => rw [e3] at h; cases h
          | ok af t3 =>
            rw [e3] at h
            obtain ⟨c1, c2⟩ := pAfter_inv e3
            have h : kE _ sb vt nm un af t3 = .ok nd t' := h
            unfold kE at h
            cases e4 : pEnd (fun t => pBodies f t) sb t3 with
            | bad u => rw [e4] at h; cases h
            | ok al t4 =>
              rw [e4] at h
              have h : Res.ok (.mk nm un af sb vt al) t4 = .ok nd t' := h
              cases h
              have haf : af.all nmR = true := List.all_eq_true.2 c1
              have a1 : nmR nm = true := a1
              have a2 : vt = true → sb = true := a2
              have a3 : tx t = hdT nm sb vt ++ tx t1 := a3
              rw [fitN_eq, tkN_eq, a3, b2, c2]
              show (nmR nm && af.all nmR && (if sb then decide (un.size = 0) && rightB al else !vt && al.isEmpty && (decide (un.size = 0) || nmR un))) = true ∧ hdT nm sb vt ++ (undoT un ++ (aftT af ++ tx t3)) = hdT nm sb vt ++ (undoT un ++ (aftT af ++ (if sb then tkA al else [cSm]))) ++ tx t'
              rw [a1, haf]
              unfold pEnd at e4
              cases sb with
              | true =>
                rw [if_pos rfl] at e4
                obtain ⟨d1, d2⟩ := h2 _ _ _ e4
                have b1 : un.size = 0 := b1
                rw [d1, decide_eq_true b1, d2]
                exact ⟨rfl, by simp⟩
              | false =>
                rw [if_neg (by decide)] at e4
                split at e4
                · rename_i hs
                  cases e4
                  have hv : vt = false := by cases vt with | false => rfl | true => exact absurd (a2 rfl) (by decide)
                  have b1 : un.size = 0 ∨ nmR un = true := b1
                  rw [hv, isT_tx hs]
                  refine ⟨?_, by simp⟩
                  rcases b1 with b1 | b1
                  · rw [decide_eq_true b1]; rfl
                  · rw [b1]; simp
                · cases e4
    · rw [pBodies] at h
      split at h
      · rename_i hs
        cases e1 : pBody f t.tail with
        | bad u => rw [e1] at h; cases h
        | ok b t1 =>
          rw [e1] at h
          obtain ⟨a1, a2⟩ := h3 _ _ _ e1
          have h : (pMoreB f t1).bind _ = .ok al t' := h
          cases e2 : pMoreB f t1 with
          | bad u => rw [e2] at h; cases h
          | ok m t2 =>
            rw [e2] at h
            obtain ⟨b1, b2⟩ := h4 _ _ _ e2
            have h : (if isT t2 cRb then Res.ok (b :: m) t2.tail else .bad t2) = .ok al t' := h
            split at h
            · rename_i hs2
              cases h
              refine ⟨?_, ?_⟩
              · show (fitL b && fitA m && true) = true
                rw [a1, b1]; rfl
              · rw [isT_tx hs, a2, b2, isT_tx hs2]
                simp [tkA, tkR]
            · cases h
      · cases h
    · rw [pBody] at h
      split at h
      · rename_i hs
        obtain ⟨a1, a2⟩ := h5 _ _ _ h
        exact ⟨a1, by rw [isT_tx hs, a2]⟩
      · cases h
    · rw [pMoreB] at h
      split at h
      · rename_i hs
        cases e1 : pBody f t.tail with
        | bad u => rw [e1] at h; cases h
        | ok b t1 =>
          rw [e1] at h
          obtain ⟨a1, a2⟩ := h3 _ _ _ e1
          have h : (pMoreB f t1).bind _ = .ok al t' := h
          cases e2 : pMoreB f t1 with
          | bad u => rw [e2] at h; cases h
          | ok m t2 =>
            rw [e2] at h
            obtain ⟨b1, b2⟩ := h4 _ _ _ e2
            have h : Res.ok (b :: m) t2 = .ok al t' := h
            cases h
            refine ⟨?_, ?_⟩
            · show (fitL b && fitA m) = true
              rw [a1, b1]; rfl
            · rw [isT_tx hs, a2, b2]
              simp [tkO]
      · cases h
        exact ⟨rfl, rfl⟩
    · rw [pNodes] at h
      split at h
      · rename_i hs
        cases h
        exact ⟨rfl, isT_tx hs⟩
      · cases e1 : pNode f t with
        | bad u => rw [e1] at h; cases h
        | ok b t1 =>
          rw [e1] at h
          obtain ⟨a1, a2⟩ := h1 _ _ _ e1
          have h : (pNodes f t1).bind _ = .ok x t' := h
          cases e2 : pNodes f t1 with
          | bad u => rw [e2] at h; cases h
          | ok m t2 =>
            rw [e2] at h
            obtain ⟨b1, b2⟩ := h5 _ _ _ e2
            have h : Res.ok (b :: m) t2 = .ok x t' := h
            cases h
            refine ⟨?_, ?_⟩
            · show (fitN b && fitL m) = true
              rw [a1, b1]; rfl
            · rw [a2, b2]
              simp [tkL]
theorem pSaga_right {f : Nat} {t t' : List Tok} {g : ByteArray × List (List Nd)} (h : pSaga f t = .ok g t') : nmR g.1 = true ∧ rightB g.2 = true ∧ tx t = sagaT g.1 g.2 := by
  obtain ⟨h1, h2, h3, h4, _⟩ := pSaga_inv h
  obtain ⟨k1, k2⟩ := (p_inv f).2.1 _ _ _ h4
  rw [h3]
  refine ⟨(isN_tx h2).2, k1, ?_⟩
  rw [isT_tx h1, (isN_tx h2).1, k2]
  simp [sagaT]
end Go.Proofs.Ytidilpciolladaa

/- Plain: a printed text's tokens; how long it is. -/
namespace Go.Proofs.Ytidilpciolladaa
open Go.RowKit

def tokT (x : ByteArray) : Tok := ⟨kindT x, x, 0⟩
theorem jn_tokT (xs : List ByteArray) : jn xs = joinB (xs.map tokT) := by
  unfold jn joinB
  simp only [List.map_map]
  rfl
def itemsJ : List ByteArray → List (ByteArray × ByteArray)
  | [] => []
  | x :: r => (⟨#[]⟩, x) :: r.map (fun y => (⟨#[32]⟩, y))
theorem flat_tail (r : List ByteArray) : flat (r.map (fun y => ((⟨#[32]⟩ : ByteArray), y))) = Lib.joinTail [32] (r.map (·.data.toList)) := by
  induction r with
  | nil => rfl
  | cons y r ih =>
    rw [List.map_cons, flat, ih]
    simp [Lib.joinTail]
theorem jn_items (xs : List ByteArray) : (jn xs).data.toList = flat (itemsJ xs) := by
  rw [jn_data]
  cases xs with
  | nil => rfl
  | cons x r =>
    rw [List.map_cons, Lib.join_cons]
    show x.data.toList ++ _ = _
    rw [itemsJ, flat, flat_tail]
    rfl
theorem itemsJ_mem {xs : List ByteArray} {y : ByteArray × ByteArray} (h : y ∈ itemsJ xs) : y.2 ∈ xs ∧ (y.1 = ⟨#[]⟩ ∨ y.1 = ⟨#[32]⟩) := by
  cases xs with
  | nil => cases h
  | cons x r =>
    rw [itemsJ] at h
    rcases List.mem_cons.1 h with rfl | h
    · exact ⟨List.mem_cons_self .., .inl rfl⟩
    · obtain ⟨z, hz, rfl⟩ := List.mem_map.1 h
      exact ⟨List.mem_cons_of_mem _ hz, .inr rfl⟩
theorem itemsJ_two (xs : List ByteArray) : (itemsJ xs).map (fun y => (kindT y.2, y.2)) = xs.map (fun y => (kindT y, y)) := by
  cases xs with
  | nil => rfl
  | cons x r => simp [itemsJ]
theorem skip_sp : skips ⟨#[32]⟩ := by
  show skipF _ _ _ _ = _
  kernel_rfl
theorem skip_no : skips ⟨#[]⟩ := by
  show skipF _ _ _ _ = _
  kernel_rfl
/-- A text of names and marks with blanks between is read as these. -/
theorem lex_back {xs : List ByteArray} (hok : ∀ y ∈ xs, okT y = true) : ∃ U, dR (jn xs) = (U, ((jn xs).size : Int), 0) ∧ tx U = xs ∧ (∀ x ∈ U, x.kind = kindT x.text) ∧ ∀ x ∈ U, ∃ a : Nat, x.at_ = a ∧ a + x.text.size ≤ (jn xs).size := by
  have hd := jn_items xs
  obtain ⟨S, hS⟩ : ∃ S, jn xs = S := ⟨_, rfl⟩
  rw [hS] at hd ⊢
  have hly := lay (s := S) (tail := []) (fun c hc => by cases hc) (itemsJ xs) 0 [] (Nat.zero_le _) (by rw [List.drop_zero, hd, List.append_nil])
    (fun y hy => by
      obtain ⟨h1, h2⟩ := itemsJ_mem hy
      refine ⟨hok _ h1, ?_⟩
      rcases h2 with h2 | h2 <;> rw [h2]
      · exact skip_no
      · exact skip_sp)
    (fun y hy => by
      cases xs with
      | nil => cases hy
      | cons x r =>
        obtain ⟨z, hz, rfl⟩ := List.mem_map.1 hy
        refine ⟨by show ¬ (1 = 0); decide, fun c hc => ?_⟩
        cases hc
        exact ⟨by decide, by decide⟩)
  obtain ⟨h1, h2⟩ := hly
  rw [List.length_nil, Nat.sub_zero, List.nil_append, dL_end (s := S) (p := S.size) (rem := false) (out := toksP 0 (itemsJ xs)) (by omega)] at h1
  have htx := toksP_txt 0 (itemsJ xs)
  rw [itemsJ_two] at htx
  refine ⟨toksP 0 (itemsJ xs), dR_inl h1, ?_, fun x hx => ?_, fun x hx => ?_⟩
  · have := congrArg (List.map Prod.snd) htx
    rw [List.map_map, List.map_map] at this
    have h3 : (Prod.snd ∘ fun y : ByteArray => (kindT y, y)) = id := rfl
    rw [h3, List.map_id] at this
    exact this
  · have : txt x ∈ (toksP 0 (itemsJ xs)).map txt := List.mem_map_of_mem hx
    rw [htx] at this
    obtain ⟨y, _, hy⟩ := List.mem_map.1 this
    have h4 : kindT y = x.kind ∧ y = x.text := ⟨congrArg Prod.fst hy, congrArg Prod.snd hy⟩
    rw [← h4.1, ← h4.2]
  · obtain ⟨a, h3, h4, _⟩ := h2 x hx
    exact ⟨a, h3, h4⟩
theorem nm0 : nameB wd0 = true := by rw [name_f]; kernel_rfl
theorem nm1 : nameB wd1 = true := by rw [name_f]; kernel_rfl
theorem nm2 : nameB wd2 = true := by rw [name_f]; kernel_rfl
theorem nm3 : nameB wd3 = true := by rw [name_f]; kernel_rfl
theorem nm4 : nameB wd4 = true := by rw [name_f]; kernel_rfl
theorem nm5 : nameB wd5 = true := by rw [name_f]; kernel_rfl
theorem nm6 : nameB wd6 = true := by rw [name_f]; kernel_rfl
theorem nm7 : nameB wd7 = true := by rw [name_f]; kernel_rfl
theorem ok_nm {x : ByteArray} (h : nmR x = true) : okT x = true := by
  unfold nmR at h
  rw [Bool.and_eq_true] at h
  unfold okT
  rw [h.1]; rfl
theorem ok_wd {x : ByteArray} (h : nameB x = true) : okT x = true := by unfold okT; rw [h]; rfl
theorem ok_mk {x : ByteArray} (h : isMk x = true) : okT x = true := by unfold okT; rw [h, Bool.or_true]
def allOk (l : List ByteArray) : Prop := ∀ x ∈ l, okT x = true
theorem allOk_app {a b : List ByteArray} (ha : allOk a) (hb : allOk b) : allOk (a ++ b) := by
  intro x hx
  rcases List.mem_append.1 hx with h | h
  · exact ha x h
  · exact hb x h
theorem allOk_cons {a : ByteArray} {b : List ByteArray} (ha : okT a = true) (hb : allOk b) : allOk (a :: b) := by
  intro x hx
  rcases List.mem_cons.1 hx with h | h
  · rw [h]; exact ha
  · exact hb x h
theorem allOk_nil : allOk [] := fun _ h => (List.not_mem_nil h).elim
theorem hdT_ok {nm : ByteArray} {sb vt : Bool} (h : nmR nm = true) : allOk (hdT nm sb vt) := by
  unfold hdT
  cases vt with
  | true => exact allOk_cons (ok_wd nm5) (allOk_cons (ok_wd nm2) (allOk_cons (ok_nm h) allOk_nil))
  | false =>
    cases sb with
    | true => exact allOk_cons (ok_wd nm6) (allOk_cons (ok_wd nm2) (allOk_cons (ok_nm h) allOk_nil))
    | false => exact allOk_cons (ok_wd nm1) (allOk_cons (ok_nm h) allOk_nil)
theorem aftO_ok : ∀ {l : List ByteArray}, (∀ s ∈ l, nmR s = true) → allOk (aftO l)
  | [], _ => allOk_nil
  | s :: l, h => allOk_cons (ok_mk (by decide)) (allOk_cons (ok_nm (h s (List.mem_cons_self ..))) (aftO_ok (fun x hx => h x (List.mem_cons_of_mem _ hx))))
theorem aftT_ok {l : List ByteArray} (h : ∀ s ∈ l, nmR s = true) : allOk (aftT l) := by
  cases l with
  | nil => exact allOk_nil
  | cons s l => exact allOk_cons (ok_wd nm4) (allOk_cons (ok_nm (h s (List.mem_cons_self ..))) (aftO_ok (fun x hx => h x (List.mem_cons_of_mem _ hx))))
theorem tkR_sub {al : List (List Nd)} {x : ByteArray} (h : x ∈ tkR al) : x ∈ tkO al := by
  cases al with
  | nil => exact h
  | cons b l => exact List.mem_cons_of_mem _ h
theorem tk_ok_of (hN : ∀ n, fitN n = true → allOk (tkN n)) : (∀ l, fitL l = true → allOk (tkL l)) ∧ ∀ al, fitA al = true → allOk (tkO al) := by
  have hL : ∀ l, fitL l = true → allOk (tkL l) := by
    intro l
    induction l with
    | nil => intro _; exact allOk_nil
    | cons n l ih =>
      intro h
      rw [fitL, Bool.and_eq_true] at h
      exact allOk_app (hN n h.1) (ih h.2)
  refine ⟨hL, fun al => ?_⟩
  induction al with
  | nil => intro _; exact allOk_nil
  | cons b al ih =>
    intro h
    rw [fitA, Bool.and_eq_true] at h
    exact allOk_cons (ok_wd nm7) (allOk_cons (ok_mk (by decide)) (allOk_app (hL b h.1) (allOk_cons (ok_mk (by decide)) (ih h.2))))
theorem tkN_ok (n : Nd) : fitN n = true → allOk (tkN n) := by
  induction n using Nd.rec (motive_2 := fun al => fitA al = true → allOk (tkO al)) (motive_3 := fun l => fitL l = true → allOk (tkL l)) with
  | mk nm un af sb vt al ih =>
    intro h
    rw [fitN_eq] at h
    have h : (nmR nm && af.all nmR && (if sb then decide (un.size = 0) && rightB al else !vt && al.isEmpty && (decide (un.size = 0) || nmR un))) = true := h
    rw [Bool.and_eq_true, Bool.and_eq_true] at h
    rw [tkN_eq]
    show allOk (hdT nm sb vt ++ (undoT un ++ (aftT af ++ (if sb then tkA al else [cSm]))))
    refine allOk_app (hdT_ok h.1.1) (allOk_app ?_ (allOk_app (aftT_ok (List.all_eq_true.1 h.1.2)) ?_))
    · unfold undoT
      by_cases hu : un.size = 0
      · rw [if_pos hu]; exact allOk_nil
      · rw [if_neg hu]
        refine allOk_cons (ok_wd nm3) (allOk_cons (ok_nm ?_) allOk_nil)
        have h2 := h.2
        cases sb with
        | true =>
          have h2 : (decide (un.size = 0) && rightB al) = true := h2
          rw [Bool.and_eq_true] at h2
          exact absurd (of_decide_eq_true h2.1) hu
        | false =>
          have h2 : (!vt && al.isEmpty && (decide (un.size = 0) || nmR un)) = true := h2
          rw [Bool.and_eq_true, Bool.or_eq_true] at h2
          exact h2.2.resolve_left (fun h => hu (of_decide_eq_true h))
    · cases sb with
      | true =>
        have h2 : (decide (un.size = 0) && rightB al) = true := h.2
        rw [Bool.and_eq_true] at h2
        have h3 : (fitA al && !al.isEmpty) = true := h2.2
        rw [Bool.and_eq_true] at h3
        exact allOk_cons (ok_mk (by decide)) (allOk_app (fun x hx => ih h3.1 x (tkR_sub hx)) (allOk_cons (ok_mk (by decide)) allOk_nil))
      | false => exact allOk_cons (ok_mk (by decide)) allOk_nil
  | nil => exact allOk_nil
  | cons a l h1 h2 =>
    rename_i h
    rw [fitA, Bool.and_eq_true] at h
    exact allOk_cons (ok_wd nm7) (allOk_cons (ok_mk (by decide)) (allOk_app (h1 h.1) (allOk_cons (ok_mk (by decide)) (h2 h.2))))
  | _ =>
    first
    | exact allOk_nil
    | (rename_i h1 h2 h
       rw [fitL, Bool.and_eq_true] at h
       exact allOk_app (h1 h.1) (h2 h.2))
theorem sagaT_ok {nm : ByteArray} {al : List (List Nd)} (hn : nmR nm = true) (hr : rightB al = true) : allOk (sagaT nm al) := by
  have h3 : (fitA al && !al.isEmpty) = true := hr
  rw [Bool.and_eq_true] at h3
  exact allOk_cons (ok_wd nm0) (allOk_cons (ok_nm hn) (allOk_cons (ok_mk (by decide)) (allOk_app (fun x hx => (tk_ok_of tkN_ok).2 al h3.1 x (tkR_sub hx)) (allOk_cons (ok_mk (by decide)) allOk_nil))))
end Go.Proofs.Ytidilpciolladaa

/- Plain: how much there is; texts cut off. -/
namespace Go.Proofs.Ytidilpciolladaa
open Go.RowKit

theorem aftO_len (l : List ByteArray) : (aftO l).length = 2 * l.length := by
  induction l with
  | nil => rfl
  | cons s l ih => rw [aftO, List.length_cons, List.length_cons, ih, List.length_cons]; omega
theorem aftT_len (l : List ByteArray) : (aftT l).length = 2 * l.length := by
  cases l with
  | nil => rfl
  | cons s l => rw [aftT, List.length_cons, List.length_cons, aftO_len, List.length_cons]; omega
theorem tkR_len (al : List (List Nd)) : (tkR al).length ≤ (tkO al).length := by
  cases al with
  | nil => exact Nat.le_refl _
  | cons b l => show _ ≤ (wd7 :: cL :: (tkL b ++ cR :: tkO l)).length; rw [tkR, List.length_cons (a := wd7)]; omega
theorem m_len (n : Nd) : (tkN n).length ≤ 8 * mN n ∧ countN n ≤ mN n := by
  induction n using Nd.rec (motive_2 := fun al => (tkO al).length ≤ 8 * mB al ∧ countB al ≤ mB al) (motive_3 := fun l => (tkL l).length ≤ 8 * mL l ∧ countL l ≤ mL l) with
  | mk nm un af sb vt al ih =>
    obtain ⟨ih1, ih2⟩ := ih
    rw [tkN_eq, mN_eq, countN_eq]
    show (hdT nm sb vt ++ (undoT un ++ (aftT af ++ (if sb then tkA al else [cSm])))).length ≤ 8 * (1 + af.length + mB al) ∧ countB al + 1 ≤ 1 + af.length + mB al
    have h1 : (hdT nm sb vt).length ≤ 3 := by unfold hdT; cases vt <;> cases sb <;> simp
    have h2 : (undoT un).length ≤ 2 := by unfold undoT; split <;> simp
    have h3 := tkR_len al
    have h4 : (if sb = true then tkA al else [cSm]).length ≤ 2 + (tkO al).length := by
      cases sb with
      | true => show (cLb :: (tkR al ++ [cRb])).length ≤ _; rw [List.length_cons, List.length_append, List.length_singleton]; omega
      | false => show 1 ≤ _; omega
    rw [List.length_append, List.length_append, List.length_append, aftT_len]
    omega
  | nil => exact ⟨Nat.zero_le _, Nat.zero_le _⟩
  | cons a l h1 h2 =>
    rw [tkO, mB, countB, List.length_cons, List.length_cons, List.length_append, List.length_cons]
    omega
  | _ =>
    first
    | exact ⟨Nat.zero_le _, Nat.zero_le _⟩
    | (rename_i h1 h2
       rw [tkL, mL, countL, List.length_append]
       omega)
theorem m_lenB : ∀ al : List (List Nd), (tkO al).length ≤ 8 * mB al ∧ countB al ≤ mB al := by
  have hL : ∀ l : List Nd, (tkL l).length ≤ 8 * mL l ∧ countL l ≤ mL l := by
    intro l
    induction l with
    | nil => exact ⟨Nat.zero_le _, Nat.zero_le _⟩
    | cons n l ih =>
      have := m_len n
      rw [tkL, mL, countL, List.length_append]
      omega
  intro al
  induction al with
  | nil => exact ⟨Nat.zero_le _, Nat.zero_le _⟩
  | cons b al ih =>
    have := hL b
    rw [tkO, mB, countB, List.length_cons, List.length_cons, List.length_append, List.length_cons]
    omega
def allSm (l : List ByteArray) : Prop := ∀ x ∈ l, x.size ≤ 200
theorem allSm_app {a b : List ByteArray} (ha : allSm a) (hb : allSm b) : allSm (a ++ b) := by
  intro x hx
  rcases List.mem_append.1 hx with h | h
  · exact ha x h
  · exact hb x h
theorem allSm_cons {a : ByteArray} {b : List ByteArray} (ha : a.size ≤ 200) (hb : allSm b) : allSm (a :: b) := by
  intro x hx
  rcases List.mem_cons.1 hx with h | h
  · rw [h]; exact ha
  · exact hb x h
theorem allSm_nil : allSm [] := fun _ h => (List.not_mem_nil h).elim
theorem aftO_sm : ∀ {l : List ByteArray}, (∀ s ∈ l, s.size ≤ 200) → allSm (aftO l)
  | [], _ => allSm_nil
  | s :: l, h => allSm_cons (by decide) (allSm_cons (h s (List.mem_cons_self ..)) (aftO_sm (fun x hx => h x (List.mem_cons_of_mem _ hx))))
theorem aftT_sm {l : List ByteArray} (h : ∀ s ∈ l, s.size ≤ 200) : allSm (aftT l) := by
  cases l with
  | nil => exact allSm_nil
  | cons s l => exact allSm_cons (by decide) (allSm_cons (h s (List.mem_cons_self ..)) (aftO_sm (fun x hx => h x (List.mem_cons_of_mem _ hx))))
theorem tkN_sm (n : Nd) : shN n → allSm (tkN n) := by
  induction n using Nd.rec (motive_2 := fun al => shB al → allSm (tkO al)) (motive_3 := fun l => shL l → allSm (tkL l)) with
  | mk nm un af sb vt al ih =>
    intro h
    rw [shN_eq] at h
    obtain ⟨h1, h2, h3, h4⟩ := h
    have h1 : nm.size ≤ 200 := h1
    have h2 : un.size ≤ 200 := h2
    rw [tkN_eq]
    show allSm (hdT nm sb vt ++ (undoT un ++ (aftT af ++ (if sb then tkA al else [cSm]))))
    refine allSm_app ?_ (allSm_app ?_ (allSm_app (aftT_sm h3) ?_))
    · unfold hdT
      cases vt with
      | true => exact allSm_cons (by decide) (allSm_cons (by decide) (allSm_cons h1 allSm_nil))
      | false =>
        cases sb with
        | true => exact allSm_cons (by decide) (allSm_cons (by decide) (allSm_cons h1 allSm_nil))
        | false => exact allSm_cons (by decide) (allSm_cons h1 allSm_nil)
    · unfold undoT
      split
      · exact allSm_nil
      · exact allSm_cons (by decide) (allSm_cons h2 allSm_nil)
    · cases sb with
      | true => exact allSm_cons (by decide) (allSm_app (fun x hx => ih h4 x (tkR_sub hx)) (allSm_cons (by decide) allSm_nil))
      | false => exact allSm_cons (by decide) allSm_nil
  | nil => exact allSm_nil
  | cons a l h1 h2 =>
    rename_i h
    rw [shB] at h
    exact allSm_cons (by decide) (allSm_cons (by decide) (allSm_app (h1 h.1) (allSm_cons (by decide) (h2 h.2))))
  | _ =>
    first
    | exact allSm_nil
    | (rename_i h1 h2 h
       rw [shL] at h
       exact allSm_app (h1 h.1) (h2 h.2))
theorem tkO_sm : ∀ al : List (List Nd), shB al → allSm (tkO al) := by
  have hL : ∀ l : List Nd, shL l → allSm (tkL l) := by
    intro l
    induction l with
    | nil => intro _; exact allSm_nil
    | cons n l ih =>
      intro h
      rw [shL] at h
      exact allSm_app (tkN_sm n h.1) (ih h.2)
  intro al
  induction al with
  | nil => intro _; exact allSm_nil
  | cons b al ih =>
    intro h
    rw [shB] at h
    exact allSm_cons (by decide) (allSm_cons (by decide) (allSm_app (hL b h.1) (allSm_cons (by decide) (ih h.2))))
def sumZ : List ByteArray → Nat
  | [] => 0
  | x :: l => x.size + sumZ l
theorem jn_sum : ∀ xs, (jn xs).size ≤ sumZ xs + xs.length
  | [] => Nat.zero_le _
  | [x] => by rw [jn_one]; show x.size ≤ x.size + 0 + 1; omega
  | x :: y :: l => by
    have h := jn_size (xs := [x]) (ys := y :: l) (by simp) (by simp)
    rw [jn_one] at h
    have ih := jn_sum (y :: l)
    show (jn ([x] ++ (y :: l))).size ≤ x.size + sumZ (y :: l) + (l.length + 1 + 1)
    rw [List.length_cons] at ih
    omega
theorem sumZ_sm {l : List ByteArray} (h : allSm l) : sumZ l ≤ 200 * l.length := by
  induction l with
  | nil => exact Nat.le_refl _
  | cons x l ih =>
    have h1 := h x (List.mem_cons_self ..)
    have h2 := ih (fun y hy => h y (List.mem_cons_of_mem _ hy))
    rw [sumZ, List.length_cons]; omega
theorem sumZ_app (a b : List ByteArray) : sumZ (a ++ b) = sumZ a + sumZ b := by
  induction a with
  | nil => rw [List.nil_append, sumZ]; omega
  | cons x a ih => rw [List.cons_append, sumZ, sumZ, ih]; omega
/-- Of a saga of few parts. -/
theorem few_bounds {nm : ByteArray} {al : List (List Nd)} (h1 : nm.size ≤ 200) (h2 : mB al ≤ 2000) (h3 : shB al) : countB al ≤ 4294967296 ∧ (tkA al).length + 2 ≤ 100000 ∧ (jn (sagaT nm al)).size ≤ 140737488355328 ∧ (tkA al).length ≤ 16002 := by
  obtain ⟨k1, k2⟩ := m_lenB al
  have k3 := tkR_len al
  have k4 : (tkA al).length = (tkR al).length + 2 := by show (cLb :: (tkR al ++ [cRb])).length = _; rw [List.length_cons, List.length_append, List.length_singleton]
  have hs : allSm (sagaT nm al) := allSm_cons (by decide) (allSm_cons h1 (allSm_cons (by decide) (allSm_app (fun x hx => tkO_sm al h3 x (tkR_sub hx)) (allSm_cons (by decide) allSm_nil))))
  have k5 := jn_sum (sagaT nm al)
  have k6 := sumZ_sm hs
  have k7 : (sagaT nm al).length = (tkA al).length + 2 := rfl
  refine ⟨by omega, by omega, by omega, by omega⟩
/-- Tokens are, together, no longer than the text. -/
theorem dL_sum {s : ByteArray} : ∀ (n p : Nat) (rem : Bool) (out l : List Tok), s.size - p ≤ n → p ≤ s.size → sumZ (tx out) ≤ p → dL s p rem out = .inl l → sumZ (tx l) ≤ s.size := by
  intro n
  induction n with
  | zero =>
    intro p rem out l hn hps hlen h
    rw [dL_end (by omega)] at h
    cases h
    omega
  | succ n ih =>
    intro p rem out l hn hps hlen h
    by_cases hp : p < s.size
    · cases hb : bad s p with
      | true => rw [dL_bad hp hb] at h; cases h
      | false =>
        have hw := width_pos s p
        have hwl := width_le hp
        have happ : ∀ (k : Int) (b : Nat) (q : Int), p ≤ b → b ≤ s.size → sumZ (tx (out ++ [⟨k, s.extract p b, q⟩])) ≤ b := fun k b q h1 h2 => by
          show sumZ (List.map _ (out ++ [_])) ≤ b
          rw [List.map_append, sumZ_app]
          show sumZ (tx out) + ((s.extract p b).size + 0) ≤ b
          rw [size_ext h2]; omega
        obtain ⟨e1, e2⟩ : s.size - (p + (Utf8.decode s p).2) ≤ n ∧ p ≤ p + (Utf8.decode s p).2 := by
          clear h happ
          generalize (Utf8.decode s p).2 = d at hw hwl ⊢
          omega
        rw [dL_step hp hb] at h
        split at h
        · exact ih _ _ _ _ e1 hwl (Nat.le_trans hlen e2) h
        · split at h
          · rename_i hc
            split at h
            · cases h
            · rename_i hl
              have h1 := runE_gt hp hb hc
              have h2 := runE_le (s := s) (p := p) (Nat.le_of_lt hp)
              obtain ⟨e4, e5⟩ : s.size - runE s p ≤ n ∧ p ≤ runE s p := by
                clear h hl hc hw hwl e1 e2 happ
                generalize runE s p = d at h1 h2 ⊢
                omega
              exact ih (runE s p) rem (out ++ [⟨1, s.extract p (runE s p), (p : Int)⟩]) l e4 h2 (happ _ _ _ e5 h2) h
          · split at h
            · exact ih (p + (Utf8.decode s p).2) rem (out ++ [⟨2, s.extract p (p + (Utf8.decode s p).2), (p : Int)⟩]) l e1 hwl (happ _ _ _ e2 hwl) h
            · split at h
              · exact ih _ _ _ _ e1 hwl (Nat.le_trans hlen e2) h
              · cases h
    · rw [dL_end hp] at h
      cases h
      omega
theorem dR_sum (s : ByteArray) : sumZ (tx (dR s).1) ≤ s.size := by
  unfold dR
  cases h : dL s 0 false [] with
  | inl l => exact dL_sum _ 0 false [] l (Nat.le_refl _) (Nat.zero_le _) (Nat.le_refl _) h
  | inr q => exact Nat.zero_le _
end Go.Proofs.Ytidilpciolladaa

/- Plain: a reader that goes on behind a text's end. -/
namespace Go.Proofs.Ytidilpciolladaa
open Go.RowKit

/-- With more tokens behind the same is read (where the end was not looked at). -/
def ExtP {α : Type} (cl : Bool) (p : List Tok → Res α) : Prop := ∀ t u, match p t with
  | .ok a t' => (cl = true ∨ t' ≠ []) → p (t ++ u) = .ok a (t' ++ u)
  | .bad t' => t' ≠ [] → p (t ++ u) = .bad (t' ++ u)
theorem ExtP.okE {α : Type} {cl : Bool} {p : List Tok → Res α} (h : ExtP cl p) {t t' : List Tok} {a : α} (e : p t = .ok a t') (hc : cl = true ∨ t' ≠ []) (u : List Tok) : p (t ++ u) = .ok a (t' ++ u) := by
  have := h t u
  rw [e] at this
  exact this hc
theorem ExtP.badE {α : Type} {cl : Bool} {p : List Tok → Res α} (h : ExtP cl p) {t t' : List Tok} (e : p t = .bad t') (hc : t' ≠ []) (u : List Tok) : p (t ++ u) = .bad (t' ++ u) := by
  have := h t u
  rw [e] at this
  exact this hc
theorem ExtP.mk' {α : Type} {cl : Bool} {p : List Tok → Res α} (h1 : ∀ t t' a u, p t = .ok a t' → (cl = true ∨ t' ≠ []) → p (t ++ u) = .ok a (t' ++ u)) (h2 : ∀ t t' u, p t = .bad t' → t' ≠ [] → p (t ++ u) = .bad (t' ++ u)) : ExtP cl p := by
  intro t u
  cases e : p t with
  | ok a t' => exact fun hc => h1 t t' a u e hc
  | bad t' => exact fun hc => h2 t t' u e hc
theorem ExtP.bind {α β : Type} {c1 c2 : Bool} {p : List Tok → Res α} {k : α → List Tok → Res β} (hp : ExtP c1 p) (hk : ∀ a, ExtP c2 (k a)) (hn : c1 = true ∨ ∀ a, k a [] = .bad []) : ExtP c2 (fun t => (p t).bind k) := by
  refine ExtP.mk' (fun t t' b u e hc => ?_) (fun t t' u e hc => ?_)
  · cases e1 : p t with
    | bad t1 => rw [e1] at e; cases e
    | ok a t1 =>
      rw [e1] at e
      have e : k a t1 = .ok b t' := e
      have h1 : c1 = true ∨ t1 ≠ [] := by
        rcases hn with h | h
        · exact .inl h
        · refine .inr (fun h0 => ?_)
          rw [h0, h a] at e
          cases e
      show (p (t ++ u)).bind k = _
      rw [hp.okE e1 h1 u]
      exact (hk a).okE e hc u
  · cases e1 : p t with
    | bad t1 =>
      rw [e1] at e
      cases e
      show (p (t ++ u)).bind k = _
      rw [hp.badE e1 hc u]
      rfl
    | ok a t1 =>
      rw [e1] at e
      have e : k a t1 = .bad t' := e
      have h1 : c1 = true ∨ t1 ≠ [] := by
        rcases hn with h | h
        · exact .inl h
        · refine .inr (fun h0 => ?_)
          rw [h0, h a] at e
          cases e
          exact hc rfl
      show (p (t ++ u)).bind k = _
      rw [hp.okE e1 h1 u]
      exact (hk a).badE e hc u
theorem isT_app {t : List Tok} (u : List Tok) {s : ByteArray} (h : t ≠ []) : isT (t ++ u) s = isT t s := by cases t with | nil => exact absurd rfl h | cons x t => rfl
theorem isN_app {t : List Tok} (u : List Tok) (h : t ≠ []) : isN (t ++ u) = isN t ∧ txN (t ++ u) = txN t := by cases t with | nil => exact absurd rfl h | cons x t => exact ⟨rfl, rfl⟩
theorem tail_app {t : List Tok} (u : List Tok) (h : t ≠ []) : (t ++ u).tail = t.tail ++ u := by cases t with | nil => exact absurd rfl h | cons x t => rfl
theorem isT_ne {t : List Tok} {s : ByteArray} (h : isT t s = true) : t ≠ [] := by rintro rfl; cases h
theorem isN_ne {t : List Tok} (h : isN t = true) : t ≠ [] := by rintro rfl; cases h
/-- A text, then what follows. -/
theorem ext_must {α : Type} {c : Bool} {s : ByteArray} {q : List Tok → Res α} (hq : ExtP c q) : ExtP c (fun t => if isT t s then q t.tail else .bad t) := by
  refine ExtP.mk' (fun t t' b u e hc => ?_) (fun t t' u e hc => ?_)
  · cases hs : isT t s with
    | false => simp only [hs, Bool.false_eq_true, if_false] at e; cases e
    | true =>
      simp only [hs, if_true] at e
      simp only [isT_app u (isT_ne hs), hs, if_true, tail_app u (isT_ne hs)]
      exact hq.okE e hc u
  · cases hs : isT t s with
    | false =>
      simp only [hs, Bool.false_eq_true, if_false] at e
      cases e
      simp only [isT_app u hc, hs, Bool.false_eq_true, if_false]
    | true =>
      simp only [hs, if_true] at e
      simp only [isT_app u (isT_ne hs), hs, if_true, tail_app u (isT_ne hs)]
      exact hq.badE e hc u
/-- A text that may be, or else. -/
theorem ext_may {α : Type} {c : Bool} {s : ByteArray} {q q2 : List Tok → Res α} (hq : ExtP c q) (hq2 : ExtP c q2) (h0 : (∃ b, q2 [] = .ok b [] ∧ c = false) ∨ q2 [] = .bad []) : ExtP c (fun t => if isT t s then q t.tail else q2 t) := by
  refine ExtP.mk' (fun t t' b u e hc => ?_) (fun t t' u e hc => ?_)
  · cases hs : isT t s with
    | false =>
      simp only [hs, Bool.false_eq_true, if_false] at e
      have ht : t ≠ [] := by
        rintro rfl
        rcases h0 with ⟨b', h0, h1⟩ | h0
        · rw [h0] at e
          cases e
          rcases hc with h | h
          · rw [h1] at h; cases h
          · exact h rfl
        · rw [h0] at e; cases e
      simp only [isT_app u ht, hs, Bool.false_eq_true, if_false]
      exact hq2.okE e hc u
    | true =>
      simp only [hs, if_true] at e
      simp only [isT_app u (isT_ne hs), hs, if_true, tail_app u (isT_ne hs)]
      exact hq.okE e hc u
  · cases hs : isT t s with
    | false =>
      simp only [hs, Bool.false_eq_true, if_false] at e
      have ht : t ≠ [] := by
        rintro rfl
        rcases h0 with ⟨b', h0, _⟩ | h0
        · rw [h0] at e; cases e
        · rw [h0] at e; cases e; exact hc rfl
      simp only [isT_app u ht, hs, Bool.false_eq_true, if_false]
      exact hq2.badE e hc u
    | true =>
      simp only [hs, if_true] at e
      simp only [isT_app u (isT_ne hs), hs, if_true, tail_app u (isT_ne hs)]
      exact hq.badE e hc u
/-- A name. -/
theorem ext_name {α : Type} (f : ByteArray → α) : ExtP true (fun t => if isN t then .ok (f (txN t)) t.tail else .bad t) := by
  refine ExtP.mk' (fun t t' b u e _ => ?_) (fun t t' u e hc => ?_)
  · cases hs : isN t with
    | false => simp only [hs, Bool.false_eq_true, if_false] at e; cases e
    | true =>
      simp only [hs, if_true] at e
      obtain ⟨h1, h2⟩ := isN_app u (isN_ne hs)
      simp only [h1, h2, hs, if_true, tail_app u (isN_ne hs)]
      cases e
      rfl
  · cases hs : isN t with
    | false =>
      simp only [hs, Bool.false_eq_true, if_false] at e
      cases e
      obtain ⟨h1, h2⟩ := isN_app u hc
      simp only [h1, hs, Bool.false_eq_true, if_false]
    | true => simp only [hs, if_true] at e; cases e
theorem ext_ok {α : Type} (c : Bool) (a : α) : ExtP c (fun t => .ok a t) := fun t u _ => rfl
theorem ext_bad {α : Type} (c : Bool) : ExtP (α := α) c (fun t => .bad t) := fun t u _ => rfl
theorem pMore_app : ∀ (t u : List Tok), match pMore t with
    | .ok a t' => t' ≠ [] → pMore (t ++ u) = .ok a (t' ++ u)
    | .bad t' => t' ≠ [] → pMore (t ++ u) = .bad (t' ++ u)
  | [], u => fun h => absurd rfl h
  | [c], u => by
    by_cases hc : c.text = cCm
    · rw [pMore, if_pos hc]
      exact fun h => absurd rfl h
    · rw [pMore, if_neg hc]
      intro _
      exact pMore_no (decide_eq_false hc)
  | c :: x :: t, u => by
    by_cases hc : c.text = cCm
    · by_cases hx : nmR x.text = true
      · rw [pMore, if_pos hc, if_pos hx]
        have ih := pMore_app t u
        have he : pMore (c :: x :: t ++ u) = (pMore (t ++ u)).map (x.text :: ·) := by
          show pMore (c :: x :: (t ++ u)) = _
          rw [pMore, if_pos hc, if_pos hx]
        cases e : pMore t with
        | ok a t' =>
          rw [e] at ih
          intro h
          rw [he, ih h]
          rfl
        | bad t' =>
          rw [e] at ih
          intro h
          rw [he, ih h]
          rfl
      · rw [pMore, if_pos hc, if_neg hx]
        intro _
        show pMore (c :: x :: (t ++ u)) = _
        rw [pMore, if_pos hc, if_neg hx]
        rfl
    · rw [pMore, if_neg hc]
      intro _
      show pMore (c :: x :: (t ++ u)) = _
      rw [pMore, if_neg hc]
      rfl
theorem pMore_ext : ExtP false pMore := by
  intro t u
  have h := pMore_app t u
  cases e : pMore t with
  | ok a t' => rw [e] at h; exact fun hc => h (hc.resolve_left (by decide))
  | bad t' => rw [e] at h; exact h
theorem map_ext {α β : Type} {c : Bool} {p : List Tok → Res α} (h : ExtP c p) (f : α → β) : ExtP c (fun t => (p t).map f) := by
  refine ExtP.mk' (fun t t' b u e hc => ?_) (fun t t' u e hc => ?_)
  · cases e1 : p t with
    | bad t1 => simp only [e1] at e; cases e
    | ok a t1 =>
      simp only [e1] at e
      cases e
      show (p (t ++ u)).map f = _
      rw [h.okE e1 hc u]
      rfl
  · cases e1 : p t with
    | ok a t1 => simp only [e1] at e; cases e
    | bad t1 =>
      simp only [e1] at e
      cases e
      show (p (t ++ u)).map f = _
      rw [h.badE e1 hc u]
      rfl
theorem pNames_ext : ExtP false pNames := by
  refine ExtP.mk' (fun t t' b u e hc => ?_) (fun t t' u e hc => ?_)
  · unfold pNames at e ⊢
    cases hs : isN t with
    | false => rw [hs, if_neg (by decide)] at e; cases e
    | true =>
      rw [hs, if_pos rfl] at e
      obtain ⟨h1, h2⟩ := isN_app u (isN_ne hs)
      rw [h1, h2, hs, if_pos rfl, tail_app u (isN_ne hs)]
      exact (map_ext pMore_ext _).okE e hc u
  · unfold pNames at e ⊢
    cases hs : isN t with
    | false =>
      rw [hs, if_neg (by decide)] at e
      cases e
      rw [(isN_app u hc).1, hs, if_neg (by decide)]
    | true =>
      rw [hs, if_pos rfl] at e
      obtain ⟨h1, h2⟩ := isN_app u (isN_ne hs)
      rw [h1, h2, hs, if_pos rfl, tail_app u (isN_ne hs)]
      exact (map_ext pMore_ext _).badE e hc u
theorem pHead_ext : ExtP true pHead := by
  have h2 : ∀ sb vt wd, ExtP true (pHead2 sb vt wd) := fun sb vt wd => ext_must (ext_name (fun s => (sb, vt, s)))
  exact ext_may (h2 true true wd2) (ext_may (h2 true false wd2) (h2 false false wd1) (.inr rfl)) (.inr rfl)
theorem pUndo_ext (sb : Bool) : ExtP false (pUndo sb) := by
  cases sb with
  | true => exact ext_ok false _
  | false =>
    have hn := ext_name (fun s => s)
    have hn' : ExtP false (fun t => if isN t then Res.ok (txN t) t.tail else .bad t) := by
      refine ExtP.mk' (fun t t' b u e _ => hn.okE e (.inl rfl) u) (fun t t' u e hc => hn.badE e hc u)
    exact ext_may hn' (ext_ok false _) (.inl ⟨_, rfl, rfl⟩)
theorem pAfter_ext : ExtP false pAfter := ext_may pNames_ext (ext_ok false _) (.inl ⟨_, rfl, rfl⟩)
theorem p_ext : ∀ f, ExtP true (pNode f) ∧ ExtP true (pBodies f) ∧ ExtP true (pBody f) ∧ ExtP false (pMoreB f) ∧ ExtP true (pNodes f) := by
  intro f
  induction f with
  | zero => exact ⟨fun t u => (by rw [pNode]; intro _; rw [pNode]), fun t u => (by rw [pBodies]; intro _; rw [pBodies]), fun t u => (by rw [pBody]; intro _; rw [pBody]), fun t u => (by rw [pMoreB]; intro _; rw [pMoreB]), fun t u => (by rw [pNodes]; intro _; rw [pNodes])⟩
  | succ f ih =>
    obtain ⟨h1, h2, h3, h4, h5⟩ := ih
    have hsm : ∀ {α : Type} (s : ByteArray) (a : α), ExtP true (fun t => if isT t s then Res.ok a t.tail else .bad t) := fun s a => ext_must (ext_ok true a)
    have hb0 : pBodies f [] = .bad [] := by cases f with | zero => rfl | succ f => rw [pBodies]; rfl
    have e1 : ExtP true (pNode (f + 1)) := by
      have hE : ∀ sb vt nm un af, ExtP true (kE (fun t => pBodies f t) sb vt nm un af) := by
        intro sb vt nm un af
        have hp : ExtP true (pEnd (fun t => pBodies f t) sb) := by
          cases sb with
          | true => exact h2
          | false => exact hsm cSm []
        exact ExtP.bind hp (fun al => ext_ok true _) (.inl rfl)
      have hE0 : ∀ sb vt nm un af, kE (fun t => pBodies f t) sb vt nm un af [] = .bad [] := by
        intro sb vt nm un af
        cases sb with
        | true => unfold kE pEnd; rw [if_pos rfl]; show (pBodies f []).bind _ = _; rw [hb0]; rfl
        | false => rfl
      have hA : ∀ sb vt nm un, ExtP true (kA (fun t => pBodies f t) sb vt nm un) := fun sb vt nm un => ExtP.bind pAfter_ext (fun af => hE sb vt nm un af) (.inr (fun af => hE0 sb vt nm un af))
      have hA0 : ∀ sb vt nm un, kA (fun t => pBodies f t) sb vt nm un [] = .bad [] := fun sb vt nm un => hE0 sb vt nm un []
      have hU : ∀ sb vt nm, ExtP true (kU (fun t => pBodies f t) sb vt nm) := fun sb vt nm => ExtP.bind (pUndo_ext sb) (fun un => hA sb vt nm un) (.inr (fun un => hA0 sb vt nm un))
      have := ExtP.bind (k := fun h t => kU (fun t => pBodies f t) h.1 h.2.1 h.2.2 t) pHead_ext (fun h => hU h.1 h.2.1 h.2.2) (.inl rfl)
      intro t u
      rw [pNode, pNode]
      exact this t u
    have e5 : ExtP true (pNodes (f + 1)) := by
      have hk : ∀ n, ExtP true (fun t => (pNodes f t).bind (fun m t => Res.ok (n :: m) t)) := fun n => ExtP.bind h5 (fun m => ext_ok true _) (.inl rfl)
      have hq : ExtP true (fun t => (pNode f t).bind (fun n t => (pNodes f t).bind (fun m t => Res.ok (n :: m) t))) := ExtP.bind h1 hk (.inl rfl)
      have hn0 : pNode f [] = .bad [] := by cases f with | zero => rfl | succ f => rw [pNode]; rfl
      have := ext_may (s := cR) (ext_ok true ([] : List Nd)) hq (.inr (by rw [hn0]; rfl))
      intro t u
      rw [pNodes, pNodes]
      exact this t u
    have e3 : ExtP true (pBody (f + 1)) := by
      have := ext_must (s := cL) h5
      intro t u
      rw [pBody, pBody]
      exact this t u
    have e4 : ExtP false (pMoreB (f + 1)) := by
      have hk : ∀ b, ExtP false (fun t => (pMoreB f t).bind (fun m t => Res.ok (b :: m) t)) := by
        intro b
        refine ExtP.mk' (fun t t' a u e hc => ?_) (fun t t' u e hc => ?_)
        · cases e1 : pMoreB f t with
          | bad t1 => simp only [e1] at e; cases e
          | ok m t1 =>
            simp only [e1] at e
            cases e
            show (pMoreB f (t ++ u)).bind _ = _
            rw [h4.okE e1 hc u]
            rfl
        · cases e1 : pMoreB f t with
          | ok m t1 => simp only [e1] at e; cases e
          | bad t1 =>
            simp only [e1] at e
            cases e
            show (pMoreB f (t ++ u)).bind _ = _
            rw [h4.badE e1 hc u]
            rfl
      have hq : ExtP false (fun t => (pBody f t).bind (fun b t => (pMoreB f t).bind (fun m t => Res.ok (b :: m) t))) := ExtP.bind h3 hk (.inl rfl)
      have := ext_may (s := wd7) hq (ext_ok false ([] : List (List Nd))) (.inl ⟨_, rfl, rfl⟩)
      intro t u
      rw [pMoreB, pMoreB]
      exact this t u
    have e2 : ExtP true (pBodies (f + 1)) := by
      have hk : ∀ b, ExtP true (fun t => (pMoreB f t).bind (fun m t => if isT t cRb then Res.ok (b :: m) t.tail else .bad t)) := fun b => ExtP.bind h4 (fun m => hsm cRb (b :: m)) (.inr (fun m => rfl))
      have hq : ExtP true (fun t => (pBody f t).bind (fun b t => (pMoreB f t).bind (fun m t => if isT t cRb then Res.ok (b :: m) t.tail else .bad t))) := ExtP.bind h3 hk (.inl rfl)
      have := ext_must (s := cLb) hq
      intro t u
      rw [pBodies, pBodies]
      exact this t u
    exact ⟨e1, e2, e3, e4, e5⟩
theorem sagaK_ext (nm : ByteArray) (al : List (List Nd)) : ExtP false (sagaK nm al) := by
  refine ExtP.mk' (fun t t' a u e hc => ?_) (fun t t' u e hc => ?_)
  · cases t with
    | nil => cases e; exact absurd rfl (hc.resolve_left (by decide))
    | cons x t => cases e
  · cases t with
    | nil => cases e
    | cons x t => cases e; rfl
theorem pSaga_ext (f : Nat) : ExtP false (pSaga f) := by
  refine ExtP.mk' (fun t t' a u e hc => ?_) (fun t t' u e hc => ?_)
  · obtain ⟨_, _, _, _, h⟩ := pSaga_inv e
    exact absurd h (hc.resolve_left (by decide))
  · unfold pSaga at e ⊢
    split at e
    · rename_i h1
      rw [isT_app u (isT_ne h1), if_pos h1, tail_app u (isT_ne h1)]
      split at e
      · rename_i h2
        obtain ⟨k1, k2⟩ := isN_app u (isN_ne h2)
        rw [k1, k2, if_pos h2, tail_app u (isN_ne h2)]
        exact (ExtP.bind (p_ext f).2.1 (fun al => sagaK_ext (txN t.tail) al) (.inl rfl)).badE e hc u
      · rename_i h2
        cases e
        rw [(isN_app u hc).1, if_neg h2]
    · rename_i h1
      cases e
      rw [isT_app u hc, if_neg h1]
/-- A saga's tokens that are cut off. -/
theorem pSaga_cut {f : Nat} {t u : List Tok} {g : ByteArray × List (List Nd)} (h : pSaga f (t ++ u) = .ok g []) (hu : u ≠ []) : pSaga f t = .bad [] := by
  cases e : pSaga f t with
  | bad t' =>
    by_cases ht : t' = []
    · rw [ht]
    · rw [(pSaga_ext f).badE e ht u] at h
      cases h
  | ok g' t' =>
    obtain ⟨h1, h2, h3, h4, rfl⟩ := pSaga_inv e
    have k := (p_ext f).2.1.okE h4 (.inl rfl) u
    unfold pSaga at h
    rw [isT_app u (isT_ne h1), if_pos h1, tail_app u (isT_ne h1), (isN_app u (isN_ne h2)).1, if_pos h2, tail_app u (isN_ne h2), k] at h
    cases u with
    | nil => exact absurd rfl hu
    | cons x u => cases h
end Go.Proofs.Ytidilpciolladaa

/- The document's examples. -/
namespace Go.Proofs.Ytidilpciolladaa
open Go.RowKit

theorem readR_print {nm : ByteArray} {al : List (List Nd)} (h : sagaR nm al = true) (hz : (jn (sagaT nm al)).size ≤ 65536) : readR (jn (sagaT nm al)) = ((nm, al), ((jn (sagaT nm al)).size : Int), 0) := by
  unfold sagaR at h
  simp only [Bool.and_eq_true, decide_eq_true_eq] at h
  obtain ⟨⟨⟨h1, h2⟩, h3⟩, h4⟩ := h
  obtain ⟨U, hU, htx, _, _⟩ := lex_back (sagaT_ok h1 h4)
  have hlx : lexS (jn (sagaT nm al)) = (U, ((jn (sagaT nm al)).size : Int), 0) := by unfold lexS; rw [if_pos hz, hU]
  have hlen : U.length ≤ 65536 := by
    have := (lexS_good (jn (sagaT nm al))).2
    rw [hlx] at this
    exact this
  have hp := pSaga_back (f := FU) h1 h4 htx (by unfold FU; omega)
  unfold readR
  rw [hlx, if_pos rfl]
  simp only
  rw [hp]
  simp only
  rw [if_pos ⟨h2, h3⟩]
abbrev exN (l : List UInt8) : ByteArray := ⟨l.toArray⟩
abbrev na : ByteArray := { data := #[97] }
abbrev nb : ByteArray := { data := #[98] }
abbrev nc : ByteArray := { data := #[99] }
abbrev nd_ : ByteArray := { data := #[100] }
abbrev nt : ByteArray := { data := #[116] }
def exA : List (List Nd) := [[.mk na nb [] false false [], .mk nc ⟨#[]⟩ [na] true false [[], [.mk nd_ ⟨#[]⟩ [] false false []]]]]
abbrev exS : ByteArray := { data := ([115, 97, 103, 97, 32, 116, 32, 123, 32, 40, 32, 115, 116, 101, 112, 32, 97, 32, 117, 110, 100, 111, 32, 98, 32, 59, 32, 108, 111, 111, 115, 101, 32, 115, 117, 98, 32].append [99, 32, 97, 102, 116, 101, 114, 32, 97, 32, 123, 32, 40, 32, 41, 32, 111, 114, 32, 40, 32, 115, 116, 101, 112, 32, 100, 32, 59, 32, 41, 32, 125, 32, 41, 32, 125]).toArray }
abbrev exB : ByteArray := { data := #[115, 97, 103, 97, 32, 116, 32, 123, 32, 125] }
theorem nma : nmR na = true := by unfold nmR; rw [name_f]; kernel_rfl
theorem nmb : nmR nb = true := by unfold nmR; rw [name_f]; kernel_rfl
theorem nmc : nmR nc = true := by unfold nmR; rw [name_f]; kernel_rfl
theorem nmd : nmR nd_ = true := by unfold nmR; rw [name_f]; kernel_rfl
theorem nmt : nmR nt = true := by unfold nmR; rw [name_f]; kernel_rfl
theorem exR : sagaR nt exA = true := by
  have h1 : rightB exA = true := by
    unfold exA rightB
    simp [fitA, fitL, fitN, nma, nmb, nmc, nmd]
    exact ⟨rfl, .inl rfl⟩
  have h2 : depthB exA ≤ 70 := by simp [exA, depthB, inB, inL, inN]
  have h3 : countB exA ≤ 1000 := by simp [exA, countB, countL, countN]
  unfold sagaR
  rw [nmt, h1, decide_eq_true h2, decide_eq_true h3]
  rfl
theorem exT : jn (sagaT nt exA) = exS := by kernel_rfl
theorem exRead : readR exS = ((nt, exA), 74, 0) := by
  have := readR_print exR (by rw [exT]; decide)
  rw [exT] at this
  exact this
theorem exBT : lexS exB = ([⟨1, wd0, 0⟩, ⟨1, nt, 5⟩, ⟨2, cLb, 7⟩, ⟨2, cRb, 9⟩], 10, 0) := by
  have : dR exB = ([⟨1, wd0, 0⟩, ⟨1, nt, 5⟩, ⟨2, cLb, 7⟩, ⟨2, cRb, 9⟩], 10, 0) := by rw [dR_f]; kernel_rfl
  unfold lexS
  rw [if_pos (by decide), this]
theorem exBad : readR exB = ((⟨#[]⟩, []), 9, 10) := by
  have hp : pSaga FU [⟨1, wd0, 0⟩, ⟨1, nt, 5⟩, ⟨2, cLb, 7⟩, ⟨2, cRb, 9⟩] = .bad [⟨2, cRb, 9⟩] := by
    unfold pSaga
    rw [if_pos (by decide), if_pos (by show nmR nt = true; exact nmt)]
    show (pBodies FU [⟨2, cLb, 7⟩, ⟨2, cRb, 9⟩]).bind _ = _
    rw [show FU = 300008 + 1 + 1 from rfl, pBodies, if_pos (by decide)]
    show ((pBody (300008 + 1) [⟨2, cRb, 9⟩]).bind _).bind _ = _
    rw [pBody, if_neg (by decide)]
    rfl
  unfold readR
  rw [exBT, if_pos rfl]
  simp only
  rw [hp]
  rfl
theorem exL4 : (tkA exA).length = 24 := by kernel_rfl
theorem exL5 : (tkA exA).length + 2 ≤ 100000 := by rw [exL4]; omega
theorem beq_refl_str (s : ByteArray) : (s.toList == s.toList) = true := by simp
set_option maxRecDepth 8000 in
set_option maxHeartbeats 4000000 in
theorem lives_any {w : World} : Calls Try.prog 8 #[] w fun e w' => e = .returned (.bool true) ∧ Below w.heap.size w w' := by
  have Mr1 := hid trivial
  have Mr2 := hid trivial
  have Mpr := hid trivial
  have Mdep := hid trivial
  have Mcnt := hid trivial
  have HPR : Hid (printR nt exA = exS) := hid (by unfold printR; rw [exR, if_pos rfl, exT])
  have HDE : Hid (depthB exA = 2) := hid (by simp [exA, depthB, inB, inL, inN])
  have HCN : Hid (countB exA = 3) := hid (by simp [exA, countB, countL, countN])
  have HC4 : Hid (countB exA ≤ 4294967296) := hid (by rw [HCN.out]; decide)
  have HL5 : Hid ((tkA exA).length + 2 ≤ 100000) := hid exL5
  go_enter Try.func8, Try.ntmps8
  go_wp2_with (first | (go_at_call 9; clear Mr1; refine (sread_any (s := exS)).mono ?_; rintro e w1 hq; unfold ReadQ at hq; rw [exRead] at hq; obtain ⟨v1, rfl, hr1, hb1⟩ := hq; obtain ⟨A1, c1, rfl, _, _⟩ := hr1.form; have HR1 := hid hr1; obtain ⟨ex1, dx1, rfl⟩ := more_of hb1; clear hr1 hb1))
  go_wp2_with (first | (go_at_call 9; clear Mr2; refine (sread_any (s := exB)).mono ?_; rintro e w2 hq; unfold ReadQ at hq; rw [exBad] at hq; obtain ⟨v2, rfl, hr2, hb2⟩ := hq; obtain ⟨A2, c2, rfl, _, _⟩ := hr2.form; obtain ⟨ex2, dx2, rfl⟩ := more_of hb2; clear hr2 hb2))
  go_wp2_with (first | (go_at_call 13; clear Mpr; refine (print_any (HR1.out.below (by repeat (first | (with_reducible exact Below.refl _ _) | (with_reducible exact bl_mm) | (with_reducible refine bl_dr ?_) | (with_reducible refine bl_drN ?_ _) | (with_reducible refine bl_al ?_ _) | (with_reducible refine bl_more ?_ _ _)))) HC4.out HL5.out (by rw [exT]; decide)).mono ?_; rintro e w3 ⟨rfl, hb3⟩; rw [show printR nt exA = exS from HPR.out, exR, erT]; obtain ⟨ex3, dx3, rfl⟩ := more_of hb3; clear hb3))
  go_wp2_with (first | (go_at_call 17; clear Mdep; refine (depth_any _ _ _ _ _ _ (HR1.out.below (by repeat (first | (with_reducible exact Below.refl _ _) | (with_reducible exact bl_mm) | (with_reducible refine bl_dr ?_) | (with_reducible refine bl_drN ?_ _) | (with_reducible refine bl_al ?_ _) | (with_reducible refine bl_more ?_ _ _)))) HC4.out).mono ?_; rw [HDE.out]; rintro e w4 ⟨rfl, hb4⟩; obtain ⟨ex4, dx4, rfl⟩ := more_of hb4; clear hb4))
  go_wp2_with (first | (go_at_call 19; clear Mcnt; refine (count_any _ _ _ _ _ _ (HR1.out.below (by repeat (first | (with_reducible exact Below.refl _ _) | (with_reducible exact bl_mm) | (with_reducible refine bl_dr ?_) | (with_reducible refine bl_drN ?_ _) | (with_reducible refine bl_al ?_ _) | (with_reducible refine bl_more ?_ _ _)))) HC4.out).mono ?_; rw [HCN.out]; rintro e w5 ⟨rfl, hb5⟩; obtain ⟨ex5, dx5, rfl⟩ := more_of hb5; clear hb5))
  go_ret
  exact ⟨rfl, (by repeat (first | (with_reducible exact Below.refl _ _) | (with_reducible exact bl_mm) | (with_reducible refine bl_dr ?_) | (with_reducible refine bl_drN ?_ _) | (with_reducible refine bl_al ?_ _) | (with_reducible refine bl_more ?_ _ _)))⟩
end Go.Proofs.Ytidilpciolladaa

/- Sagas as arguments. -/
namespace Go.Proofs.Ytidilpciolladaa
open Go.RowKit

/-- What reads in at most so many steps as a datum of the type t is told by d. -/
def OpensN {α : Type} (N : Nat) (d : Enc α) (t : TypeId) : Prop :=
  ∀ (H : Type) (enc : TypeId × Value → H) (w : World) (base : Nat) (spare : Nat → Bool) (held : Bool) (fuel : Nat) (cs : List Value) (x : DataW H × List MemPlace),
    fuel ≤ N → DataW.trod enc Try.prog w base spare held fuel t cs = some x → ∃ a, d.rd (fun _ => True) w a cs
theorem OpensN.of {α : Type} {d : Enc α} {t : TypeId} {G : α → Prop} (h : Opens d t G) (N : Nat) : OpensN N d t := fun H enc w base spare held fuel cs x _ hx => by
  obtain ⟨a, _, h2⟩ := h H enc w base spare held fuel cs x hx
  exact ⟨a, h2⟩
theorem OpensN.slice {α : Type} {d : Enc α} {t e : TypeId} {N : Nat} (ht : Try.prog.underlying t = some (.slice e)) (h : OpensN N d e) (hsz : Try.prog.cellsOf e = d.sz) (hpos : 0 < d.sz) : OpensN N (Enc.slice d) t := by
  intro H enc w base spare held fuel cs x hN hx
  rcases DataW.trod_slice ht hx with ⟨rfl, _⟩ | ⟨a, len, cap, elems, rest, n, rfl, rfl, _, _, hl, hm, hlen, hel, _, _⟩
  · exact ⟨[], _, rfl, Enc.Row.nil _ _ _⟩
  · rw [hsz] at hel
    obtain ⟨xs, hxl, hxs⟩ := list_of (p := fun i y => ∃ cs', d.rd (fun _ => True) w y cs' ∧ ∀ j u, cs'[j]? = some u → w.cell? ((a.add (i * d.sz)).add j) = some u) len (fun i hlt => by
      have h1 := hel i hlt
      rw [List.getElem?_eq_getElem (by omega)] at h1
      cases hc : w.cells? base (a.add (i * d.sz)) d.sz with
      | none => rw [hc] at h1; cases h1
      | some cs' =>
        rw [hc] at h1
        have h1 : DataW.trod enc Try.prog w base spare held n e cs' = some _ := h1
        obtain ⟨y, hy⟩ := h H enc w base spare held n cs' _ (by omega) h1
        obtain ⟨_, hcl, hat⟩ := World.cells?_some hc
        refine ⟨y, cs', hy, fun j u hj => ?_⟩
        rw [hat j (by have := (List.getElem?_eq_some_iff.1 hj).1; omega), hj])
    refine ⟨xs, _, rfl, some a, cap, by rw [hxl], by omega, hm, fun hne => ?_⟩
    have h0 : 0 < xs.length := List.length_pos_iff.2 hne
    obtain ⟨cs', hrd, hat⟩ := hxs 0 h0
    have hl0 := d.len hrd
    have hc0 := hat 0 (cs'[0]'(by omega)) (List.getElem?_eq_getElem (by omega))
    obtain ⟨b, off, spot⟩ := a
    have hspot : spot = none := by simpa [Addr.add] using World.cell?_spot hc0
    subst hspot
    refine ⟨b, off, rfl, trivial, ?_, fun i hi => ?_⟩
    · have := World.block_lt_of_cell? w _ hc0
      simpa [Addr.add] using this
    · obtain ⟨cs', hrd, hat⟩ := hxs i hi
      refine ⟨cs', hrd, fun j u hj => ?_⟩
      have := hat j u hj
      rwa [Addr.add_lit, Addr.add_lit] at this
def OpensFN {α : Type} (N : Nat) (fs : List Field) (off : Nat) (d : Enc α) : Prop :=
  ∀ (H : Type) (enc : TypeId × Value → H) (w : World) (base : Nat) (spare : Nat → Bool) (held : Bool) (fuel : Nat) (cs : List Value), fuel ≤ N →
    (∀ (i : Nat) (f : Field), fs[i]? = some f → ∃ y, DataW.trod enc Try.prog w base spare held fuel f.type ((cs.drop f.offset).take (Try.prog.cellsOf f.type)) = some y) → cs.length = off + d.sz → ∃ a, d.rd (fun _ => True) w a (cs.drop off)
theorem OpensFN.last {α : Type} {N : Nat} {f : Field} {off : Nat} {d : Enc α} (h : OpensN N d f.type) (ho : f.offset = off) (hs : Try.prog.cellsOf f.type = d.sz) : OpensFN N [f] off d := by
  intro H enc w base spare held fuel cs hN hf hl
  obtain ⟨y, hy⟩ := hf 0 f rfl
  rw [ho, hs, List.take_of_length_le (by rw [List.length_drop]; omega)] at hy
  exact h H enc w base spare held fuel _ y hN hy
theorem OpensFN.more {α β : Type} {N : Nat} {f : Field} {fs : List Field} {off : Nat} {d : Enc α} {d' : Enc β} (h : OpensN N d f.type) (ho : f.offset = off) (hs : Try.prog.cellsOf f.type = d.sz)
    (hF : OpensFN N fs (off + d.sz) d') : OpensFN N (f :: fs) off (Enc.pair d d') := by
  intro H enc w base spare held fuel cs hN hf hl
  have hl' : cs.length = off + (d.sz + d'.sz) := hl
  obtain ⟨y, hy⟩ := hf 0 f rfl
  rw [ho, hs] at hy
  obtain ⟨a, ra⟩ := h H enc w base spare held fuel _ y hN hy
  obtain ⟨b, rb⟩ := hF H enc w base spare held fuel cs hN (fun i f' hi => hf (i + 1) f' (by simpa using hi)) (by omega)
  refine ⟨(a, b), _, _, ?_, ra, rb⟩
  rw [← List.drop_drop]
  exact (List.take_append_drop _ _).symm
theorem OpensN.struct {α : Type} {N : Nat} {t : TypeId} {fs : Array Field} {d : Enc α} (ht : Try.prog.underlying t = some (.struct fs)) (hc : Try.prog.cellsOf t = d.sz) (h : OpensFN N fs.toList 0 d) : OpensN (N + 1) d t := by
  intro H enc w base spare held fuel cs x hN hx
  obtain ⟨ys, n, hn, _, hl, hyl, hf⟩ := DataW.trod_struct ht hx
  obtain ⟨a, ra⟩ := h H enc w base spare held n cs (by omega) (fun i f hi => by
    have hi' : fs[i]? = some f := by simpa using hi
    have := hf i f hi'
    have hlt : i < ys.length := by rw [hyl]; exact (Array.getElem?_eq_some_iff.1 hi').1
    exact ⟨_, this.trans (List.getElem?_eq_getElem hlt)⟩) (by omega)
  exact ⟨a, by simpa using ra⟩
theorem OpensN.le {α : Type} {N M : Nat} {d : Enc α} {t : TypeId} (h : OpensN N d t) (hM : M ≤ N) : OpensN M d t := fun H enc w base spare held fuel cs x hN hx => h H enc w base spare held fuel cs x (by omega) hx
theorem strN (N : Nat) : OpensN N Enc.str 9 := OpensN.of (Opens.str Try.underlying9) N
theorem boolN (N : Nat) : OpensN N Enc.bool 4 := OpensN.of (Opens.bool Try.underlying4) N
theorem body_N {N n : Nat} (h : OpensN N (nodeE n) 73) : OpensN N (bodyE n) 71 :=
  (OpensN.struct Try.underlying71 (by kernel_rfl) (OpensFN.last (OpensN.slice Try.underlying69 h (by rw [nodeE_sz]; kernel_rfl) (by rw [nodeE_sz]; decide)) rfl (by kernel_rfl))).le (Nat.le_succ N)
theorem OpensN.iso {α β : Type} {N : Nat} {d : Enc α} {t : TypeId} (h : OpensN N d t) (f : β → α) (g : α → β) (hfg : ∀ a, f (g a) = a) : OpensN N (Enc.iso d f) t := by
  intro H enc w base spare held fuel cs x hN hx
  obtain ⟨a, h2⟩ := h H enc w base spare held fuel cs x hN hx
  exact ⟨g a, by show d.rd _ w (f (g a)) cs; rw [hfg]; exact h2⟩
theorem node_N : ∀ N, OpensN N (nodeE N) 73 := by
  intro N
  induction N with
  | zero =>
    intro H enc w base spare held fuel cs x hN hx
    obtain rfl : fuel = 0 := by omega
    simp [DataW.trod] at hx
  | succ N ih =>
    have hb : OpensN N (Enc.slice (bodyE N)) 23 := OpensN.slice Try.underlying23 (body_N ih) (by kernel_rfl) (by show 0 < 1; decide)
    have hs : OpensN N (Enc.slice Enc.str) 65 := OpensN.slice Try.underlying65 (strN N) (by kernel_rfl) (by decide)
    have := OpensN.struct (d := Enc.pair Enc.str (Enc.pair Enc.str (Enc.pair (Enc.slice Enc.str) (Enc.pair Enc.bool (Enc.pair Enc.bool (Enc.slice (bodyE N))))))) Try.underlying73 (by kernel_rfl)
      (OpensFN.more (strN N) rfl (by kernel_rfl) (OpensFN.more (strN N) rfl (by kernel_rfl) (OpensFN.more hs rfl (by kernel_rfl) (OpensFN.more (boolN N) rfl (by kernel_rfl) (OpensFN.more (boolN N) rfl (by kernel_rfl) (OpensFN.last hb rfl (by kernel_rfl)))))))
    exact OpensN.iso this Nd.parts (fun p => .mk p.1 p.2.1 p.2.2.1 p.2.2.2.1 p.2.2.2.2.1 p.2.2.2.2.2) (fun _ => rfl)
abbrev sagaE (n : Nat) : Enc (ByteArray × List (List Nd)) := Enc.pair Enc.str (Enc.slice (bodyE n))
/-- A saga, as deep as it may be. -/
def sagaA : Enc (ByteArray × List (List Nd)) where
  sz := 2
  rd K w x cs := ∃ n, (sagaE n).rd K w x cs
  len := by rintro K w x cs ⟨n, h⟩; exact (sagaE n).len h
  one := by rintro K w x cs ⟨n, h⟩; exact (sagaE n).one h
  step := by rintro K w w1 x cs hk ⟨n, h⟩; exact ⟨n, (sagaE n).step hk h⟩
  mono := by rintro K K' w x cs hk ⟨n, h⟩; exact ⟨n, (sagaE n).mono hk h⟩
  stepC := by rintro K w w1 x cs hs hk ⟨n, h⟩; exact ⟨n, (sagaE n).stepC hs hk h⟩
theorem saga_op : Opens sagaA 25 (fun _ => True) := by
  intro H enc w base spare held fuel cs x hx
  have hb : OpensN fuel (Enc.slice (bodyE fuel)) 23 := OpensN.slice Try.underlying23 (body_N (node_N fuel)) (by kernel_rfl) (by show 0 < 1; decide)
  have := OpensN.struct (d := sagaE fuel) Try.underlying25 (by kernel_rfl) (OpensFN.more (strN fuel) rfl (by kernel_rfl) (OpensFN.last hb rfl (by kernel_rfl)))
  obtain ⟨a, h⟩ := this H enc w base spare held fuel cs x (Nat.le_succ _) hx
  exact ⟨a, trivial, fuel, h⟩
theorem sagaA_open {K : Nat → Prop} {w : World} {x : ByteArray × List (List Nd)} {c : Array Value} (h : sagaA.rd K w x c.toList) : ∃ n v, c = #[.string x.1, v] ∧ (bodyE n).Row K w v x.2 := by
  obtain ⟨n, _, _, he, rfl, v, rfl, hr⟩ := h
  exact ⟨n, v, by rw [← Array.toList_inj, he]; rfl, hr⟩
end Go.Proofs.Ytidilpciolladaa
