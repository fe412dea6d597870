/- A region that draws its order, walked in one order that is planned: what yields now is taken now, and held till nobody can come ahead of it. -/
import Derived.Orders
import Derived.Tactics
namespace Go.Proofs.YtomhpbhkckjmdaaDoorRR
open Go

section
variable {P : Program} {ops : Array Oper} {Q : Exit → Act → World → Prop}

/-- What stands ahead of an operation, as bits. -/
def anc (ops : Array Oper) (j : Nat) : Nat := (Region.before ops).getD j 0
def Closed (ops : Array Oper) (l : Array Bool) : Prop := ∀ j o, ops[j]? = some o → l.getD j false = true → ∀ e ∈ o.after, Region.binds .any e = true → l.getD e.on false = true

def beforeStep (acc : Array Nat) (o : Oper) : Nat := o.after.foldl (fun s e => if Region.binds .any e then s ||| 2 ^ e.on ||| acc.getD e.on 0 else s) 0

theorem beforeStep_spec (acc : Array Nat) (o : Oper) (i : Nat) (h : (beforeStep acc o).testBit i = true) :
    ∃ e ∈ o.after, Region.binds .any e = true ∧ (i = e.on ∨ (acc.getD e.on 0).testBit i = true) := by
  unfold beforeStep at h
  have key : ∀ (l : List Edge) (s : Nat), (l.foldl (fun s e => if Region.binds .any e then s ||| 2 ^ e.on ||| acc.getD e.on 0 else s) s).testBit i = true →
      s.testBit i = true ∨ ∃ e ∈ l, Region.binds .any e = true ∧ (i = e.on ∨ (acc.getD e.on 0).testBit i = true) := by
    intro l
    induction l with
    | nil => intro s hs; exact .inl hs
    | cons e l ih =>
      intro s hs
      rw [List.foldl_cons] at hs
      rcases ih _ hs with h1 | ⟨e', he', h2⟩
      · by_cases hb : Region.binds .any e = true
        · rw [if_pos hb] at h1
          simp only [Nat.testBit_or, Bool.or_eq_true] at h1
          rcases h1 with (h1 | h1) | h1
          · exact .inl h1
          · rw [Nat.testBit_two_pow] at h1
            exact .inr ⟨e, List.mem_cons_self .., hb, .inl (by simpa using h1 : e.on = i).symm⟩
          · exact .inr ⟨e, List.mem_cons_self .., hb, .inr h1⟩
        · rw [if_neg hb] at h1; exact .inl h1
      · exact .inr ⟨e', List.mem_cons_of_mem _ he', h2⟩
  rw [← Array.foldl_toList] at h
  rcases key _ _ h with h1 | ⟨e, he, h2⟩
  · simp at h1
  · exact ⟨e, Array.mem_toList_iff.1 he, h2⟩

theorem before_spec (ops : Array Oper) : (Region.before ops).size = ops.size ∧ ∀ j (hj : j < ops.size), ∃ acc : Array Nat, acc.size = j ∧ (∀ k, k < j → acc.getD k 0 = (Region.before ops).getD k 0) ∧ (Region.before ops).getD j 0 = beforeStep acc ops[j] := by
  have key : ∀ (l : List Oper) (acc : Array Nat), (l.foldl (fun acc o => acc.push (beforeStep acc o)) acc).size = acc.size + l.length ∧
      (∀ k, k < acc.size → (l.foldl (fun acc o => acc.push (beforeStep acc o)) acc).getD k 0 = acc.getD k 0) ∧
      ∀ j (hj : j < l.length), ∃ b : Array Nat, b.size = acc.size + j ∧ (∀ k, k < acc.size + j → b.getD k 0 = (l.foldl (fun acc o => acc.push (beforeStep acc o)) acc).getD k 0) ∧
        (l.foldl (fun acc o => acc.push (beforeStep acc o)) acc).getD (acc.size + j) 0 = beforeStep b l[j] := by
    intro l
    induction l with
    | nil => intro acc; exact ⟨by simp, fun k hk => rfl, fun j hj => by simp at hj⟩
    | cons o l ih =>
      intro acc
      obtain ⟨h1, h2, h3⟩ := ih (acc.push (beforeStep acc o))
      simp only [List.foldl_cons]
      refine ⟨by rw [h1]; simp; omega, fun k hk => ?_, fun j hj => ?_⟩
      · rw [h2 k (by simp; omega)]
        simp [Array.getElem?_push, Nat.ne_of_lt hk]
      · cases j with
        | zero =>
          refine ⟨acc, by simp, fun k hk => ?_, ?_⟩
          · rw [h2 k (by simp; omega)]; simp [Array.getElem?_push, show k ≠ acc.size by omega]
          · rw [h2 _ (by simp)]; simp
        | succ j =>
          obtain ⟨b, hb1, hb2, hb3⟩ := h3 j (by simpa using hj)
          refine ⟨b, by rw [hb1]; simp; omega, fun k hk => hb2 k (by simp; omega), ?_⟩
          rw [Array.size_push, show acc.size + 1 + j = acc.size + (j + 1) from by omega] at hb3
          simpa using hb3
  have hb : Region.before ops = ops.toList.foldl (fun acc o => acc.push (beforeStep acc o)) #[] := by
    rw [Array.foldl_toList]; rfl
  obtain ⟨h1, _, h3⟩ := key ops.toList #[]
  rw [hb]
  refine ⟨by simpa using h1, fun j hj => ?_⟩
  obtain ⟨b, hb1, hb2, hb3⟩ := h3 j (by simpa using hj)
  exact ⟨b, by simpa using hb1, fun k hk => hb2 k (by simpa using hk), by simpa using hb3⟩

theorem anc_listed {l : Array Bool} (hc : Closed ops l) : ∀ (n j : Nat), j ≤ n → ∀ o, ops[j]? = some o → (∀ e ∈ o.after, Region.binds .any e = true → l.getD e.on false = true) → ∀ i, (anc ops j).testBit i = true → l.getD i false = true := by
  intro n
  induction n with
  | zero =>
    intro j hj o ho ha i hi
    have hlt := (Array.getElem?_eq_some_iff.1 ho).1
    obtain ⟨acc, h1, h2, h3⟩ := (before_spec ops).2 j hlt
    unfold anc at hi
    rw [h3] at hi
    obtain ⟨e, he, hb, h4⟩ := beforeStep_spec _ _ _ hi
    have hoj : ops[j] = o := (Array.getElem?_eq_some_iff.1 ho).2
    rw [hoj] at he
    rcases h4 with rfl | h4
    · exact ha e he hb
    · have : acc.getD e.on 0 = 0 := by simp [Array.getElem?_eq_none (show acc.size ≤ e.on by omega)]
      rw [this] at h4; simp at h4
  | succ n ih =>
    intro j hj o ho ha i hi
    have hlt := (Array.getElem?_eq_some_iff.1 ho).1
    obtain ⟨acc, h1, h2, h3⟩ := (before_spec ops).2 j hlt
    unfold anc at hi
    rw [h3] at hi
    obtain ⟨e, he, hb, h4⟩ := beforeStep_spec _ _ _ hi
    have hoj : ops[j] = o := (Array.getElem?_eq_some_iff.1 ho).2
    rw [hoj] at he
    rcases h4 with rfl | h4
    · exact ha e he hb
    · by_cases hlt2 : e.on < j
      · rw [h2 _ hlt2] at h4
        have hle := ha e he hb
        have hon : e.on < ops.size := by omega
        exact ih e.on (by omega) ops[e.on] (Array.getElem?_eq_getElem hon) (fun e' he' hb' => hc e.on _ (Array.getElem?_eq_getElem hon) hle e' he' hb') i h4
      · have : acc.getD e.on 0 = 0 := by simp [Array.getElem?_eq_none (show acc.size ≤ e.on by omega)]
        rw [this] at h4; simp at h4

theorem anc_ready {l : Array Bool} (hc : Closed ops l) {i j : Nat} (hj : j ∈ Region.ready .any ops l) (hi : l.getD i true = false) : (anc ops j).testBit i = false := by
  obtain ⟨_, o, ho, hall⟩ := mem_ready.1 hj
  cases h : (anc ops j).testBit i with
  | false => rfl
  | true =>
    have := anc_listed hc j j (Nat.le_refl _) o ho hall i h
    rcases Nat.lt_or_ge i l.size with h' | h'
    · simp [h'] at hi this; rw [hi] at this; cases this
    · simp [Array.getElem?_eq_none h'] at this

theorem closed_set {l : Array Bool} (hc : Closed ops l) {j : Nat} (hj : j ∈ Region.ready .any ops l) : Closed ops (l.setIfInBounds j true) := by
  obtain ⟨_, oj, hoj, hall⟩ := mem_ready.1 hj
  intro k o ho hl e he hb
  by_cases hjk : j = k
  · subst hjk
    have : o = oj := Option.some.inj (ho.symm.trans hoj)
    subst this
    exact getD_set_true (hall e he hb)
  · rw [getD_set_ne false hjk] at hl
    exact getD_set_true (hc k o ho hl e he hb)
theorem closed_none (ops : Array Oper) (n : Nat) : Closed ops (Array.replicate n false) := by
  intro j o _ hl
  rcases Nat.lt_or_ge j n with h | h <;> simp [h] at hl

/-- In this state, in this world, the operation yields v. -/
def YAt (P : Program) (ops : Array Oper) (o : Oper) (v : Value) (a : Act) (w : World) : Prop :=
  if Region.wanted o (yielded ops a.tmps) = true then (execOp a.eval o).run P w = .ok (.value v) w else v = undef

abbrev Held := List (Nat × (World → Prop))
def HeldOk (ops : Array Oper) (hl : Held) (j : Nat) (w w' : World) : Prop := ∀ p ∈ hl, (anc ops j).testBit p.1 = false → p.2 w → p.2 w'

def wpAnyE (P : Program) (ops : Array Oper) (Q : Exit → Act → World → Prop) : Nat → Held → Array Bool → Act → World → Prop
  | 0, _, l, a, w => Region.ready .any ops l = [] ∧ Q .normal a w
  | f + 1, hl, l, a, w =>
    (Region.ready .any ops l = [] → Q .normal a w) ∧
    ∀ j ∈ Region.ready .any ops l, wpOp P ops Q j (fun a' w' => HeldOk ops hl j w w' ∧ wpAnyE P ops Q f hl (l.setIfInBounds j true) a' w') a w

theorem wpAny_of_E : ∀ (f : Nat) (hl : Held) (l : Array Bool) (a : Act) (w : World), wpAnyE P ops Q f hl l a w → wpAny P .any ops Q f l a w
  | 0, _, _, _, _, h => h
  | f + 1, hl, _, _, _, h => ⟨h.1, fun i hi => wpOp_mono (fun a' w' h' => wpAny_of_E f hl _ a' w' h'.2) (h.2 i hi)⟩

theorem YAt.wpOp {i : Nat} {o : Oper} {v : Value} {a : Act} {w : World} (hi : ops[i]? = some o) (hy : YAt P ops o v a w) {K : Act → World → Prop} (h : K (a.put o.dst v) w) : wpOp P ops Q i K a w := by
  unfold Go.wpOp
  simp only [hi]
  unfold YAt at hy
  split
  · rename_i hw
    rw [if_pos hw] at hy
    simp only [Oper.wp, hy, Oper.upon]; exact .inl h
  · rename_i hw
    rw [if_neg hw] at hy
    subst hy; exact h

def SameFor (ops : Array Oper) (o : Oper) (a a' : Act) : Prop := execOp a'.eval o = execOp a.eval o ∧ Region.wanted o (yielded ops a'.tmps) = Region.wanted o (yielded ops a.tmps)
theorem YAt.same {o : Oper} {v : Value} {a a' : Act} {w : World} (h : YAt P ops o v a w) (hs : SameFor ops o a a') : YAt P ops o v a' w := by
  unfold YAt at *
  rw [hs.1, hs.2]; exact h

theorem wpOp_putE {j : Nat} {oi oj : Oper} {v : Value} (hj : ops[j]? = some oj) (hap : oi.apart ops oj = true)
    (hsi : ∀ cs b, oi.op ≠ .select cs b) (hsj : ∀ cs b, oj.op ≠ .select cs b)
    (hQ : ∀ c a w, Q (.panic c) (a.put oi.dst v) w → Q (.panic c) a w) {K : Act → World → Prop} {a : Act} {w : World}
    (h : wpOp P ops Q j K (a.put oi.dst v) w) :
    wpOp P ops Q j (fun a' w' => SameFor ops oi a a' ∧ K (a'.put oi.dst v) w') a w := by
  obtain ⟨h1, h2, h3⟩ := Oper.apart_spec hap
  have keep : ∀ u, SameFor ops oi a (a.put oj.dst u) := fun u => ⟨execOp_put oi hsi a oj.dst u h3, wanted_put oi a oj.dst u h3⟩
  have keepD : ∀ d u, SameFor ops oi a (({ a with defers := d :: a.defers } : Act).put oj.dst u) := fun d u => ⟨(execOp_put oi hsi _ oj.dst u h3).trans rfl, (wanted_put oi _ oj.dst u h3).trans rfl⟩
  unfold wpOp at *
  simp only [hj] at *
  rw [wanted_put oj a oi.dst v h1] at h
  split
  · rename_i hw
    simp only [hw, if_true] at h
    rcases h with h | ⟨hasks, hlets⟩
    case inr => exact .inr ⟨by unfold Oper.asks at *; rw [execOp_put oj hsj a oi.dst v h1] at hasks; exact hasks, hlets⟩
    refine .inl ?_
    unfold Oper.wp at *
    rw [execOp_put oj hsj a oi.dst v h1] at h
    generalize (execOp a.eval oj).run P w = r at *
    cases r with
    | ok n w' =>
      cases n <;> simp only [Oper.upon] at h ⊢
      case value u => exact ⟨keep u, by rw [← Act.put_comm a v u h2]; exact h⟩
      case skip => exact ⟨keep _, by rw [← Act.put_comm a v undef h2]; exact h⟩
      case defer d =>
        refine ⟨keepD d _, ?_⟩
        rw [← Act.put_comm _ v undef h2, ← Act.put_defers]
        exact h
      case enter f args =>
        refine Calls.mono h fun e w'' he => ?_
        cases e with
        | returned u => exact ⟨keep u, by rw [← Act.put_comm a v u h2]; exact he⟩
        | panicked c => exact hQ _ _ _ he
        | outgrown => exact he
      case row row args => exact Rows.mono h fun u w'' he => ⟨keep u, by rw [← Act.put_comm a v u h2]; exact he⟩
    | halt x w' =>
      cases x <;> simp only [Oper.upon] at h ⊢
      case panic u => exact hQ _ _ _ h
  · rename_i hw
    simp only [hw] at h
    exact ⟨keep _, by rw [← Act.put_comm a v undef h2]; exact h⟩

theorem wpAnyE_first {i : Nat} {oi : Oper} {v : Value} {a0 : Act} (hi : ops[i]? = some oi) (hsel : ∀ (j : Nat) (o : Oper) cs b, ops[j]? = some o → o.op ≠ .select cs b)
    (hQ : ∀ c a w, Q (.panic c) (a.put oi.dst v) w → Q (.panic c) a w) :
    ∀ (f : Nat) (hl : Held) (l : Array Bool) (a : Act) (w : World), Closed ops l →
      (∀ j oj, ops[j]? = some oj → j ≠ i → l.getD j true = false → (∀ e ∈ oj.after, Region.binds .any e = true → e.on ≠ i) → oi.apart ops oj = true) →
      i ∈ Region.ready .any ops l → SameFor ops oi a0 a → YAt P ops oi v a0 w →
      wpAnyE P ops Q f ((i, fun w' => YAt P ops oi v a0 w') :: hl) (l.setIfInBounds i true) (a.put oi.dst v) w → wpAnyE P ops Q (f + 1) hl l a w := by
  intro f
  induction f with
  | zero =>
    intro hl l a w _ _ hr hs hy H
    refine ⟨fun h => (by rw [h] at hr; cases hr), fun j hj => ?_⟩
    by_cases hji : j = i
    · subst hji; exact (hy.same hs).wpOp hi ⟨fun _ _ _ h => h, H⟩
    · have := ready_mono hj hji
      rw [H.1] at this
      cases this
  | succ f ih =>
    intro hl l a w hc hfree hr hs hy H
    refine ⟨fun h => (by rw [h] at hr; cases hr), fun j hj => ?_⟩
    by_cases hji : j = i
    · subst hji
      refine (hy.same hs).wpOp hi ⟨fun _ _ _ h => h, ?_⟩
      -- the held list is shorter
      have drop : ∀ (f : Nat) (l : Array Bool) (a : Act) (w : World), wpAnyE P ops Q f ((j, fun w' => YAt P ops oi v a0 w') :: hl) l a w → wpAnyE P ops Q f hl l a w := by
        intro f
        induction f with
        | zero => exact fun l a w h => h
        | succ f ihf => exact fun l a w h => ⟨h.1, fun k hk => wpOp_mono (fun a' w' h' => ⟨fun p hp => h'.1 p (List.mem_cons_of_mem _ hp), ihf _ _ _ h'.2⟩) (h.2 k hk)⟩
      exact drop _ _ _ _ H
    · have h1 := H.2 j (ready_mono hj hji)
      obtain ⟨hjun, oj, hoj, hall⟩ := mem_ready.1 hj
      have hiun := (mem_ready.1 hr).1
      have hnot : ∀ e ∈ oj.after, Region.binds .any e = true → e.on ≠ i := fun e he hb heq => by
        have h1 := hall e he hb
        rw [heq] at h1
        rcases Nat.lt_or_ge i l.size with h' | h'
        · simp [h'] at hiun h1; rw [hiun] at h1; cases h1
        · simp [Array.getElem?_eq_none h'] at h1
      have h2 := wpOp_putE hoj (hfree j oj hoj hji hjun hnot) (fun cs b => hsel i oi cs b hi) (fun cs b => hsel j oj cs b hoj) hQ h1
      have hfree' : ∀ k ok, ops[k]? = some ok → k ≠ i → (l.setIfInBounds j true).getD k true = false →
          (∀ e ∈ ok.after, Region.binds .any e = true → e.on ≠ i) → oi.apart ops ok = true := fun k ok hk hki hun hno => by
        refine hfree k ok hk hki ?_ hno
        by_cases hjk : j = k
        · subst hjk; exact hjun
        · rw [getD_set_ne true hjk] at hun; exact hun
      refine wpOp_mono (fun a' w' h3 => ?_) h2
      obtain ⟨h4, h5, h6⟩ := h3
      have hyi : YAt P ops oi v a0 w' := h5 (i, fun w' => YAt P ops oi v a0 w') (List.mem_cons_self ..) (anc_ready hc hj hiun) hy
      refine ⟨fun p hp => h5 p (List.mem_cons_of_mem _ hp), ih hl (l.setIfInBounds j true) a' w' (closed_set hc hj) hfree' (ready_mono hr (Ne.symm hji)) ⟨h4.1.trans hs.1, h4.2.trans hs.2⟩ hyi ?_⟩
      rw [Array.setIfInBounds_comm _ _ hji]
      exact h6

theorem wpAnyE_take {i : Nat} {oi : Oper} {v : Value} {f : Nat} {hl : Held} {l : Array Bool} {a : Act} {w : World} (hi : ops[i]? = some oi)
    (hs : Region.noSelect ops = true) (hf : Region.free .any ops l i = true) (hr : (Region.ready .any ops l).contains i = true) (hc : Closed ops l)
    (hQ : ∀ c a w, Q (.panic c) (a.put oi.dst v) w → Q (.panic c) a w) (hy : YAt P ops oi v a w)
    (h : wpAnyE P ops Q f ((i, fun w' => YAt P ops oi v a w') :: hl) (l.setIfInBounds i true) (a.put oi.dst v) w) : wpAnyE P ops Q (f + 1) hl l a w :=
  wpAnyE_first hi (Region.noSelect_spec hs) hQ f hl l a w hc (Region.free_spec hi hf) (by simpa using hr) ⟨rfl, rfl⟩ hy h

/-- A plan: what is taken first; then an operation that acts, what is held over it, and so on. -/
inductive Plan where
  | fin (pre : List (Bool × Nat))
  | eff (pre : List (Bool × Nat)) (e : Nat) (H : List Nat) (p : Plan)
  | two (pre : List (Bool × Nat)) (e1 : Nat) (H1 : List Nat) (p1 : Plan) (e2 : Nat) (H2 : List Nat) (p2 : Plan)

def wpPre (P : Program) (ops : Array Oper) (w : World) (K : Held → Act → Prop) : List (Bool × Nat) → Held → Act → Prop
  | [], hl, a => K hl a
  | (_, i) :: r, hl, a => match ops[i]? with
    | none => False
    | some o => ∃ v, YAt P ops o v a w ∧ wpPre P ops w K r ((i, fun w' => YAt P ops o v a w') :: hl) (a.put o.dst v)

def heldH (H : List Nat) : Held → World → Prop
  | [], _ => True
  | p :: r, w => (if H.contains p.1 then p.2 w else True) ∧ heldH H r w
theorem heldH_mem {H : List Nat} {hl : Held} {w : World} (h : heldH H hl w) : ∀ p ∈ hl, H.contains p.1 = true → p.2 w := by
  induction hl with
  | nil => intro p hp; cases hp
  | cons q r ih =>
    intro p hp hc
    rcases List.mem_cons.1 hp with rfl | hp
    · have := h.1; rwa [if_pos hc] at this
    · exact ih h.2 p hp hc

def wpPlan (P : Program) (ops : Array Oper) (Q : Exit → Act → World → Prop) : Plan → Held → Act → World → Prop
  | .fin pre, hl, a, w => wpPre P ops w (fun _ a => Q .normal a w) pre hl a
  | .eff pre e H p, hl, a, w => wpPre P ops w (fun hl a => wpOp P ops Q e (fun a' w' => heldH H hl w' ∧ wpPlan P ops Q p hl a' w') a w) pre hl a
  | .two pre e1 H1 p1 e2 H2 p2, hl, a, w => wpPre P ops w (fun hl a => wpOp P ops Q e1 (fun a' w' => heldH H1 hl w' ∧ wpPlan P ops Q p1 hl a' w') a w ∧ wpOp P ops Q e2 (fun a' w' => heldH H2 hl w' ∧ wpPlan P ops Q p2 hl a' w') a w) pre hl a

def preOk (ops : Array Oper) : List (Bool × Nat) → Array Bool → Bool
  | [], _ => true
  | (_, i) :: r, l => Region.free .any ops l i && (Region.ready .any ops l).contains i && preOk ops r (l.setIfInBounds i true)
def preList : List (Bool × Nat) → Array Bool → Array Bool
  | [], l => l
  | (_, i) :: r, l => preList r (l.setIfInBounds i true)
def hOk (ops : Array Oper) (tk H : List Nat) (e : Nat) : Bool := tk.all fun i => H.contains i || (anc ops e).testBit i

def planOk (ops : Array Oper) : Plan → List Nat → Array Bool → Bool
  | .fin pre, _, l => preOk ops pre l && (Region.ready .any ops (preList pre l)).isEmpty
  | .eff pre e H p, tk, l => preOk ops pre l && Region.ready .any ops (preList pre l) == [e] && hOk ops ((pre.map (·.2)).reverse ++ tk) H e && planOk ops p ((pre.map (·.2)).reverse ++ tk) ((preList pre l).setIfInBounds e true)
  | .two pre e1 H1 p1 e2 H2 p2, tk, l => preOk ops pre l && Region.ready .any ops (preList pre l) == [e1, e2] && hOk ops ((pre.map (·.2)).reverse ++ tk) H1 e1 && hOk ops ((pre.map (·.2)).reverse ++ tk) H2 e2 &&
      planOk ops p1 ((pre.map (·.2)).reverse ++ tk) ((preList pre l).setIfInBounds e1 true) && planOk ops p2 ((pre.map (·.2)).reverse ++ tk) ((preList pre l).setIfInBounds e2 true)
def planSize : Plan → Nat
  | .fin pre => pre.length
  | .eff pre _ _ p => pre.length + (planSize p + 1)
  | .two pre _ _ p1 _ _ p2 => pre.length + (max (planSize p1) (planSize p2) + 1)

theorem pre_sound {w : World} {K : Held → Act → Prop} (hs : Region.noSelect ops = true) (hQ : ∀ c a d v w, Q (.panic c) (Act.put a d v) w → Q (.panic c) a w) {f : Nat} {l0 : Array Bool} :
    ∀ (pre : List (Bool × Nat)) (hl : Held) (l : Array Bool) (a : Act), preOk ops pre l = true → Closed ops l → preList pre l = l0 →
      (∀ hl' a', hl'.map (·.1) = (pre.map (·.2)).reverse ++ hl.map (·.1) → Closed ops l0 → K hl' a' → wpAnyE P ops Q f hl' l0 a' w) → wpPre P ops w K pre hl a → wpAnyE P ops Q (pre.length + f) hl l a w := by
  intro pre
  induction pre with
  | nil =>
    intro hl l a _ hc he h hk
    simp only [preList] at he
    subst he
    simp only [List.length_nil, Nat.zero_add]
    exact h hl a (by simp) hc hk
  | cons bi r ih =>
    obtain ⟨b, i⟩ := bi
    intro hl l a hok hc he h hk
    simp only [preOk, Bool.and_eq_true] at hok
    obtain ⟨⟨h1, h2⟩, h3⟩ := hok
    simp only [wpPre] at hk
    cases ho : ops[i]? with
    | none => rw [ho] at hk; exact hk.elim
    | some o =>
      rw [ho] at hk
      obtain ⟨v, hy, hk⟩ := hk
      rw [List.length_cons, show r.length + 1 + f = (r.length + f) + 1 from by omega]
      have hr : i ∈ Region.ready .any ops l := by simpa using h2
      exact wpAnyE_take ho hs h1 h2 hc (fun c a w => hQ c a _ v w) hy (ih _ _ _ h3 (closed_set hc hr) he (fun hl' a' hm => h hl' a' (by rw [hm]; simp)) hk)

theorem held_of {tk H : List Nat} {e : Nat} {hl : Held} {w w' : World} (hh : hOk ops tk H e = true) (hm : hl.map (·.1) = tk) (h : heldH H hl w') : HeldOk ops hl e w w' := by
  intro p hp ha _
  have h1 := List.all_eq_true.1 hh p.1 (by rw [← hm]; exact List.mem_map_of_mem hp)
  rw [Bool.or_eq_true] at h1
  rcases h1 with h1 | h1
  · exact heldH_mem h p hp h1
  · rw [ha] at h1; cases h1

theorem plan_sound (hs : Region.noSelect ops = true) (hQ : ∀ c a d v w, Q (.panic c) (Act.put a d v) w → Q (.panic c) a w) :
    ∀ (p : Plan) (k : Nat) (hl : Held) (l : Array Bool) (a : Act) (w : World), planOk ops p (hl.map (·.1)) l = true → Closed ops l → wpPlan P ops Q p hl a w → wpAnyE P ops Q (planSize p + k) hl l a w := by
  intro p
  induction p with
  | fin pre =>
    intro k hl l a w hok hc h
    simp only [planOk, Bool.and_eq_true] at hok
    have hr : Region.ready .any ops (preList pre l) = [] := by simpa using hok.2
    refine pre_sound hs hQ pre hl l a hok.1 hc rfl (fun hl' a' _ _ hq => ?_) h
    cases k with
    | zero => exact ⟨hr, hq⟩
    | succ k => exact ⟨fun _ => hq, by rw [hr]; simp⟩
  | eff pre e H p ih =>
    intro k hl l a w hok hc h
    simp only [planOk, Bool.and_eq_true] at hok
    obtain ⟨⟨⟨h1, h2⟩, h3⟩, h4⟩ := hok
    have hr : Region.ready .any ops (preList pre l) = [e] := by simpa using h2
    rw [planSize, Nat.add_assoc]
    refine pre_sound hs hQ pre hl l a h1 hc rfl (fun hl' a' hm hc' hq => ?_) h
    rw [show planSize p + 1 + k = (planSize p + k) + 1 from by omega]
    refine ⟨fun h0 => absurd (hr ▸ h0 : [_] = []) (by simp), fun j hj => ?_⟩
    have hj' := hj
    rw [hr, List.mem_singleton] at hj'
    subst hj'
    refine wpOp_mono (fun a2 w2 h5 => ⟨held_of h3 hm h5.1, ih k hl' _ a2 w2 ?_ (closed_set hc' hj) h5.2⟩) hq
    rw [hm]; exact h4
  | two pre e1 H1 p1 e2 H2 p2 ih1 ih2 =>
    intro k hl l a w hok hc h
    simp only [planOk, Bool.and_eq_true] at hok
    obtain ⟨⟨⟨⟨⟨h1, h2⟩, h3⟩, h3'⟩, h4⟩, h4'⟩ := hok
    have hr : Region.ready .any ops (preList pre l) = [e1, e2] := by simpa using h2
    rw [planSize, Nat.add_assoc]
    refine pre_sound hs hQ pre hl l a h1 hc rfl (fun hl' a' hm hc' hq => ?_) h
    obtain ⟨k1, hk1⟩ : ∃ k1, max (planSize p1) (planSize p2) + k = planSize p1 + k1 := ⟨max (planSize p1) (planSize p2) + k - planSize p1, by omega⟩
    obtain ⟨k2, hk2⟩ : ∃ k2, max (planSize p1) (planSize p2) + k = planSize p2 + k2 := ⟨max (planSize p1) (planSize p2) + k - planSize p2, by omega⟩
    rw [show max (planSize p1) (planSize p2) + 1 + k = (max (planSize p1) (planSize p2) + k) + 1 from by omega]
    refine ⟨fun h0 => absurd (hr ▸ h0 : [_, _] = []) (by simp), fun j hj => ?_⟩
    have hj' := hj
    rw [hr] at hj'
    rcases List.mem_cons.1 hj' with rfl | hj'
    · refine wpOp_mono (fun a2 w2 h5 => ⟨held_of h3 hm h5.1, ?_⟩) hq.1
      rw [hk1]
      exact ih1 k1 hl' _ a2 w2 (by rw [hm]; exact h4) (closed_set hc' hj) h5.2
    · rw [List.mem_singleton] at hj'
      subst hj'
      refine wpOp_mono (fun a2 w2 h5 => ⟨held_of h3' hm h5.1, ?_⟩) hq.2
      rw [hk2]
      exact ih2 k2 hl' _ a2 w2 (by rw [hm]; exact h4') (closed_set hc' hj) h5.2

/-- **A REGION THAT DRAWS ITS ORDER, BY A PLAN.** -/
theorem wp_region_plan {id : Nat} {a : Act} {w : World} {lo : List Oper} (p : Plan) (hm : P.follows .mixedOrders = true) (hs : Region.noSelect lo.toArray = true)
    (hok : planOk lo.toArray p [] (Array.replicate lo.length false) = true) (hsz : Nat.ble (planSize p) lo.length = true) (hQ : ∀ c a d v w, Q (.panic c) (Act.put a d v) w → Q (.panic c) a w)
    (h : wpPlan P lo.toArray Q p [] a w.drew) : (Code.region id lo.toArray true).wp P Q a w := by
  refine wp_region_any hm (wpAny_of_E _ [] _ _ _ ?_)
  have hle : planSize p ≤ lo.length := Nat.le_of_ble_eq_true hsz
  have := plan_sound (P := P) (ops := lo.toArray) hs hQ p (lo.length - planSize p) [] (Array.replicate lo.length false) a w.drew (by simpa using hok) (closed_none _ _) h
  rw [show planSize p + (lo.length - planSize p) = lo.toArray.size from by simp; omega] at this
  simpa using this

/-! ### The moves -/
theorem wpPre_nil {w : World} {K : Held → Act → Prop} {hl : Held} {a : Act} (h : K hl a) : wpPre P ops w K [] hl a := h
theorem wpPre_cons {b : Bool} {w : World} {K : Held → Act → Prop} {i : Nat} {r : List (Bool × Nat)} {hl : Held} {a : Act} {o : Oper} (ho : ops[i]? = some o)
    (h : ∀ K' : Value → Act → Prop, (∀ v a', (∀ f : World → Prop, (∀ w', YAt P ops o v a w' → f w') → wpPre P ops w K r ((i, f) :: hl) a') → K' v a') →
      if Region.wanted o (yielded ops a.tmps) = true then ∃ v, (execOp a.eval o).run P w = .ok (.value v) w ∧ K' v (a.put o.dst v) else K' undef (a.put o.dst undef)) : wpPre P ops w K ((b, i) :: r) hl a := by
  simp only [wpPre, ho]
  have := h (fun v a' => a' = a.put o.dst v → wpPre P ops w K r ((i, fun w' => YAt P ops o v a w') :: hl) a') (fun v a' h => fun e => h _ (fun _ h => h))
  unfold YAt
  split at this
  · obtain ⟨v, h1, h2⟩ := this
    rename_i hw
    exact ⟨v, by rw [if_pos hw]; exact h1, h2 rfl⟩
  · rename_i hw
    exact ⟨undef, by rw [if_neg hw], this rfl⟩
def nth : List Oper → Nat → Option Oper
  | [], _ => none
  | o :: _, 0 => some o
  | _ :: r, n + 1 => nth r n
theorem nth_eq : ∀ (lo : List Oper) (i : Nat), lo.toArray[i]? = nth lo i
  | [], _ => by simp [nth]
  | o :: r, 0 => by simp [nth]
  | o :: r, n + 1 => by have := nth_eq r n; simp only [List.getElem?_toArray, List.getElem?_cons_succ, nth] at *; exact this
theorem wpPre_keep {lo : List Oper} {w : World} {K : Held → Act → Prop} {i : Nat} {r : List (Bool × Nat)} {hl : Held} {a : Act} {o : Oper} (ho : nth lo i = some o)
    (h : ∀ K' : Value → Act → Prop, (∀ v a', (∀ f : World → Prop, (∀ w', YAt P lo.toArray o v a w' → f w') → wpPre P lo.toArray w K r ((i, f) :: hl) a') → K' v a') →
      if Region.wanted o (yielded lo.toArray a.tmps) = true then ∃ v, (execOp a.eval o).run P w = .ok (.value v) w ∧ K' v (a.put o.dst v) else K' undef (a.put o.dst undef)) : wpPre P lo.toArray w K ((true, i) :: r) hl a := wpPre_cons ((nth_eq lo i).trans ho) h
theorem wpPre_drop {lo : List Oper} {w : World} {K : Held → Act → Prop} {i : Nat} {r : List (Bool × Nat)} {hl : Held} {a : Act} {o : Oper} (ho : nth lo i = some o)
    (h : ∀ K' : Value → Act → Prop, (∀ v a', (∀ f : World → Prop, wpPre P lo.toArray w K r ((i, f) :: hl) a') → K' v a') →
      if Region.wanted o (yielded lo.toArray a.tmps) = true then ∃ v, (execOp a.eval o).run P w = .ok (.value v) w ∧ K' v (a.put o.dst v) else K' undef (a.put o.dst undef)) : wpPre P lo.toArray w K ((false, i) :: r) hl a :=
  wpPre_cons ((nth_eq lo i).trans ho) (fun K' hK' => h K' (fun v a' h' => hK' v a' (fun f _ => h' f)))
theorem wpPlan_fin {pre : List (Bool × Nat)} {hl : Held} {a : Act} {w : World} (h : wpPre P ops w (fun _ a => Q .normal a w) pre hl a) : wpPlan P ops Q (.fin pre) hl a w := h
theorem wpPlan_eff {pre : List (Bool × Nat)} {e : Nat} {H : List Nat} {p : Plan} {hl : Held} {a : Act} {w : World} (h : wpPre P ops w (fun hl a => wpOp P ops Q e (fun a' w' => heldH H hl w' ∧ wpPlan P ops Q p hl a' w') a w) pre hl a) : wpPlan P ops Q (.eff pre e H p) hl a w := h
theorem wpPlan_two {pre : List (Bool × Nat)} {e1 : Nat} {H1 : List Nat} {p1 : Plan} {e2 : Nat} {H2 : List Nat} {p2 : Plan} {hl : Held} {a : Act} {w : World}
    (h : wpPre P ops w (fun hl a => wpOp P ops Q e1 (fun a' w' => heldH H1 hl w' ∧ wpPlan P ops Q p1 hl a' w') a w ∧ wpOp P ops Q e2 (fun a' w' => heldH H2 hl w' ∧ wpPlan P ops Q p2 hl a' w') a w) pre hl a) : wpPlan P ops Q (.two pre e1 H1 p1 e2 H2 p2) hl a w := h
theorem heldPair {H : List Nat} {hl : Held} {w : World} {p : Plan} {a : Act} (h1 : heldH H hl w) (h2 : wpPlan P ops Q p hl a w) : heldH H hl w ∧ wpPlan P ops Q p hl a w := ⟨h1, h2⟩
theorem wpOpPair {K1 K2 : Act → World → Prop} {i j : Nat} {a : Act} {w : World} (h1 : wpOp P ops Q i K1 a w) (h2 : wpOp P ops Q j K2 a w) : wpOp P ops Q i K1 a w ∧ wpOp P ops Q j K2 a w := ⟨h1, h2⟩
theorem heldH_nil {H : List Nat} {w : World} : heldH H [] w := trivial
theorem heldH_no {H : List Nat} {i : Nat} {f : World → Prop} {r : Held} {w : World} (hn : H.contains i = false) (h : heldH H r w) : heldH H ((i, f) :: r) w := ⟨by rw [if_neg (by simp only [hn]; decide)]; trivial, h⟩
theorem heldH_yes {H : List Nat} {i : Nat} {f : World → Prop} {r : Held} {w : World} (hf : f w) (h : heldH H r w) : heldH H ((i, f) :: r) w := ⟨by split <;> first | exact hf | trivial, h⟩
theorem wpOp_list {lo : List Oper} {i : Nat} {o : Oper} {a : Act} {w : World} {K : Act → World → Prop} (ho : nth lo i = some o) (h : wpList P lo.toArray (Exit.then K Q) [o] a w) : wpOp P lo.toArray Q i K a w := by
  unfold wpOp
  simp only [nth_eq, ho]
  simp only [wpList] at h
  split
  · rename_i hw
    rw [if_pos hw] at h
    rcases h with h | h
    · refine .inl ?_
      unfold Oper.wp at *
      generalize (execOp a.eval o).run P w = r at *
      cases r with
      | ok n w' => cases n <;> first | exact h | exact h.elim
      | halt x w' => cases x <;> first | exact h | exact h.elim
    · exact .inr h
  · rename_i hw
    rw [if_neg hw] at h
    exact h
end
end Go.Proofs.YtomhpbhkckjmdaaDoorRR
