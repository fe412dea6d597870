/- Both pools: what is told, and what is kept. -/
import Derived.Test.YtlfdnjomjheioaaPaW
import Derived.Test.YtlfdnjomjheioaaPut
namespace Go.Proofs.Ytlfdnjomjheioaa
open Go.RowKit

/-- What the document says of Take. -/
def takeM (s : List Wk) (i pick : Int) : List Wk × Job × Int × Int :=
  if 0 ≤ i ∧ i < s.length then
    match (s[i.toNat]?).bind Wk.h with
    | some j => (s, j, i, 0)
    | none => match found s i.toNat pick with
      | some (s1, j, v) => (hold1 s1 i.toNat (some j), j, v, 0)
      | none => (s, job0, 0, 6)
  else (s, job0, 0, 2)
def onM (s : List Wk) (i : Int) (f : Wk → Wk × Int) : List Wk × Int :=
  if 0 ≤ i ∧ i < s.length then
    match s[i.toNat]? with
    | some k => (s.set i.toNat (f k).1, (f k).2)
    | none => (s, 2)
  else (s, 2)
def pushM (s : List Wk) (i : Int) (j : Job) : List Wk × Int := onM s i (fun k => if k.l.length = 128 then (k, 8) else (⟨k.l ++ [j], k.h⟩, 0))
def putM (s : List Wk) (i : Int) (j : Job) : List Wk × Int := onM s i (fun k => if k.h.isSome then (⟨k.l, some j⟩, 0) else (k, 6))
def doneM (s : List Wk) (i : Int) : List Wk × Int := onM s i (fun k => if k.h.isSome then (⟨k.l, none⟩, 0) else (k, 6))
theorem onM_in {s : List Wk} {i : Nat} (hi : i < s.length) (f : Wk → Wk × Int) : onM s (i : Int) f = (s.set i (f s[i]).1, (f s[i]).2) := by
  unfold onM
  rw [if_pos (by omega), Int.toNat_natCast, List.getElem?_eq_getElem hi]
theorem onM_out {s : List Wk} {i : Int} (hi : i < 0 ∨ (s.length : Int) ≤ i) (f : Wk → Wk × Int) : onM s i f = (s, 2) := by
  unfold onM
  rw [if_neg (by omega)]
theorem in_or (s : List Wk) (i : Int) : (∃ n : Nat, i = n ∧ n < s.length) ∨ (i < 0 ∨ (s.length : Int) ≤ i) := by
  by_cases h : 0 ≤ i ∧ i < s.length
  · exact .inl ⟨i.toNat, by omega, by omega⟩
  · exact .inr (by omega)
theorem found_len {s s1 : List Wk} {i v : Nat} {pick : Int} {j : Job} (h : found s i pick = some (s1, j, v)) : s1.length = s.length := by
  unfold found at h
  have hst : ∀ {y : Nat} {r}, stolen s y = some r → r.1.length = s.length := by
    intro y r hr
    unfold stolen at hr
    split at hr
    · cases hr; simp
    · cases hr
  have hhe : ∀ {y : Nat} {r}, heldOf s y = some r → r.1.length = s.length := by
    intro y r hr
    unfold heldOf at hr
    split at hr
    · cases hr; simp
    · cases hr
  cases hp : popped s i with
  | some r =>
    rw [hp] at h
    simp at h
    subst h
    unfold popped at hp
    split at hp
    · obtain ⟨x, _, hx⟩ := Option.map_eq_some_iff.1 hp
      cases hx; simp
    · cases hp
  | none =>
    rw [hp] at h
    simp only [Option.none_or] at h
    cases hq : (circ s pick).findSome? (stolen s) with
    | some r =>
      rw [hq] at h
      simp at h
      subst h
      obtain ⟨y, _, hy⟩ := List.exists_of_findSome?_eq_some hq
      exact hst hy
    | none =>
      rw [hq] at h
      simp only [Option.none_or] at h
      obtain ⟨y, _, hy⟩ := List.exists_of_findSome?_eq_some h
      exact hhe hy
theorem set_self {s : List Wk} {i : Nat} (hi : i < s.length) : s.set i s[i] = s := List.set_getElem_self hi
theorem set_h {s : List Wk} {i : Nat} (hi : i < s.length) (o : Option Job) (ho : s[i].h = o) : s.set i ⟨s[i].l, o⟩ = s := by
  subst ho
  exact List.set_getElem_self hi

/-! ### the program's -/
def Turn (N : Nat) (w : World) (p : Nat) (F : Nat → Prop) (ad : Nat → Ad) (s : List Wk) (r : List Wk × Int) (e : Ending) (w' : World) : Prop := Turned N w p F ad s r.1 r.2 e w'
theorem push_all {N : Nat} {K0 : Nat → Prop} {w : World} {F : Nat → Prop} {p : Nat} {s : List Wk} {ad : Nat → Ad} {v : Value} {jb : Job} (h : Pl N w F p s ad) (i : Int) (hv : intE.Row K0 w v jb.stamp) (hok : okJob jb) :
    Calls Try.prog 19 #[.pointer (some ⟨p, 0, none⟩), .int .i64 i, jobV jb v] w (Turn N w p F ad s (pushM s i jb)) := by
  rcases in_or s i with ⟨n, rfl, hn⟩ | hi
  · unfold pushM
    rw [onM_in hn]
    by_cases h1 : s[n].l.length = 128
    · rw [if_pos h1]
      have := ppush_full h n hn hv h1
      unfold Turn
      simp only
      rw [set_self hn]
      exact this
    · rw [if_neg h1]
      exact ppush_any h n hn hv hok (by have := (h.at_ n hn).dq.few; omega)
  · unfold pushM
    rw [onM_out hi]
    exact ppush_none h i hi hv
theorem put_all {N : Nat} {K0 : Nat → Prop} {w : World} {F : Nat → Prop} {p : Nat} {s : List Wk} {ad : Nat → Ad} {v : Value} {jb : Job} (h : Pl N w F p s ad) (i : Int) (hv : intE.Row K0 w v jb.stamp) (hok : okJob jb) :
    Calls Try.prog 20 #[.pointer (some ⟨p, 0, none⟩), .int .i64 i, jobV jb v] w (Turn N w p F ad s (putM s i jb)) := by
  rcases in_or s i with ⟨n, rfl, hn⟩ | hi
  · unfold putM
    rw [onM_in hn]
    cases hh : s[n].h with
    | none =>
      have := pput_no h n hn hh hv
      unfold Turn
      simp only [Option.isSome_none, Bool.false_eq_true, if_false]
      rw [set_self hn]
      exact this
    | some j => exact pput_yes h n hn j jb hh hv hok
  · unfold putM
    rw [onM_out hi]
    exact pput_none h i hi hv
theorem done_all {N : Nat} {w : World} {F : Nat → Prop} {p : Nat} {s : List Wk} {ad : Nat → Ad} (h : Pl N w F p s ad) (i : Int) :
    Calls Try.prog 14 #[.pointer (some ⟨p, 0, none⟩), .int .i64 i] w (Turn N w p F ad s (doneM s i)) := by
  rcases in_or s i with ⟨n, rfl, hn⟩ | hi
  · unfold doneM
    rw [onM_in hn]
    cases hh : s[n].h with
    | none =>
      have := pdone_no h n hn hh
      unfold Turn
      simp only [Option.isSome_none, Bool.false_eq_true, if_false]
      rw [set_self hn]
      exact this
    | some j => exact pdone_yes h n hn j hh
  · unfold doneM
    rw [onM_out hi]
    exact pdone_none h i hi
def Take1 (N : Nat) (w : World) (p : Nat) (F : Nat → Prop) (ad : Nat → Ad) (s : List Wk) (r : List Wk × Job × Int × Int) (e : Ending) (w' : World) : Prop := Taken N w p F ad s r.1 r.2.1 r.2.2.1 r.2.2.2 e w'
theorem take_all {N : Nat} {w : World} {F : Nat → Prop} {p : Nat} {s : List Wk} {ad : Nat → Ad} (h : Pl N w F p s ad) (i pick : Int) :
    Calls Try.prog 11 #[.pointer (some ⟨p, 0, none⟩), .int .i64 i, .int .i64 pick] w (Take1 N w p F ad s (takeM s i pick)) := by
  rcases in_or s i with ⟨n, rfl, hn⟩ | hi
  · unfold takeM
    rw [if_pos (by omega), Int.toNat_natCast, List.getElem?_eq_getElem hn]
    simp only [Option.bind_some]
    cases hh : s[n].h with
    | some j => exact take_held h n hn pick j hh
    | none =>
      cases hf : found s n pick with
      | none => exact take_empty h n hn pick hh hf
      | some r =>
        obtain ⟨s1, j, v⟩ := r
        have hl := found_len hf
        have := take_find h n hn pick hh hf hl
        simp only
        rw [hold1_eq (by omega)]
        exact this
  · unfold takeM
    rw [if_neg (by omega)]
    exact take_none h i hi pick
/-! ### the document's -/
def RTurn (N : Nat) (w : World) (K : Nat → Prop) (r b1 b2 b3 : Nat) (q : List Wk × Int) (e : Ending) (w' : World) : Prop := RTurned N w K r b1 b2 b3 q.1 q.2 e w'
theorem rpush_all {N : Nat} {w : World} {K : Nat → Prop} {r : Nat} {s : List Wk} {b1 b2 b3 : Nat} {jb : Job} {v : Value} (h : Rp N w K r s b1 b2 b3) (i : Int) (hv : intE.Row K w v jb.stamp) (hb : ∀ i (hi : i < s.length), s[i].l.length ≤ 128) :
    Calls Try.prog 36 #[.pointer (some ⟨r, 0, none⟩), .int .i64 i, jobV jb v] w (RTurn N w K r b1 b2 b3 (pushM s i jb)) := by
  rcases in_or s i with ⟨n, rfl, hn⟩ | hi
  · unfold pushM
    rw [onM_in hn]
    by_cases h1 : s[n].l.length = 128
    · rw [if_pos h1]
      have := rpush_full h n hn hv h1
      unfold RTurn
      simp only
      rw [set_self hn]
      exact this
    · rw [if_neg h1]
      exact rpush_any h n hn hv (by have := hb n hn; omega)
  · unfold pushM
    rw [onM_out hi]
    exact rpush_none h i hi hv
theorem rput_all {N : Nat} {w : World} {K : Nat → Prop} {r : Nat} {s : List Wk} {b1 b2 b3 : Nat} {jb : Job} {v : Value} (h : Rp N w K r s b1 b2 b3) (i : Int) (hv : intE.Row K w v jb.stamp) :
    Calls Try.prog 33 #[.pointer (some ⟨r, 0, none⟩), .int .i64 i, jobV jb v] w (RTurn N w K r b1 b2 b3 (putM s i jb)) := by
  rcases in_or s i with ⟨n, rfl, hn⟩ | hi
  · unfold putM
    rw [onM_in hn]
    cases hh : s[n].h.isSome with
    | false =>
      have := rput_no h n hn hv hh
      unfold RTurn
      simp only [Bool.false_eq_true, if_false]
      rw [set_self hn]
      exact this
    | true => exact rput_yes h n hn hv hh
  · unfold putM
    rw [onM_out hi]
    exact rput_none h i hi hv
theorem rdone_all {N : Nat} {w : World} {K : Nat → Prop} {r : Nat} {s : List Wk} {b1 b2 b3 : Nat} (h : Rp N w K r s b1 b2 b3) (i : Int) :
    Calls Try.prog 34 #[.pointer (some ⟨r, 0, none⟩), .int .i64 i] w (RTurn N w K r b1 b2 b3 (doneM s i)) := by
  rcases in_or s i with ⟨n, rfl, hn⟩ | hi
  · unfold doneM
    rw [onM_in hn]
    cases hh : s[n].h.isSome with
    | false =>
      have := rdone_no h n hn hh
      unfold RTurn
      simp only [Bool.false_eq_true, if_false]
      rw [set_self hn]
      exact this
    | true => exact rdone_yes h n hn hh
  · unfold doneM
    rw [onM_out hi]
    exact rdone_none h i hi
def RTake1 (N : Nat) (w : World) (K : Nat → Prop) (r b1 b2 b3 : Nat) (q : List Wk × Job × Int × Int) (e : Ending) (w' : World) : Prop := RTaken N w K r b1 b2 b3 q.1 q.2.1 q.2.2.1 q.2.2.2 e w'
theorem rtake_all {N : Nat} {w : World} {K : Nat → Prop} {r : Nat} {s : List Wk} {b1 b2 b3 : Nat} (h : Rp N w K r s b1 b2 b3) (i pick : Int) :
    Calls Try.prog 32 #[.pointer (some ⟨r, 0, none⟩), .int .i64 i, .int .i64 pick] w (RTake1 N w K r b1 b2 b3 (takeM s i pick)) := by
  rcases in_or s i with ⟨n, rfl, hn⟩ | hi
  · unfold takeM
    rw [if_pos (by omega), Int.toNat_natCast, List.getElem?_eq_getElem hn]
    simp only [Option.bind_some]
    have hs : s[n]? = some s[n] := List.getElem?_eq_getElem hn
    cases hh : s[n].h with
    | some j => exact rtake_held h n hn pick hh
    | none =>
      rcases List.eq_nil_or_concat s[n].l with h0 | ⟨l', x, h0⟩
      · have e : found s n pick = ((circ s pick).findSome? (stolen s)).or ((circ s pick).findSome? (heldOf s)) := by
          unfold found popped; rw [hs]; simp [h0]
        have := rtake_go h n hn pick hh h0
        rw [← e] at this
        cases hf : found s n pick with
        | none => rw [hf] at this; exact this
        | some q => obtain ⟨s1, j, v⟩ := q; rw [hf] at this; exact this
      · have h1 : s[n].l = l' ++ [x] := by simpa using h0
        have e : found s n pick = some (s.set n ⟨l', s[n].h⟩, x, n) := by
          unfold found popped; rw [hs]; simp [h1]
        rw [e]
        exact rtake_pop h n hn pick (by rw [hh]; rfl) h1
  · unfold takeM
    rw [if_neg (by omega)]
    exact rtake_none h i hi pick
end Go.Proofs.Ytlfdnjomjheioaa
