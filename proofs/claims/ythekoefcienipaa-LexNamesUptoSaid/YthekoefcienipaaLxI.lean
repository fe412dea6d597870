/- The run over a text. -/
import Derived.Test.YthekoefcienipaaLxH
namespace Go.Proofs.Ythekoefcienipaa
open Go.RowKit

theorem valid_ok {c : Int} (h : Utf8.valid c = true) : okR c := by
  unfold Utf8.valid at h
  rw [Bool.or_eq_true, Bool.and_eq_true, Bool.and_eq_true, decide_eq_true_eq, decide_eq_true_eq, decide_eq_true_eq, decide_eq_true_eq] at h
  exact ⟨by omega, by omega, by omega⟩
theorem small_ok {n : Nat} (h : n < 55296) : okR (n : Int) := ⟨by omega, by omega, .inl (by omega)⟩
theorem decode_ok (s : ByteArray) (i : Nat) : okR ((Utf8.decode s i).1 : Int) := by
  have b0 := (s.get! (i + 0)).toNat_lt
  have e : okR ((65533 : Nat) : Int) := ⟨by decide, by decide, .inr (by decide)⟩
  unfold Utf8.decode
  simp only [Utf8.runeError]
  split
  · exact small_ok (by show (s.get! (i + 0)).toNat < 55296; omega)
  · split
    · split
      · exact small_ok (by show _ * 64 + _ % 64 < 55296; omega)
      · exact e
    · split
      · split
        · rename_i h
          exact valid_ok (Bool.and_eq_true_iff.1 h).2
        · exact e
      · split
        · split
          · rename_i h
            exact valid_ok (Bool.and_eq_true_iff.1 h).2
          · exact e
        · exact e
/-- Where the run stands: the state at the end of what is read (left), or the place and the number of what cannot be (right). -/
def runL (s : ByteArray) (m : LS) (p : Nat) : LS ⊕ (Int × Int) :=
  if _h : p < s.size then
    if bad s p = true then .inl m
    else
      let r : Int := (Utf8.decode s p).1
      if takeE m p r = 0 then runL s (takeS s m p r) (p + max 1 (Utf8.decode s p).2) else .inr (takeP m p r, takeE m p r)
  else .inl m
termination_by s.size - p
decreasing_by omega
theorem shutS_begun {s : ByteArray} {m : LS} {a : Nat} : (shutS s m a).begun < 0 := by
  unfold shutS
  split
  · assumption
  · simp
theorem markS_begun {s : ByteArray} {m : LS} {a : Nat} {r : Int} : (markS s m a r).begun = m.begun := by
  unfold markS
  (repeat' split) <;> rfl
theorem markS_few {s : ByteArray} {m : LS} {a : Nat} {r : Int} : (markS s m a r).out.length ≤ m.out.length + 1 := by
  unfold markS
  (repeat' split) <;> simp
/-- A state that lies at a place: few tokens, the name's begin behind it. -/
structure Lies (m : LS) (p : Nat) : Prop where
  begun : m.begun ≤ p
  few : m.out.length + (if m.begun < 0 then 0 else 1) ≤ p
theorem Lies.take {s : ByteArray} {m : LS} {p q : Nat} {r : Int} (h : Lies m p) (hq : p + 1 ≤ q) : Lies (takeS s m p r) q := by
  obtain ⟨h1, h2⟩ := h
  unfold takeS
  split
  · exact ⟨by show m.begun ≤ q; omega, by show m.out.length + (if m.begun < 0 then 0 else 1) ≤ q; omega⟩
  · split
    · split
      · exact ⟨by show (p : Int) ≤ q; omega, by show m.out.length + (if (p : Int) < 0 then 0 else 1) ≤ q; split at h2 <;> split <;> omega⟩
      · exact ⟨by omega, by omega⟩
    · have hs := shutS_begun (s := s) (m := m) (a := p)
      have hf : (shutS s m p).out.length ≤ p := by
        unfold shutS
        split
        · rw [if_pos (by assumption)] at h2; omega
        · rw [if_neg (by assumption)] at h2; simp; omega
      split
      · have := markS_begun (s := s) (m := shutS s m p) (a := p) (r := r)
        have := markS_few (s := s) (m := shutS s m p) (a := p) (r := r)
        exact ⟨by omega, by rw [if_pos (by omega)]; omega⟩
      · exact ⟨by omega, by rw [if_pos hs]; omega⟩
end Go.Proofs.Ythekoefcienipaa
