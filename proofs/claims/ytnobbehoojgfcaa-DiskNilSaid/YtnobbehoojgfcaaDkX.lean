/- Arguments, opened. -/
import Derived.Test.YtnobbehoojgfcaaOpen
import Derived.Test.YtnobbehoojgfcaaDkW
namespace Go.Proofs.Ytnobbehoojgfcaa
open Go.RowKit
theorem u8_op : Opens u8E 5 (fun _ => True) := (Opens.int Try.underlying5).to (by
  rintro w a cs ha rfl
  have h1 : 0 ≤ a ∧ a ≤ 255 := by
    simp only [Lit.wf, Bool.and_eq_true, decide_eq_true_eq] at ha
    exact ha
  refine ⟨UInt8.ofNat a.toNat, trivial, ?_⟩
  show _ = [Value.int .u8 (((UInt8.ofNat a.toNat).toNat : Nat) : Int)]
  have : (((UInt8.ofNat a.toNat).toNat : Nat) : Int) = a := by
    rw [UInt8.toNat_ofNat']; omega
  rw [this])
theorem bytes_op : Opens (Enc.slice u8E) 33 (fun _ => True) := (Opens.slice Try.underlying33 u8_op (by kernel_rfl) (by decide)).to (fun _ a _ _ h => ⟨a, trivial, h⟩)
theorem int_op : Opens intE 3 (fun n => n ≤ 9223372036854775807) := (Opens.int Try.underlying3).to (by
  intro w a cs ha h
  have h1 : a ≤ 9223372036854775807 := by
    simp only [Lit.wf, Bool.and_eq_true, decide_eq_true_eq] at ha
    exact ha.2
  exact ⟨a, h1, h⟩)
theorem ints_op : Opens (Enc.slice intE) 34 (fun _ => True) := (Opens.slice Try.underlying34 int_op (by kernel_rfl) (by decide)).to (fun _ a _ _ h => ⟨a, trivial, h⟩)
theorem act_op : Opens actE 36 (fun a => a.n ≤ 9223372036854775807) :=
  (Opens.struct (d := Enc.pair intE (Enc.pair intE (Enc.pair intE (Enc.pair (Enc.slice u8E) (Enc.slice intE))))) Try.underlying36 (by kernel_rfl)
    (.more int_op (by kernel_rfl) (by kernel_rfl) (.more int_op (by kernel_rfl) (by kernel_rfl) (.more int_op (by kernel_rfl) (by kernel_rfl) (.more bytes_op (by kernel_rfl) (by kernel_rfl) (.last ints_op (by kernel_rfl) (by kernel_rfl))))))).to (by
    rintro w ⟨a, b, c, d, e⟩ cs ⟨_, _, h, _⟩ hr
    exact ⟨⟨a, b, c, d, e⟩, h, hr⟩)
theorem acts_op : Opens (Enc.slice actE) 22 (fun xs => ∀ x ∈ xs, x.n ≤ 9223372036854775807) := Opens.slice Try.underlying22 act_op (by kernel_rfl) (by decide)
end Go.Proofs.Ytnobbehoojgfcaa
