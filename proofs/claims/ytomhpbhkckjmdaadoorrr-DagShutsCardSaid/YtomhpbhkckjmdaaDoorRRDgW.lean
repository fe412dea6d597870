/- What comes in, opened. -/
import Derived.Test.YtomhpbhkckjmdaaDoorRROpen
import Derived.Test.YtomhpbhkckjmdaaDoorRRDgC
namespace Go.Proofs.YtomhpbhkckjmdaaDoorRR
open Go.RowKit

theorem int_op : Opens intE 3 (fun n => -9223372036854775808 ≤ n ∧ n ≤ 9223372036854775807) := (Opens.int Tryd.underlying3).to (by
  intro w a cs ha h
  have h1 : -9223372036854775808 ≤ a ∧ a ≤ 9223372036854775807 := by
    simp only [Lit.wf, Bool.and_eq_true, decide_eq_true_eq] at ha
    exact ha
  exact ⟨a, h1, h⟩)
theorem arc1_op : Opens arcE 46 (fun _ => True) :=
  (Opens.struct (d := arcE) Tryd.underlying46 (by kernel_rfl)
    (.more int_op (by kernel_rfl) (by kernel_rfl) (.last int_op (by kernel_rfl) (by kernel_rfl)))).to (fun _ a _ _ h => ⟨a, trivial, h⟩)
theorem arc_op : Opens (Enc.slice arcE) 22 (fun _ => True) := (Opens.slice Tryd.underlying22 arc1_op (by kernel_rfl) (by decide)).to (fun _ a _ _ h => ⟨a, trivial, h⟩)
theorem byte_op : Opens (Enc.int .u8) 5 (fun n => 0 ≤ n ∧ n ≤ 255) := (Opens.int Tryd.underlying5).to (by
  intro w a cs ha h
  have h1 : 0 ≤ a ∧ a ≤ 255 := by
    simp only [Lit.wf, Bool.and_eq_true, decide_eq_true_eq] at ha
    exact ha
  exact ⟨a, h1, h⟩)
theorem bytes_op : Opens (Enc.slice (Enc.int .u8)) 40 (fun xs => ∀ x ∈ xs, 0 ≤ x ∧ x ≤ 255) := (Opens.slice Tryd.underlying40 byte_op (by kernel_rfl) (by decide)).to (fun _ a _ hg h => ⟨a, hg, h⟩)
end Go.Proofs.YtomhpbhkckjmdaaDoorRR
