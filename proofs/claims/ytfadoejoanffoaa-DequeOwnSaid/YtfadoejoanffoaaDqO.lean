/- Arguments, opened. -/
import Derived.Test.YtfadoejoanffoaaOpen
import Derived.Test.YtfadoejoanffoaaDqN
namespace Go.Proofs.Ytfadoejoanffoaa
open Go.RowKit

theorem ints_op : Opens (Enc.slice intE) 30 (fun _ => True) :=
  (Opens.slice Try.underlying30 (Opens.int Try.underlying3) (by kernel_rfl) (by decide)).to (fun _ a _ _ h => ⟨a, trivial, h⟩)
theorem key_op : Opens (Enc.pair intE (Enc.pair Enc.bool intE)) 29 (fun _ => True) :=
  (Opens.struct (d := Enc.pair intE (Enc.pair Enc.bool intE)) Try.underlying29 (by kernel_rfl) (.more (Opens.int Try.underlying3) (by kernel_rfl) (by kernel_rfl) (.more (Opens.bool Try.underlying4) (by kernel_rfl) (by kernel_rfl) (.last (Opens.int Try.underlying3) (by kernel_rfl) (by kernel_rfl))))).to (fun _ a _ _ h => ⟨a, trivial, h⟩)
theorem job_op : Opens jobE 32 (fun _ => True) :=
  (Opens.struct (d := Enc.pair (Enc.pair intE (Enc.pair Enc.bool intE)) (Enc.pair Enc.bool (Enc.pair intE (Enc.slice intE)))) Try.underlying32 (by kernel_rfl)
    (.more key_op (by kernel_rfl) (by kernel_rfl) (.more (Opens.bool Try.underlying4) (by kernel_rfl) (by kernel_rfl) (.more (Opens.int Try.underlying3) (by kernel_rfl) (by kernel_rfl) (.last ints_op (by kernel_rfl) (by kernel_rfl)))))).to (by
    rintro w ⟨⟨a, b, c⟩, d, e, f⟩ cs _ ⟨c1, c2, rfl, ⟨_, _, rfl, rfl, ⟨_, _, rfl, rfl, rfl⟩⟩, ⟨_, _, rfl, rfl, ⟨_, _, rfl, rfl, ⟨v, rfl, h⟩⟩⟩⟩
    exact ⟨⟨a, b, c, d, e, f⟩, trivial, jobE_mk (j := ⟨a, b, c, d, e, f⟩) h⟩)
theorem nil_walk {w : World} {j : Job} {cs : Array Value} {made : Bool} (h : jobE.rd (fun _ => True) w j cs.toList) :
    Calls Try.prog 6 #[.agg cs, .bool made] w fun e w' => e = .returned (.bool true) ∧ Below w.heap.size w w' := by
  obtain ⟨v, hv, hr⟩ := jobE_open h
  obtain rfl : cs = #[.int .i64 j.item, .bool j.undo, .int .i64 j.try_, .bool j.begun, .int .i64 j.token, v] := by
    cases cs
    simpa [jobCells] using hv
  exact nil_any hr
end Go.Proofs.Ytfadoejoanffoaa
