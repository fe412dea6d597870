/- Calls, opened. -/
import Derived.Test.YtfadoejoanffoaaDqO
import Derived.Test.YtfadoejoanffoaaDqY
namespace Go.Proofs.Ytfadoejoanffoaa
open Go.RowKit
theorem act_op : Opens actE 45 (fun _ => True) :=
  (Opens.struct (d := Enc.pair intE jobE) Try.underlying45 (by kernel_rfl) (.more (Opens.int Try.underlying3) (by kernel_rfl) (by kernel_rfl) (.last job_op (by kernel_rfl) (by kernel_rfl)))).to (by
    rintro w ⟨a, b⟩ cs _ h
    exact ⟨⟨a, b⟩, trivial, h⟩)
theorem acts_op : Opens (Enc.slice actE) 38 (fun _ => True) :=
  (Opens.slice Try.underlying38 act_op (by kernel_rfl) (by decide)).to (fun _ a _ _ h => ⟨a, trivial, h⟩)
end Go.Proofs.Ytfadoejoanffoaa
