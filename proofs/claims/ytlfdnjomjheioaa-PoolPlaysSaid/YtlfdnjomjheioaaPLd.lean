/- Arguments, opened. -/
import Derived.Test.YtlfdnjomjheioaaPLc
namespace Go.Proofs.Ytlfdnjomjheioaa
open Go.RowKit

theorem ints_op : Opens (Enc.slice intE) 24 (fun _ => True) :=
  (Opens.slice Try.underlying24 (Opens.int Try.underlying3) (by kernel_rfl) (by decide)).to (fun _ a _ _ h => ⟨a, trivial, h⟩)
theorem key_op : Opens (Enc.pair intE (Enc.pair Enc.bool intE)) 31 (fun _ => True) :=
  (Opens.struct (d := Enc.pair intE (Enc.pair Enc.bool intE)) Try.underlying31 (by kernel_rfl) (.more (Opens.int Try.underlying3) (by kernel_rfl) (by kernel_rfl) (.more (Opens.bool Try.underlying4) (by kernel_rfl) (by kernel_rfl) (.last (Opens.int Try.underlying3) (by kernel_rfl) (by kernel_rfl))))).to (fun _ a _ _ h => ⟨a, trivial, h⟩)
theorem job_op : Opens jobE 33 (fun _ => True) :=
  (Opens.struct (d := Enc.pair (Enc.pair intE (Enc.pair Enc.bool intE)) (Enc.pair Enc.bool (Enc.pair intE (Enc.slice intE)))) Try.underlying33 (by kernel_rfl)
    (.more key_op (by kernel_rfl) (by kernel_rfl) (.more (Opens.bool Try.underlying4) (by kernel_rfl) (by kernel_rfl) (.more (Opens.int Try.underlying3) (by kernel_rfl) (by kernel_rfl) (.last ints_op (by kernel_rfl) (by kernel_rfl)))))).to (by
    rintro w ⟨⟨a, b, c⟩, d, e, f⟩ cs _ ⟨c1, c2, rfl, ⟨_, _, rfl, rfl, ⟨_, _, rfl, rfl, rfl⟩⟩, ⟨_, _, rfl, rfl, ⟨_, _, rfl, rfl, ⟨v, rfl, h⟩⟩⟩⟩
    exact ⟨⟨a, b, c, d, e, f⟩, trivial, jobE_mk (j := ⟨a, b, c, d, e, f⟩) h⟩)
theorem nil_walk {w : World} {i : Int} {j : Job} {cs : Array Value} {made : Bool} (h : jobE.rd (fun _ => True) w j cs.toList) :
    Calls Try.prog 6 #[.int .i64 i, .agg cs, .bool made] w fun e w' => e = .returned (.bool true) ∧ Below w.heap.size w w' := by
  obtain ⟨v, hv, hr⟩ := jobE_open h
  obtain rfl : cs = #[.int .i64 j.item, .bool j.undo, .int .i64 j.try_, .bool j.begun, .int .i64 j.token, v] := by
    cases cs
    simpa [jobCells] using hv
  exact nil_any hr
theorem act_op : Opens (Enc.slice pactE) 22 (fun _ => True) :=
  (Opens.slice (d := pactE) (G := fun _ => True) Try.underlying22 ((Opens.struct (d := Enc.pair intE (Enc.pair intE (Enc.pair intE jobE))) Try.underlying50 (by kernel_rfl)
    (.more (Opens.int Try.underlying3) (by kernel_rfl) (by kernel_rfl) (.more (Opens.int Try.underlying3) (by kernel_rfl) (by kernel_rfl) (.more (Opens.int Try.underlying3) (by kernel_rfl) (by kernel_rfl) (.last job_op (by kernel_rfl) (by kernel_rfl)))))).to (fun _ a _ _ h => ⟨⟨a.1, a.2.1, a.2.2.1, a.2.2.2⟩, trivial, h⟩)) (by kernel_rfl) (by decide)).to (fun _ a _ _ h => ⟨a, trivial, h⟩)
end Go.Proofs.Ytlfdnjomjheioaa
