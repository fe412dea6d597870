/-
  NARROWER THAN 'FOR EVERY INPUT', by the rows' own cells (each row's printed sentence says how): SyntaxPrints: loops · SyntaxBack: loops · SyntaxStops: loops.
  DERIVED. THE GIVEN ROWS OF THIS SEAT. 5 by the template 'for every input the law returns true; each argument reads behind the call as it read before'; 0 by the template 'total and deterministic' (their statements: YtidilpciolladaaTotals.lean).
  GIVEN WITH THE SEED: the statements are not yours to turn. If you find one false, say at which input.
  Laid BY PROGRAM, IN A SANDBOX (cutbox-rows.mjs): the forced cells as the released guide's own fill.sh prints them over the translation 4e3dca517e160ef8… (all of the seat's roots in one cut). By AI agents, Wed Nov 11 2026. No macro, syntax, notation, axiom, sorry.
-/
import Derived.Test.YtidilpciolladaaChecked
import GoSem.Claim
import GoSem.ClaimJoined
import GoSem.ClaimMapViews
import Derived.JoinedTies
import Derived.KernelRfl
namespace Go.Proofs.Ytidilpciolladaa
/- THE CELL 'sum', in the pinned program and in every row, IS THE sha256 OF THE DUMP (.gsa) THAT YtidilpciolladaaProg.lean LOADS. Nothing in Lean hashes anything: it is a label: what it is worth is what the hold of that sum in a sandbox is worth. -/
noncomputable def Try.pinned : Pinned := { name := "ytidilpciolladaa", sum := "4e3dca517e160ef864770855bf2380645b5360ab31e091183ed7ed08e042b1ab", checked := Try.checked }
namespace Rows
def none {H : Type} : Left H := { results := [], args := [] }

/-- 'argosylaw03.SyntaxReads': WHATEVER THE INPUT: true; the input reads as it did. -/
def syntaxReadsSpec : ChangeSpec := { name := "syntaxReads", fn := fun _ => fun
  | [d] => { results := [.lit (.bool true)], args := [d] }
  | _ => none }
def syntaxReadsRow : OpenClaim := { program := "ytidilpciolladaa", sum := "4e3dca517e160ef864770855bf2380645b5360ab31e091183ed7ed08e042b1ab", func := "argosy/argosylaw03.SyntaxReads", spec := "syntaxReads", inPlace := ["internal/bytealg.IndexByteString", "internal/bytealg.IndexString", "internal/abi.NoEscape", "internal/bytealg.MakeNoZero"], unfollowed := true, recurses := true, named := ["internal/bytealg.MaxLen"], apart := false }
def SyntaxReadsSaid : Prop := syntaxReadsRow.holds Try.pinned (OpenSpec.ofChange syntaxReadsSpec)

/-- ITS FALSE NEIGHBOUR: 'it returns false'. Refute it at one input. -/
def syntaxReadsWrong : ChangeSpec := { name := "syntaxReads", fn := fun _ => fun
  | [d] => { results := [.lit (.bool false)], args := [d] }
  | _ => none }
def SyntaxReadsWrongFalsely : Prop := syntaxReadsRow.holds Try.pinned (OpenSpec.ofChange syntaxReadsWrong)

/-- 'argosylaw03.SyntaxPrints': WHATEVER THE INPUT: true; the input reads as it did. -/
def syntaxPrintsSpec : ChangeSpec := { name := "syntaxPrints", fn := fun _ => fun
  | [d] => { results := [.lit (.bool true)], args := [d] }
  | _ => none }
def syntaxPrintsRow : OpenClaim := { program := "ytidilpciolladaa", sum := "4e3dca517e160ef864770855bf2380645b5360ab31e091183ed7ed08e042b1ab", func := "argosy/argosylaw03.SyntaxPrints", spec := "syntaxPrints", inPlace := ["internal/bytealg.IndexByteString", "internal/bytealg.IndexString", "internal/abi.NoEscape", "internal/bytealg.MakeNoZero"], unfollowed := true, recurses := true, named := ["internal/bytealg.MaxLen"], loops := true, apart := false }
def SyntaxPrintsSaid : Prop := syntaxPrintsRow.holds Try.pinned (OpenSpec.ofChange syntaxPrintsSpec)

/-- ITS FALSE NEIGHBOUR: 'it returns false'. Refute it at one input. -/
def syntaxPrintsWrong : ChangeSpec := { name := "syntaxPrints", fn := fun _ => fun
  | [d] => { results := [.lit (.bool false)], args := [d] }
  | _ => none }
def SyntaxPrintsWrongFalsely : Prop := syntaxPrintsRow.holds Try.pinned (OpenSpec.ofChange syntaxPrintsWrong)

/-- 'argosylaw03.SyntaxBack': WHATEVER THE INPUT: true; the input reads as it did. -/
def syntaxBackSpec : ChangeSpec := { name := "syntaxBack", fn := fun _ => fun
  | [d] => { results := [.lit (.bool true)], args := [d] }
  | _ => none }
def syntaxBackRow : OpenClaim := { program := "ytidilpciolladaa", sum := "4e3dca517e160ef864770855bf2380645b5360ab31e091183ed7ed08e042b1ab", func := "argosy/argosylaw03.SyntaxBack", spec := "syntaxBack", inPlace := ["internal/bytealg.IndexByteString", "internal/bytealg.IndexString", "internal/abi.NoEscape", "internal/bytealg.MakeNoZero"], unfollowed := true, recurses := true, named := ["internal/bytealg.MaxLen"], loops := true, apart := false }
def SyntaxBackSaid : Prop := syntaxBackRow.holds Try.pinned (OpenSpec.ofChange syntaxBackSpec)

/-- ITS FALSE NEIGHBOUR: 'it returns false'. Refute it at one input. -/
def syntaxBackWrong : ChangeSpec := { name := "syntaxBack", fn := fun _ => fun
  | [d] => { results := [.lit (.bool false)], args := [d] }
  | _ => none }
def SyntaxBackWrongFalsely : Prop := syntaxBackRow.holds Try.pinned (OpenSpec.ofChange syntaxBackWrong)

/-- 'argosylaw03.SyntaxOnce': WHATEVER THE INPUT: true; the input reads as it did. -/
def syntaxOnceSpec : ChangeSpec := { name := "syntaxOnce", fn := fun _ => fun
  | [d] => { results := [.lit (.bool true)], args := [d] }
  | _ => none }
def syntaxOnceRow : OpenClaim := { program := "ytidilpciolladaa", sum := "4e3dca517e160ef864770855bf2380645b5360ab31e091183ed7ed08e042b1ab", func := "argosy/argosylaw03.SyntaxOnce", spec := "syntaxOnce", inPlace := ["internal/bytealg.IndexByteString", "internal/bytealg.IndexString", "internal/abi.NoEscape", "internal/bytealg.MakeNoZero"], unfollowed := true, recurses := true, named := ["internal/bytealg.MaxLen"], apart := false }
def SyntaxOnceSaid : Prop := syntaxOnceRow.holds Try.pinned (OpenSpec.ofChange syntaxOnceSpec)

/-- ITS FALSE NEIGHBOUR: 'it returns false'. Refute it at one input. -/
def syntaxOnceWrong : ChangeSpec := { name := "syntaxOnce", fn := fun _ => fun
  | [d] => { results := [.lit (.bool false)], args := [d] }
  | _ => none }
def SyntaxOnceWrongFalsely : Prop := syntaxOnceRow.holds Try.pinned (OpenSpec.ofChange syntaxOnceWrong)

/-- 'argosylaw03.SyntaxStops': WHATEVER THE INPUT: true; the input reads as it did. -/
def syntaxStopsSpec : ChangeSpec := { name := "syntaxStops", fn := fun _ => fun
  | [d1, d2] => { results := [.lit (.bool true)], args := [d1, d2] }
  | _ => none }
def syntaxStopsRow : OpenClaim := { program := "ytidilpciolladaa", sum := "4e3dca517e160ef864770855bf2380645b5360ab31e091183ed7ed08e042b1ab", func := "argosy/argosylaw03.SyntaxStops", spec := "syntaxStops", inPlace := ["internal/bytealg.IndexByteString", "internal/bytealg.IndexString", "internal/abi.NoEscape", "internal/bytealg.MakeNoZero"], unfollowed := true, recurses := true, named := ["internal/bytealg.MaxLen"], loops := true, apart := false }
def SyntaxStopsSaid : Prop := syntaxStopsRow.holds Try.pinned (OpenSpec.ofChange syntaxStopsSpec)

/-- ITS FALSE NEIGHBOUR: 'it returns false'. Refute it at one input. -/
def syntaxStopsWrong : ChangeSpec := { name := "syntaxStops", fn := fun _ => fun
  | [d1, d2] => { results := [.lit (.bool false)], args := [d1, d2] }
  | _ => none }
def SyntaxStopsWrongFalsely : Prop := syntaxStopsRow.holds Try.pinned (OpenSpec.ofChange syntaxStopsWrong)

/- THE SECOND FORM. 'bulk': how many values and letters a reading holds, each counted each time it is reached (what is shared counts as often as it is met; a slice's spare places count too). A statement '..UptoSaid' is the law's where the arguments, and the package variables that the reading takes, are together of bulk at most 1048576: NARROWER than '..Said'. Prove '..Said' where nothing that the law and all that it calls make is longer than what came in: it says more and counts as full. Else prove '..UptoSaid'. A law counts once. -/
mutual
def uptoBulk {H : Type} : DataW H → Nat
  | .lit (.string bytes) => bytes.length + 1
  | .lit _ => 1
  | .nil => 1
  | .ptr d => uptoBulk d + 1
  | .slice elems spare => uptoBulkAll elems + uptoBulkAll spare + 1
  | .agg parts => uptoBulkAll parts + 1
  | .iface _ d => uptoBulk d + 1
  | .map entries => uptoBulkEntries entries + 1
  | .held _ => 1
def uptoBulkAll {H : Type} : List (DataW H) → Nat
  | [] => 0
  | d :: r => uptoBulk d + uptoBulkAll r
def uptoBulkEntries {H : Type} : List (Lit × DataW H) → Nat
  | [] => 0
  | x :: r => uptoBulkEntry x + uptoBulkEntries r
def uptoBulkEntry {H : Type} : Lit × DataW H → Nat
  | (.string bytes, d) => bytes.length + uptoBulk d + 1
  | (_, d) => uptoBulk d + 1
 end
def uptoSmall : (H : Type) → List (DataW H) → Bool := fun _ ds => decide (uptoBulkAll ds ≤ 1048576)
def OpenSpec.upto (s : _root_.Go.ChangeSpec) : _root_.Go.OpenSpec := { _root_.Go.OpenSpec.ofChange s with cond := some uptoSmall }

/-- 'argosylaw03.SyntaxReads', WHERE WHAT IT READS IS OF BULK AT MOST 1048576: true; the input reads as it did. -/
def syntaxReadsUptoRow : OpenClaim := { program := "ytidilpciolladaa", sum := "4e3dca517e160ef864770855bf2380645b5360ab31e091183ed7ed08e042b1ab", func := "argosy/argosylaw03.SyntaxReads", spec := "syntaxReads", inPlace := ["internal/bytealg.IndexByteString", "internal/bytealg.IndexString", "internal/abi.NoEscape", "internal/bytealg.MakeNoZero"], unfollowed := true, recurses := true, named := ["internal/bytealg.MaxLen"], apart := false, narrowed := true }
def SyntaxReadsUptoSaid : Prop := syntaxReadsUptoRow.holds Try.pinned (OpenSpec.upto syntaxReadsSpec)

/-- 'argosylaw03.SyntaxPrints', WHERE WHAT IT READS IS OF BULK AT MOST 1048576: true; the input reads as it did. -/
def syntaxPrintsUptoRow : OpenClaim := { program := "ytidilpciolladaa", sum := "4e3dca517e160ef864770855bf2380645b5360ab31e091183ed7ed08e042b1ab", func := "argosy/argosylaw03.SyntaxPrints", spec := "syntaxPrints", inPlace := ["internal/bytealg.IndexByteString", "internal/bytealg.IndexString", "internal/abi.NoEscape", "internal/bytealg.MakeNoZero"], unfollowed := true, recurses := true, named := ["internal/bytealg.MaxLen"], loops := true, apart := false, narrowed := true }
def SyntaxPrintsUptoSaid : Prop := syntaxPrintsUptoRow.holds Try.pinned (OpenSpec.upto syntaxPrintsSpec)

/-- 'argosylaw03.SyntaxBack', WHERE WHAT IT READS IS OF BULK AT MOST 1048576: true; the input reads as it did. -/
def syntaxBackUptoRow : OpenClaim := { program := "ytidilpciolladaa", sum := "4e3dca517e160ef864770855bf2380645b5360ab31e091183ed7ed08e042b1ab", func := "argosy/argosylaw03.SyntaxBack", spec := "syntaxBack", inPlace := ["internal/bytealg.IndexByteString", "internal/bytealg.IndexString", "internal/abi.NoEscape", "internal/bytealg.MakeNoZero"], unfollowed := true, recurses := true, named := ["internal/bytealg.MaxLen"], loops := true, apart := false, narrowed := true }
def SyntaxBackUptoSaid : Prop := syntaxBackUptoRow.holds Try.pinned (OpenSpec.upto syntaxBackSpec)

/-- 'argosylaw03.SyntaxOnce', WHERE WHAT IT READS IS OF BULK AT MOST 1048576: true; the input reads as it did. -/
def syntaxOnceUptoRow : OpenClaim := { program := "ytidilpciolladaa", sum := "4e3dca517e160ef864770855bf2380645b5360ab31e091183ed7ed08e042b1ab", func := "argosy/argosylaw03.SyntaxOnce", spec := "syntaxOnce", inPlace := ["internal/bytealg.IndexByteString", "internal/bytealg.IndexString", "internal/abi.NoEscape", "internal/bytealg.MakeNoZero"], unfollowed := true, recurses := true, named := ["internal/bytealg.MaxLen"], apart := false, narrowed := true }
def SyntaxOnceUptoSaid : Prop := syntaxOnceUptoRow.holds Try.pinned (OpenSpec.upto syntaxOnceSpec)

/-- 'argosylaw03.SyntaxStops', WHERE WHAT IT READS IS OF BULK AT MOST 1048576: true; the input reads as it did. -/
def syntaxStopsUptoRow : OpenClaim := { program := "ytidilpciolladaa", sum := "4e3dca517e160ef864770855bf2380645b5360ab31e091183ed7ed08e042b1ab", func := "argosy/argosylaw03.SyntaxStops", spec := "syntaxStops", inPlace := ["internal/bytealg.IndexByteString", "internal/bytealg.IndexString", "internal/abi.NoEscape", "internal/bytealg.MakeNoZero"], unfollowed := true, recurses := true, named := ["internal/bytealg.MaxLen"], loops := true, apart := false, narrowed := true }
def SyntaxStopsUptoSaid : Prop := syntaxStopsUptoRow.holds Try.pinned (OpenSpec.upto syntaxStopsSpec)

end Rows
end Go.Proofs.Ytidilpciolladaa
