/-
  No cell of these rows narrows 'for every input' (looked for: loops, veiled, ifaces, maps, wideKeys, modest, calm, conditions, laid).
  DERIVED. THE GIVEN ROWS OF THIS SEAT. 5 by the template 'for every input the law returns true; each argument reads behind the call as it read before'; 0 by the template 'total and deterministic' (their statements: YtgpcgndmdkgbdaaTotals.lean).
  GIVEN WITH THE SEED: the statements are not yours to turn. If you find one false, say at which input.
  Laid BY PROGRAM, IN A SANDBOX (cutbox-rows.mjs): the forced cells as the released guide's own fill.sh prints them over the translation d1b75a9a57c5b197… (all of the seat's roots in one cut). By AI agents, Wed Nov 11 2026. No macro, syntax, notation, axiom, sorry.
-/
import Derived.Test.YtgpcgndmdkgbdaaChecked
import GoSem.Claim
import GoSem.ClaimJoined
import GoSem.ClaimMapViews
import Derived.JoinedTies
import Derived.KernelRfl
namespace Go.Proofs.Ytgpcgndmdkgbdaa
/- THE CELL 'sum', in the pinned program and in every row, IS THE sha256 OF THE DUMP (.gsa) THAT YtgpcgndmdkgbdaaProg.lean LOADS. Nothing in Lean hashes anything: it is a label: what it is worth is what the hold of that sum in a sandbox is worth. -/
noncomputable def Try.pinned : Pinned := { name := "ytgpcgndmdkgbdaa", sum := "d1b75a9a57c5b1979d58a3f8d77927540281b59dd3f922e22e8015edd082cd25", checked := Try.checked }
namespace Rows
def none {H : Type} : Left H := { results := [], args := [] }

/-- 'argosylaw11.BranchBack': WHATEVER THE INPUT: true; the input reads as it did. -/
def branchBackSpec : ChangeSpec := { name := "branchBack", fn := fun _ => fun
  | [d] => { results := [.lit (.bool true)], args := [d] }
  | _ => none }
def branchBackRow : OpenClaim := { program := "ytgpcgndmdkgbdaa", sum := "d1b75a9a57c5b1979d58a3f8d77927540281b59dd3f922e22e8015edd082cd25", func := "argosy/argosylaw11.BranchBack", spec := "branchBack", unfollowed := true, recurses := true, apart := false }
def BranchBackSaid : Prop := branchBackRow.holds Try.pinned (OpenSpec.ofChange branchBackSpec)

/-- ITS FALSE NEIGHBOUR: 'it returns false'. Refute it at one input. -/
def branchBackWrong : ChangeSpec := { name := "branchBack", fn := fun _ => fun
  | [d] => { results := [.lit (.bool false)], args := [d] }
  | _ => none }
def BranchBackWrongFalsely : Prop := branchBackRow.holds Try.pinned (OpenSpec.ofChange branchBackWrong)

/-- 'argosylaw11.BranchTold': WHATEVER THE INPUT: true; the input reads as it did. -/
def branchToldSpec : ChangeSpec := { name := "branchTold", fn := fun _ => fun
  | [d1, d2, d3, d4] => { results := [.lit (.bool true)], args := [d1, d2, d3, d4] }
  | _ => none }
def branchToldRow : OpenClaim := { program := "ytgpcgndmdkgbdaa", sum := "d1b75a9a57c5b1979d58a3f8d77927540281b59dd3f922e22e8015edd082cd25", func := "argosy/argosylaw11.BranchTold", spec := "branchTold", unfollowed := true, recurses := true, apart := false }
def BranchToldSaid : Prop := branchToldRow.holds Try.pinned (OpenSpec.ofChange branchToldSpec)

/-- ITS FALSE NEIGHBOUR: 'it returns false'. Refute it at one input. -/
def branchToldWrong : ChangeSpec := { name := "branchTold", fn := fun _ => fun
  | [d1, d2, d3, d4] => { results := [.lit (.bool false)], args := [d1, d2, d3, d4] }
  | _ => none }
def BranchToldWrongFalsely : Prop := branchToldRow.holds Try.pinned (OpenSpec.ofChange branchToldWrong)

/-- 'argosylaw11.BranchTorn': WHATEVER THE INPUT: true; the input reads as it did. -/
def branchTornSpec : ChangeSpec := { name := "branchTorn", fn := fun _ => fun
  | [d1, d2, d3] => { results := [.lit (.bool true)], args := [d1, d2, d3] }
  | _ => none }
def branchTornRow : OpenClaim := { program := "ytgpcgndmdkgbdaa", sum := "d1b75a9a57c5b1979d58a3f8d77927540281b59dd3f922e22e8015edd082cd25", func := "argosy/argosylaw11.BranchTorn", spec := "branchTorn", unfollowed := true, recurses := true, apart := false }
def BranchTornSaid : Prop := branchTornRow.holds Try.pinned (OpenSpec.ofChange branchTornSpec)

/-- ITS FALSE NEIGHBOUR: 'it returns false'. Refute it at one input. -/
def branchTornWrong : ChangeSpec := { name := "branchTorn", fn := fun _ => fun
  | [d1, d2, d3] => { results := [.lit (.bool false)], args := [d1, d2, d3] }
  | _ => none }
def BranchTornWrongFalsely : Prop := branchTornRow.holds Try.pinned (OpenSpec.ofChange branchTornWrong)

/-- 'argosylaw11.BranchNil': WHATEVER THE INPUT: true; the input reads as it did. -/
def branchNilSpec : ChangeSpec := { name := "branchNil", fn := fun _ => fun
  | [d1, d2, d3] => { results := [.lit (.bool true)], args := [d1, d2, d3] }
  | _ => none }
def branchNilRow : OpenClaim := { program := "ytgpcgndmdkgbdaa", sum := "d1b75a9a57c5b1979d58a3f8d77927540281b59dd3f922e22e8015edd082cd25", func := "argosy/argosylaw11.BranchNil", spec := "branchNil", unfollowed := true, recurses := true, apart := false }
def BranchNilSaid : Prop := branchNilRow.holds Try.pinned (OpenSpec.ofChange branchNilSpec)

/-- ITS FALSE NEIGHBOUR: 'it returns false'. Refute it at one input. -/
def branchNilWrong : ChangeSpec := { name := "branchNil", fn := fun _ => fun
  | [d1, d2, d3] => { results := [.lit (.bool false)], args := [d1, d2, d3] }
  | _ => none }
def BranchNilWrongFalsely : Prop := branchNilRow.holds Try.pinned (OpenSpec.ofChange branchNilWrong)

/-- 'argosylaw11.BranchPlays': WHATEVER THE INPUT: true; the input reads as it did. -/
def branchPlaysSpec : ChangeSpec := { name := "branchPlays", fn := fun _ => fun
  | [d1, d2] => { results := [.lit (.bool true)], args := [d1, d2] }
  | _ => none }
def branchPlaysRow : OpenClaim := { program := "ytgpcgndmdkgbdaa", sum := "d1b75a9a57c5b1979d58a3f8d77927540281b59dd3f922e22e8015edd082cd25", func := "argosy/argosylaw11.BranchPlays", spec := "branchPlays", unfollowed := true, recurses := true, apart := false }
def BranchPlaysSaid : Prop := branchPlaysRow.holds Try.pinned (OpenSpec.ofChange branchPlaysSpec)

/-- ITS FALSE NEIGHBOUR: 'it returns false'. Refute it at one input. -/
def branchPlaysWrong : ChangeSpec := { name := "branchPlays", fn := fun _ => fun
  | [d1, d2] => { results := [.lit (.bool false)], args := [d1, d2] }
  | _ => none }
def BranchPlaysWrongFalsely : Prop := branchPlaysRow.holds Try.pinned (OpenSpec.ofChange branchPlaysWrong)

/- THE SECOND FORM. 'bulk': how many values and letters a reading holds, each counted each time it is reached (what is shared counts as often as it is met; a slice's spare places count too). A statement '..UptoSaid' is the law's where the arguments, and the package variables that the reading takes, are together of bulk at most 1048576: NARROWER than '..Said'. Prove '..Said' where nothing that the law and all that it calls make is longer than what came in: it says more and counts as full. Else prove '..UptoSaid'. A law counts once. -/
mutual
def uptoBulk {H : Type} : DataW H → Nat
  | .lit (.string bytes) => bytes.length + 1
  | .lit _ => 1
  | .nil => 1
  | .ptr d => uptoBulk d + 1
  | .slice elems spare => uptoBulkAll elems + uptoBulkAll spare + 1
  | .agg parts => uptoBulkAll parts + 1
  | .iface _ d => uptoBulk d + 1
  | .map entries => uptoBulkEntries entries + 1
  | .held _ => 1
def uptoBulkAll {H : Type} : List (DataW H) → Nat
  | [] => 0
  | d :: r => uptoBulk d + uptoBulkAll r
def uptoBulkEntries {H : Type} : List (Lit × DataW H) → Nat
  | [] => 0
  | x :: r => uptoBulkEntry x + uptoBulkEntries r
def uptoBulkEntry {H : Type} : Lit × DataW H → Nat
  | (.string bytes, d) => bytes.length + uptoBulk d + 1
  | (_, d) => uptoBulk d + 1
 end
def uptoSmall : (H : Type) → List (DataW H) → Bool := fun _ ds => decide (uptoBulkAll ds ≤ 1048576)
def OpenSpec.upto (s : _root_.Go.ChangeSpec) : _root_.Go.OpenSpec := { _root_.Go.OpenSpec.ofChange s with cond := some uptoSmall }

/-- 'argosylaw11.BranchBack', WHERE WHAT IT READS IS OF BULK AT MOST 1048576: true; the input reads as it did. -/
def branchBackUptoRow : OpenClaim := { program := "ytgpcgndmdkgbdaa", sum := "d1b75a9a57c5b1979d58a3f8d77927540281b59dd3f922e22e8015edd082cd25", func := "argosy/argosylaw11.BranchBack", spec := "branchBack", unfollowed := true, recurses := true, apart := false, narrowed := true }
def BranchBackUptoSaid : Prop := branchBackUptoRow.holds Try.pinned (OpenSpec.upto branchBackSpec)

/-- 'argosylaw11.BranchTold', WHERE WHAT IT READS IS OF BULK AT MOST 1048576: true; the input reads as it did. -/
def branchToldUptoRow : OpenClaim := { program := "ytgpcgndmdkgbdaa", sum := "d1b75a9a57c5b1979d58a3f8d77927540281b59dd3f922e22e8015edd082cd25", func := "argosy/argosylaw11.BranchTold", spec := "branchTold", unfollowed := true, recurses := true, apart := false, narrowed := true }
def BranchToldUptoSaid : Prop := branchToldUptoRow.holds Try.pinned (OpenSpec.upto branchToldSpec)

/-- 'argosylaw11.BranchTorn', WHERE WHAT IT READS IS OF BULK AT MOST 1048576: true; the input reads as it did. -/
def branchTornUptoRow : OpenClaim := { program := "ytgpcgndmdkgbdaa", sum := "d1b75a9a57c5b1979d58a3f8d77927540281b59dd3f922e22e8015edd082cd25", func := "argosy/argosylaw11.BranchTorn", spec := "branchTorn", unfollowed := true, recurses := true, apart := false, narrowed := true }
def BranchTornUptoSaid : Prop := branchTornUptoRow.holds Try.pinned (OpenSpec.upto branchTornSpec)

/-- 'argosylaw11.BranchNil', WHERE WHAT IT READS IS OF BULK AT MOST 1048576: true; the input reads as it did. -/
def branchNilUptoRow : OpenClaim := { program := "ytgpcgndmdkgbdaa", sum := "d1b75a9a57c5b1979d58a3f8d77927540281b59dd3f922e22e8015edd082cd25", func := "argosy/argosylaw11.BranchNil", spec := "branchNil", unfollowed := true, recurses := true, apart := false, narrowed := true }
def BranchNilUptoSaid : Prop := branchNilUptoRow.holds Try.pinned (OpenSpec.upto branchNilSpec)

/-- 'argosylaw11.BranchPlays', WHERE WHAT IT READS IS OF BULK AT MOST 1048576: true; the input reads as it did. -/
def branchPlaysUptoRow : OpenClaim := { program := "ytgpcgndmdkgbdaa", sum := "d1b75a9a57c5b1979d58a3f8d77927540281b59dd3f922e22e8015edd082cd25", func := "argosy/argosylaw11.BranchPlays", spec := "branchPlays", unfollowed := true, recurses := true, apart := false, narrowed := true }
def BranchPlaysUptoSaid : Prop := branchPlaysUptoRow.holds Try.pinned (OpenSpec.upto branchPlaysSpec)

end Rows
end Go.Proofs.Ytgpcgndmdkgbdaa
