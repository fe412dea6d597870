/-
  DERIVED. GIVEN WITH THE SEED: THE CARDS: each row of YtomhpbhkckjmdaaDoorRRRows.lean that lists a variable, with what it lists TIED to the program's text (the seventh form; the later family's looks); each row that meets fmt, with fmt's text TOLD by the authors' own Lean function (tested against real Go, not proved from fmt's source: count such statements apart). THE CARD IS WHAT COUNTS. Prove the row's statement (the work); the ties are given (YtomhpbhkckjmdaaDoorRRTie.lean); close each card by the builder's one call (the guide's Derived/Test/ToyasCard.lean, 'card_holds'). Laid BY PROGRAM, IN A SANDBOX (cutbox-door.mjs). By AI agents, Wed Nov 11 2026. No macro, syntax, notation, axiom, sorry.
-/
import Derived.Test.YtomhpbhkckjmdaaDoorRRRows
import GoSem.ClaimSeven
namespace Go.Proofs.YtomhpbhkckjmdaaDoorRR
namespace Rows

/-- THE TIED CARD OF 'argosylaw04.DagFollows'. -/
def dagFollowsCard : Claim7 := { stood := { row := dagFollowsRow, standIns := [], harness := (true, "35f15dd40e23cd75f56ea5f6c761a7886d8d9749bb20d69af76660951af68865"), looks := true }, kinds := [], alts := [], laidByText := true, laidKinds := [.data], laidTests := true, laidLooks := .later }
def DagFollowsCardSaid : Prop := Claim7.holds Tryd.pinned (.plain (OpenSpec.ofChange dagFollowsSpec)) dagFollowsCard

/-- THE TIED CARD OF 'argosylaw04.DagShuts'. -/
def dagShutsCard : Claim7 := { stood := { row := dagShutsRow, standIns := [], harness := (true, "35f15dd40e23cd75f56ea5f6c761a7886d8d9749bb20d69af76660951af68865"), looks := true }, kinds := [], alts := [], laidByText := true, laidKinds := [.data], laidTests := true, laidLooks := .later }
def DagShutsCardSaid : Prop := Claim7.holds Tryd.pinned (.plain (OpenSpec.ofChange dagShutsSpec)) dagShutsCard

/-- THE TIED CARD OF 'argosylaw04.DagWalks'. -/
def dagWalksCard : Claim7 := { stood := { row := dagWalksRow, standIns := [], harness := (true, "35f15dd40e23cd75f56ea5f6c761a7886d8d9749bb20d69af76660951af68865"), looks := true }, kinds := [], alts := [], laidByText := true, laidKinds := [.data], laidTests := true, laidLooks := .later }
def DagWalksCardSaid : Prop := Claim7.holds Tryd.pinned (.plain (OpenSpec.ofChange dagWalksSpec)) dagWalksCard

/-- THE TIED CARD OF 'argosylaw04.DagTurns'. -/
def dagTurnsCard : Claim7 := { stood := { row := dagTurnsRow, standIns := [], harness := (true, "35f15dd40e23cd75f56ea5f6c761a7886d8d9749bb20d69af76660951af68865"), looks := true }, kinds := [], alts := [], laidByText := true, laidKinds := [.data], laidTests := true, laidLooks := .later }
def DagTurnsCardSaid : Prop := Claim7.holds Tryd.pinned (.plain (OpenSpec.ofChange dagTurnsSpec)) dagTurnsCard

/-- THE SECOND FORM's CARD OF 'argosylaw04.DagFollows'. -/
def dagFollowsUptoCard : Claim7 := { stood := { row := dagFollowsUptoRow, standIns := [], harness := (true, "35f15dd40e23cd75f56ea5f6c761a7886d8d9749bb20d69af76660951af68865"), looks := true }, kinds := [], alts := [], laidByText := true, laidKinds := [.data], laidTests := true, laidLooks := .later }
def DagFollowsUptoCardSaid : Prop := Claim7.holds Tryd.pinned (.plain (OpenSpec.upto dagFollowsSpec)) dagFollowsUptoCard

/-- THE SECOND FORM's CARD OF 'argosylaw04.DagShuts'. -/
def dagShutsUptoCard : Claim7 := { stood := { row := dagShutsUptoRow, standIns := [], harness := (true, "35f15dd40e23cd75f56ea5f6c761a7886d8d9749bb20d69af76660951af68865"), looks := true }, kinds := [], alts := [], laidByText := true, laidKinds := [.data], laidTests := true, laidLooks := .later }
def DagShutsUptoCardSaid : Prop := Claim7.holds Tryd.pinned (.plain (OpenSpec.upto dagShutsSpec)) dagShutsUptoCard

/-- THE SECOND FORM's CARD OF 'argosylaw04.DagWalks'. -/
def dagWalksUptoCard : Claim7 := { stood := { row := dagWalksUptoRow, standIns := [], harness := (true, "35f15dd40e23cd75f56ea5f6c761a7886d8d9749bb20d69af76660951af68865"), looks := true }, kinds := [], alts := [], laidByText := true, laidKinds := [.data], laidTests := true, laidLooks := .later }
def DagWalksUptoCardSaid : Prop := Claim7.holds Tryd.pinned (.plain (OpenSpec.upto dagWalksSpec)) dagWalksUptoCard

/-- THE SECOND FORM's CARD OF 'argosylaw04.DagTurns'. -/
def dagTurnsUptoCard : Claim7 := { stood := { row := dagTurnsUptoRow, standIns := [], harness := (true, "35f15dd40e23cd75f56ea5f6c761a7886d8d9749bb20d69af76660951af68865"), looks := true }, kinds := [], alts := [], laidByText := true, laidKinds := [.data], laidTests := true, laidLooks := .later }
def DagTurnsUptoCardSaid : Prop := Claim7.holds Tryd.pinned (.plain (OpenSpec.upto dagTurnsSpec)) dagTurnsUptoCard
end Rows
end Go.Proofs.YtomhpbhkckjmdaaDoorRR
