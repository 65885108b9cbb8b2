/-
  DERIVED. GIVEN WITH THE SEED: THE CARDS: each row of YtlmhppnbcbadbaaDoorRows.lean that lists a variable, with what it lists TIED to the program's text (the seventh form; the later family's looks); each row that meets fmt, with fmt's text TOLD by the authors' own Lean function (tested against real Go, not proved from fmt's source: count such statements apart). THE CARD IS WHAT COUNTS. Prove the row's statement (the work); the ties are given (YtlmhppnbcbadbaaDoorTie.lean); close each card by the builder's one call (the guide's Derived/Test/ToyasCard.lean, 'card_holds'). Laid BY PROGRAM, IN A SANDBOX (cutbox-door.mjs). By AI agents, Wed Nov 11 2026. No macro, syntax, notation, axiom, sorry.
-/
import Derived.Test.YtlmhppnbcbadbaaDoorRows
import GoSem.ClaimSeven
namespace Go.Proofs.YtlmhppnbcbadbaaDoor
namespace Rows

/-- THE TIED CARD OF 'changeforgetop.TopBuildStepsAreOrdered'. -/
def topBuildStepsAreOrderedCard : Claim7 := { stood := { row := topBuildStepsAreOrderedRow, standIns := [], harness := (true, "31e056d7c53345e49b98e42dcc19cc7b4aaa8e9328305b961ef909d5eab56e17"), looks := false }, kinds := [], alts := [], laidByText := true, laidKinds := [.widerDeep, .data], laidTests := true, laidLooks := .later }
def TopBuildStepsAreOrderedCardSaid : Prop := Claim7.holds Tryd.pinned (.plain (OpenSpec.ofChange topBuildStepsAreOrderedSpec)) topBuildStepsAreOrderedCard

/-- THE SECOND FORM's CARD OF 'changeforgetop.TopBuildStepsAreOrdered'. -/
def topBuildStepsAreOrderedUptoCard : Claim7 := { stood := { row := topBuildStepsAreOrderedUptoRow, standIns := [], harness := (true, "31e056d7c53345e49b98e42dcc19cc7b4aaa8e9328305b961ef909d5eab56e17"), looks := false }, kinds := [], alts := [], laidByText := true, laidKinds := [.widerDeep, .data], laidTests := true, laidLooks := .later }
def TopBuildStepsAreOrderedUptoCardSaid : Prop := Claim7.holds Tryd.pinned (.plain (OpenSpec.upto topBuildStepsAreOrderedSpec)) topBuildStepsAreOrderedUptoCard
end Rows
end Go.Proofs.YtlmhppnbcbadbaaDoor
