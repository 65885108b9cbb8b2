/-
  DERIVED. GIVEN WITH THE SEED: THE CARDS: each row of YtbkameioedmlkaaDoorRows.lean that lists a variable, with what it lists TIED to the program's text (the seventh form; the later family's looks); each row that meets fmt, with fmt's text TOLD by the authors' own Lean function (tested against real Go, not proved from fmt's source: count such statements apart). THE CARD IS WHAT COUNTS. Prove the row's statement (the work); the ties are given (YtbkameioedmlkaaDoorTie.lean); close each card by the builder's one call (the guide's Derived/Test/ToyasCard.lean, 'card_holds'). Laid BY PROGRAM, IN A SANDBOX (cutbox-door.mjs). By AI agents, Wed Nov 11 2026. No macro, syntax, notation, axiom, sorry.
-/
import Derived.Test.YtbkameioedmlkaaDoorRows
import GoSem.ClaimSeven
namespace Go.Proofs.YtbkameioedmlkaaDoor
namespace Rows

/-- THE TIED CARD OF 'changeforgelaw7.ApprovalsApproveMatchesSpec'. -/
def approvalsApproveMatchesSpecCard : Claim7 := { stood := { row := approvalsApproveMatchesSpecRow, standIns := [], harness := (true, "8f60b0c9b5e87917e5e7412d2090b0718873470e220b3946a59a0350511f6f9e"), looks := false }, kinds := [], alts := [], laidByText := true, laidKinds := [.data, .pinned], laidTests := true, laidLooks := .later }
def ApprovalsApproveMatchesSpecCardSaid : Prop := Claim7.holds Tryd.pinned (.plain (OpenSpec.ofChange approvalsApproveMatchesSpecSpec)) approvalsApproveMatchesSpecCard

/-- THE TIED CARD OF 'changeforgelaw7.ApprovalsAreBoundToContents'. -/
def approvalsAreBoundToContentsCard : Claim7 := { stood := { row := approvalsAreBoundToContentsRow, standIns := [], harness := (true, "8f60b0c9b5e87917e5e7412d2090b0718873470e220b3946a59a0350511f6f9e"), looks := false }, kinds := [], alts := [], laidByText := true, laidKinds := [.data, .pinned], laidTests := true, laidLooks := .later }
def ApprovalsAreBoundToContentsCardSaid : Prop := Claim7.holds Tryd.pinned (.plain (OpenSpec.ofChange approvalsAreBoundToContentsSpec)) approvalsAreBoundToContentsCard

/-- THE TIED CARD OF 'changeforgelaw7.ApprovalsOnlyHelp'. -/
def approvalsOnlyHelpCard : Claim7 := { stood := { row := approvalsOnlyHelpRow, standIns := [], harness := (true, "8f60b0c9b5e87917e5e7412d2090b0718873470e220b3946a59a0350511f6f9e"), looks := false }, kinds := [], alts := [], laidByText := true, laidKinds := [.data, .pinned], laidTests := true, laidLooks := .later }
def ApprovalsOnlyHelpCardSaid : Prop := Claim7.holds Tryd.pinned (.plain (OpenSpec.ofChange approvalsOnlyHelpSpec)) approvalsOnlyHelpCard

/-- THE TIED CARD OF 'changeforgelaw7.ApprovalsOfOwnersSuffice'. -/
def approvalsOfOwnersSufficeCard : Claim7 := { stood := { row := approvalsOfOwnersSufficeRow, standIns := [], harness := (true, "8f60b0c9b5e87917e5e7412d2090b0718873470e220b3946a59a0350511f6f9e"), looks := false }, kinds := [], alts := [], laidByText := true, laidKinds := [.data, .pinned], laidTests := true, laidLooks := .later }
def ApprovalsOfOwnersSufficeCardSaid : Prop := Claim7.holds Tryd.pinned (.plain (OpenSpec.ofChange approvalsOfOwnersSufficeSpec)) approvalsOfOwnersSufficeCard

/-- THE SECOND FORM's CARD OF 'changeforgelaw7.ApprovalsApproveMatchesSpec'. -/
def approvalsApproveMatchesSpecUptoCard : Claim7 := { stood := { row := approvalsApproveMatchesSpecUptoRow, standIns := [], harness := (true, "8f60b0c9b5e87917e5e7412d2090b0718873470e220b3946a59a0350511f6f9e"), looks := false }, kinds := [], alts := [], laidByText := true, laidKinds := [.data, .pinned], laidTests := true, laidLooks := .later }
def ApprovalsApproveMatchesSpecUptoCardSaid : Prop := Claim7.holds Tryd.pinned (.plain (OpenSpec.upto approvalsApproveMatchesSpecSpec)) approvalsApproveMatchesSpecUptoCard

/-- THE SECOND FORM's CARD OF 'changeforgelaw7.ApprovalsAreBoundToContents'. -/
def approvalsAreBoundToContentsUptoCard : Claim7 := { stood := { row := approvalsAreBoundToContentsUptoRow, standIns := [], harness := (true, "8f60b0c9b5e87917e5e7412d2090b0718873470e220b3946a59a0350511f6f9e"), looks := false }, kinds := [], alts := [], laidByText := true, laidKinds := [.data, .pinned], laidTests := true, laidLooks := .later }
def ApprovalsAreBoundToContentsUptoCardSaid : Prop := Claim7.holds Tryd.pinned (.plain (OpenSpec.upto approvalsAreBoundToContentsSpec)) approvalsAreBoundToContentsUptoCard

/-- THE SECOND FORM's CARD OF 'changeforgelaw7.ApprovalsOnlyHelp'. -/
def approvalsOnlyHelpUptoCard : Claim7 := { stood := { row := approvalsOnlyHelpUptoRow, standIns := [], harness := (true, "8f60b0c9b5e87917e5e7412d2090b0718873470e220b3946a59a0350511f6f9e"), looks := false }, kinds := [], alts := [], laidByText := true, laidKinds := [.data, .pinned], laidTests := true, laidLooks := .later }
def ApprovalsOnlyHelpUptoCardSaid : Prop := Claim7.holds Tryd.pinned (.plain (OpenSpec.upto approvalsOnlyHelpSpec)) approvalsOnlyHelpUptoCard

/-- THE SECOND FORM's CARD OF 'changeforgelaw7.ApprovalsOfOwnersSuffice'. -/
def approvalsOfOwnersSufficeUptoCard : Claim7 := { stood := { row := approvalsOfOwnersSufficeUptoRow, standIns := [], harness := (true, "8f60b0c9b5e87917e5e7412d2090b0718873470e220b3946a59a0350511f6f9e"), looks := false }, kinds := [], alts := [], laidByText := true, laidKinds := [.data, .pinned], laidTests := true, laidLooks := .later }
def ApprovalsOfOwnersSufficeUptoCardSaid : Prop := Claim7.holds Tryd.pinned (.plain (OpenSpec.upto approvalsOfOwnersSufficeSpec)) approvalsOfOwnersSufficeUptoCard
end Rows
end Go.Proofs.YtbkameioedmlkaaDoor
