/-
  DERIVED. GIVEN WITH THE SEED: THE CARDS: each row of YtbkameioedmlkaaGreatDoorRows.lean that lists a variable, with what it lists TIED to the program's text (the seventh form; the later family's looks); each row that meets fmt, with fmt's text TOLD by the authors' own Lean function (tested against real Go, not proved from fmt's source: count such statements apart). THE CARD IS WHAT COUNTS. Prove the row's statement (the work); the ties are given (YtbkameioedmlkaaGreatDoorTie.lean); close each card by the builder's one call (the guide's Derived/Test/ToyasCard.lean, 'card_holds'). Laid BY PROGRAM, IN A SANDBOX (cutbox-door.mjs). By AI agents, Wed Nov 11 2026. No macro, syntax, notation, axiom, sorry.
-/
import Derived.Test.YtbkameioedmlkaaGreatDoorRows
import GoSem.ClaimSeven
namespace Go.Proofs.YtbkameioedmlkaaGreatDoor
namespace Rows

/-- THE TIED CARD OF 'changeforgetop.TopThreadsFollowPatches'. -/
def topThreadsFollowPatchesCard : Claim7 := { stood := { row := topThreadsFollowPatchesRow, standIns := [], harness := (true, "5a153a0988c995747802b5ef5db9b37043d75556b2d4c05250f1c6ec5925357f"), looks := true }, kinds := [], alts := [], laidByText := true, laidKinds := [.data, .data, .data, .data, .sentinel, .sentinel, .pinned], laidTests := true, laidLooks := .later }
def TopThreadsFollowPatchesCardSaid : Prop := Claim7.holds Tryz.pinned (.plain (OpenSpec.ofChange topThreadsFollowPatchesSpec)) topThreadsFollowPatchesCard

/-- THE TIED CARD OF 'changeforgetop.TopUnanimousChangesMayLand'. -/
def topUnanimousChangesMayLandCard : Claim7 := { stood := { row := topUnanimousChangesMayLandRow, standIns := [], harness := (true, "5a153a0988c995747802b5ef5db9b37043d75556b2d4c05250f1c6ec5925357f"), looks := true }, kinds := [], alts := [], laidByText := true, laidKinds := [.data, .data, .data, .data, .sentinel, .sentinel, .pinned], laidTests := true, laidLooks := .later }
def TopUnanimousChangesMayLandCardSaid : Prop := Claim7.holds Tryz.pinned (.plain (OpenSpec.ofChange topUnanimousChangesMayLandSpec)) topUnanimousChangesMayLandCard

/-- THE TIED CARD OF 'changeforgelaw7.ApprovalsMissingMatchesSpec'. -/
def approvalsMissingMatchesSpecCard : Claim7 := { stood := { row := approvalsMissingMatchesSpecRow, standIns := [], harness := (true, "5a153a0988c995747802b5ef5db9b37043d75556b2d4c05250f1c6ec5925357f"), looks := true }, kinds := [], alts := [], laidByText := true, laidKinds := [.data, .pinned], laidTests := true, laidLooks := .later }
def ApprovalsMissingMatchesSpecCardSaid : Prop := Claim7.holds Tryz.pinned (.plain (OpenSpec.ofChange approvalsMissingMatchesSpecSpec)) approvalsMissingMatchesSpecCard

/-- THE TIED CARD OF 'changeforgetop.TopOldApprovalsDoNotCover'. -/
def topOldApprovalsDoNotCoverCard : Claim7 := { stood := { row := topOldApprovalsDoNotCoverRow, standIns := [], harness := (true, "5a153a0988c995747802b5ef5db9b37043d75556b2d4c05250f1c6ec5925357f"), looks := true }, kinds := [], alts := [], laidByText := true, laidKinds := [.data, .data, .data, .data, .sentinel, .sentinel, .pinned], laidTests := true, laidLooks := .later }
def TopOldApprovalsDoNotCoverCardSaid : Prop := Claim7.holds Tryz.pinned (.plain (OpenSpec.ofChange topOldApprovalsDoNotCoverSpec)) topOldApprovalsDoNotCoverCard

/-- THE SECOND FORM's CARD OF 'changeforgetop.TopThreadsFollowPatches'. -/
def topThreadsFollowPatchesUptoCard : Claim7 := { stood := { row := topThreadsFollowPatchesUptoRow, standIns := [], harness := (true, "5a153a0988c995747802b5ef5db9b37043d75556b2d4c05250f1c6ec5925357f"), looks := true }, kinds := [], alts := [], laidByText := true, laidKinds := [.data, .data, .data, .data, .sentinel, .sentinel, .pinned], laidTests := true, laidLooks := .later }
def TopThreadsFollowPatchesUptoCardSaid : Prop := Claim7.holds Tryz.pinned (.plain (OpenSpec.upto topThreadsFollowPatchesSpec)) topThreadsFollowPatchesUptoCard

/-- THE SECOND FORM's CARD OF 'changeforgetop.TopUnanimousChangesMayLand'. -/
def topUnanimousChangesMayLandUptoCard : Claim7 := { stood := { row := topUnanimousChangesMayLandUptoRow, standIns := [], harness := (true, "5a153a0988c995747802b5ef5db9b37043d75556b2d4c05250f1c6ec5925357f"), looks := true }, kinds := [], alts := [], laidByText := true, laidKinds := [.data, .data, .data, .data, .sentinel, .sentinel, .pinned], laidTests := true, laidLooks := .later }
def TopUnanimousChangesMayLandUptoCardSaid : Prop := Claim7.holds Tryz.pinned (.plain (OpenSpec.upto topUnanimousChangesMayLandSpec)) topUnanimousChangesMayLandUptoCard

/-- THE SECOND FORM's CARD OF 'changeforgelaw7.ApprovalsMissingMatchesSpec'. -/
def approvalsMissingMatchesSpecUptoCard : Claim7 := { stood := { row := approvalsMissingMatchesSpecUptoRow, standIns := [], harness := (true, "5a153a0988c995747802b5ef5db9b37043d75556b2d4c05250f1c6ec5925357f"), looks := true }, kinds := [], alts := [], laidByText := true, laidKinds := [.data, .pinned], laidTests := true, laidLooks := .later }
def ApprovalsMissingMatchesSpecUptoCardSaid : Prop := Claim7.holds Tryz.pinned (.plain (OpenSpec.upto approvalsMissingMatchesSpecSpec)) approvalsMissingMatchesSpecUptoCard

/-- THE SECOND FORM's CARD OF 'changeforgetop.TopOldApprovalsDoNotCover'. -/
def topOldApprovalsDoNotCoverUptoCard : Claim7 := { stood := { row := topOldApprovalsDoNotCoverUptoRow, standIns := [], harness := (true, "5a153a0988c995747802b5ef5db9b37043d75556b2d4c05250f1c6ec5925357f"), looks := true }, kinds := [], alts := [], laidByText := true, laidKinds := [.data, .data, .data, .data, .sentinel, .sentinel, .pinned], laidTests := true, laidLooks := .later }
def TopOldApprovalsDoNotCoverUptoCardSaid : Prop := Claim7.holds Tryz.pinned (.plain (OpenSpec.upto topOldApprovalsDoNotCoverSpec)) topOldApprovalsDoNotCoverUptoCard
end Rows
end Go.Proofs.YtbkameioedmlkaaGreatDoor
