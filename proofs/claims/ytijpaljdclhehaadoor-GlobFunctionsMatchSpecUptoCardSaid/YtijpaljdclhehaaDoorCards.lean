/-
  DERIVED. GIVEN WITH THE SEED: THE CARDS: each row of YtijpaljdclhehaaDoorRows.lean that lists a variable, with what it lists TIED to the program's text (the seventh form; the later family's looks); each row that meets fmt, with fmt's text TOLD by the authors' own Lean function (tested against real Go, not proved from fmt's source: count such statements apart). THE CARD IS WHAT COUNTS. Prove the row's statement (the work); the ties are given (YtijpaljdclhehaaDoorTie.lean); close each card by the builder's one call (the guide's Derived/Test/ToyasCard.lean, 'card_holds'). Laid BY PROGRAM, IN A SANDBOX (cutbox-door.mjs). By AI agents, Wed Nov 11 2026. No macro, syntax, notation, axiom, sorry.
-/
import Derived.Test.YtijpaljdclhehaaDoorRows
import GoSem.ClaimSeven
namespace Go.Proofs.YtijpaljdclhehaaDoor
namespace Rows

/-- THE TIED CARD OF 'changeforgelaw7.GlobOverlapHasWitness'. -/
def globOverlapHasWitnessCard : Claim7 := { stood := { row := globOverlapHasWitnessRow, standIns := [], harness := (true, "864ac25832b736848a4a9186940c6634b8eeff53e5dbf288fccd10976013dfc2"), looks := false }, kinds := [], alts := [], laidByText := true, laidKinds := [.data, .pinned], laidTests := true, laidLooks := .later }
def GlobOverlapHasWitnessCardSaid : Prop := Claim7.holds Tryd.pinned (.plain (OpenSpec.ofChange globOverlapHasWitnessSpec)) globOverlapHasWitnessCard

/-- THE TIED CARD OF 'changeforgelaw7.GlobDirectoryComposes'. -/
def globDirectoryComposesCard : Claim7 := { stood := { row := globDirectoryComposesRow, standIns := [], harness := (true, "864ac25832b736848a4a9186940c6634b8eeff53e5dbf288fccd10976013dfc2"), looks := false }, kinds := [], alts := [], laidByText := true, laidKinds := [.data, .pinned], laidTests := true, laidLooks := .later }
def GlobDirectoryComposesCardSaid : Prop := Claim7.holds Tryd.pinned (.plain (OpenSpec.ofChange globDirectoryComposesSpec)) globDirectoryComposesCard

/-- THE TIED CARD OF 'changeforgelaw7.GlobDeepAbsorbs'. -/
def globDeepAbsorbsCard : Claim7 := { stood := { row := globDeepAbsorbsRow, standIns := [], harness := (true, "864ac25832b736848a4a9186940c6634b8eeff53e5dbf288fccd10976013dfc2"), looks := false }, kinds := [], alts := [], laidByText := true, laidKinds := [.data, .pinned], laidTests := true, laidLooks := .later }
def GlobDeepAbsorbsCardSaid : Prop := Claim7.holds Tryd.pinned (.plain (OpenSpec.ofChange globDeepAbsorbsSpec)) globDeepAbsorbsCard

/-- THE TIED CARD OF 'changeforgelaw7.OwnersLastMatchWins'. -/
def ownersLastMatchWinsCard : Claim7 := { stood := { row := ownersLastMatchWinsRow, standIns := [], harness := (true, "864ac25832b736848a4a9186940c6634b8eeff53e5dbf288fccd10976013dfc2"), looks := false }, kinds := [], alts := [], laidByText := true, laidKinds := [.data, .pinned], laidTests := true, laidLooks := .later }
def OwnersLastMatchWinsCardSaid : Prop := Claim7.holds Tryd.pinned (.plain (OpenSpec.ofChange ownersLastMatchWinsSpec)) ownersLastMatchWinsCard

/-- THE TIED CARD OF 'changeforgelaw7.OwnersFormatRoundTrip'. -/
def ownersFormatRoundTripCard : Claim7 := { stood := { row := ownersFormatRoundTripRow, standIns := [], harness := (true, "864ac25832b736848a4a9186940c6634b8eeff53e5dbf288fccd10976013dfc2"), looks := false }, kinds := [], alts := [], laidByText := true, laidKinds := [.data, .pinned], laidTests := true, laidLooks := .later }
def OwnersFormatRoundTripCardSaid : Prop := Claim7.holds Tryd.pinned (.plain (OpenSpec.ofChange ownersFormatRoundTripSpec)) ownersFormatRoundTripCard

/-- THE TIED CARD OF 'changeforgelaw7.OwnersRequiredIsSufficient'. -/
def ownersRequiredIsSufficientCard : Claim7 := { stood := { row := ownersRequiredIsSufficientRow, standIns := [], harness := (true, "864ac25832b736848a4a9186940c6634b8eeff53e5dbf288fccd10976013dfc2"), looks := false }, kinds := [], alts := [], laidByText := true, laidKinds := [.data, .pinned], laidTests := true, laidLooks := .later }
def OwnersRequiredIsSufficientCardSaid : Prop := Claim7.holds Tryd.pinned (.plain (OpenSpec.ofChange ownersRequiredIsSufficientSpec)) ownersRequiredIsSufficientCard

/-- THE TIED CARD OF 'changeforgelaw7.OwnersRequiredIsMinimal'. -/
def ownersRequiredIsMinimalCard : Claim7 := { stood := { row := ownersRequiredIsMinimalRow, standIns := [], harness := (true, "864ac25832b736848a4a9186940c6634b8eeff53e5dbf288fccd10976013dfc2"), looks := false }, kinds := [], alts := [], laidByText := true, laidKinds := [.data, .pinned], laidTests := true, laidLooks := .later }
def OwnersRequiredIsMinimalCardSaid : Prop := Claim7.holds Tryd.pinned (.plain (OpenSpec.ofChange ownersRequiredIsMinimalSpec)) ownersRequiredIsMinimalCard

/-- THE TIED CARD OF 'changeforgelaw7.OwnersFunctionsMatchSpec'. -/
def ownersFunctionsMatchSpecCard : Claim7 := { stood := { row := ownersFunctionsMatchSpecRow, standIns := [], harness := (true, "864ac25832b736848a4a9186940c6634b8eeff53e5dbf288fccd10976013dfc2"), looks := false }, kinds := [], alts := [], laidByText := true, laidKinds := [.data, .pinned], laidTests := true, laidLooks := .later }
def OwnersFunctionsMatchSpecCardSaid : Prop := Claim7.holds Tryd.pinned (.plain (OpenSpec.ofChange ownersFunctionsMatchSpecSpec)) ownersFunctionsMatchSpecCard

/-- THE TIED CARD OF 'changeforgelaw7.GlobFunctionsMatchSpec'. -/
def globFunctionsMatchSpecCard : Claim7 := { stood := { row := globFunctionsMatchSpecRow, standIns := [], harness := (true, "864ac25832b736848a4a9186940c6634b8eeff53e5dbf288fccd10976013dfc2"), looks := false }, kinds := [], alts := [], laidByText := true, laidKinds := [.data, .pinned], laidTests := true, laidLooks := .later }
def GlobFunctionsMatchSpecCardSaid : Prop := Claim7.holds Tryd.pinned (.plain (OpenSpec.ofChange globFunctionsMatchSpecSpec)) globFunctionsMatchSpecCard

/-- THE TIED CARD OF 'changeforgelaw7.GlobLiteralIsExact'. -/
def globLiteralIsExactCard : Claim7 := { stood := { row := globLiteralIsExactRow, standIns := [], harness := (true, "864ac25832b736848a4a9186940c6634b8eeff53e5dbf288fccd10976013dfc2"), looks := false }, kinds := [], alts := [], laidByText := true, laidKinds := [.data, .pinned], laidTests := true, laidLooks := .later }
def GlobLiteralIsExactCardSaid : Prop := Claim7.holds Tryd.pinned (.plain (OpenSpec.ofChange globLiteralIsExactSpec)) globLiteralIsExactCard

/-- THE TIED CARD OF 'changeforgelaw7.GlobFixedIsPrefix'. -/
def globFixedIsPrefixCard : Claim7 := { stood := { row := globFixedIsPrefixRow, standIns := [], harness := (true, "864ac25832b736848a4a9186940c6634b8eeff53e5dbf288fccd10976013dfc2"), looks := false }, kinds := [], alts := [], laidByText := true, laidKinds := [.data, .pinned], laidTests := true, laidLooks := .later }
def GlobFixedIsPrefixCardSaid : Prop := Claim7.holds Tryd.pinned (.plain (OpenSpec.ofChange globFixedIsPrefixSpec)) globFixedIsPrefixCard

/-- THE SECOND FORM's CARD OF 'changeforgelaw7.GlobOverlapHasWitness'. -/
def globOverlapHasWitnessUptoCard : Claim7 := { stood := { row := globOverlapHasWitnessUptoRow, standIns := [], harness := (true, "864ac25832b736848a4a9186940c6634b8eeff53e5dbf288fccd10976013dfc2"), looks := false }, kinds := [], alts := [], laidByText := true, laidKinds := [.data, .pinned], laidTests := true, laidLooks := .later }
def GlobOverlapHasWitnessUptoCardSaid : Prop := Claim7.holds Tryd.pinned (.plain (OpenSpec.upto globOverlapHasWitnessSpec)) globOverlapHasWitnessUptoCard

/-- THE SECOND FORM's CARD OF 'changeforgelaw7.GlobDirectoryComposes'. -/
def globDirectoryComposesUptoCard : Claim7 := { stood := { row := globDirectoryComposesUptoRow, standIns := [], harness := (true, "864ac25832b736848a4a9186940c6634b8eeff53e5dbf288fccd10976013dfc2"), looks := false }, kinds := [], alts := [], laidByText := true, laidKinds := [.data, .pinned], laidTests := true, laidLooks := .later }
def GlobDirectoryComposesUptoCardSaid : Prop := Claim7.holds Tryd.pinned (.plain (OpenSpec.upto globDirectoryComposesSpec)) globDirectoryComposesUptoCard

/-- THE SECOND FORM's CARD OF 'changeforgelaw7.GlobDeepAbsorbs'. -/
def globDeepAbsorbsUptoCard : Claim7 := { stood := { row := globDeepAbsorbsUptoRow, standIns := [], harness := (true, "864ac25832b736848a4a9186940c6634b8eeff53e5dbf288fccd10976013dfc2"), looks := false }, kinds := [], alts := [], laidByText := true, laidKinds := [.data, .pinned], laidTests := true, laidLooks := .later }
def GlobDeepAbsorbsUptoCardSaid : Prop := Claim7.holds Tryd.pinned (.plain (OpenSpec.upto globDeepAbsorbsSpec)) globDeepAbsorbsUptoCard

/-- THE SECOND FORM's CARD OF 'changeforgelaw7.OwnersLastMatchWins'. -/
def ownersLastMatchWinsUptoCard : Claim7 := { stood := { row := ownersLastMatchWinsUptoRow, standIns := [], harness := (true, "864ac25832b736848a4a9186940c6634b8eeff53e5dbf288fccd10976013dfc2"), looks := false }, kinds := [], alts := [], laidByText := true, laidKinds := [.data, .pinned], laidTests := true, laidLooks := .later }
def OwnersLastMatchWinsUptoCardSaid : Prop := Claim7.holds Tryd.pinned (.plain (OpenSpec.upto ownersLastMatchWinsSpec)) ownersLastMatchWinsUptoCard

/-- THE SECOND FORM's CARD OF 'changeforgelaw7.OwnersFormatRoundTrip'. -/
def ownersFormatRoundTripUptoCard : Claim7 := { stood := { row := ownersFormatRoundTripUptoRow, standIns := [], harness := (true, "864ac25832b736848a4a9186940c6634b8eeff53e5dbf288fccd10976013dfc2"), looks := false }, kinds := [], alts := [], laidByText := true, laidKinds := [.data, .pinned], laidTests := true, laidLooks := .later }
def OwnersFormatRoundTripUptoCardSaid : Prop := Claim7.holds Tryd.pinned (.plain (OpenSpec.upto ownersFormatRoundTripSpec)) ownersFormatRoundTripUptoCard

/-- THE SECOND FORM's CARD OF 'changeforgelaw7.OwnersRequiredIsSufficient'. -/
def ownersRequiredIsSufficientUptoCard : Claim7 := { stood := { row := ownersRequiredIsSufficientUptoRow, standIns := [], harness := (true, "864ac25832b736848a4a9186940c6634b8eeff53e5dbf288fccd10976013dfc2"), looks := false }, kinds := [], alts := [], laidByText := true, laidKinds := [.data, .pinned], laidTests := true, laidLooks := .later }
def OwnersRequiredIsSufficientUptoCardSaid : Prop := Claim7.holds Tryd.pinned (.plain (OpenSpec.upto ownersRequiredIsSufficientSpec)) ownersRequiredIsSufficientUptoCard

/-- THE SECOND FORM's CARD OF 'changeforgelaw7.OwnersRequiredIsMinimal'. -/
def ownersRequiredIsMinimalUptoCard : Claim7 := { stood := { row := ownersRequiredIsMinimalUptoRow, standIns := [], harness := (true, "864ac25832b736848a4a9186940c6634b8eeff53e5dbf288fccd10976013dfc2"), looks := false }, kinds := [], alts := [], laidByText := true, laidKinds := [.data, .pinned], laidTests := true, laidLooks := .later }
def OwnersRequiredIsMinimalUptoCardSaid : Prop := Claim7.holds Tryd.pinned (.plain (OpenSpec.upto ownersRequiredIsMinimalSpec)) ownersRequiredIsMinimalUptoCard

/-- THE SECOND FORM's CARD OF 'changeforgelaw7.OwnersFunctionsMatchSpec'. -/
def ownersFunctionsMatchSpecUptoCard : Claim7 := { stood := { row := ownersFunctionsMatchSpecUptoRow, standIns := [], harness := (true, "864ac25832b736848a4a9186940c6634b8eeff53e5dbf288fccd10976013dfc2"), looks := false }, kinds := [], alts := [], laidByText := true, laidKinds := [.data, .pinned], laidTests := true, laidLooks := .later }
def OwnersFunctionsMatchSpecUptoCardSaid : Prop := Claim7.holds Tryd.pinned (.plain (OpenSpec.upto ownersFunctionsMatchSpecSpec)) ownersFunctionsMatchSpecUptoCard

/-- THE SECOND FORM's CARD OF 'changeforgelaw7.GlobFunctionsMatchSpec'. -/
def globFunctionsMatchSpecUptoCard : Claim7 := { stood := { row := globFunctionsMatchSpecUptoRow, standIns := [], harness := (true, "864ac25832b736848a4a9186940c6634b8eeff53e5dbf288fccd10976013dfc2"), looks := false }, kinds := [], alts := [], laidByText := true, laidKinds := [.data, .pinned], laidTests := true, laidLooks := .later }
def GlobFunctionsMatchSpecUptoCardSaid : Prop := Claim7.holds Tryd.pinned (.plain (OpenSpec.upto globFunctionsMatchSpecSpec)) globFunctionsMatchSpecUptoCard

/-- THE SECOND FORM's CARD OF 'changeforgelaw7.GlobLiteralIsExact'. -/
def globLiteralIsExactUptoCard : Claim7 := { stood := { row := globLiteralIsExactUptoRow, standIns := [], harness := (true, "864ac25832b736848a4a9186940c6634b8eeff53e5dbf288fccd10976013dfc2"), looks := false }, kinds := [], alts := [], laidByText := true, laidKinds := [.data, .pinned], laidTests := true, laidLooks := .later }
def GlobLiteralIsExactUptoCardSaid : Prop := Claim7.holds Tryd.pinned (.plain (OpenSpec.upto globLiteralIsExactSpec)) globLiteralIsExactUptoCard

/-- THE SECOND FORM's CARD OF 'changeforgelaw7.GlobFixedIsPrefix'. -/
def globFixedIsPrefixUptoCard : Claim7 := { stood := { row := globFixedIsPrefixUptoRow, standIns := [], harness := (true, "864ac25832b736848a4a9186940c6634b8eeff53e5dbf288fccd10976013dfc2"), looks := false }, kinds := [], alts := [], laidByText := true, laidKinds := [.data, .pinned], laidTests := true, laidLooks := .later }
def GlobFixedIsPrefixUptoCardSaid : Prop := Claim7.holds Tryd.pinned (.plain (OpenSpec.upto globFixedIsPrefixSpec)) globFixedIsPrefixUptoCard
end Rows
end Go.Proofs.YtijpaljdclhehaaDoor
