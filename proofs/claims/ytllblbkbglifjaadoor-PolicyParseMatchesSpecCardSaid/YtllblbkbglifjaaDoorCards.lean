/-
  DERIVED. GIVEN WITH THE SEED: THE CARDS: each row of YtllblbkbglifjaaDoorRows.lean that lists a variable, with what it lists TIED to the program's text (the seventh form; the later family's looks); each row that meets fmt, with fmt's text TOLD by the authors' own Lean function (tested against real Go, not proved from fmt's source: count such statements apart). THE CARD IS WHAT COUNTS. Prove the row's statement (the work); the ties are given (YtllblbkbglifjaaDoorTie.lean); close each card by the builder's one call (the guide's Derived/Test/ToyasCard.lean, 'card_holds'). Laid BY PROGRAM, IN A SANDBOX (cutbox-door.mjs). By AI agents, Wed Nov 11 2026. No macro, syntax, notation, axiom, sorry.
-/
import Derived.Test.YtllblbkbglifjaaDoorRows
import GoSem.ClaimSeven
namespace Go.Proofs.YtllblbkbglifjaaDoor
namespace Rows

/-- THE TIED CARD OF 'changeforgelaw7.PolicyFunctionsMatchSpec'. -/
def policyFunctionsMatchSpecCard : Claim7 := { stood := { row := policyFunctionsMatchSpecRow, standIns := [], harness := (true, "2b7bc241bfb339ba631ae74b071b7dc58f188a12aec808272cb16b9b0e70e1fc"), looks := true }, kinds := [], alts := [], laidByText := true, laidKinds := [.data, .data, .data, .sentinel, .sentinel], laidTests := true, laidLooks := .later }
def PolicyFunctionsMatchSpecCardSaid : Prop := Claim7.holds Tryd.pinned (.plain (OpenSpec.ofChange policyFunctionsMatchSpecSpec)) policyFunctionsMatchSpecCard

/-- THE TIED CARD OF 'changeforgelaw7.PolicyParseMatchesSpec'. -/
def policyParseMatchesSpecCard : Claim7 := { stood := { row := policyParseMatchesSpecRow, standIns := [], harness := (true, "2b7bc241bfb339ba631ae74b071b7dc58f188a12aec808272cb16b9b0e70e1fc"), looks := true }, kinds := [], alts := [], laidByText := true, laidKinds := [.data, .data, .data, .sentinel, .sentinel], laidTests := true, laidLooks := .later }
def PolicyParseMatchesSpecCardSaid : Prop := Claim7.holds Tryd.pinned (.plain (OpenSpec.ofChange policyParseMatchesSpecSpec)) policyParseMatchesSpecCard

/-- THE TIED CARD OF 'changeforgelaw7.PolicyFormatRoundTrip'. -/
def policyFormatRoundTripCard : Claim7 := { stood := { row := policyFormatRoundTripRow, standIns := [], harness := (true, "2b7bc241bfb339ba631ae74b071b7dc58f188a12aec808272cb16b9b0e70e1fc"), looks := true }, kinds := [], alts := [], laidByText := true, laidKinds := [.data, .data, .data, .sentinel, .sentinel], laidTests := true, laidLooks := .later }
def PolicyFormatRoundTripCardSaid : Prop := Claim7.holds Tryd.pinned (.plain (OpenSpec.ofChange policyFormatRoundTripSpec)) policyFormatRoundTripCard

/-- THE TIED CARD OF 'changeforgelaw7.PolicyNormalIsEquivalent'. -/
def policyNormalIsEquivalentCard : Claim7 := { stood := { row := policyNormalIsEquivalentRow, standIns := [], harness := (true, "2b7bc241bfb339ba631ae74b071b7dc58f188a12aec808272cb16b9b0e70e1fc"), looks := true }, kinds := [], alts := [], laidByText := true, laidKinds := [.data, .data, .data, .sentinel, .sentinel], laidTests := true, laidLooks := .later }
def PolicyNormalIsEquivalentCardSaid : Prop := Claim7.holds Tryd.pinned (.plain (OpenSpec.ofChange policyNormalIsEquivalentSpec)) policyNormalIsEquivalentCard

/-- THE TIED CARD OF 'changeforgelaw7.PolicyWithoutNotIsMonotone'. -/
def policyWithoutNotIsMonotoneCard : Claim7 := { stood := { row := policyWithoutNotIsMonotoneRow, standIns := [], harness := (true, "2b7bc241bfb339ba631ae74b071b7dc58f188a12aec808272cb16b9b0e70e1fc"), looks := true }, kinds := [], alts := [], laidByText := true, laidKinds := [.data, .data, .data, .sentinel, .sentinel], laidTests := true, laidLooks := .later }
def PolicyWithoutNotIsMonotoneCardSaid : Prop := Claim7.holds Tryd.pinned (.plain (OpenSpec.ofChange policyWithoutNotIsMonotoneSpec)) policyWithoutNotIsMonotoneCard

/-- THE SECOND FORM's CARD OF 'changeforgelaw7.PolicyFunctionsMatchSpec'. -/
def policyFunctionsMatchSpecUptoCard : Claim7 := { stood := { row := policyFunctionsMatchSpecUptoRow, standIns := [], harness := (true, "2b7bc241bfb339ba631ae74b071b7dc58f188a12aec808272cb16b9b0e70e1fc"), looks := true }, kinds := [], alts := [], laidByText := true, laidKinds := [.data, .data, .data, .sentinel, .sentinel], laidTests := true, laidLooks := .later }
def PolicyFunctionsMatchSpecUptoCardSaid : Prop := Claim7.holds Tryd.pinned (.plain (OpenSpec.upto policyFunctionsMatchSpecSpec)) policyFunctionsMatchSpecUptoCard

/-- THE SECOND FORM's CARD OF 'changeforgelaw7.PolicyParseMatchesSpec'. -/
def policyParseMatchesSpecUptoCard : Claim7 := { stood := { row := policyParseMatchesSpecUptoRow, standIns := [], harness := (true, "2b7bc241bfb339ba631ae74b071b7dc58f188a12aec808272cb16b9b0e70e1fc"), looks := true }, kinds := [], alts := [], laidByText := true, laidKinds := [.data, .data, .data, .sentinel, .sentinel], laidTests := true, laidLooks := .later }
def PolicyParseMatchesSpecUptoCardSaid : Prop := Claim7.holds Tryd.pinned (.plain (OpenSpec.upto policyParseMatchesSpecSpec)) policyParseMatchesSpecUptoCard

/-- THE SECOND FORM's CARD OF 'changeforgelaw7.PolicyFormatRoundTrip'. -/
def policyFormatRoundTripUptoCard : Claim7 := { stood := { row := policyFormatRoundTripUptoRow, standIns := [], harness := (true, "2b7bc241bfb339ba631ae74b071b7dc58f188a12aec808272cb16b9b0e70e1fc"), looks := true }, kinds := [], alts := [], laidByText := true, laidKinds := [.data, .data, .data, .sentinel, .sentinel], laidTests := true, laidLooks := .later }
def PolicyFormatRoundTripUptoCardSaid : Prop := Claim7.holds Tryd.pinned (.plain (OpenSpec.upto policyFormatRoundTripSpec)) policyFormatRoundTripUptoCard

/-- THE SECOND FORM's CARD OF 'changeforgelaw7.PolicyNormalIsEquivalent'. -/
def policyNormalIsEquivalentUptoCard : Claim7 := { stood := { row := policyNormalIsEquivalentUptoRow, standIns := [], harness := (true, "2b7bc241bfb339ba631ae74b071b7dc58f188a12aec808272cb16b9b0e70e1fc"), looks := true }, kinds := [], alts := [], laidByText := true, laidKinds := [.data, .data, .data, .sentinel, .sentinel], laidTests := true, laidLooks := .later }
def PolicyNormalIsEquivalentUptoCardSaid : Prop := Claim7.holds Tryd.pinned (.plain (OpenSpec.upto policyNormalIsEquivalentSpec)) policyNormalIsEquivalentUptoCard

/-- THE SECOND FORM's CARD OF 'changeforgelaw7.PolicyWithoutNotIsMonotone'. -/
def policyWithoutNotIsMonotoneUptoCard : Claim7 := { stood := { row := policyWithoutNotIsMonotoneUptoRow, standIns := [], harness := (true, "2b7bc241bfb339ba631ae74b071b7dc58f188a12aec808272cb16b9b0e70e1fc"), looks := true }, kinds := [], alts := [], laidByText := true, laidKinds := [.data, .data, .data, .sentinel, .sentinel], laidTests := true, laidLooks := .later }
def PolicyWithoutNotIsMonotoneUptoCardSaid : Prop := Claim7.holds Tryd.pinned (.plain (OpenSpec.upto policyWithoutNotIsMonotoneSpec)) policyWithoutNotIsMonotoneUptoCard
end Rows
end Go.Proofs.YtllblbkbglifjaaDoor
