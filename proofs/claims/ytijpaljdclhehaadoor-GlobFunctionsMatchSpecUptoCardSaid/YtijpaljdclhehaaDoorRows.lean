/-
  NARROWER THAN 'FOR EVERY INPUT', by the rows' own cells (each row's printed sentence says how): GlobOverlapHasWitness: laid · GlobDirectoryComposes: laid · GlobDeepAbsorbs: laid · OwnersLastMatchWins: laid · OwnersFormatRoundTrip: laid · OwnersRequiredIsSufficient: laid · OwnersRequiredIsMinimal: laid · OwnersFunctionsMatchSpec: laid · GlobFunctionsMatchSpec: laid · GlobLiteralIsExact: laid · GlobFixedIsPrefix: laid.
  DERIVED. THE GIVEN ROWS OF THIS SEAT. 11 by the template 'for every input the law returns true; each argument reads behind the call as it read before'; 0 by the template 'total and deterministic' (their statements: YtijpaljdclhehaaDoorTotals.lean).
  GIVEN WITH THE SEED: the statements are not yours to turn. If you find one false, say at which input.
  Laid BY PROGRAM, IN A SANDBOX (cutbox-rows.mjs): the forced cells as the released guide's own fill.sh prints them over the translation eaa9b3107f01ba5b… (all of the seat's roots in one cut). By AI agents, Wed Nov 11 2026. No macro, syntax, notation, axiom, sorry.
-/
import Derived.Test.YtijpaljdclhehaaDoorChecked
import GoSem.PinnedTables
import GoSem.Claim
import GoSem.ClaimJoined
import GoSem.ClaimMapViews
import Derived.JoinedTies
import Derived.KernelRfl
namespace Go.Proofs.YtijpaljdclhehaaDoor
/- THE CELL 'sum', in the pinned program and in every row, IS THE sha256 OF THE DUMP (.gsa) THAT YtijpaljdclhehaaDoorProg.lean LOADS. Nothing in Lean hashes anything: it is a label: what it is worth is what the hold of that sum in a sandbox is worth. -/
noncomputable def Tryd.pinned : Pinned := { name := "ytijpaljdclhehaadoor", sum := "eaa9b3107f01ba5b20450257a2b61caa70c13e3016d96447108a4f60ccc36122", checked := Tryd.checked }
namespace Rows
def none {H : Type} : Left H := { results := [], args := [] }

/- WHAT THE LISTED PACKAGE-LEVEL VARIABLES READ AS WHEN THE CALL BEGINS. Each datum BY PROGRAM (the guide's laid-datum.mjs) off the statement by which the dump's own 'gosem.cut.vars' lays the variable. In a bare row this is a premise. The card (YtijpaljdclhehaaDoorCards.lean) ties it to the program's text. -/
def laid_unicode_utf8_acceptRanges {H : Type} : DataW H := .agg [.agg [.lit (.int .u8 128), .lit (.int .u8 191)], .agg [.lit (.int .u8 160), .lit (.int .u8 191)], .agg [.lit (.int .u8 128), .lit (.int .u8 159)], .agg [.lit (.int .u8 144), .lit (.int .u8 191)], .agg [.lit (.int .u8 128), .lit (.int .u8 143)], .agg [.lit (.int .u8 0), .lit (.int .u8 0)], .agg [.lit (.int .u8 0), .lit (.int .u8 0)], .agg [.lit (.int .u8 0), .lit (.int .u8 0)], .agg [.lit (.int .u8 0), .lit (.int .u8 0)], .agg [.lit (.int .u8 0), .lit (.int .u8 0)], .agg [.lit (.int .u8 0), .lit (.int .u8 0)], .agg [.lit (.int .u8 0), .lit (.int .u8 0)], .agg [.lit (.int .u8 0), .lit (.int .u8 0)], .agg [.lit (.int .u8 0), .lit (.int .u8 0)], .agg [.lit (.int .u8 0), .lit (.int .u8 0)], .agg [.lit (.int .u8 0), .lit (.int .u8 0)]]
/-- One of Go's own tables, pinned by name: the form's constant. -/
def laid_unicode_utf8_first : DataW Unit := Go.Pinned.utf8First

/-- 'changeforgelaw7.GlobOverlapHasWitness': WHATEVER THE INPUT: true; the input reads as it did. -/
def globOverlapHasWitnessSpec : ChangeSpec := { name := "globOverlapHasWitness", fn := fun _ => fun
  | [d1, d2, d3] => { results := [.lit (.bool true)], args := [d1, d2, d3] }
  | _ => none }
def globOverlapHasWitnessRow : OpenClaim := { program := "ytijpaljdclhehaadoor", sum := "eaa9b3107f01ba5b20450257a2b61caa70c13e3016d96447108a4f60ccc36122", func := "changeforge/changeforgelaw7.GlobOverlapHasWitness", spec := "globOverlapHasWitness", inPlace := ["internal/bytealg.IndexByteString", "internal/bytealg.IndexString", "internal/bytealg.CountString"], unfollowed := true, recurses := true, named := ["unicode/utf8.first", "unicode/utf8.acceptRanges", "internal/bytealg.MaxLen"], plainKeys := false, apart := false, laid := [("unicode/utf8.acceptRanges", laid_unicode_utf8_acceptRanges), ("unicode/utf8.first", laid_unicode_utf8_first)] }
def GlobOverlapHasWitnessSaid : Prop := globOverlapHasWitnessRow.holds Tryd.pinned (OpenSpec.ofChange globOverlapHasWitnessSpec)

/-- ITS FALSE NEIGHBOUR: 'it returns false'. Refute it at one input. -/
def globOverlapHasWitnessWrong : ChangeSpec := { name := "globOverlapHasWitness", fn := fun _ => fun
  | [d1, d2, d3] => { results := [.lit (.bool false)], args := [d1, d2, d3] }
  | _ => none }
def GlobOverlapHasWitnessWrongFalsely : Prop := globOverlapHasWitnessRow.holds Tryd.pinned (OpenSpec.ofChange globOverlapHasWitnessWrong)

/-- 'changeforgelaw7.GlobDirectoryComposes': WHATEVER THE INPUT: true; the input reads as it did. -/
def globDirectoryComposesSpec : ChangeSpec := { name := "globDirectoryComposes", fn := fun _ => fun
  | [d1, d2, d3] => { results := [.lit (.bool true)], args := [d1, d2, d3] }
  | _ => none }
def globDirectoryComposesRow : OpenClaim := { program := "ytijpaljdclhehaadoor", sum := "eaa9b3107f01ba5b20450257a2b61caa70c13e3016d96447108a4f60ccc36122", func := "changeforge/changeforgelaw7.GlobDirectoryComposes", spec := "globDirectoryComposes", inPlace := ["internal/bytealg.IndexByteString", "internal/bytealg.IndexString", "internal/bytealg.CountString"], unfollowed := true, recurses := true, named := ["unicode/utf8.first", "unicode/utf8.acceptRanges", "internal/bytealg.MaxLen"], plainKeys := false, apart := false, laid := [("unicode/utf8.acceptRanges", laid_unicode_utf8_acceptRanges), ("unicode/utf8.first", laid_unicode_utf8_first)] }
def GlobDirectoryComposesSaid : Prop := globDirectoryComposesRow.holds Tryd.pinned (OpenSpec.ofChange globDirectoryComposesSpec)

/-- ITS FALSE NEIGHBOUR: 'it returns false'. Refute it at one input. -/
def globDirectoryComposesWrong : ChangeSpec := { name := "globDirectoryComposes", fn := fun _ => fun
  | [d1, d2, d3] => { results := [.lit (.bool false)], args := [d1, d2, d3] }
  | _ => none }
def GlobDirectoryComposesWrongFalsely : Prop := globDirectoryComposesRow.holds Tryd.pinned (OpenSpec.ofChange globDirectoryComposesWrong)

/-- 'changeforgelaw7.GlobDeepAbsorbs': WHATEVER THE INPUT: true; the input reads as it did. -/
def globDeepAbsorbsSpec : ChangeSpec := { name := "globDeepAbsorbs", fn := fun _ => fun
  | [d1, d2, d3] => { results := [.lit (.bool true)], args := [d1, d2, d3] }
  | _ => none }
def globDeepAbsorbsRow : OpenClaim := { program := "ytijpaljdclhehaadoor", sum := "eaa9b3107f01ba5b20450257a2b61caa70c13e3016d96447108a4f60ccc36122", func := "changeforge/changeforgelaw7.GlobDeepAbsorbs", spec := "globDeepAbsorbs", inPlace := ["internal/bytealg.IndexByteString", "internal/bytealg.IndexString", "internal/bytealg.CountString"], unfollowed := true, recurses := true, named := ["unicode/utf8.first", "unicode/utf8.acceptRanges", "internal/bytealg.MaxLen"], plainKeys := false, apart := false, laid := [("unicode/utf8.acceptRanges", laid_unicode_utf8_acceptRanges), ("unicode/utf8.first", laid_unicode_utf8_first)] }
def GlobDeepAbsorbsSaid : Prop := globDeepAbsorbsRow.holds Tryd.pinned (OpenSpec.ofChange globDeepAbsorbsSpec)

/-- ITS FALSE NEIGHBOUR: 'it returns false'. Refute it at one input. -/
def globDeepAbsorbsWrong : ChangeSpec := { name := "globDeepAbsorbs", fn := fun _ => fun
  | [d1, d2, d3] => { results := [.lit (.bool false)], args := [d1, d2, d3] }
  | _ => none }
def GlobDeepAbsorbsWrongFalsely : Prop := globDeepAbsorbsRow.holds Tryd.pinned (OpenSpec.ofChange globDeepAbsorbsWrong)

/-- 'changeforgelaw7.OwnersLastMatchWins': WHATEVER THE INPUT: true; the input reads as it did. -/
def ownersLastMatchWinsSpec : ChangeSpec := { name := "ownersLastMatchWins", fn := fun _ => fun
  | [d1, d2, d3] => { results := [.lit (.bool true)], args := [d1, d2, d3] }
  | _ => none }
def ownersLastMatchWinsRow : OpenClaim := { program := "ytijpaljdclhehaadoor", sum := "eaa9b3107f01ba5b20450257a2b61caa70c13e3016d96447108a4f60ccc36122", func := "changeforge/changeforgelaw7.OwnersLastMatchWins", spec := "ownersLastMatchWins", inPlace := ["internal/bytealg.IndexByteString", "internal/bytealg.IndexString", "internal/bytealg.CountString"], unfollowed := true, recurses := true, named := ["unicode/utf8.first", "unicode/utf8.acceptRanges", "internal/bytealg.MaxLen"], plainKeys := false, apart := false, laid := [("unicode/utf8.acceptRanges", laid_unicode_utf8_acceptRanges), ("unicode/utf8.first", laid_unicode_utf8_first)] }
def OwnersLastMatchWinsSaid : Prop := ownersLastMatchWinsRow.holds Tryd.pinned (OpenSpec.ofChange ownersLastMatchWinsSpec)

/-- ITS FALSE NEIGHBOUR: 'it returns false'. Refute it at one input. -/
def ownersLastMatchWinsWrong : ChangeSpec := { name := "ownersLastMatchWins", fn := fun _ => fun
  | [d1, d2, d3] => { results := [.lit (.bool false)], args := [d1, d2, d3] }
  | _ => none }
def OwnersLastMatchWinsWrongFalsely : Prop := ownersLastMatchWinsRow.holds Tryd.pinned (OpenSpec.ofChange ownersLastMatchWinsWrong)

/-- 'changeforgelaw7.OwnersFormatRoundTrip': WHATEVER THE INPUT: true; the input reads as it did. -/
def ownersFormatRoundTripSpec : ChangeSpec := { name := "ownersFormatRoundTrip", fn := fun _ => fun
  | [d] => { results := [.lit (.bool true)], args := [d] }
  | _ => none }
def ownersFormatRoundTripRow : OpenClaim := { program := "ytijpaljdclhehaadoor", sum := "eaa9b3107f01ba5b20450257a2b61caa70c13e3016d96447108a4f60ccc36122", func := "changeforge/changeforgelaw7.OwnersFormatRoundTrip", spec := "ownersFormatRoundTrip", inPlace := ["internal/bytealg.IndexByteString", "internal/bytealg.IndexString", "internal/bytealg.CountString"], unfollowed := true, recurses := true, named := ["unicode/utf8.first", "unicode/utf8.acceptRanges", "internal/bytealg.MaxLen"], plainKeys := false, apart := false, laid := [("unicode/utf8.acceptRanges", laid_unicode_utf8_acceptRanges), ("unicode/utf8.first", laid_unicode_utf8_first)] }
def OwnersFormatRoundTripSaid : Prop := ownersFormatRoundTripRow.holds Tryd.pinned (OpenSpec.ofChange ownersFormatRoundTripSpec)

/-- ITS FALSE NEIGHBOUR: 'it returns false'. Refute it at one input. -/
def ownersFormatRoundTripWrong : ChangeSpec := { name := "ownersFormatRoundTrip", fn := fun _ => fun
  | [d] => { results := [.lit (.bool false)], args := [d] }
  | _ => none }
def OwnersFormatRoundTripWrongFalsely : Prop := ownersFormatRoundTripRow.holds Tryd.pinned (OpenSpec.ofChange ownersFormatRoundTripWrong)

/-- 'changeforgelaw7.OwnersRequiredIsSufficient': WHATEVER THE INPUT: true; the input reads as it did. -/
def ownersRequiredIsSufficientSpec : ChangeSpec := { name := "ownersRequiredIsSufficient", fn := fun _ => fun
  | [d1, d2, d3] => { results := [.lit (.bool true)], args := [d1, d2, d3] }
  | _ => none }
def ownersRequiredIsSufficientRow : OpenClaim := { program := "ytijpaljdclhehaadoor", sum := "eaa9b3107f01ba5b20450257a2b61caa70c13e3016d96447108a4f60ccc36122", func := "changeforge/changeforgelaw7.OwnersRequiredIsSufficient", spec := "ownersRequiredIsSufficient", inPlace := ["internal/bytealg.IndexByteString", "internal/bytealg.IndexString", "internal/bytealg.CountString"], unfollowed := true, recurses := true, named := ["unicode/utf8.first", "unicode/utf8.acceptRanges", "internal/bytealg.MaxLen"], plainKeys := false, apart := false, laid := [("unicode/utf8.acceptRanges", laid_unicode_utf8_acceptRanges), ("unicode/utf8.first", laid_unicode_utf8_first)] }
def OwnersRequiredIsSufficientSaid : Prop := ownersRequiredIsSufficientRow.holds Tryd.pinned (OpenSpec.ofChange ownersRequiredIsSufficientSpec)

/-- ITS FALSE NEIGHBOUR: 'it returns false'. Refute it at one input. -/
def ownersRequiredIsSufficientWrong : ChangeSpec := { name := "ownersRequiredIsSufficient", fn := fun _ => fun
  | [d1, d2, d3] => { results := [.lit (.bool false)], args := [d1, d2, d3] }
  | _ => none }
def OwnersRequiredIsSufficientWrongFalsely : Prop := ownersRequiredIsSufficientRow.holds Tryd.pinned (OpenSpec.ofChange ownersRequiredIsSufficientWrong)

/-- 'changeforgelaw7.OwnersRequiredIsMinimal': WHATEVER THE INPUT: true; the input reads as it did. -/
def ownersRequiredIsMinimalSpec : ChangeSpec := { name := "ownersRequiredIsMinimal", fn := fun _ => fun
  | [d1, d2] => { results := [.lit (.bool true)], args := [d1, d2] }
  | _ => none }
def ownersRequiredIsMinimalRow : OpenClaim := { program := "ytijpaljdclhehaadoor", sum := "eaa9b3107f01ba5b20450257a2b61caa70c13e3016d96447108a4f60ccc36122", func := "changeforge/changeforgelaw7.OwnersRequiredIsMinimal", spec := "ownersRequiredIsMinimal", inPlace := ["internal/bytealg.IndexByteString", "internal/bytealg.IndexString", "internal/bytealg.CountString"], unfollowed := true, recurses := true, named := ["unicode/utf8.first", "unicode/utf8.acceptRanges", "internal/bytealg.MaxLen"], plainKeys := false, apart := false, laid := [("unicode/utf8.acceptRanges", laid_unicode_utf8_acceptRanges), ("unicode/utf8.first", laid_unicode_utf8_first)] }
def OwnersRequiredIsMinimalSaid : Prop := ownersRequiredIsMinimalRow.holds Tryd.pinned (OpenSpec.ofChange ownersRequiredIsMinimalSpec)

/-- ITS FALSE NEIGHBOUR: 'it returns false'. Refute it at one input. -/
def ownersRequiredIsMinimalWrong : ChangeSpec := { name := "ownersRequiredIsMinimal", fn := fun _ => fun
  | [d1, d2] => { results := [.lit (.bool false)], args := [d1, d2] }
  | _ => none }
def OwnersRequiredIsMinimalWrongFalsely : Prop := ownersRequiredIsMinimalRow.holds Tryd.pinned (OpenSpec.ofChange ownersRequiredIsMinimalWrong)

/-- 'changeforgelaw7.OwnersFunctionsMatchSpec': WHATEVER THE INPUT: true; the input reads as it did. -/
def ownersFunctionsMatchSpecSpec : ChangeSpec := { name := "ownersFunctionsMatchSpec", fn := fun _ => fun
  | [d1, d2, d3, d4] => { results := [.lit (.bool true)], args := [d1, d2, d3, d4] }
  | _ => none }
def ownersFunctionsMatchSpecRow : OpenClaim := { program := "ytijpaljdclhehaadoor", sum := "eaa9b3107f01ba5b20450257a2b61caa70c13e3016d96447108a4f60ccc36122", func := "changeforge/changeforgelaw7.OwnersFunctionsMatchSpec", spec := "ownersFunctionsMatchSpec", inPlace := ["internal/bytealg.IndexByteString", "internal/bytealg.CountString", "internal/bytealg.IndexString"], unfollowed := true, recurses := true, named := ["unicode/utf8.first", "unicode/utf8.acceptRanges", "internal/bytealg.MaxLen"], plainKeys := false, apart := false, laid := [("unicode/utf8.acceptRanges", laid_unicode_utf8_acceptRanges), ("unicode/utf8.first", laid_unicode_utf8_first)] }
def OwnersFunctionsMatchSpecSaid : Prop := ownersFunctionsMatchSpecRow.holds Tryd.pinned (OpenSpec.ofChange ownersFunctionsMatchSpecSpec)

/-- ITS FALSE NEIGHBOUR: 'it returns false'. Refute it at one input. -/
def ownersFunctionsMatchSpecWrong : ChangeSpec := { name := "ownersFunctionsMatchSpec", fn := fun _ => fun
  | [d1, d2, d3, d4] => { results := [.lit (.bool false)], args := [d1, d2, d3, d4] }
  | _ => none }
def OwnersFunctionsMatchSpecWrongFalsely : Prop := ownersFunctionsMatchSpecRow.holds Tryd.pinned (OpenSpec.ofChange ownersFunctionsMatchSpecWrong)

/-- 'changeforgelaw7.GlobFunctionsMatchSpec': WHATEVER THE INPUT: true; the input reads as it did. -/
def globFunctionsMatchSpecSpec : ChangeSpec := { name := "globFunctionsMatchSpec", fn := fun _ => fun
  | [d1, d2, d3] => { results := [.lit (.bool true)], args := [d1, d2, d3] }
  | _ => none }
def globFunctionsMatchSpecRow : OpenClaim := { program := "ytijpaljdclhehaadoor", sum := "eaa9b3107f01ba5b20450257a2b61caa70c13e3016d96447108a4f60ccc36122", func := "changeforge/changeforgelaw7.GlobFunctionsMatchSpec", spec := "globFunctionsMatchSpec", inPlace := ["internal/bytealg.IndexByteString", "internal/bytealg.IndexString", "internal/bytealg.CountString", "internal/abi.NoEscape", "internal/bytealg.MakeNoZero"], unfollowed := true, recurses := true, named := ["unicode/utf8.first", "unicode/utf8.acceptRanges", "internal/bytealg.MaxLen"], plainKeys := false, apart := false, laid := [("unicode/utf8.acceptRanges", laid_unicode_utf8_acceptRanges), ("unicode/utf8.first", laid_unicode_utf8_first)] }
def GlobFunctionsMatchSpecSaid : Prop := globFunctionsMatchSpecRow.holds Tryd.pinned (OpenSpec.ofChange globFunctionsMatchSpecSpec)

/-- ITS FALSE NEIGHBOUR: 'it returns false'. Refute it at one input. -/
def globFunctionsMatchSpecWrong : ChangeSpec := { name := "globFunctionsMatchSpec", fn := fun _ => fun
  | [d1, d2, d3] => { results := [.lit (.bool false)], args := [d1, d2, d3] }
  | _ => none }
def GlobFunctionsMatchSpecWrongFalsely : Prop := globFunctionsMatchSpecRow.holds Tryd.pinned (OpenSpec.ofChange globFunctionsMatchSpecWrong)

/-- 'changeforgelaw7.GlobLiteralIsExact': WHATEVER THE INPUT: true; the input reads as it did. -/
def globLiteralIsExactSpec : ChangeSpec := { name := "globLiteralIsExact", fn := fun _ => fun
  | [d1, d2, d3] => { results := [.lit (.bool true)], args := [d1, d2, d3] }
  | _ => none }
def globLiteralIsExactRow : OpenClaim := { program := "ytijpaljdclhehaadoor", sum := "eaa9b3107f01ba5b20450257a2b61caa70c13e3016d96447108a4f60ccc36122", func := "changeforge/changeforgelaw7.GlobLiteralIsExact", spec := "globLiteralIsExact", inPlace := ["internal/bytealg.IndexByteString", "internal/bytealg.IndexString", "internal/bytealg.CountString", "internal/abi.NoEscape", "internal/bytealg.MakeNoZero"], unfollowed := true, recurses := true, named := ["unicode/utf8.first", "unicode/utf8.acceptRanges", "internal/bytealg.MaxLen"], plainKeys := false, apart := false, laid := [("unicode/utf8.acceptRanges", laid_unicode_utf8_acceptRanges), ("unicode/utf8.first", laid_unicode_utf8_first)] }
def GlobLiteralIsExactSaid : Prop := globLiteralIsExactRow.holds Tryd.pinned (OpenSpec.ofChange globLiteralIsExactSpec)

/-- ITS FALSE NEIGHBOUR: 'it returns false'. Refute it at one input. -/
def globLiteralIsExactWrong : ChangeSpec := { name := "globLiteralIsExact", fn := fun _ => fun
  | [d1, d2, d3] => { results := [.lit (.bool false)], args := [d1, d2, d3] }
  | _ => none }
def GlobLiteralIsExactWrongFalsely : Prop := globLiteralIsExactRow.holds Tryd.pinned (OpenSpec.ofChange globLiteralIsExactWrong)

/-- 'changeforgelaw7.GlobFixedIsPrefix': WHATEVER THE INPUT: true; the input reads as it did. -/
def globFixedIsPrefixSpec : ChangeSpec := { name := "globFixedIsPrefix", fn := fun _ => fun
  | [d1, d2] => { results := [.lit (.bool true)], args := [d1, d2] }
  | _ => none }
def globFixedIsPrefixRow : OpenClaim := { program := "ytijpaljdclhehaadoor", sum := "eaa9b3107f01ba5b20450257a2b61caa70c13e3016d96447108a4f60ccc36122", func := "changeforge/changeforgelaw7.GlobFixedIsPrefix", spec := "globFixedIsPrefix", inPlace := ["internal/bytealg.IndexByteString", "internal/bytealg.IndexString", "internal/bytealg.CountString", "internal/abi.NoEscape", "internal/bytealg.MakeNoZero"], unfollowed := true, recurses := true, named := ["unicode/utf8.first", "unicode/utf8.acceptRanges", "internal/bytealg.MaxLen"], plainKeys := false, apart := false, laid := [("unicode/utf8.acceptRanges", laid_unicode_utf8_acceptRanges), ("unicode/utf8.first", laid_unicode_utf8_first)] }
def GlobFixedIsPrefixSaid : Prop := globFixedIsPrefixRow.holds Tryd.pinned (OpenSpec.ofChange globFixedIsPrefixSpec)

/-- ITS FALSE NEIGHBOUR: 'it returns false'. Refute it at one input. -/
def globFixedIsPrefixWrong : ChangeSpec := { name := "globFixedIsPrefix", fn := fun _ => fun
  | [d1, d2] => { results := [.lit (.bool false)], args := [d1, d2] }
  | _ => none }
def GlobFixedIsPrefixWrongFalsely : Prop := globFixedIsPrefixRow.holds Tryd.pinned (OpenSpec.ofChange globFixedIsPrefixWrong)

/- THE SECOND FORM. 'bulk': how many values and letters a reading holds, each counted each time it is reached (what is shared counts as often as it is met; a slice's spare places count too). A statement '..UptoSaid' is the law's where the arguments, and the package variables that the reading takes, are together of bulk at most 1048576: NARROWER than '..Said'. Prove '..Said' where nothing that the law and all that it calls make is longer than what came in: it says more and counts as full. Else prove '..UptoSaid'. A law counts once. -/
mutual
def uptoBulk {H : Type} : DataW H → Nat
  | .lit (.string bytes) => bytes.length + 1
  | .lit _ => 1
  | .nil => 1
  | .ptr d => uptoBulk d + 1
  | .slice elems spare => uptoBulkAll elems + uptoBulkAll spare + 1
  | .agg parts => uptoBulkAll parts + 1
  | .iface _ d => uptoBulk d + 1
  | .map entries => uptoBulkEntries entries + 1
  | .held _ => 1
def uptoBulkAll {H : Type} : List (DataW H) → Nat
  | [] => 0
  | d :: r => uptoBulk d + uptoBulkAll r
def uptoBulkEntries {H : Type} : List (Lit × DataW H) → Nat
  | [] => 0
  | x :: r => uptoBulkEntry x + uptoBulkEntries r
def uptoBulkEntry {H : Type} : Lit × DataW H → Nat
  | (.string bytes, d) => bytes.length + uptoBulk d + 1
  | (_, d) => uptoBulk d + 1
 end
def uptoSmall : (H : Type) → List (DataW H) → Bool := fun _ ds => decide (uptoBulkAll ds ≤ 1048576)
def OpenSpec.upto (s : _root_.Go.ChangeSpec) : _root_.Go.OpenSpec := { _root_.Go.OpenSpec.ofChange s with cond := some uptoSmall }

/-- 'changeforgelaw7.GlobOverlapHasWitness', WHERE WHAT IT READS IS OF BULK AT MOST 1048576: true; the input reads as it did. -/
def globOverlapHasWitnessUptoRow : OpenClaim := { program := "ytijpaljdclhehaadoor", sum := "eaa9b3107f01ba5b20450257a2b61caa70c13e3016d96447108a4f60ccc36122", func := "changeforge/changeforgelaw7.GlobOverlapHasWitness", spec := "globOverlapHasWitness", inPlace := ["internal/bytealg.IndexByteString", "internal/bytealg.IndexString", "internal/bytealg.CountString"], unfollowed := true, recurses := true, named := ["unicode/utf8.first", "unicode/utf8.acceptRanges", "internal/bytealg.MaxLen"], plainKeys := false, apart := false, laid := [("unicode/utf8.acceptRanges", laid_unicode_utf8_acceptRanges), ("unicode/utf8.first", laid_unicode_utf8_first)], narrowed := true }
def GlobOverlapHasWitnessUptoSaid : Prop := globOverlapHasWitnessUptoRow.holds Tryd.pinned (OpenSpec.upto globOverlapHasWitnessSpec)

/-- 'changeforgelaw7.GlobDirectoryComposes', WHERE WHAT IT READS IS OF BULK AT MOST 1048576: true; the input reads as it did. -/
def globDirectoryComposesUptoRow : OpenClaim := { program := "ytijpaljdclhehaadoor", sum := "eaa9b3107f01ba5b20450257a2b61caa70c13e3016d96447108a4f60ccc36122", func := "changeforge/changeforgelaw7.GlobDirectoryComposes", spec := "globDirectoryComposes", inPlace := ["internal/bytealg.IndexByteString", "internal/bytealg.IndexString", "internal/bytealg.CountString"], unfollowed := true, recurses := true, named := ["unicode/utf8.first", "unicode/utf8.acceptRanges", "internal/bytealg.MaxLen"], plainKeys := false, apart := false, laid := [("unicode/utf8.acceptRanges", laid_unicode_utf8_acceptRanges), ("unicode/utf8.first", laid_unicode_utf8_first)], narrowed := true }
def GlobDirectoryComposesUptoSaid : Prop := globDirectoryComposesUptoRow.holds Tryd.pinned (OpenSpec.upto globDirectoryComposesSpec)

/-- 'changeforgelaw7.GlobDeepAbsorbs', WHERE WHAT IT READS IS OF BULK AT MOST 1048576: true; the input reads as it did. -/
def globDeepAbsorbsUptoRow : OpenClaim := { program := "ytijpaljdclhehaadoor", sum := "eaa9b3107f01ba5b20450257a2b61caa70c13e3016d96447108a4f60ccc36122", func := "changeforge/changeforgelaw7.GlobDeepAbsorbs", spec := "globDeepAbsorbs", inPlace := ["internal/bytealg.IndexByteString", "internal/bytealg.IndexString", "internal/bytealg.CountString"], unfollowed := true, recurses := true, named := ["unicode/utf8.first", "unicode/utf8.acceptRanges", "internal/bytealg.MaxLen"], plainKeys := false, apart := false, laid := [("unicode/utf8.acceptRanges", laid_unicode_utf8_acceptRanges), ("unicode/utf8.first", laid_unicode_utf8_first)], narrowed := true }
def GlobDeepAbsorbsUptoSaid : Prop := globDeepAbsorbsUptoRow.holds Tryd.pinned (OpenSpec.upto globDeepAbsorbsSpec)

/-- 'changeforgelaw7.OwnersLastMatchWins', WHERE WHAT IT READS IS OF BULK AT MOST 1048576: true; the input reads as it did. -/
def ownersLastMatchWinsUptoRow : OpenClaim := { program := "ytijpaljdclhehaadoor", sum := "eaa9b3107f01ba5b20450257a2b61caa70c13e3016d96447108a4f60ccc36122", func := "changeforge/changeforgelaw7.OwnersLastMatchWins", spec := "ownersLastMatchWins", inPlace := ["internal/bytealg.IndexByteString", "internal/bytealg.IndexString", "internal/bytealg.CountString"], unfollowed := true, recurses := true, named := ["unicode/utf8.first", "unicode/utf8.acceptRanges", "internal/bytealg.MaxLen"], plainKeys := false, apart := false, laid := [("unicode/utf8.acceptRanges", laid_unicode_utf8_acceptRanges), ("unicode/utf8.first", laid_unicode_utf8_first)], narrowed := true }
def OwnersLastMatchWinsUptoSaid : Prop := ownersLastMatchWinsUptoRow.holds Tryd.pinned (OpenSpec.upto ownersLastMatchWinsSpec)

/-- 'changeforgelaw7.OwnersFormatRoundTrip', WHERE WHAT IT READS IS OF BULK AT MOST 1048576: true; the input reads as it did. -/
def ownersFormatRoundTripUptoRow : OpenClaim := { program := "ytijpaljdclhehaadoor", sum := "eaa9b3107f01ba5b20450257a2b61caa70c13e3016d96447108a4f60ccc36122", func := "changeforge/changeforgelaw7.OwnersFormatRoundTrip", spec := "ownersFormatRoundTrip", inPlace := ["internal/bytealg.IndexByteString", "internal/bytealg.IndexString", "internal/bytealg.CountString"], unfollowed := true, recurses := true, named := ["unicode/utf8.first", "unicode/utf8.acceptRanges", "internal/bytealg.MaxLen"], plainKeys := false, apart := false, laid := [("unicode/utf8.acceptRanges", laid_unicode_utf8_acceptRanges), ("unicode/utf8.first", laid_unicode_utf8_first)], narrowed := true }
def OwnersFormatRoundTripUptoSaid : Prop := ownersFormatRoundTripUptoRow.holds Tryd.pinned (OpenSpec.upto ownersFormatRoundTripSpec)

/-- 'changeforgelaw7.OwnersRequiredIsSufficient', WHERE WHAT IT READS IS OF BULK AT MOST 1048576: true; the input reads as it did. -/
def ownersRequiredIsSufficientUptoRow : OpenClaim := { program := "ytijpaljdclhehaadoor", sum := "eaa9b3107f01ba5b20450257a2b61caa70c13e3016d96447108a4f60ccc36122", func := "changeforge/changeforgelaw7.OwnersRequiredIsSufficient", spec := "ownersRequiredIsSufficient", inPlace := ["internal/bytealg.IndexByteString", "internal/bytealg.IndexString", "internal/bytealg.CountString"], unfollowed := true, recurses := true, named := ["unicode/utf8.first", "unicode/utf8.acceptRanges", "internal/bytealg.MaxLen"], plainKeys := false, apart := false, laid := [("unicode/utf8.acceptRanges", laid_unicode_utf8_acceptRanges), ("unicode/utf8.first", laid_unicode_utf8_first)], narrowed := true }
def OwnersRequiredIsSufficientUptoSaid : Prop := ownersRequiredIsSufficientUptoRow.holds Tryd.pinned (OpenSpec.upto ownersRequiredIsSufficientSpec)

/-- 'changeforgelaw7.OwnersRequiredIsMinimal', WHERE WHAT IT READS IS OF BULK AT MOST 1048576: true; the input reads as it did. -/
def ownersRequiredIsMinimalUptoRow : OpenClaim := { program := "ytijpaljdclhehaadoor", sum := "eaa9b3107f01ba5b20450257a2b61caa70c13e3016d96447108a4f60ccc36122", func := "changeforge/changeforgelaw7.OwnersRequiredIsMinimal", spec := "ownersRequiredIsMinimal", inPlace := ["internal/bytealg.IndexByteString", "internal/bytealg.IndexString", "internal/bytealg.CountString"], unfollowed := true, recurses := true, named := ["unicode/utf8.first", "unicode/utf8.acceptRanges", "internal/bytealg.MaxLen"], plainKeys := false, apart := false, laid := [("unicode/utf8.acceptRanges", laid_unicode_utf8_acceptRanges), ("unicode/utf8.first", laid_unicode_utf8_first)], narrowed := true }
def OwnersRequiredIsMinimalUptoSaid : Prop := ownersRequiredIsMinimalUptoRow.holds Tryd.pinned (OpenSpec.upto ownersRequiredIsMinimalSpec)

/-- 'changeforgelaw7.OwnersFunctionsMatchSpec', WHERE WHAT IT READS IS OF BULK AT MOST 1048576: true; the input reads as it did. -/
def ownersFunctionsMatchSpecUptoRow : OpenClaim := { program := "ytijpaljdclhehaadoor", sum := "eaa9b3107f01ba5b20450257a2b61caa70c13e3016d96447108a4f60ccc36122", func := "changeforge/changeforgelaw7.OwnersFunctionsMatchSpec", spec := "ownersFunctionsMatchSpec", inPlace := ["internal/bytealg.IndexByteString", "internal/bytealg.CountString", "internal/bytealg.IndexString"], unfollowed := true, recurses := true, named := ["unicode/utf8.first", "unicode/utf8.acceptRanges", "internal/bytealg.MaxLen"], plainKeys := false, apart := false, laid := [("unicode/utf8.acceptRanges", laid_unicode_utf8_acceptRanges), ("unicode/utf8.first", laid_unicode_utf8_first)], narrowed := true }
def OwnersFunctionsMatchSpecUptoSaid : Prop := ownersFunctionsMatchSpecUptoRow.holds Tryd.pinned (OpenSpec.upto ownersFunctionsMatchSpecSpec)

/-- 'changeforgelaw7.GlobFunctionsMatchSpec', WHERE WHAT IT READS IS OF BULK AT MOST 1048576: true; the input reads as it did. -/
def globFunctionsMatchSpecUptoRow : OpenClaim := { program := "ytijpaljdclhehaadoor", sum := "eaa9b3107f01ba5b20450257a2b61caa70c13e3016d96447108a4f60ccc36122", func := "changeforge/changeforgelaw7.GlobFunctionsMatchSpec", spec := "globFunctionsMatchSpec", inPlace := ["internal/bytealg.IndexByteString", "internal/bytealg.IndexString", "internal/bytealg.CountString", "internal/abi.NoEscape", "internal/bytealg.MakeNoZero"], unfollowed := true, recurses := true, named := ["unicode/utf8.first", "unicode/utf8.acceptRanges", "internal/bytealg.MaxLen"], plainKeys := false, apart := false, laid := [("unicode/utf8.acceptRanges", laid_unicode_utf8_acceptRanges), ("unicode/utf8.first", laid_unicode_utf8_first)], narrowed := true }
def GlobFunctionsMatchSpecUptoSaid : Prop := globFunctionsMatchSpecUptoRow.holds Tryd.pinned (OpenSpec.upto globFunctionsMatchSpecSpec)

/-- 'changeforgelaw7.GlobLiteralIsExact', WHERE WHAT IT READS IS OF BULK AT MOST 1048576: true; the input reads as it did. -/
def globLiteralIsExactUptoRow : OpenClaim := { program := "ytijpaljdclhehaadoor", sum := "eaa9b3107f01ba5b20450257a2b61caa70c13e3016d96447108a4f60ccc36122", func := "changeforge/changeforgelaw7.GlobLiteralIsExact", spec := "globLiteralIsExact", inPlace := ["internal/bytealg.IndexByteString", "internal/bytealg.IndexString", "internal/bytealg.CountString", "internal/abi.NoEscape", "internal/bytealg.MakeNoZero"], unfollowed := true, recurses := true, named := ["unicode/utf8.first", "unicode/utf8.acceptRanges", "internal/bytealg.MaxLen"], plainKeys := false, apart := false, laid := [("unicode/utf8.acceptRanges", laid_unicode_utf8_acceptRanges), ("unicode/utf8.first", laid_unicode_utf8_first)], narrowed := true }
def GlobLiteralIsExactUptoSaid : Prop := globLiteralIsExactUptoRow.holds Tryd.pinned (OpenSpec.upto globLiteralIsExactSpec)

/-- 'changeforgelaw7.GlobFixedIsPrefix', WHERE WHAT IT READS IS OF BULK AT MOST 1048576: true; the input reads as it did. -/
def globFixedIsPrefixUptoRow : OpenClaim := { program := "ytijpaljdclhehaadoor", sum := "eaa9b3107f01ba5b20450257a2b61caa70c13e3016d96447108a4f60ccc36122", func := "changeforge/changeforgelaw7.GlobFixedIsPrefix", spec := "globFixedIsPrefix", inPlace := ["internal/bytealg.IndexByteString", "internal/bytealg.IndexString", "internal/bytealg.CountString", "internal/abi.NoEscape", "internal/bytealg.MakeNoZero"], unfollowed := true, recurses := true, named := ["unicode/utf8.first", "unicode/utf8.acceptRanges", "internal/bytealg.MaxLen"], plainKeys := false, apart := false, laid := [("unicode/utf8.acceptRanges", laid_unicode_utf8_acceptRanges), ("unicode/utf8.first", laid_unicode_utf8_first)], narrowed := true }
def GlobFixedIsPrefixUptoSaid : Prop := globFixedIsPrefixUptoRow.holds Tryd.pinned (OpenSpec.upto globFixedIsPrefixSpec)

end Rows
end Go.Proofs.YtijpaljdclhehaaDoor
