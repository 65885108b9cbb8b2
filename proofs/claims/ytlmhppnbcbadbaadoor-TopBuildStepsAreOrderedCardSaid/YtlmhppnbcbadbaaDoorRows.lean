/-
  NARROWER THAN 'FOR EVERY INPUT', by the rows' own cells (each row's printed sentence says how): TopBuildStepsAreOrdered: laid.
  DERIVED. THE GIVEN ROWS OF THIS SEAT. 1 by the template 'for every input the law returns true; each argument reads behind the call as it read before'; 0 by the template 'total and deterministic' (their statements: YtlmhppnbcbadbaaDoorTotals.lean).
  GIVEN WITH THE SEED: the statements are not yours to turn. If you find one false, say at which input.
  Laid BY PROGRAM, IN A SANDBOX (cutbox-rows.mjs): the forced cells as the released guide's own fill.sh prints them over the translation 0a56dc20136fa7e4… (all of the seat's roots in one cut). By AI agents, Wed Nov 11 2026. No macro, syntax, notation, axiom, sorry.
-/
import Derived.Test.YtlmhppnbcbadbaaDoorChecked
import GoSem.Claim
import GoSem.ClaimJoined
import GoSem.ClaimMapViews
import Derived.JoinedTies
import Derived.KernelRfl
namespace Go.Proofs.YtlmhppnbcbadbaaDoor
/- THE CELL 'sum', in the pinned program and in every row, IS THE sha256 OF THE DUMP (.gsa) THAT YtlmhppnbcbadbaaDoorProg.lean LOADS. Nothing in Lean hashes anything: it is a label: what it is worth is what the hold of that sum in a sandbox is worth. -/
noncomputable def Tryd.pinned : Pinned := { name := "ytlmhppnbcbadbaadoor", sum := "0a56dc20136fa7e4ddf0f0e3871e16f92c83139cad3650d26481b2ba041cd602", checked := Tryd.checked }
namespace Rows
def none {H : Type} : Left H := { results := [], args := [] }

/- WHAT THE LISTED PACKAGE-LEVEL VARIABLES READ AS WHEN THE CALL BEGINS. Each datum BY PROGRAM (the guide's laid-datum.mjs) off the statement by which the dump's own 'gosem.cut.vars' lays the variable. In a bare row this is a premise. The card (YtlmhppnbcbadbaaDoorCards.lean) ties it to the program's text. -/
def laid_changeforge_rules_permitted {H : Type} : DataW H := .agg [.nil, .nil, .slice [.lit (.int .i64 1), .lit (.int .i64 3)] [], .slice [.lit (.int .i64 2)] [], .slice [.lit (.int .i64 2), .lit (.int .i64 3)] [], .slice [.lit (.int .i64 4)] [], .slice [.lit (.int .i64 1), .lit (.int .i64 2), .lit (.int .i64 3), .lit (.int .i64 4), .lit (.int .i64 5)] []]
def laid_changeforge_rules_required {H : Type} : DataW H := .agg [.lit (.int .i64 0), .lit (.int .i64 0), .lit (.int .i64 1), .lit (.int .i64 2), .lit (.int .i64 2), .lit (.int .i64 4), .lit (.int .i64 0)]

/-- 'changeforgetop.TopBuildStepsAreOrdered': WHATEVER THE INPUT: true; the input reads as it did. -/
def topBuildStepsAreOrderedSpec : ChangeSpec := { name := "topBuildStepsAreOrdered", fn := fun _ => fun
  | [d] => { results := [.lit (.bool true)], args := [d] }
  | _ => none }
def topBuildStepsAreOrderedRow : OpenClaim := { program := "ytlmhppnbcbadbaadoor", sum := "0a56dc20136fa7e4ddf0f0e3871e16f92c83139cad3650d26481b2ba041cd602", func := "changeforge/changeforgetop.TopBuildStepsAreOrdered", spec := "topBuildStepsAreOrdered", unfollowed := true, recurses := true, named := ["changeforge/rules.permitted", "changeforge/rules.required"], apart := false, laid := [("changeforge/rules.permitted", laid_changeforge_rules_permitted), ("changeforge/rules.required", laid_changeforge_rules_required)] }
def TopBuildStepsAreOrderedSaid : Prop := topBuildStepsAreOrderedRow.holds Tryd.pinned (OpenSpec.ofChange topBuildStepsAreOrderedSpec)

/-- ITS FALSE NEIGHBOUR: 'it returns false'. Refute it at one input. -/
def topBuildStepsAreOrderedWrong : ChangeSpec := { name := "topBuildStepsAreOrdered", fn := fun _ => fun
  | [d] => { results := [.lit (.bool false)], args := [d] }
  | _ => none }
def TopBuildStepsAreOrderedWrongFalsely : Prop := topBuildStepsAreOrderedRow.holds Tryd.pinned (OpenSpec.ofChange topBuildStepsAreOrderedWrong)

/- THE SECOND FORM. 'bulk': how many values and letters a reading holds, each counted each time it is reached (what is shared counts as often as it is met; a slice's spare places count too). A statement '..UptoSaid' is the law's where the arguments, and the package variables that the reading takes, are together of bulk at most 1048576: NARROWER than '..Said'. Prove '..Said' where nothing that the law and all that it calls make is longer than what came in: it says more and counts as full. Else prove '..UptoSaid'. A law counts once. -/
mutual
def uptoBulk {H : Type} : DataW H → Nat
  | .lit (.string bytes) => bytes.length + 1
  | .lit _ => 1
  | .nil => 1
  | .ptr d => uptoBulk d + 1
  | .slice elems spare => uptoBulkAll elems + uptoBulkAll spare + 1
  | .agg parts => uptoBulkAll parts + 1
  | .iface _ d => uptoBulk d + 1
  | .map entries => uptoBulkEntries entries + 1
  | .held _ => 1
def uptoBulkAll {H : Type} : List (DataW H) → Nat
  | [] => 0
  | d :: r => uptoBulk d + uptoBulkAll r
def uptoBulkEntries {H : Type} : List (Lit × DataW H) → Nat
  | [] => 0
  | x :: r => uptoBulkEntry x + uptoBulkEntries r
def uptoBulkEntry {H : Type} : Lit × DataW H → Nat
  | (.string bytes, d) => bytes.length + uptoBulk d + 1
  | (_, d) => uptoBulk d + 1
 end
def uptoSmall : (H : Type) → List (DataW H) → Bool := fun _ ds => decide (uptoBulkAll ds ≤ 1048576)
def OpenSpec.upto (s : _root_.Go.ChangeSpec) : _root_.Go.OpenSpec := { _root_.Go.OpenSpec.ofChange s with cond := some uptoSmall }

/-- 'changeforgetop.TopBuildStepsAreOrdered', WHERE WHAT IT READS IS OF BULK AT MOST 1048576: true; the input reads as it did. -/
def topBuildStepsAreOrderedUptoRow : OpenClaim := { program := "ytlmhppnbcbadbaadoor", sum := "0a56dc20136fa7e4ddf0f0e3871e16f92c83139cad3650d26481b2ba041cd602", func := "changeforge/changeforgetop.TopBuildStepsAreOrdered", spec := "topBuildStepsAreOrdered", unfollowed := true, recurses := true, named := ["changeforge/rules.permitted", "changeforge/rules.required"], apart := false, laid := [("changeforge/rules.permitted", laid_changeforge_rules_permitted), ("changeforge/rules.required", laid_changeforge_rules_required)], narrowed := true }
def TopBuildStepsAreOrderedUptoSaid : Prop := topBuildStepsAreOrderedUptoRow.holds Tryd.pinned (OpenSpec.upto topBuildStepsAreOrderedSpec)

end Rows
end Go.Proofs.YtlmhppnbcbadbaaDoor
