/-
  DERIVED. GIVEN WITH THE SEED: THE PROGRAM's TIES (one call each: nine closed facts by the kernel) AND EACH ROW's TIE, after the 31st guide's Derived/Test/Toyas{Tie, Card}.lean. No idea stands in it: it is a product of the set-up. Laid BY PROGRAM, IN A SANDBOX (cutbox-door.mjs). By AI agents, Wed Nov 11 2026. No macro, syntax, notation, axiom, sorry.
-/
import Derived.Test.YtlmhppnbcbadbaaDoorRows
import Derived.LaidByTextLater
import Derived.SevenTiedAt
import Derived.LaidSub
import Derived.LaidOnce
namespace Go.Proofs.YtlmhppnbcbadbaaDoor
open Go
set_option maxRecDepth 100000
theorem seatTie1 : Tryd.prog.laidByTextLater [("changeforge/rules.permitted", Rows.laid_changeforge_rules_permitted), ("changeforge/rules.required", Rows.laid_changeforge_rules_required)] [.widerDeep, .data] true :=
  Program.laidByTextLater_by_one 24 8 8 (by kernel_rfl) (by kernel_rfl) (by kernel_rfl) (by kernel_rfl) (by kernel_rfl) (by kernel_rfl) (fun _ _ => by kernel_rfl)
theorem noOwnUnsafe : Tryd.pinned.checked.prog.headLifts.contains "ownunsafe" = false := by kernel_rfl
theorem tie : Tryd.prog.laidByTextLater [("changeforge/rules.permitted", Rows.laid_changeforge_rules_permitted), ("changeforge/rules.required", Rows.laid_changeforge_rules_required)] [.widerDeep, .data] true :=
  Program.laidByTextLater.sub seatTie1 ["changeforge/rules.permitted", "changeforge/rules.required"] (by kernel_rfl) (by kernel_rfl)
theorem topBuildStepsAreOrdered_row_tie : Rows.topBuildStepsAreOrderedRow.laidByTextAt .later Tryd.pinned [.widerDeep, .data] true :=
  OpenClaim.laidByTextAt_later rfl rfl tie noOwnUnsafe
theorem topBuildStepsAreOrderedUpto_row_tie : Rows.topBuildStepsAreOrderedUptoRow.laidByTextAt .later Tryd.pinned [.widerDeep, .data] true :=
  OpenClaim.laidByTextAt_later rfl rfl tie noOwnUnsafe
end Go.Proofs.YtlmhppnbcbadbaaDoor
