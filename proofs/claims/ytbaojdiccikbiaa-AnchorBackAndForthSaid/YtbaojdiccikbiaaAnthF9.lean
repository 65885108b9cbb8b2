/-
  AnchorBackAndForth: for every patch and every line the law returns true.
-/
import Derived.Test.YtbaojdiccikbiaaAnchW9
import Derived.Test.YtbaojdiccikbiaaPatchR
import Derived.Test.YtbaojdiccikbiaaRows
namespace Go.Proofs.Ytbaojdiccikbiaa
open Go.ChangeShapes Go.WideShapes Go.ChangeAt Go.RowKit Go.Cf

set_option maxRecDepth 100000 in
theorem anchorBackAndForth_lifted (os : Os) (started : os.Started) (H : Type) (enc : TypeId × Value → H) :
    ReturnsInHanded {} Try.checked os 6 .any (Rows.anchorBackAndForthSpec.pre6 enc Try.prog Try.f6 Rows.anchorBackAndForthRow.domain false) (Rows.anchorBackAndForthSpec.post enc Try.prog Try.f6 false true false false) := by
  refine law_lift (C := Try.checked) (tb := 4) (by kernel_rfl) started (by kernel_rfl) Try.func6
    (ChangeSpec.witness6 (enc := enc) (C := Try.checked) false ⟨#[], #[.agg #[.slice none 0 0], .int .i64 0], []⟩ 8 (by kernel_rfl) (by kernel_rfl) (by kernel_rfl) (by kernel_rfl))
    (by kernel_rfl) (by kernel_rfl) (by kernel_rfl) Try.underlying4 rfl ?_ ?_
  · intro ds hds
    rw [show Try.f6.params.size = 2 from by rw [Try.params6]; rfl] at hds
    match ds, hds with
    | [d0, d1], _ => exact ⟨rfl, rfl, rfl⟩
  · intro W base args ds p hval hA hw
    rw [show Try.f6.params.toList = [25, 3] from by rw [Try.params6]] at hA hw
    rw [Try.params6] at hval
    obtain ⟨v0, vs0, d0, ds0, p0, q0, hargs, rfl, rfl, h0, r0⟩ := trodAll_cons hA
    obtain ⟨v1, vs1, d1, ds1, p1, q1, rfl, rfl, rfl, h1, r1⟩ := trodAll_cons r0
    obtain ⟨rfl, rfl, rfl⟩ := trodAll_nil r1
    obtain rfl : args = #[v0, v1] := by cases args; simp_all
    obtain ⟨w0, hw⟩ := weights_each hw
    obtain ⟨w1, hw⟩ := weights_each hw
    obtain ⟨⟨A0, c0, l0⟩, rfl, hp0⟩ := rd_agg Try.underlying25 el_pat (hval 0 25 v0 rfl rfl) h0 w0
    obtain ⟨x1, rfl, hx1⟩ := rd_int Try.underlying3 (hval 1 3 v1 rfl rfl) h1
    exact law9_any W A0 c0 l0 hp0 x1

theorem anchorBackAndForth_holds : Rows.AnchorBackAndForthSaid :=
  OpenClaim.holds_of_wide 6 Try.f6 rfl rfl rfl rfl rfl rfl rfl ⟨rfl, rfl, rfl, rfl, rfl⟩ rfl rfl rfl rfl rfl (by kernel_rfl) Try.func6 (by kernel_rfl)
    (of_decide_eq_true (by kernel_rfl)) (by unfold Func.isWrapper; first | (rw [if_pos (by decide +kernel)]; kernel_rfl) | (rw [if_neg (by decide +kernel)]; exact ⟨rfl, rfl⟩))
    (fun os started H enc _ => anchorBackAndForth_lifted os started H enc)
end Go.Proofs.Ytbaojdiccikbiaa
