/-
  AnchorListsMatchSpec: for all lists of patches, every patch, line and length the law returns true.
-/
import Derived.Test.YtbaojdiccikbiaaAnchW6
import Derived.Test.YtbaojdiccikbiaaPatchR
import Derived.Test.YtbaojdiccikbiaaRows
namespace Go.Proofs.Ytbaojdiccikbiaa
open Go.ChangeShapes Go.WideShapes Go.ChangeAt Go.RowKit Go.Cf

set_option maxRecDepth 100000 in
theorem anchorListsMatchSpec_lifted (os : Os) (started : os.Started) (H : Type) (enc : TypeId × Value → H) :
    ReturnsInHanded {} Try.checked os 3 .any (Rows.anchorListsMatchSpecSpec.pre6 enc Try.prog Try.f3 Rows.anchorListsMatchSpecRow.domain false) (Rows.anchorListsMatchSpecSpec.post enc Try.prog Try.f3 false true false false) := by
  refine law_lift (C := Try.checked) (tb := 4) (by kernel_rfl) started (by kernel_rfl) Try.func3
    (ChangeSpec.witness6 (enc := enc) (C := Try.checked) false ⟨#[], #[.slice none 0 0, .agg #[.slice none 0 0], .int .i64 0, .int .i64 0], []⟩ 8 (by kernel_rfl) (by kernel_rfl) (by kernel_rfl) (by kernel_rfl))
    (by kernel_rfl) (by kernel_rfl) (by kernel_rfl) Try.underlying4 rfl ?_ ?_
  · intro ds hds
    rw [show Try.f3.params.size = 4 from by rw [Try.params3]; rfl] at hds
    match ds, hds with
    | [d0, d1, d2, d3], _ => exact ⟨rfl, rfl, rfl⟩
  · intro W base args ds p hval hA hw
    rw [show Try.f3.params.toList = [22, 25, 3, 3] from by rw [Try.params3]] at hA hw
    rw [Try.params3] at hval
    obtain ⟨v0, vs0, d0, ds0, p0, q0, hargs, rfl, rfl, h0, r0⟩ := trodAll_cons hA
    obtain ⟨v1, vs1, d1, ds1, p1, q1, rfl, rfl, rfl, h1, r1⟩ := trodAll_cons r0
    obtain ⟨v2, vs2, d2, ds2, p2, q2, rfl, rfl, rfl, h2, r2⟩ := trodAll_cons r1
    obtain ⟨v3, vs3, d3, ds3, p3, q3, rfl, rfl, rfl, h3, r3⟩ := trodAll_cons r2
    obtain ⟨rfl, rfl, rfl⟩ := trodAll_nil r3
    obtain rfl : args = #[v0, v1, v2, v3] := by cases args; simp_all
    obtain ⟨w0, hw⟩ := weights_each hw
    obtain ⟨w1, hw⟩ := weights_each hw
    obtain ⟨w2, hw⟩ := weights_each hw
    obtain ⟨w3, hw⟩ := weights_each hw
    obtain ⟨A0, c0, l0, rfl, hv0, hlc0, hcm0, hA0, hcb0, hQ0⟩ := rd_slice Try.underlying22 (by kernel_rfl) el_pat (hval 0 22 v0 rfl rfl) h0 w0
    obtain ⟨⟨A1, c1, l1⟩, rfl, hp1⟩ := rd_agg Try.underlying25 el_pat (hval 1 25 v1 rfl rfl) h1 w1
    obtain ⟨x2, rfl, hx2⟩ := rd_int Try.underlying3 (hval 2 3 v2 rfl rfl) h2
    obtain ⟨x3, rfl, hx3⟩ := rd_int Try.underlying3 (hval 3 3 v3 rfl rfl) h3
    exact law6_any W A0 c0 l0 ⟨hv0, hQ0⟩ (by omega) A1 c1 l1 hp1 x2 x3

theorem anchorListsMatchSpec_holds : Rows.AnchorListsMatchSpecSaid :=
  OpenClaim.holds_of_wide 3 Try.f3 rfl rfl rfl rfl rfl rfl rfl ⟨rfl, rfl, rfl, rfl, rfl⟩ rfl rfl rfl rfl rfl (by kernel_rfl) Try.func3 (by kernel_rfl)
    (of_decide_eq_true (by kernel_rfl)) (by unfold Func.isWrapper; first | (rw [if_pos (by decide +kernel)]; kernel_rfl) | (rw [if_neg (by decide +kernel)]; exact ⟨rfl, rfl⟩))
    (fun os started H enc _ => anchorListsMatchSpec_lifted os started H enc)
end Go.Proofs.Ytbaojdiccikbiaa
