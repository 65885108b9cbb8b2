/-
  ThreadsStayAtTheirText: for all arguments the law returns true.
-/
import Derived.Test.YtbaojdiccikbiaaThrW13
import Derived.Test.YtbaojdiccikbiaaThrR
import Derived.Test.YtbaojdiccikbiaaRows
namespace Go.Proofs.Ytbaojdiccikbiaa
open Go.ChangeShapes Go.WideShapes Go.ChangeAt Go.RowKit Go.Cf

set_option maxRecDepth 100000 in
theorem threadsStayAtTheirText_lifted (os : Os) (started : os.Started) (H : Type) (enc : TypeId × Value → H) :
    ReturnsInHanded {} Try.checked os 9 .any (Rows.threadsStayAtTheirTextSpec.pre6 enc Try.prog Try.f9 Rows.threadsStayAtTheirTextRow.domain false) (Rows.threadsStayAtTheirTextSpec.post enc Try.prog Try.f9 false true false false) := by
  refine law_lift (C := Try.checked) (tb := 4) (by kernel_rfl) started (by kernel_rfl) Try.func9
    (ChangeSpec.witness6 (enc := enc) (C := Try.checked) false ⟨#[], #[.slice none 0 0, .slice none 0 0], []⟩ 8 (by kernel_rfl) (by kernel_rfl) (by kernel_rfl) (by kernel_rfl))
    (by kernel_rfl) (by kernel_rfl) (by kernel_rfl) Try.underlying4 rfl ?_ ?_
  · intro ds hds
    rw [show Try.f9.params.size = 2 from by rw [Try.params9]; rfl] at hds
    match ds, hds with
    | [d0, d1], _ => exact ⟨rfl, rfl, rfl⟩
  · intro W base args ds p hval hA hw
    rw [show Try.f9.params.toList = [41, 54] from by rw [Try.params9]] at hA hw
    rw [Try.params9] at hval
    obtain ⟨v0, vs0, d0, ds0, p0, q0, hargs, rfl, rfl, h0, r0⟩ := trodAll_cons hA
    obtain ⟨v1, vs1, d1, ds1, p1, q1, rfl, rfl, rfl, h1, r1⟩ := trodAll_cons r0
    obtain ⟨rfl, rfl, rfl⟩ := trodAll_nil r1
    obtain rfl : args = #[v0, v1] := by cases args; simp_all
    obtain ⟨w0, hw⟩ := weights_each hw
    obtain ⟨w1, hw⟩ := weights_each hw
    obtain ⟨A0, c0, l0, rfl, hv0, hlc0, hcm0, hA0, hcb0, hQ0⟩ := rd_slice Try.underlying41 (by kernel_rfl) (el_str Try.underlying9) (hval 0 41 v0 rfl rfl) h0 w0
    obtain ⟨A1, c1, l1, rfl, hv1, hlc1, hcm1, hA1, hcb1, hQ1⟩ := rd_slice Try.underlying54 (by kernel_rfl) el_event (hval 1 54 v1 rfl rfl) h1 w1
    exact law13_any W A0 c0 l0 hv0 ⟨hlc0, hcm0, hA0, Nat.le_trans (Nat.mul_le_mul_right _ hlc0) (by rw [by_str] at hcb0; exact hcb0)⟩ A1 c1 l1 ⟨hv1, hQ1⟩ (Nat.le_trans hlc1 hcm1) hlc1

theorem threadsStayAtTheirText_holds : Rows.ThreadsStayAtTheirTextSaid :=
  OpenClaim.holds_of_wide 9 Try.f9 rfl rfl rfl rfl rfl rfl rfl ⟨rfl, rfl, rfl, rfl, rfl⟩ rfl rfl rfl rfl rfl (by kernel_rfl) Try.func9 (by kernel_rfl)
    (of_decide_eq_true (by kernel_rfl)) (by unfold Func.isWrapper; first | (rw [if_pos (by decide +kernel)]; kernel_rfl) | (rw [if_neg (by decide +kernel)]; exact ⟨rfl, rfl⟩))
    (fun os started H enc _ => threadsStayAtTheirText_lifted os started H enc)
end Go.Proofs.Ytbaojdiccikbiaa
