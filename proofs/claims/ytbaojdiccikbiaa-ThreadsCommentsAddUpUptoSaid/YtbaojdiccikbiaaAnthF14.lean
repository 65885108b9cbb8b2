/-
  ThreadsCommentsAddUp: for all arguments the law returns true (the second form: what is read is of bulk at most 1048576).
-/
import Derived.Test.YtbaojdiccikbiaaThrW14
import Derived.Test.YtbaojdiccikbiaaThrR
import Derived.Test.YtbaojdiccikbiaaBulk
import Derived.Test.YtbaojdiccikbiaaRows
namespace Go.Proofs.Ytbaojdiccikbiaa
open Go.ChangeShapes Go.WideShapes Go.ChangeAt Go.RowKit Go.Cf

set_option maxRecDepth 100000 in
theorem threadsCommentsAddUp_lifted (os : Os) (started : os.Started) (H : Type) (enc : TypeId × Value → H) (F : Stop.Interp) :
    ReturnsInHanded {} Try.checked os 10 .any ((Rows.OpenSpec.upto Rows.threadsCommentsAddUpSpec).pre6 enc Try.prog Try.f10 Rows.threadsCommentsAddUpUptoRow.domain false) (((Rows.OpenSpec.upto Rows.threadsCommentsAddUpSpec).at F).post enc Try.prog Try.f10 false true false false) := by
  refine law_lift_cond (C := Try.checked) (s := Rows.OpenSpec.upto Rows.threadsCommentsAddUpSpec) (k := Rows.uptoSmall) rfl (tb := 4) (by kernel_rfl) started (by kernel_rfl) Try.func10
    (OpenSpec.witness (enc := enc) (C := Try.checked) (s := Rows.OpenSpec.upto Rows.threadsCommentsAddUpSpec) (k := Rows.uptoSmall) rfl false ⟨#[], #[.slice none 0 0, .slice none 0 0, .int .i64 0, .int .i64 0], []⟩ 8 (by kernel_rfl) (by kernel_rfl) (by kernel_rfl) (x := ([.nil, .nil, .lit (.int .i64 0), .lit (.int .i64 0)], [], [])) (by kernel_rfl) rfl (by kernel_rfl))
    (by kernel_rfl) (by kernel_rfl) (by kernel_rfl) Try.underlying4 rfl rfl rfl ?_ ?_
  · intro ds hds
    rw [show Try.f10.params.size = 4 from by rw [Try.params10]; rfl] at hds
    match ds, hds with
    | [d0, d1, d2, d3], _ => exact ⟨rfl, rfl, rfl⟩
  · intro W base args ds p hval hA hw hk
    rw [show Try.f10.params.toList = [41, 54, 3, 3] from by rw [Try.params10]] at hA hw
    rw [Try.params10] at hval
    obtain ⟨v0, vs0, d0, ds0, p0, q0, hargs, rfl, rfl, h0, r0⟩ := trodAll_cons hA
    obtain ⟨v1, vs1, d1, ds1, p1, q1, rfl, rfl, rfl, h1, r1⟩ := trodAll_cons r0
    obtain ⟨v2, vs2, d2, ds2, p2, q2, rfl, rfl, rfl, h2, r2⟩ := trodAll_cons r1
    obtain ⟨v3, vs3, d3, ds3, p3, q3, rfl, rfl, rfl, h3, r3⟩ := trodAll_cons r2
    obtain ⟨rfl, rfl, rfl⟩ := trodAll_nil r3
    obtain rfl : args = #[v0, v1, v2, v3] := by cases args; simp_all
    obtain ⟨w0, hw⟩ := weights_each hw
    obtain ⟨w1, hw⟩ := weights_each hw
    obtain ⟨w2, hw⟩ := weights_each hw
    obtain ⟨w3, hw⟩ := weights_each hw
    have hb : Rows.uptoBulkAll [d0, d1, d2, d3] ≤ 1048576 := of_decide_eq_true hk
    simp only [Rows.uptoBulkAll] at hb
    obtain ⟨A0, c0, l0, rfl, hv0, hlc0, hcm0, hA0, hcb0, hQ0⟩ := rd_slice Try.underlying41 (by kernel_rfl) (el_str Try.underlying9) (hval 0 41 v0 rfl rfl) h0 w0
    obtain ⟨A1, c1, l1, rfl, hv1, hlc1, hcm1, hA1, hcb1, hQ1⟩ := rd_slice Try.underlying54 (by kernel_rfl) el_event (hval 1 54 v1 rfl rfl) h1 w1
    obtain ⟨x2, rfl, hx2⟩ := rd_int Try.underlying3 (hval 2 3 v2 rfl rfl) h2
    obtain ⟨x3, rfl, hx3⟩ := rd_int Try.underlying3 (hval 3 3 v3 rfl rfl) h3
    have hb0 := bulk_len Try.underlying41 h0
    have hb1 := bulk_len Try.underlying54 h1
    exact law14_any W A0 c0 l0 hv0 ⟨hlc0, hcm0, hA0, Nat.le_trans (Nat.mul_le_mul_right _ hlc0) (by rw [by_str] at hcb0; exact hcb0)⟩ A1 c1 l1 ⟨hv1, hQ1⟩ (Nat.le_trans hlc1 hcm1) hlc1 hA1 (by omega) x2 x3

theorem threadsCommentsAddUp_holds : Rows.ThreadsCommentsAddUpUptoSaid :=
  OpenClaim.holds_of_cond 10 Try.f10 rfl rfl rfl rfl rfl rfl rfl ⟨rfl, rfl, rfl, rfl, rfl⟩ rfl rfl rfl rfl rfl (by kernel_rfl) Try.func10 (by kernel_rfl)
    (of_decide_eq_true (by kernel_rfl)) (by unfold Func.isWrapper; first | (rw [if_pos (by decide +kernel)]; kernel_rfl) | (rw [if_neg (by decide +kernel)]; exact ⟨rfl, rfl⟩))
    (fun os started H enc _ F => threadsCommentsAddUp_lifted os started H enc F)
end Go.Proofs.Ytbaojdiccikbiaa
