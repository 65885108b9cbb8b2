/-
  GlobLiteralIsExact: for all paths and patterns the law returns true (the tied card of the second form: what is read is of bulk at most 1048576).
-/
import Derived.Test.YtijpaljdclhehaaDoorGlobW28
import Derived.Test.YtijpaljdclhehaaDoorLibT
import Derived.Test.YtijpaljdclhehaaDoorBulk
import Derived.Test.YtijpaljdclhehaaDoorCards
import Derived.Test.YtijpaljdclhehaaDoorTie
namespace Go.Proofs.YtijpaljdclhehaaDoor
open Go.ChangeShapes Go.WideShapes Go.ChangeAt Go.RowKit Go.Cf

set_option maxRecDepth 100000 in
theorem globLiteralIsExact_lifted (os : Os) (started : os.Started) (H : Type) (enc : TypeId × Value → H) (F : Stop.Interp) :
    ReturnsInHanded {} Tryd.checked os 12 .any ((Rows.OpenSpec.upto Rows.globLiteralIsExactSpec).preRow enc Tryd.prog Tryd.f12 Rows.globLiteralIsExactUptoRow.domain false Rows.globLiteralIsExactUptoRow.laid) (((Rows.OpenSpec.upto Rows.globLiteralIsExactSpec).at F).post enc Tryd.prog Tryd.f12 false true false false) := by
  refine law_lift_row (C := Tryd.checked) (s := Rows.OpenSpec.upto Rows.globLiteralIsExactSpec) (tb := 4) (by kernel_rfl) started (by kernel_rfl) Tryd.func12
    (witness_row_at (enc := enc) (C := Tryd.checked) false ({ (World.holding Tryd.prog os ⟨#[], #[], []⟩) with heap := ((World.holding Tryd.prog os ⟨#[], #[], []⟩).heap.modify 1 fun | .cells _ t fz => .cells (Go.Pinned.utf8FirstZ.map fun n : Nat => Value.int .u8 (n : Int)).toArray t fz | o => o).modify 2 fun | .cells _ t fz => .cells (([128, 191, 160, 191, 128, 159, 144, 191, 128, 143, 0, 0, 0, 0, 0, 0, 0, 0, 0, 0, 0, 0, 0, 0, 0, 0, 0, 0, 0, 0, 0, 0] : List Nat).map fun n : Nat => Value.int .u8 (n : Int)).toArray t fz | o => o } : World) #[.string .empty, .string .empty, .string .empty] rfl (by kernel_rfl) (by kernel_rfl) (by kernel_rfl)
      (OpenSpec.preRow_of_cond 8 (show DataW.whole enc Tryd.prog _ Tryd.f12.params.toList _ false _ 8 = some ([.lit (.string []), .lit (.string []), .lit (.string [])], [], []) by kernel_rfl) (by kernel_rfl) (fun k hk => by cases hk; kernel_rfl) (by kernel_rfl) (laidMet_of_run' 8 (by kernel_rfl) (by kernel_rfl))))
    (by kernel_rfl) (by kernel_rfl) (by kernel_rfl) Tryd.underlying4 rfl rfl rfl ?_ ?_
  · intro ds hds
    rw [show Tryd.f12.params.size = 3 from by rw [Tryd.params12]; rfl] at hds
    match ds, hds with
    | [d0, d1, d2], _ => exact ⟨rfl, rfl, rfl⟩
  · intro W base args ds p hval hA hw hk hL
    rw [show Tryd.f12.params.toList = [9, 9, 9] from by rw [Tryd.params12]] at hA hw
    rw [Tryd.params12] at hval
    obtain ⟨v0, vs0, d0, ds0, p0, q0, hargs, rfl, rfl, h0, r0⟩ := trodAll_cons hA
    obtain ⟨v1, vs1, d1, ds1, p1, q1, rfl, rfl, rfl, h1, r1⟩ := trodAll_cons r0
    obtain ⟨v2, vs2, d2, ds2, p2, q2, rfl, rfl, rfl, h2, r2⟩ := trodAll_cons r1
    obtain ⟨rfl, rfl, rfl⟩ := trodAll_nil r2
    obtain rfl : args = #[v0, v1, v2] := by cases args; simp_all
    obtain ⟨w0, hw⟩ := weights_each hw
    obtain ⟨w1, hw⟩ := weights_each hw
    obtain ⟨w2, hw⟩ := weights_each hw
    have hb : Rows.uptoBulkAll [d0, d1, d2] ≤ 1048576 := of_decide_eq_true (hk _ rfl)
    simp only [Rows.uptoBulkAll] at hb
    obtain ⟨s0, rfl, rfl, hs0⟩ := rd_string Tryd.underlying9 (hval 0 9 v0 rfl rfl) h0 w0
    obtain ⟨s1, rfl, rfl, hs1⟩ := rd_string Tryd.underlying9 (hval 1 9 v1 rfl rfl) h1 w1
    obtain ⟨s2, rfl, rfl, hs2⟩ := rd_string Tryd.underlying9 (hval 2 9 v2 rfl rfl) h2 w2
    have hz0 : s0.size ≤ 1048576 := by
      have h9 : s0.data.toList.length = s0.size := by rw [Array.length_toList]; rfl
      simp only [Rows.uptoBulk] at hb
      omega
    exact law28_any W s0 s1 s2 (by omega)

theorem globLiteralIsExact_said : Rows.GlobLiteralIsExactUptoSaid :=
  OpenClaim.holds_of_cond 12 Tryd.f12 rfl rfl rfl rfl rfl rfl rfl ⟨rfl, rfl, rfl, rfl, rfl⟩ rfl rfl rfl rfl rfl (by kernel_rfl) Tryd.func12 (by kernel_rfl)
    (of_decide_eq_true (by kernel_rfl)) (by unfold Func.isWrapper; first | (rw [if_pos (by decide +kernel)]; kernel_rfl) | (rw [if_neg (by decide +kernel)]; exact ⟨rfl, rfl⟩))
    (fun os started H enc _ F => by rw [OpenClaim.pre_eq_preRow]; exact globLiteralIsExact_lifted os started H enc F)
theorem globLiteralIsExact_plain (f : FuncId) (fn : Func) (hf : Tryd.pinned.checked.prog.funcNamed "changeforge/changeforgelaw7.GlobLiteralIsExact" = some f) (hfn : Tryd.pinned.checked.prog.funcs[f]? = some fn) :
    false = Tryd.pinned.checked.prog.looks [] ∧ ∀ (j : Nat) t, fn.params[j]? = some t → Tryd.pinned.checked.prog.wantsStandIn t = false := by
  obtain rfl : f = 12 := Option.some.inj ((show Tryd.prog.funcNamed "changeforge/changeforgelaw7.GlobLiteralIsExact" = some 12 by kernel_rfl).symm.trans hf) |>.symm
  obtain rfl : fn = Tryd.f12 := (Option.some.inj (Tryd.func12.symm.trans hfn)).symm
  refine ⟨by kernel_rfl, fun j t ht => ?_⟩
  rw [Tryd.params12] at ht
  have hm : t ∈ [9, 9, 9] := by simpa using Array.mem_of_getElem? ht
  have hall : ([9, 9, 9].all fun u => !Tryd.prog.wantsStandIn u) = true := by kernel_rfl
  exact (show Tryd.prog.wantsStandIn t = false by simpa using List.all_eq_true.1 hall t hm)
theorem globLiteralIsExact_holds : Rows.GlobLiteralIsExactUptoCardSaid :=
  Claim7.holds_tied_plain_at .later [] _ _ _ _ globLiteralIsExact_said (fun _ h => by cases h) (by kernel_rfl) (fun _ h => by cases h) globLiteralIsExactUpto_row_tie rfl ⟨rfl, rfl⟩ (by kernel_rfl) rfl globLiteralIsExact_plain (by kernel_rfl)
end Go.Proofs.YtijpaljdclhehaaDoor
