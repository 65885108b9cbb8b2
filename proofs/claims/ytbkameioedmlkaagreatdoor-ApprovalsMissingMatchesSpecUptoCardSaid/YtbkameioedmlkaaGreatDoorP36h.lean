/-
  ApprovalsMissingMatchesSpec: for all arguments the law returns true (the tied card of the second form: what is read is of bulk at most 1048576).
-/
import Derived.Test.YtbkameioedmlkaaGreatDoorP36g
import Derived.Test.YtbkameioedmlkaaGreatDoorCards
import Derived.Test.YtbkameioedmlkaaGreatDoorTie
namespace Go.Proofs.YtbkameioedmlkaaGreatDoor
open Go.ChangeShapes Go.WideShapes Go.ChangeAt Go.RowKit Go.Cf
set_option maxRecDepth 100000 in
theorem approvalsMissingMatchesSpec_lifted (os : Os) (started : os.Started) (H : Type) (enc : TypeId × Value → H) (F : Stop.Interp) :
    ReturnsInHanded {} Tryz.checked os 5 .any ((Rows.OpenSpec.upto Rows.approvalsMissingMatchesSpecSpec).preRow enc Tryz.prog Tryz.f5 Rows.approvalsMissingMatchesSpecUptoRow.domain false Rows.approvalsMissingMatchesSpecUptoRow.laid) (((Rows.OpenSpec.upto Rows.approvalsMissingMatchesSpecSpec).at F).post enc Tryz.prog Tryz.f5 false true false false) := by
  refine law_lift_row (C := Tryz.checked) (s := Rows.OpenSpec.upto Rows.approvalsMissingMatchesSpecSpec) (tb := 4) (by kernel_rfl) started (by kernel_rfl) Tryz.func5
    (witness_row_at (enc := enc) (C := Tryz.checked) false ({ (World.holding Tryz.prog os ⟨#[], #[], []⟩) with heap := ((World.holding Tryz.prog os ⟨#[], #[], []⟩).heap.modify 1 fun | .cells _ t fz => .cells (Go.Pinned.utf8FirstZ.map fun n : Nat => Value.int .u8 (n : Int)).toArray t fz | o => o).modify 2 fun | .cells _ t fz => .cells (([128, 191, 160, 191, 128, 159, 144, 191, 128, 143, 0, 0, 0, 0, 0, 0, 0, 0, 0, 0, 0, 0, 0, 0, 0, 0, 0, 0, 0, 0, 0, 0] : List Nat).map fun n : Nat => Value.int .u8 (n : Int)).toArray t fz | o => o } : World) #[.slice none 0 0, .slice none 0 0, .agg #[.slice none 0 0], .agg #[.slice none 0 0]] rfl (by kernel_rfl) (by kernel_rfl) (by kernel_rfl)
      (OpenSpec.preRow_of_cond 8 (show DataW.whole enc Tryz.prog _ Tryz.f5.params.toList _ false _ 8 = some ([.nil, .nil, .agg [.nil], .agg [.nil]], [], []) by kernel_rfl) (by kernel_rfl) (fun k hk => by cases hk; kernel_rfl) (by kernel_rfl) (laidMet_of_run' 8 (by kernel_rfl) (by kernel_rfl))))
    (by kernel_rfl) (by kernel_rfl) (by kernel_rfl) Tryz.underlying4 rfl rfl rfl ?_ ?_
  · intro ds hds
    rw [show Tryz.f5.params.size = 4 from by rw [Tryz.params5]; rfl] at hds
    match ds, hds with
    | [d0, d1, d2, d3], _ => exact ⟨rfl, rfl, rfl⟩
  · intro W base args ds p hval hA hw hk hL
    rw [show Tryz.f5.params.toList = [57, 58, 61, 61] from by rw [Tryz.params5]] at hA hw
    rw [Tryz.params5] at hval
    obtain ⟨v0, vs0, d0, ds0, p0, q0, hargs, rfl, rfl, h0, r0⟩ := trodAll_cons hA
    obtain ⟨v1, vs1, d1, ds1, p1, q1, rfl, rfl, rfl, h1, r1⟩ := trodAll_cons r0
    obtain ⟨v2, vs2, d2, ds2, p2, q2, rfl, rfl, rfl, h2, r2⟩ := trodAll_cons r1
    obtain ⟨v3, vs3, d3, ds3, p3, q3, rfl, rfl, rfl, h3, r3⟩ := trodAll_cons r2
    obtain ⟨rfl, rfl, rfl⟩ := trodAll_nil r3
    obtain rfl : args = #[v0, v1, v2, v3] := by cases args; simp_all
    obtain ⟨w0, hw⟩ := weights_each hw
    obtain ⟨w1, hw⟩ := weights_each hw
    obtain ⟨w2, hw⟩ := weights_each hw
    obtain ⟨w3, hw⟩ := weights_each hw
    have hb : Rows.uptoBulkAll [d0, d1, d2, d3] ≤ 1048576 := of_decide_eq_true (hk _ rfl)
    simp only [Rows.uptoBulkAll] at hb
    obtain ⟨A0, c0, l0, rfl, hv0, hlc0, hcm0, hA0, hcb0, hQ0⟩ := rd_slice Tryz.underlying57 (by kernel_rfl) el_rule (hval 0 57 v0 rfl rfl) h0 w0
    have hR0 : RulesR W 0 A0 c0 l0 := ⟨hv0, hQ0, ⟨hlc0, hcm0, hA0, Nat.le_trans (Nat.mul_le_mul_right _ hlc0) (by rw [by_rule] at hcb0; exact hcb0)⟩⟩
    obtain ⟨A1, c1, l1, rfl, hv1, hlc1, hcm1, hA1, hcb1, hQ1⟩ := rd_slice_b (N := 1048576) Tryz.underlying58 (by kernel_rfl) el_appr_b (hval 1 58 v1 rfl rfl) h1 w1 (by omega)
    obtain ⟨⟨A2, c2, l2⟩, rfl, hT2⟩ := rd_agg Tryz.underlying61 el_tree (hval 2 61 v2 rfl rfl) h2 w2
    obtain ⟨⟨A3, c3, l3⟩, rfl, hT3⟩ := rd_agg Tryz.underlying61 el_tree (hval 3 61 v3 rfl rfl) h3 w3
    exact law36_any W A0 c0 l0 hR0 A1 c1 l1 hv1 hlc1 hcm1 A2 c2 l2 hT2 A3 c3 l3 hT3 (fun p hp => Nat.le_trans (hQ1 p hp) (by decide))
theorem approvalsMissingMatchesSpec_said : Rows.ApprovalsMissingMatchesSpecUptoSaid :=
  OpenClaim.holds_of_cond 5 Tryz.f5 rfl rfl rfl rfl rfl rfl rfl ⟨rfl, rfl, rfl, rfl, rfl⟩ rfl rfl rfl rfl rfl (by kernel_rfl) Tryz.func5 (by kernel_rfl)
    (of_decide_eq_true (by kernel_rfl)) (by unfold Func.isWrapper; first | (rw [if_pos (by decide +kernel)]; kernel_rfl) | (rw [if_neg (by decide +kernel)]; exact ⟨rfl, rfl⟩))
    (fun os started H enc _ F => by rw [OpenClaim.pre_eq_preRow]; exact approvalsMissingMatchesSpec_lifted os started H enc F)
theorem approvalsMissingMatchesSpec_plain (f : FuncId) (fn : Func) (hf : Tryz.pinned.checked.prog.funcNamed "changeforge/changeforgelaw7.ApprovalsMissingMatchesSpec" = some f) (hfn : Tryz.pinned.checked.prog.funcs[f]? = some fn) :
    true = Tryz.pinned.checked.prog.looks [] ∧ ∀ (j : Nat) t, fn.params[j]? = some t → Tryz.pinned.checked.prog.wantsStandIn t = false := by
  obtain rfl : f = 5 := Option.some.inj ((show Tryz.prog.funcNamed "changeforge/changeforgelaw7.ApprovalsMissingMatchesSpec" = some 5 by kernel_rfl).symm.trans hf) |>.symm
  obtain rfl : fn = Tryz.f5 := (Option.some.inj (Tryz.func5.symm.trans hfn)).symm
  refine ⟨by kernel_rfl, fun j t ht => ?_⟩
  rw [Tryz.params5] at ht
  have hm : t ∈ [57, 58, 61, 61] := by simpa using Array.mem_of_getElem? ht
  have hall : ([57, 58, 61, 61].all fun u => !Tryz.prog.wantsStandIn u) = true := by kernel_rfl
  exact (show Tryz.prog.wantsStandIn t = false by simpa using List.all_eq_true.1 hall t hm)
theorem approvalsMissingMatchesSpec_holds : Rows.ApprovalsMissingMatchesSpecUptoCardSaid :=
  Claim7.holds_tied_plain_at .later [] _ _ _ _ approvalsMissingMatchesSpec_said (fun _ h => by cases h) (by kernel_rfl) (fun _ h => by cases h) approvalsMissingMatchesSpecUpto_row_tie rfl ⟨rfl, rfl⟩ (by kernel_rfl) rfl approvalsMissingMatchesSpec_plain (by kernel_rfl)
end Go.Proofs.YtbkameioedmlkaaGreatDoor
