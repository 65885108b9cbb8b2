/-
  GlobFixedIsPrefix: for every pattern and path the law returns true (the tied card).
-/
import Derived.Test.YtijpaljdclhehaaDoorGlobW29
import Derived.Test.YtijpaljdclhehaaDoorLibT
import Derived.Test.YtijpaljdclhehaaDoorCards
import Derived.Test.YtijpaljdclhehaaDoorTie
namespace Go.Proofs.YtijpaljdclhehaaDoor
open Go.ChangeShapes Go.WideShapes Go.ChangeAt Go.RowKit Go.Cf

set_option maxRecDepth 100000 in
theorem globFixedIsPrefix_lifted (os : Os) (started : os.Started) (H : Type) (enc : TypeId × Value → H) (F : Stop.Interp) :
    ReturnsInHanded {} Tryd.checked os 13 .any ((OpenSpec.ofChange Rows.globFixedIsPrefixSpec).preRow enc Tryd.prog Tryd.f13 Rows.globFixedIsPrefixRow.domain false Rows.globFixedIsPrefixRow.laid) (((OpenSpec.ofChange Rows.globFixedIsPrefixSpec).at F).post enc Tryd.prog Tryd.f13 false true false false) := by
  refine law_lift_row (C := Tryd.checked) (s := OpenSpec.ofChange Rows.globFixedIsPrefixSpec) (tb := 4) (by kernel_rfl) started (by kernel_rfl) Tryd.func13
    (witness_row_at (enc := enc) (C := Tryd.checked) false ({ (World.holding Tryd.prog os ⟨#[], #[], []⟩) with heap := ((World.holding Tryd.prog os ⟨#[], #[], []⟩).heap.modify 1 fun | .cells _ t fz => .cells (Go.Pinned.utf8FirstZ.map fun n : Nat => Value.int .u8 (n : Int)).toArray t fz | o => o).modify 2 fun | .cells _ t fz => .cells (([128, 191, 160, 191, 128, 159, 144, 191, 128, 143, 0, 0, 0, 0, 0, 0, 0, 0, 0, 0, 0, 0, 0, 0, 0, 0, 0, 0, 0, 0, 0, 0] : List Nat).map fun n : Nat => Value.int .u8 (n : Int)).toArray t fz | o => o } : World) #[.string .empty, .string .empty] rfl (by kernel_rfl) (by kernel_rfl) (by kernel_rfl)
      (OpenSpec.preRow_of_cond 8 (show DataW.whole enc Tryd.prog _ Tryd.f13.params.toList _ false _ 8 = some ([.lit (.string []), .lit (.string [])], [], []) by kernel_rfl) (by kernel_rfl) (fun k hk => by cases hk) (by kernel_rfl) (laidMet_of_run' 8 (by kernel_rfl) (by kernel_rfl))))
    (by kernel_rfl) (by kernel_rfl) (by kernel_rfl) Tryd.underlying4 rfl rfl rfl ?_ ?_
  · intro ds hds
    rw [show Tryd.f13.params.size = 2 from by rw [Tryd.params13]; rfl] at hds
    match ds, hds with
    | [d0, d1], _ => exact ⟨rfl, rfl, rfl⟩
  · intro W base args ds p hval hA hw hk hL
    rw [show Tryd.f13.params.toList = [9, 9] from by rw [Tryd.params13]] at hA hw
    rw [Tryd.params13] at hval
    obtain ⟨v0, vs0, d0, ds0, p0, q0, hargs, rfl, rfl, h0, r0⟩ := trodAll_cons hA
    obtain ⟨v1, vs1, d1, ds1, p1, q1, rfl, rfl, rfl, h1, r1⟩ := trodAll_cons r0
    obtain ⟨rfl, rfl, rfl⟩ := trodAll_nil r1
    obtain rfl : args = #[v0, v1] := by cases args; simp_all
    obtain ⟨w0, hw⟩ := weights_each hw
    obtain ⟨w1, hw⟩ := weights_each hw
    obtain ⟨s0, rfl, rfl, hs0⟩ := rd_string Tryd.underlying9 (hval 0 9 v0 rfl rfl) h0 w0
    obtain ⟨s1, rfl, rfl, hs1⟩ := rd_string Tryd.underlying9 (hval 1 9 v1 rfl rfl) h1 w1
    exact law29_any W s0 s1 hs1

theorem globFixedIsPrefix_said : Rows.GlobFixedIsPrefixSaid :=
  OpenClaim.holds_of_cond 13 Tryd.f13 rfl rfl rfl rfl rfl rfl rfl ⟨rfl, rfl, rfl, rfl, rfl⟩ rfl rfl rfl rfl rfl (by kernel_rfl) Tryd.func13 (by kernel_rfl)
    (of_decide_eq_true (by kernel_rfl)) (by unfold Func.isWrapper; first | (rw [if_pos (by decide +kernel)]; kernel_rfl) | (rw [if_neg (by decide +kernel)]; exact ⟨rfl, rfl⟩))
    (fun os started H enc _ F => by rw [OpenClaim.pre_eq_preRow]; exact globFixedIsPrefix_lifted os started H enc F)
theorem globFixedIsPrefix_plain (f : FuncId) (fn : Func) (hf : Tryd.pinned.checked.prog.funcNamed "changeforge/changeforgelaw7.GlobFixedIsPrefix" = some f) (hfn : Tryd.pinned.checked.prog.funcs[f]? = some fn) :
    false = Tryd.pinned.checked.prog.looks [] ∧ ∀ (j : Nat) t, fn.params[j]? = some t → Tryd.pinned.checked.prog.wantsStandIn t = false := by
  obtain rfl : f = 13 := Option.some.inj ((show Tryd.prog.funcNamed "changeforge/changeforgelaw7.GlobFixedIsPrefix" = some 13 by kernel_rfl).symm.trans hf) |>.symm
  obtain rfl : fn = Tryd.f13 := (Option.some.inj (Tryd.func13.symm.trans hfn)).symm
  refine ⟨by kernel_rfl, fun j t ht => ?_⟩
  rw [Tryd.params13] at ht
  have hm : t ∈ [9, 9] := by simpa using Array.mem_of_getElem? ht
  have hall : ([9, 9].all fun u => !Tryd.prog.wantsStandIn u) = true := by kernel_rfl
  exact (show Tryd.prog.wantsStandIn t = false by simpa using List.all_eq_true.1 hall t hm)
theorem globFixedIsPrefix_holds : Rows.GlobFixedIsPrefixCardSaid :=
  Claim7.holds_tied_plain_at .later [] _ _ _ _ globFixedIsPrefix_said (fun _ h => by cases h) (by kernel_rfl) (fun _ h => by cases h) globFixedIsPrefix_row_tie rfl ⟨rfl, rfl⟩ (by kernel_rfl) rfl globFixedIsPrefix_plain (by kernel_rfl)
end Go.Proofs.YtijpaljdclhehaaDoor
