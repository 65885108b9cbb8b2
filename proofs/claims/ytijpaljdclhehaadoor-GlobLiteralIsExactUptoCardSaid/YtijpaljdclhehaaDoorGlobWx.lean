/- walks, printed by program -/
import Derived.Test.YtijpaljdclhehaaDoorGlobL
import Derived.Test.YtijpaljdclhehaaDoorGlobS
namespace Go.Proofs.YtijpaljdclhehaaDoor
open Go.RowKit Go.Cf
set_option maxRecDepth 10000



theorem ex1 : matchV ⟨#[115, 114, 99, 47, 42, 42, 47, 42, 46, 103, 111]⟩ ⟨#[115, 114, 99, 47, 120, 47, 97, 46, 103, 111]⟩ = true ∧ (matchF ⟨#[115, 114, 99, 47, 42, 42, 47, 42, 46, 103, 111]⟩ ⟨#[115, 114, 99, 47, 120, 47, 97, 46, 103, 111]⟩).code = 0 := by decide +kernel
theorem ex2 : matchV ⟨#[42, 46, 103, 111]⟩ ⟨#[120, 47, 97, 46, 103, 111]⟩ = false ∧ (matchF ⟨#[42, 46, 103, 111]⟩ ⟨#[120, 47, 97, 46, 103, 111]⟩).code = 0 := by decide +kernel
theorem ex3 : overV ⟨#[97, 42, 47, 120]⟩ ⟨#[63, 98, 47, 42, 42]⟩ = true ∧ (overF ⟨#[97, 42, 47, 120]⟩ ⟨#[63, 98, 47, 42, 42]⟩).code = 0 := by decide +kernel
set_option maxHeartbeats 2000000 in
theorem globExample_any (w : World) : Calls Tryd.prog 16 #[] w fun e w' => e = .returned (.bool true) ∧ Below w.heap.size w w' := by
  refine gcalls Tryd.func16 rfl Tryd.ntmps16 (Nat.le_of_ble_eq_true rfl) ?_
  refine gfrom [] trivial fun σ => ?_
  refine gseq fun N1 hN1 => ?_
  refine greg ?_
  refine gop (y_assign (v := .bool _) rfl) rfl rfl rfl ?_
  refine gops_nil ?_
  refine hN1 _ _ ?_
  refine gfrom [] trivial fun σ => ?_
  refine gseq fun N2 hN2 => ?_
  refine greg ?_
  refine gop_pure (e_call (vs := [_, _]) Tryd.func14 rfl (by kernel_rfl) rfl) (fun w hM => match_any w _ _) rfl rfl rfl ?_
  refine gop (y_move (v := .tuple #[.bool _, .agg #[_, _]]) rfl) rfl rfl rfl ?_
  refine gop (y_extract (v := .bool _) rfl rfl) rfl rfl rfl ?_
  refine gop (y_extract (v := .agg #[_, _]) rfl rfl) rfl rfl rfl ?_
  refine gop_alloc (cs := #[.int .i64 0, .int .i64 0]) Tryd.zeroValue23 rfl rfl (fun b2 hb2 => ?_)
  refine gop (y_assign (v := .bool _) rfl) rfl rfl rfl ?_
  refine gop_store 0 (v := .agg #[_, _]) (cs' := #[_, _]) rfl rfl Tryd.sizeOf23 rfl rfl rfl rfl (Nat.le_of_ble_eq_true rfl) rfl rfl ?_
  refine gops_nil ?_
  refine hN2 _ _ ?_
  refine gT [box b2 _] rfl ?_
  refine gfrom [(1, .bool _), (2, .pointer _)] ⟨rfl, rfl, trivial⟩ fun σ => ?_
  refine gseq fun N3 hN3 => ?_
  refine greg ?_
  refine gop_pure (e_call (vs := [_, _]) Tryd.func14 rfl (by kernel_rfl) rfl) (fun w hM => match_any w _ _) rfl rfl rfl ?_
  refine gop (y_move (v := .tuple #[.bool _, .agg #[_, _]]) rfl) rfl rfl rfl ?_
  refine gop (y_extract (v := .bool _) rfl rfl) rfl rfl rfl ?_
  refine gop (y_extract (v := .agg #[_, _]) rfl rfl) rfl rfl rfl ?_
  refine gop_alloc (cs := #[.int .i64 0, .int .i64 0]) Tryd.zeroValue23 rfl rfl (fun b4 hb4 => ?_)
  refine gop (y_assign (v := .bool _) rfl) rfl rfl rfl ?_
  refine gop_store 1 (v := .agg #[_, _]) (cs' := #[_, _]) rfl rfl Tryd.sizeOf23 rfl rfl rfl rfl (Nat.le_of_ble_eq_true rfl) rfl rfl ?_
  refine gops_nil ?_
  refine hN3 _ _ ?_
  refine gT [box b2 _, box b4 _] rfl ?_
  refine gfrom [(1, .bool _), (2, .pointer _), (3, .bool _), (4, .pointer _)] ⟨rfl, rfl, rfl, rfl, trivial⟩ fun σ => ?_
  refine gseq fun N4 hN4 => ?_
  refine greg ?_
  refine gop_pure (e_call (vs := [_, _]) Tryd.func15 rfl (by kernel_rfl) rfl) (fun w hM => over_any w _ _) rfl rfl rfl ?_
  refine gop (y_move (v := .tuple #[.bool _, .agg #[_, _]]) rfl) rfl rfl rfl ?_
  refine gop (y_extract (v := .bool _) rfl rfl) rfl rfl rfl ?_
  refine gop (y_extract (v := .agg #[_, _]) rfl rfl) rfl rfl rfl ?_
  refine gop_alloc (cs := #[.int .i64 0, .int .i64 0]) Tryd.zeroValue23 rfl rfl (fun b6 hb6 => ?_)
  refine gop (y_assign (v := .bool _) rfl) rfl rfl rfl ?_
  refine gop_store 2 (v := .agg #[_, _]) (cs' := #[_, _]) rfl rfl Tryd.sizeOf23 rfl rfl rfl rfl (Nat.le_of_ble_eq_true rfl) rfl rfl ?_
  refine gops_nil ?_
  refine hN4 _ _ ?_
  refine gT [box b2 _, box b4 _, box b6 _] rfl ?_
  refine gfrom [(1, .bool _), (2, .pointer _), (3, .bool _), (4, .pointer _), (5, .bool _), (6, .pointer _)] ⟨rfl, rfl, rfl, rfl, rfl, rfl, trivial⟩ fun σ => ?_
  refine gseq fun N5 hN5 => ?_
  refine greg ?_
  refine gop (y_move (v := .bool _) rfl) rfl rfl rfl ?_
  refine gop (y_move (v := .bool _) rfl) rfl rfl rfl ?_
  refine gop_if (want := true) rfl rfl rfl rfl rfl rfl (fun hg20 => ?_) (fun hg20 => ?_)
  · -- guard 20 on
    have hg20d := hg20
    refine gop (y_bare (y_move (v := .bool _) rfl)) rfl rfl rfl ?_
    refine gop_on rfl rfl rfl rfl hg20 ?_
    refine gop (y_bare (y_not rfl)) rfl rfl rfl ?_
    refine gop (y_pick_t (v := .bool _) rfl hg20 rfl) rfl rfl rfl ?_
    refine gop (y_move (v := .bool _) rfl) rfl rfl rfl ?_
    refine gop_if (want := true) rfl rfl rfl rfl rfl rfl (fun hg24 => ?_) (fun hg24 => ?_)
    · -- guard 24 on
      have hg24d := not_t hg24
      refine gop (y_bare (y_move (v := .bool _) rfl)) rfl rfl rfl ?_
      refine gop (y_pick_t (v := .bool _) rfl hg24 rfl) rfl rfl rfl ?_
      refine gop (y_move (v := .bool _) rfl) rfl rfl rfl ?_
      refine gop_if (want := true) rfl rfl rfl rfl rfl rfl (fun hg27 => ?_) (fun hg27 => ?_)
      · -- guard 27 on
        have hg27d := hg27
        refine gop (y_bare (y_fieldAddr_box fa23_0 rfl)) rfl rfl rfl ?_
        refine gop_on rfl rfl rfl rfl hg27 ?_
        refine gop (y_bare (y_load Tryd.isAgg3 rfl (cell_box 0 rfl rfl))) rfl rfl rfl ?_
        refine gop_on rfl rfl rfl rfl hg27 ?_
        refine gop (y_bare (y_eql rfl rfl)) rfl rfl rfl ?_
        refine gop (y_pick_t (v := .bool _) rfl hg27 rfl) rfl rfl rfl ?_
        refine gop (y_move (v := .bool _) rfl) rfl rfl rfl ?_
        refine gop_if (want := true) rfl rfl rfl rfl rfl rfl (fun hg32 => ?_) (fun hg32 => ?_)
        · -- guard 32 on
          have hg32d := of_decide_eq_true hg32
          refine gop (y_bare (y_fieldAddr_box fa23_0 rfl)) rfl rfl rfl ?_
          refine gop_on rfl rfl rfl rfl hg32 ?_
          refine gop (y_bare (y_load Tryd.isAgg3 rfl (cell_box 1 rfl rfl))) rfl rfl rfl ?_
          refine gop_on rfl rfl rfl rfl hg32 ?_
          refine gop (y_bare (y_eql rfl rfl)) rfl rfl rfl ?_
          refine gop (y_pick_t (v := .bool _) rfl hg32 rfl) rfl rfl rfl ?_
          refine gop (y_move (v := .bool _) rfl) rfl rfl rfl ?_
          refine gop_if (want := true) rfl rfl rfl rfl rfl rfl (fun hg37 => ?_) (fun hg37 => ?_)
          · -- guard 37 on
            have hg37d := of_decide_eq_true hg37
            refine gop (y_bare (y_fieldAddr_box fa23_0 rfl)) rfl rfl rfl ?_
            refine gop_on rfl rfl rfl rfl hg37 ?_
            refine gop (y_bare (y_load Tryd.isAgg3 rfl (cell_box 2 rfl rfl))) rfl rfl rfl ?_
            refine gop_on rfl rfl rfl rfl hg37 ?_
            refine gop (y_bare (y_eql rfl rfl)) rfl rfl rfl ?_
            refine gop (y_pick_t (v := .bool _) rfl hg37 rfl) rfl rfl rfl ?_
            refine gop (y_assign (v := .bool _) rfl) rfl rfl rfl ?_
            refine gops_nil ?_
            refine hN5 _ _ ?_
            refine gfrom [(0, .bool _)] ⟨rfl, trivial⟩ fun σ => ?_
            refine gret fun w1 hM => ?_
            refine ⟨_, res1 rfl (rt (v := .bool _) rfl), ?_⟩
            exact ⟨by rw [ex3.2]; rfl, hM.low⟩
          · -- guard 37 off
             exact absurd ex2.2 (of_decide_eq_false hg37)
        · -- guard 32 off
           exact absurd ex1.2 (of_decide_eq_false hg32)
      · -- guard 27 off
         exact absurd (ex3.1.symm.trans hg27) (by decide)
    · -- guard 24 off
       rw [ex2.1] at hg24; exact absurd hg24 (by decide)
  · -- guard 20 off
     exact absurd (ex1.1.symm.trans hg20) (by decide)
end Go.Proofs.YtijpaljdclhehaaDoor
