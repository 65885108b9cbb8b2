/- walks, printed by program -/
import Derived.Test.YtijpaljdclhehaaDoorGlobX
import Derived.Test.YtijpaljdclhehaaDoorGlobWx
namespace Go.Proofs.YtijpaljdclhehaaDoor
open Go.RowKit Go.Cf
set_option maxRecDepth 10000



set_option maxHeartbeats 2000000 in
theorem law28_any (w : World) (s o p : ByteArray) (hs : s.size ≤ 4000000) : Calls Tryd.prog 12 #[.string s, .string o, .string p] w fun e w' => e = .returned (.bool true) ∧ Below w.heap.size w w' := by
  refine gcalls Tryd.func12 rfl Tryd.ntmps12 (Nat.le_of_ble_eq_true rfl) ?_
  refine gfrom [(0, .string _), (1, .string _), (2, .string _)] ⟨rfl, rfl, rfl, trivial⟩ fun σ => ?_
  refine gseq fun N1 hN1 => ?_
  refine greg ?_
  refine gop (y_assign (v := .bool _) rfl) rfl rfl rfl ?_
  refine gops_nil ?_
  refine hN1 _ _ ?_
  refine gfrom [(0, .string _), (1, .string _), (2, .string _)] ⟨rfl, rfl, rfl, trivial⟩ fun σ => ?_
  refine gseq fun N2 hN2 => ?_
  refine greg ?_
  refine gop (y_move (v := .string _) rfl) rfl rfl rfl ?_
  refine gop (y_move (v := .string _) rfl) rfl rfl rfl ?_
  refine gop_pure (e_call (vs := [.string _, .string _]) Tryd.func14 rfl (by kernel_rfl) rfl) (fun w hM => match_any w _ _) rfl rfl rfl ?_
  refine gop (y_move (v := .tuple #[.bool _, .agg #[_, _]]) rfl) rfl rfl rfl ?_
  refine gop (y_extract (v := .bool _) rfl rfl) rfl rfl rfl ?_
  refine gop (y_extract (v := .agg #[_, _]) rfl rfl) rfl rfl rfl ?_
  refine gop_alloc (cs := #[.int .i64 0, .int .i64 0]) Tryd.zeroValue23 rfl rfl (fun b8 hb8 => ?_)
  refine gop (y_assign (v := .bool _) rfl) rfl rfl rfl ?_
  refine gop_store 0 (v := .agg #[_, _]) (cs' := #[_, _]) rfl rfl Tryd.sizeOf23 rfl rfl rfl rfl (Nat.le_of_ble_eq_true rfl) rfl rfl ?_
  refine gops_nil ?_
  refine hN2 _ _ ?_
  refine gT [box b8 _] rfl ?_
  refine gfrom [(0, .string _), (1, .string _), (2, .string _), (7, .bool _), (8, .pointer _)] ⟨rfl, rfl, rfl, rfl, rfl, trivial⟩ fun σ => ?_
  refine gseq fun N3 hN3 => ?_
  refine greg ?_
  refine gop (y_move (v := .string _) rfl) rfl rfl rfl ?_
  refine gop (y_move (v := .string _) rfl) rfl rfl rfl ?_
  refine gop_pure (e_call (vs := [.string _, .string _]) Tryd.func14 rfl (by kernel_rfl) rfl) (fun w hM => match_any w _ _) rfl rfl rfl ?_
  refine gop (y_move (v := .tuple #[.bool _, .agg #[_, _]]) rfl) rfl rfl rfl ?_
  refine gop (y_extract (v := .bool _) rfl rfl) rfl rfl rfl ?_
  refine gop (y_extract (v := .agg #[_, _]) rfl rfl) rfl rfl rfl ?_
  refine gop_alloc (cs := #[.int .i64 0, .int .i64 0]) Tryd.zeroValue23 rfl rfl (fun b10 hb10 => ?_)
  refine gop (y_assign (v := .bool _) rfl) rfl rfl rfl ?_
  refine gop_store 1 (v := .agg #[_, _]) (cs' := #[_, _]) rfl rfl Tryd.sizeOf23 rfl rfl rfl rfl (Nat.le_of_ble_eq_true rfl) rfl rfl ?_
  refine gops_nil ?_
  refine hN3 _ _ ?_
  refine gT [box b8 _, box b10 _] rfl ?_
  refine gfrom [(0, .string _), (1, .string _), (2, .string _), (7, .bool _), (8, .pointer _), (9, .bool _), (10, .pointer _)] ⟨rfl, rfl, rfl, rfl, rfl, rfl, rfl, trivial⟩ fun σ => ?_
  refine gseq fun N4 hN4 => ?_
  refine greg ?_
  refine gop (y_move (v := .string _) rfl) rfl rfl rfl ?_
  refine gop (y_move (v := .string _) rfl) rfl rfl rfl ?_
  refine gop_pure (e_call (vs := [.string _, .string _]) Tryd.func14 rfl (by kernel_rfl) rfl) (fun w hM => match_any w _ _) rfl rfl rfl ?_
  refine gop (y_move (v := .tuple #[.bool _, .agg #[_, _]]) rfl) rfl rfl rfl ?_
  refine gop (y_extract (v := .bool _) rfl rfl) rfl rfl rfl ?_
  refine gop (y_extract (v := .agg #[_, _]) rfl rfl) rfl rfl rfl ?_
  refine gop_alloc (cs := #[.int .i64 0, .int .i64 0]) Tryd.zeroValue23 rfl rfl (fun b12 hb12 => ?_)
  refine gop (y_assign (v := .bool _) rfl) rfl rfl rfl ?_
  refine gop_store 2 (v := .agg #[_, _]) (cs' := #[_, _]) rfl rfl Tryd.sizeOf23 rfl rfl rfl rfl (Nat.le_of_ble_eq_true rfl) rfl rfl ?_
  refine gops_nil ?_
  refine hN4 _ _ ?_
  refine gT [box b8 _, box b10 _, box b12 _] rfl ?_
  refine gfrom [(0, .string _), (1, .string _), (2, .string _), (7, .bool _), (8, .pointer _), (9, .bool _), (10, .pointer _), (11, .bool _), (12, .pointer _)] ⟨rfl, rfl, rfl, rfl, rfl, rfl, rfl, rfl, rfl, trivial⟩ fun σ => ?_
  refine gseq fun N5 hN5 => ?_
  refine greg ?_
  refine gop (y_move (v := .string _) rfl) rfl rfl rfl ?_
  refine gop (y_move (v := .string _) rfl) rfl rfl rfl ?_
  refine gop_pure (e_call (vs := [.string _, .string _]) Tryd.func15 rfl (by kernel_rfl) rfl) (fun w hM => over_any w _ _) rfl rfl rfl ?_
  refine gop (y_move (v := .tuple #[.bool _, .agg #[_, _]]) rfl) rfl rfl rfl ?_
  refine gop (y_extract (v := .bool _) rfl rfl) rfl rfl rfl ?_
  refine gop (y_extract (v := .agg #[_, _]) rfl rfl) rfl rfl rfl ?_
  refine gop_alloc (cs := #[.int .i64 0, .int .i64 0]) Tryd.zeroValue23 rfl rfl (fun b14 hb14 => ?_)
  refine gop (y_assign (v := .bool _) rfl) rfl rfl rfl ?_
  refine gop_store 3 (v := .agg #[_, _]) (cs' := #[_, _]) rfl rfl Tryd.sizeOf23 rfl rfl rfl rfl (Nat.le_of_ble_eq_true rfl) rfl rfl ?_
  refine gops_nil ?_
  refine hN5 _ _ ?_
  refine gT [box b8 _, box b10 _, box b12 _, box b14 _] rfl ?_
  refine gfrom [(0, .string _), (1, .string _), (7, .bool _), (8, .pointer _), (9, .bool _), (10, .pointer _), (11, .bool _), (12, .pointer _), (13, .bool _), (14, .pointer _)] ⟨rfl, rfl, rfl, rfl, rfl, rfl, rfl, rfl, rfl, rfl, trivial⟩ fun σ => ?_
  refine gseq fun N6 hN6 => ?_
  refine greg ?_
  refine gop (y_move (v := .string _) rfl) rfl rfl rfl ?_
  refine gop_pure (e_call (vs := [.string _]) Tryd.func37 rfl (by kernel_rfl) rfl) (fun w hM => fixed_any w _) rfl rfl rfl ?_
  refine gop (y_move (v := .tuple #[.string _, .agg #[_, _]]) rfl) rfl rfl rfl ?_
  refine gop (y_extract (v := .string _) rfl rfl) rfl rfl rfl ?_
  refine gop (y_extract (v := .agg #[_, _]) rfl rfl) rfl rfl rfl ?_
  refine gop_alloc (cs := #[.int .i64 0, .int .i64 0]) Tryd.zeroValue23 rfl rfl (fun b16 hb16 => ?_)
  refine gop (y_assign (v := .string _) rfl) rfl rfl rfl ?_
  refine gop_store 4 (v := .agg #[_, _]) (cs' := #[_, _]) rfl rfl Tryd.sizeOf23 rfl rfl rfl rfl (Nat.le_of_ble_eq_true rfl) rfl rfl ?_
  refine gops_nil ?_
  refine hN6 _ _ ?_
  refine gT [box b8 _, box b10 _, box b12 _, box b14 _, box b16 _] rfl ?_
  refine gfrom [(0, .string _), (1, .string _), (7, .bool _), (8, .pointer _), (9, .bool _), (10, .pointer _), (11, .bool _), (12, .pointer _), (13, .bool _), (14, .pointer _), (15, .string _), (16, .pointer _)] ⟨rfl, rfl, rfl, rfl, rfl, rfl, rfl, rfl, rfl, rfl, rfl, rfl, trivial⟩ fun σ => ?_
  refine gseq fun N7 hN7 => ?_
  refine gseq fun N8 hN8 => ?_
  refine greg ?_
  refine gop_pure (e_call (vs := []) Tryd.func16 rfl (by kernel_rfl) rfl) (fun w hM => globExample_any w) rfl rfl rfl ?_
  refine gop (y_not rfl) rfl rfl rfl ?_
  refine gops_nil ?_
  refine hN8 _ _ ?_
  refine gfrom [(0, .string _), (1, .string _), (7, .bool _), (8, .pointer _), (9, .bool _), (10, .pointer _), (11, .bool _), (12, .pointer _), (13, .bool _), (14, .pointer _), (15, .string _), (16, .pointer _), (47, .bool _)] ⟨rfl, rfl, rfl, rfl, rfl, rfl, rfl, rfl, rfl, rfl, rfl, rfl, rfl, trivial⟩ fun σ => ?_
  refine gcond (b := _) rfl (fun hc47 => ?_) (fun hc47 => ?_)
  · -- slot 47 t
     exact absurd hc47 (by decide)
  · -- slot 47 f
    replace hc47 := not_f hc47
    refine gskip ?_
    refine hN7 _ _ ?_
    refine gfrom [(0, .string _), (1, .string _), (7, .bool _), (8, .pointer _), (9, .bool _), (10, .pointer _), (11, .bool _), (12, .pointer _), (13, .bool _), (14, .pointer _), (15, .string _), (16, .pointer _)] ⟨rfl, rfl, rfl, rfl, rfl, rfl, rfl, rfl, rfl, rfl, rfl, rfl, trivial⟩ fun σ => ?_
    refine gseq fun N9 hN9 => ?_
    refine gseq fun N10 hN10 => ?_
    refine greg ?_
    refine gop (y_move (v := .string _) rfl) rfl rfl rfl ?_
    refine gop_pure (e_call (vs := [.string _]) Tryd.func17 rfl (by kernel_rfl) rfl) (fun w hM => isPath_any w _ hs) rfl rfl rfl ?_
    refine gop (y_not rfl) rfl rfl rfl ?_
    refine gops_nil ?_
    refine hN10 _ _ ?_
    refine gfrom [(0, .string _), (1, .string _), (7, .bool _), (8, .pointer _), (9, .bool _), (10, .pointer _), (11, .bool _), (12, .pointer _), (13, .bool _), (14, .pointer _), (15, .string _), (16, .pointer _), (50, .bool _)] ⟨rfl, rfl, rfl, rfl, rfl, rfl, rfl, rfl, rfl, rfl, rfl, rfl, rfl, trivial⟩ fun σ => ?_
    refine gcond (b := _) rfl (fun hc50 => ?_) (fun hc50 => ?_)
    · -- slot 50 t
      replace hc50 := not_t hc50
      refine gseq fun N11 hN11 => ?_
      refine greg ?_
      refine gop (y_fieldAddr_box fa23_0 rfl) rfl rfl rfl ?_
      refine gop (y_load Tryd.isAgg3 rfl (cell_box 0 rfl rfl)) rfl rfl rfl ?_
      refine gop (y_neq rfl rfl) rfl rfl rfl ?_
      refine gop (y_assign (v := .bool _) rfl) rfl rfl rfl ?_
      refine gops_nil ?_
      refine hN11 _ _ ?_
      refine gfrom [(6, .bool _)] ⟨rfl, trivial⟩ fun σ => ?_
      refine gret fun w1 hM => ?_
      refine ⟨_, res1 rfl (rt (v := .bool _) rfl), ?_⟩
      exact ⟨by rw [decide_eq_true (bad_path hc50)], hM.low⟩
    · -- slot 50 f
      replace hc50 := not_f hc50
      have hlm := lit_match hc50
      refine gskip ?_
      refine hN9 _ _ ?_
      refine gfrom [(0, .string _), (1, .string _), (7, .bool _), (8, .pointer _), (9, .bool _), (10, .pointer _), (11, .bool _), (12, .pointer _), (13, .bool _), (14, .pointer _), (15, .string _), (16, .pointer _)] ⟨rfl, rfl, rfl, rfl, rfl, rfl, rfl, rfl, rfl, rfl, rfl, rfl, trivial⟩ fun σ => ?_
      refine gseq fun N12 hN12 => ?_
      refine gseq fun N13 hN13 => ?_
      refine greg ?_
      refine gop (y_fieldAddr_box fa23_0 rfl) rfl rfl rfl ?_
      refine gop (y_load Tryd.isAgg3 rfl (cell_box 0 rfl rfl)) rfl rfl rfl ?_
      refine gop (y_neq rfl rfl) rfl rfl rfl ?_
      refine gop (y_move (v := .bool _) rfl) rfl rfl rfl ?_
      refine gop_if (want := false) rfl rfl rfl rfl rfl rfl (fun hg57 => ?_) (fun hg57 => ?_)
      · -- guard 57 on
        have hg57d := Decidable.not_not.1 (of_decide_eq_false hg57)
        refine gop (y_bare (y_move (v := .bool _) rfl)) rfl rfl rfl ?_
        refine gop_on rfl rfl rfl rfl hg57 ?_
        refine gop (y_bare (y_not rfl)) rfl rfl rfl ?_
        refine gop (y_pick_f (v := .bool _) rfl hg57 rfl) rfl rfl rfl ?_
        refine gop (y_move (v := .bool _) rfl) rfl rfl rfl ?_
        refine gop_if (want := false) rfl rfl rfl rfl rfl rfl (fun hg61 => ?_) (fun hg61 => ?_)
        · -- guard 61 on
          have hg61d := not_f hg61
          refine gop (y_bare (y_fieldAddr_box fa23_0 rfl)) rfl rfl rfl ?_
          refine gop_on rfl rfl rfl rfl hg61 ?_
          refine gop (y_bare (y_load Tryd.isAgg3 rfl (cell_box 4 rfl rfl))) rfl rfl rfl ?_
          refine gop_on rfl rfl rfl rfl hg61 ?_
          refine gop (y_bare (y_neq rfl rfl)) rfl rfl rfl ?_
          refine gop (y_pick_f (v := .bool _) rfl hg61 rfl) rfl rfl rfl ?_
          refine gop (y_move (v := .bool _) rfl) rfl rfl rfl ?_
          refine gop_if (want := false) rfl rfl rfl rfl rfl rfl (fun hg66 => ?_) (fun hg66 => ?_)
          · -- guard 66 on
            have hg66d := Decidable.not_not.1 (of_decide_eq_false hg66)
            refine gop (y_bare (y_move (v := .string _) rfl)) rfl rfl rfl ?_
            refine gop_on rfl rfl rfl rfl hg66 ?_
            refine gop (y_bare (y_move (v := .string _) rfl)) rfl rfl rfl ?_
            refine gop_on rfl rfl rfl rfl hg66 ?_
            refine gop (y_bare (y_neqs rfl rfl)) rfl rfl rfl ?_
            refine gop (y_pick_f (v := .bool _) rfl hg66 rfl) rfl rfl rfl ?_
            refine gops_nil ?_
            refine hN13 _ _ ?_
            refine gfrom [(0, .string _), (1, .string _), (9, .bool _), (10, .pointer _), (11, .bool _), (12, .pointer _), (13, .bool _), (14, .pointer _), (70, .bool _)] ⟨rfl, rfl, rfl, rfl, rfl, rfl, rfl, rfl, rfl, trivial⟩ fun σ => ?_
            refine gcond (b := _) rfl (fun hc70 => ?_) (fun hc70 => ?_)
            · -- slot 70 t
               rw [lit_fixed hc50] at hc70; simp at hc70
            · -- slot 70 f
              refine gskip ?_
              refine hN12 _ _ ?_
              refine gfrom [(0, .string _), (1, .string _), (9, .bool _), (10, .pointer _), (11, .bool _), (12, .pointer _), (13, .bool _), (14, .pointer _)] ⟨rfl, rfl, rfl, rfl, rfl, rfl, rfl, rfl, trivial⟩ fun σ => ?_
              refine gseq fun N14 hN14 => ?_
              refine gseq fun N15 hN15 => ?_
              refine greg ?_
              refine gop (y_fieldAddr_box fa23_0 rfl) rfl rfl rfl ?_
              refine gop (y_load Tryd.isAgg3 rfl (cell_box 1 rfl rfl)) rfl rfl rfl ?_
              refine gop (y_eql rfl rfl) rfl rfl rfl ?_
              refine gop (y_move (v := .bool _) rfl) rfl rfl rfl ?_
              refine gop_if (want := true) rfl rfl rfl rfl rfl rfl (fun hg74 => ?_) (fun hg74 => ?_)
              · -- guard 74 on
                have hg74d := of_decide_eq_true hg74
                refine gop (y_bare (y_move (v := .bool _) rfl)) rfl rfl rfl ?_
                refine gop_on rfl rfl rfl rfl hg74 ?_
                refine gop (y_bare (y_move (v := .string _) rfl)) rfl rfl rfl ?_
                refine gop_on rfl rfl rfl rfl hg74 ?_
                refine gop (y_bare (y_move (v := .string _) rfl)) rfl rfl rfl ?_
                refine gop_on rfl rfl rfl rfl hg74 ?_
                refine gop (y_bare (y_eqls rfl rfl)) rfl rfl rfl ?_
                refine gop_on rfl rfl rfl rfl hg74 ?_
                refine gop (y_bare (y_neqb rfl rfl Tryd.underlying4)) rfl rfl rfl ?_
                refine gop (y_pick_t (v := .bool _) rfl hg74 rfl) rfl rfl rfl ?_
                refine gops_nil ?_
                refine hN15 _ _ ?_
                refine gfrom [(11, .bool _), (12, .pointer _), (13, .bool _), (14, .pointer _), (80, .bool _)] ⟨rfl, rfl, rfl, rfl, rfl, trivial⟩ fun σ => ?_
                refine gcond (b := _) rfl (fun hc80 => ?_) (fun hc80 => ?_)
                · -- slot 80 t
                   rw [lit_exact hc50 (of_decide_eq_true hg74), strEq_dec] at hc80; simp at hc80
                · -- slot 80 f
                  refine gskip ?_
                  refine hN14 _ _ ?_
                  refine gfrom [(11, .bool _), (12, .pointer _), (13, .bool _), (14, .pointer _)] ⟨rfl, rfl, rfl, rfl, trivial⟩ fun σ => ?_
                  refine gseq fun N16 hN16 => ?_
                  refine greg ?_
                  refine gop (y_fieldAddr_box fa23_0 rfl) rfl rfl rfl ?_
                  refine gop (y_load Tryd.isAgg3 rfl (cell_box 2 rfl rfl)) rfl rfl rfl ?_
                  refine gop (y_neq rfl rfl) rfl rfl rfl ?_
                  refine gop (y_move (v := .bool _) rfl) rfl rfl rfl ?_
                  refine gop_if (want := false) rfl rfl rfl rfl rfl rfl (fun hg84 => ?_) (fun hg84 => ?_)
                  · -- guard 84 on
                    have hg84d := Decidable.not_not.1 (of_decide_eq_false hg84)
                    refine gop (y_bare (y_fieldAddr_box fa23_0 rfl)) rfl rfl rfl ?_
                    refine gop_on rfl rfl rfl rfl hg84 ?_
                    refine gop (y_bare (y_load Tryd.isAgg3 rfl (cell_box 3 rfl rfl))) rfl rfl rfl ?_
                    refine gop_on rfl rfl rfl rfl hg84 ?_
                    refine gop (y_bare (y_eql rfl rfl)) rfl rfl rfl ?_
                    refine gop_on rfl rfl rfl rfl hg84 ?_
                    refine gop (y_bare (y_move (v := .bool _) rfl)) rfl rfl rfl ?_
                    refine gop_if (want := true) rfl rfl rfl rfl rfl rfl (fun hg88 => ?_) (fun hg88 => ?_)
                    · -- guard 88 on
                      have hg88d := of_decide_eq_true hg88
                      refine gop (y_bare (y_move (v := .bool _) rfl)) rfl rfl rfl ?_
                      refine gop_on rfl rfl rfl rfl hg88 ?_
                      refine gop (y_bare (y_move (v := .bool _) rfl)) rfl rfl rfl ?_
                      refine gop_on rfl rfl rfl rfl hg88 ?_
                      refine gop (y_bare (y_eqlb rfl rfl Tryd.underlying4)) rfl rfl rfl ?_
                      refine gop_on rfl rfl rfl rfl hg84 ?_
                      refine gop (y_bare (y_pick_t (v := .bool _) rfl hg88 rfl)) rfl rfl rfl ?_
                      refine gop (y_pick_f (v := .bool _) rfl hg84 rfl) rfl rfl rfl ?_
                      refine gop (y_assign (v := .bool _) rfl) rfl rfl rfl ?_
                      refine gops_nil ?_
                      refine hN16 _ _ ?_
                      refine gfrom [(6, .bool _)] ⟨rfl, trivial⟩ fun σ => ?_
                      refine gret fun w1 hM => ?_
                      refine ⟨_, res1 rfl (rt (v := .bool _) rfl), ?_⟩
                      first | exact ⟨rfl, hM.low⟩ | exact ⟨by rw [(lit_over hc50 hg84d).2]; simp, hM.low⟩ | exact absurd (lit_over hc50 hg84d).1 hg88d
                    · -- guard 88 off
                      have hg88d := of_decide_eq_false hg88
                      refine gop_off rfl rfl rfl rfl hg88 rfl rfl ?_
                      refine gop_off rfl rfl rfl rfl hg88 rfl rfl ?_
                      refine gop_on rfl rfl rfl rfl hg84 ?_
                      refine gop (y_bare (y_pick_f (v := .bool _) rfl hg88 rfl)) rfl rfl rfl ?_
                      refine gop (y_pick_f (v := .bool _) rfl hg84 rfl) rfl rfl rfl ?_
                      refine gop (y_assign (v := .bool _) rfl) rfl rfl rfl ?_
                      refine gops_nil ?_
                      refine hN16 _ _ ?_
                      refine gfrom [(6, .bool _)] ⟨rfl, trivial⟩ fun σ => ?_
                      refine gret fun w1 hM => ?_
                      refine ⟨_, res1 rfl (rt (v := .bool _) rfl), ?_⟩
                      first | exact ⟨rfl, hM.low⟩ | exact ⟨by rw [(lit_over hc50 hg84d).2]; simp, hM.low⟩ | exact absurd (lit_over hc50 hg84d).1 hg88d
                  · -- guard 84 off
                    have hg84d := of_decide_eq_true hg84
                    refine gop_off rfl rfl rfl rfl hg84 rfl rfl ?_
                    refine gop_off rfl rfl rfl rfl hg84 rfl rfl ?_
                    refine gop_off rfl rfl rfl rfl hg84 rfl rfl ?_
                    refine gop_offu rfl rfl rfl rfl rfl rfl ?_
                    refine gop_offu rfl rfl rfl rfl rfl rfl ?_
                    refine gop_offu rfl rfl rfl rfl rfl rfl ?_
                    refine gop_off rfl rfl rfl rfl hg84 rfl rfl ?_
                    refine gop (y_pick_t (v := .bool _) rfl hg84 rfl) rfl rfl rfl ?_
                    refine gop (y_assign (v := .bool _) rfl) rfl rfl rfl ?_
                    refine gops_nil ?_
                    refine hN16 _ _ ?_
                    refine gfrom [(6, .bool _)] ⟨rfl, trivial⟩ fun σ => ?_
                    refine gret fun w1 hM => ?_
                    refine ⟨_, res1 rfl (rt (v := .bool _) rfl), ?_⟩
                    first | exact ⟨rfl, hM.low⟩ | exact ⟨by rw [(lit_over hc50 hg84d).2]; simp, hM.low⟩ | exact absurd (lit_over hc50 hg84d).1 hg88d
              · -- guard 74 off
                have hg74d := of_decide_eq_false hg74
                refine gop_off rfl rfl rfl rfl hg74 rfl rfl ?_
                refine gop_off rfl rfl rfl rfl hg74 rfl rfl ?_
                refine gop_off rfl rfl rfl rfl hg74 rfl rfl ?_
                refine gop_off rfl rfl rfl rfl hg74 rfl rfl ?_
                refine gop (y_pick_f (v := .bool _) rfl hg74 rfl) rfl rfl rfl ?_
                refine gops_nil ?_
                refine hN15 _ _ ?_
                refine gfrom [(11, .bool _), (12, .pointer _), (13, .bool _), (14, .pointer _), (80, .bool _)] ⟨rfl, rfl, rfl, rfl, rfl, trivial⟩ fun σ => ?_
                refine gcond (b := _) rfl (fun hc80 => ?_) (fun hc80 => ?_)
                · -- slot 80 t
                  cases hc80
                · -- slot 80 f
                  refine gskip ?_
                  refine hN14 _ _ ?_
                  refine gfrom [(11, .bool _), (12, .pointer _), (13, .bool _), (14, .pointer _)] ⟨rfl, rfl, rfl, rfl, trivial⟩ fun σ => ?_
                  refine gseq fun N17 hN17 => ?_
                  refine greg ?_
                  refine gop (y_fieldAddr_box fa23_0 rfl) rfl rfl rfl ?_
                  refine gop (y_load Tryd.isAgg3 rfl (cell_box 2 rfl rfl)) rfl rfl rfl ?_
                  refine gop (y_neq rfl rfl) rfl rfl rfl ?_
                  refine gop (y_move (v := .bool _) rfl) rfl rfl rfl ?_
                  refine gop_if (want := false) rfl rfl rfl rfl rfl rfl (fun hg84 => ?_) (fun hg84 => ?_)
                  · -- guard 84 on
                    have hg84d := Decidable.not_not.1 (of_decide_eq_false hg84)
                    refine gop (y_bare (y_fieldAddr_box fa23_0 rfl)) rfl rfl rfl ?_
                    refine gop_on rfl rfl rfl rfl hg84 ?_
                    refine gop (y_bare (y_load Tryd.isAgg3 rfl (cell_box 3 rfl rfl))) rfl rfl rfl ?_
                    refine gop_on rfl rfl rfl rfl hg84 ?_
                    refine gop (y_bare (y_eql rfl rfl)) rfl rfl rfl ?_
                    refine gop_on rfl rfl rfl rfl hg84 ?_
                    refine gop (y_bare (y_move (v := .bool _) rfl)) rfl rfl rfl ?_
                    refine gop_if (want := true) rfl rfl rfl rfl rfl rfl (fun hg88 => ?_) (fun hg88 => ?_)
                    · -- guard 88 on
                      have hg88d := of_decide_eq_true hg88
                      refine gop (y_bare (y_move (v := .bool _) rfl)) rfl rfl rfl ?_
                      refine gop_on rfl rfl rfl rfl hg88 ?_
                      refine gop (y_bare (y_move (v := .bool _) rfl)) rfl rfl rfl ?_
                      refine gop_on rfl rfl rfl rfl hg88 ?_
                      refine gop (y_bare (y_eqlb rfl rfl Tryd.underlying4)) rfl rfl rfl ?_
                      refine gop_on rfl rfl rfl rfl hg84 ?_
                      refine gop (y_bare (y_pick_t (v := .bool _) rfl hg88 rfl)) rfl rfl rfl ?_
                      refine gop (y_pick_f (v := .bool _) rfl hg84 rfl) rfl rfl rfl ?_
                      refine gop (y_assign (v := .bool _) rfl) rfl rfl rfl ?_
                      refine gops_nil ?_
                      refine hN17 _ _ ?_
                      refine gfrom [(6, .bool _)] ⟨rfl, trivial⟩ fun σ => ?_
                      refine gret fun w1 hM => ?_
                      refine ⟨_, res1 rfl (rt (v := .bool _) rfl), ?_⟩
                      first | exact ⟨rfl, hM.low⟩ | exact ⟨by rw [(lit_over hc50 hg84d).2]; simp, hM.low⟩ | exact absurd (lit_over hc50 hg84d).1 hg88d
                    · -- guard 88 off
                      have hg88d := of_decide_eq_false hg88
                      refine gop_off rfl rfl rfl rfl hg88 rfl rfl ?_
                      refine gop_off rfl rfl rfl rfl hg88 rfl rfl ?_
                      refine gop_on rfl rfl rfl rfl hg84 ?_
                      refine gop (y_bare (y_pick_f (v := .bool _) rfl hg88 rfl)) rfl rfl rfl ?_
                      refine gop (y_pick_f (v := .bool _) rfl hg84 rfl) rfl rfl rfl ?_
                      refine gop (y_assign (v := .bool _) rfl) rfl rfl rfl ?_
                      refine gops_nil ?_
                      refine hN17 _ _ ?_
                      refine gfrom [(6, .bool _)] ⟨rfl, trivial⟩ fun σ => ?_
                      refine gret fun w1 hM => ?_
                      refine ⟨_, res1 rfl (rt (v := .bool _) rfl), ?_⟩
                      first | exact ⟨rfl, hM.low⟩ | exact ⟨by rw [(lit_over hc50 hg84d).2]; simp, hM.low⟩ | exact absurd (lit_over hc50 hg84d).1 hg88d
                  · -- guard 84 off
                    have hg84d := of_decide_eq_true hg84
                    refine gop_off rfl rfl rfl rfl hg84 rfl rfl ?_
                    refine gop_off rfl rfl rfl rfl hg84 rfl rfl ?_
                    refine gop_off rfl rfl rfl rfl hg84 rfl rfl ?_
                    refine gop_offu rfl rfl rfl rfl rfl rfl ?_
                    refine gop_offu rfl rfl rfl rfl rfl rfl ?_
                    refine gop_offu rfl rfl rfl rfl rfl rfl ?_
                    refine gop_off rfl rfl rfl rfl hg84 rfl rfl ?_
                    refine gop (y_pick_t (v := .bool _) rfl hg84 rfl) rfl rfl rfl ?_
                    refine gop (y_assign (v := .bool _) rfl) rfl rfl rfl ?_
                    refine gops_nil ?_
                    refine hN17 _ _ ?_
                    refine gfrom [(6, .bool _)] ⟨rfl, trivial⟩ fun σ => ?_
                    refine gret fun w1 hM => ?_
                    refine ⟨_, res1 rfl (rt (v := .bool _) rfl), ?_⟩
                    first | exact ⟨rfl, hM.low⟩ | exact ⟨by rw [(lit_over hc50 hg84d).2]; simp, hM.low⟩ | exact absurd (lit_over hc50 hg84d).1 hg88d
          · -- guard 66 off
             exact absurd (patFault_zero.2 (path_pat hc50)) (of_decide_eq_true hg66)
        · -- guard 61 off
           rw [hlm.2] at hg61; exact absurd hg61 (by decide)
      · -- guard 57 off
         exact absurd hlm.1 (of_decide_eq_true hg57)
end Go.Proofs.YtijpaljdclhehaaDoor
