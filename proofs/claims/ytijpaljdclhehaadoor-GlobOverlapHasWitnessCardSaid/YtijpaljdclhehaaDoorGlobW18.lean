/- walks, printed by program -/
import Derived.Test.YtijpaljdclhehaaDoorGlobWx
namespace Go.Proofs.YtijpaljdclhehaaDoor
open Go.RowKit Go.Cf
set_option maxRecDepth 10000



set_option maxHeartbeats 2000000 in
theorem law18_any (w : World) (a b s : ByteArray) : Calls Tryd.prog 3 #[.string a, .string b, .string s] w fun e w' => e = .returned (.bool true) ∧ Below w.heap.size w w' := by
  have h34 := overF_symm (a := a) (b := b)
  have hvv := overV_symm (a := a) (b := b)
  have hlaw := over_witness (a := a) (b := b) (s := s)
  refine gcalls Tryd.func3 rfl Tryd.ntmps3 (Nat.le_of_ble_eq_true rfl) ?_
  refine gfrom [(0, .string _), (1, .string _), (2, .string _)] ⟨rfl, rfl, rfl, trivial⟩ fun σ => ?_
  refine gseq fun N1 hN1 => ?_
  refine greg ?_
  refine gop (y_assign (v := .bool _) rfl) rfl rfl rfl ?_
  refine gops_nil ?_
  refine hN1 _ _ ?_
  refine gfrom [(0, .string _), (1, .string _), (2, .string _)] ⟨rfl, rfl, rfl, trivial⟩ fun σ => ?_
  refine gseq fun N2 hN2 => ?_
  refine greg ?_
  refine gop (y_move (v := .string _) rfl) rfl rfl rfl ?_
  refine gop (y_move (v := .string _) rfl) rfl rfl rfl ?_
  refine gop_pure (e_call (vs := [.string _, .string _]) Tryd.func14 rfl (by kernel_rfl) rfl) (fun w hM => match_any w _ _) rfl rfl rfl ?_
  refine gop (y_move (v := .tuple #[.bool _, .agg #[_, _]]) rfl) rfl rfl rfl ?_
  refine gop (y_extract (v := .bool _) rfl rfl) rfl rfl rfl ?_
  refine gop (y_extract (v := .agg #[_, _]) rfl rfl) rfl rfl rfl ?_
  refine gop_alloc (cs := #[.int .i64 0, .int .i64 0]) Tryd.zeroValue23 rfl rfl (fun b8 hb8 => ?_)
  refine gop (y_assign (v := .bool _) rfl) rfl rfl rfl ?_
  refine gop_store 0 (v := .agg #[_, _]) (cs' := #[_, _]) rfl rfl Tryd.sizeOf23 rfl rfl rfl rfl (Nat.le_of_ble_eq_true rfl) rfl rfl ?_
  refine gops_nil ?_
  refine hN2 _ _ ?_
  refine gT [box b8 _] rfl ?_
  refine gfrom [(0, .string _), (1, .string _), (2, .string _), (7, .bool _), (8, .pointer _)] ⟨rfl, rfl, rfl, rfl, rfl, trivial⟩ fun σ => ?_
  refine gseq fun N3 hN3 => ?_
  refine greg ?_
  refine gop (y_move (v := .string _) rfl) rfl rfl rfl ?_
  refine gop (y_move (v := .string _) rfl) rfl rfl rfl ?_
  refine gop_pure (e_call (vs := [.string _, .string _]) Tryd.func14 rfl (by kernel_rfl) rfl) (fun w hM => match_any w _ _) rfl rfl rfl ?_
  refine gop (y_move (v := .tuple #[.bool _, .agg #[_, _]]) rfl) rfl rfl rfl ?_
  refine gop (y_extract (v := .bool _) rfl rfl) rfl rfl rfl ?_
  refine gop (y_extract (v := .agg #[_, _]) rfl rfl) rfl rfl rfl ?_
  refine gop_alloc (cs := #[.int .i64 0, .int .i64 0]) Tryd.zeroValue23 rfl rfl (fun b10 hb10 => ?_)
  refine gop (y_assign (v := .bool _) rfl) rfl rfl rfl ?_
  refine gop_store 1 (v := .agg #[_, _]) (cs' := #[_, _]) rfl rfl Tryd.sizeOf23 rfl rfl rfl rfl (Nat.le_of_ble_eq_true rfl) rfl rfl ?_
  refine gops_nil ?_
  refine hN3 _ _ ?_
  refine gT [box b8 _, box b10 _] rfl ?_
  refine gfrom [(0, .string _), (1, .string _), (7, .bool _), (8, .pointer _), (9, .bool _), (10, .pointer _)] ⟨rfl, rfl, rfl, rfl, rfl, rfl, trivial⟩ fun σ => ?_
  refine gseq fun N4 hN4 => ?_
  refine greg ?_
  refine gop (y_move (v := .string _) rfl) rfl rfl rfl ?_
  refine gop (y_move (v := .string _) rfl) rfl rfl rfl ?_
  refine gop_pure (e_call (vs := [.string _, .string _]) Tryd.func15 rfl (by kernel_rfl) rfl) (fun w hM => over_any w _ _) rfl rfl rfl ?_
  refine gop (y_move (v := .tuple #[.bool _, .agg #[_, _]]) rfl) rfl rfl rfl ?_
  refine gop (y_extract (v := .bool _) rfl rfl) rfl rfl rfl ?_
  refine gop (y_extract (v := .agg #[_, _]) rfl rfl) rfl rfl rfl ?_
  refine gop_alloc (cs := #[.int .i64 0, .int .i64 0]) Tryd.zeroValue23 rfl rfl (fun b12 hb12 => ?_)
  refine gop (y_assign (v := .bool _) rfl) rfl rfl rfl ?_
  refine gop_store 2 (v := .agg #[_, _]) (cs' := #[_, _]) rfl rfl Tryd.sizeOf23 rfl rfl rfl rfl (Nat.le_of_ble_eq_true rfl) rfl rfl ?_
  refine gops_nil ?_
  refine hN4 _ _ ?_
  refine gT [box b8 _, box b10 _, box b12 _] rfl ?_
  refine gfrom [(0, .string _), (1, .string _), (7, .bool _), (8, .pointer _), (9, .bool _), (10, .pointer _), (11, .bool _), (12, .pointer _)] ⟨rfl, rfl, rfl, rfl, rfl, rfl, rfl, rfl, trivial⟩ fun σ => ?_
  refine gseq fun N5 hN5 => ?_
  refine greg ?_
  refine gop (y_move (v := .string _) rfl) rfl rfl rfl ?_
  refine gop (y_move (v := .string _) rfl) rfl rfl rfl ?_
  refine gop_pure (e_call (vs := [.string _, .string _]) Tryd.func15 rfl (by kernel_rfl) rfl) (fun w hM => over_any w _ _) rfl rfl rfl ?_
  refine gop (y_move (v := .tuple #[.bool _, .agg #[_, _]]) rfl) rfl rfl rfl ?_
  refine gop (y_extract (v := .bool _) rfl rfl) rfl rfl rfl ?_
  refine gop (y_extract (v := .agg #[_, _]) rfl rfl) rfl rfl rfl ?_
  refine gop_alloc (cs := #[.int .i64 0, .int .i64 0]) Tryd.zeroValue23 rfl rfl (fun b14 hb14 => ?_)
  refine gop (y_assign (v := .bool _) rfl) rfl rfl rfl ?_
  refine gop_store 3 (v := .agg #[_, _]) (cs' := #[_, _]) rfl rfl Tryd.sizeOf23 rfl rfl rfl rfl (Nat.le_of_ble_eq_true rfl) rfl rfl ?_
  refine gops_nil ?_
  refine hN5 _ _ ?_
  refine gT [box b8 _, box b10 _, box b12 _, box b14 _] rfl ?_
  refine gfrom [(7, .bool _), (8, .pointer _), (9, .bool _), (10, .pointer _), (11, .bool _), (12, .pointer _), (13, .bool _), (14, .pointer _)] ⟨rfl, rfl, rfl, rfl, rfl, rfl, rfl, rfl, trivial⟩ fun σ => ?_
  refine gseq fun N6 hN6 => ?_
  refine gseq fun N7 hN7 => ?_
  refine greg ?_
  refine gop_pure (e_call (vs := []) Tryd.func16 rfl (by kernel_rfl) rfl) (fun w hM => globExample_any w) rfl rfl rfl ?_
  refine gop (y_not rfl) rfl rfl rfl ?_
  refine gop (y_move (v := .bool _) rfl) rfl rfl rfl ?_
  refine gop_if (want := false) rfl rfl rfl rfl rfl rfl (fun hg41 => ?_) (fun hg41 => ?_)
  · -- guard 41 on
    have hg41d := not_f hg41
    refine gop (y_bare (y_fieldAddr_box fa23_0 rfl)) rfl rfl rfl ?_
    refine gop_on rfl rfl rfl rfl hg41 ?_
    refine gop (y_bare (y_load Tryd.isAgg3 rfl (cell_box 2 rfl rfl))) rfl rfl rfl ?_
    refine gop_on rfl rfl rfl rfl hg41 ?_
    refine gop (y_bare (y_eql rfl rfl)) rfl rfl rfl ?_
    refine gop_on rfl rfl rfl rfl hg41 ?_
    refine gop (y_bare (y_fieldAddr_box fa23_0 rfl)) rfl rfl rfl ?_
    refine gop_on rfl rfl rfl rfl hg41 ?_
    refine gop (y_bare (y_load Tryd.isAgg3 rfl (cell_box 3 rfl rfl))) rfl rfl rfl ?_
    refine gop_on rfl rfl rfl rfl hg41 ?_
    refine gop (y_bare (y_eql rfl rfl)) rfl rfl rfl ?_
    refine gop_on rfl rfl rfl rfl hg41 ?_
    refine gop (y_bare (y_neqb rfl rfl Tryd.underlying4)) rfl rfl rfl ?_
    refine gop (y_pick_f (v := .bool _) rfl hg41 rfl) rfl rfl rfl ?_
    refine gop (y_move (v := .bool _) rfl) rfl rfl rfl ?_
    refine gop_if (want := false) rfl rfl rfl rfl rfl rfl (fun hg50 => ?_) (fun hg50 => ?_)
    · -- guard 50 on
      have hg50d := hg50
      refine gop (y_bare (y_move (v := .bool _) rfl)) rfl rfl rfl ?_
      refine gop_on rfl rfl rfl rfl hg50 ?_
      refine gop (y_bare (y_move (v := .bool _) rfl)) rfl rfl rfl ?_
      refine gop_on rfl rfl rfl rfl hg50 ?_
      refine gop (y_bare (y_neqb rfl rfl Tryd.underlying4)) rfl rfl rfl ?_
      refine gop (y_pick_f (v := .bool _) rfl hg50 rfl) rfl rfl rfl ?_
      refine gops_nil ?_
      refine hN7 _ _ ?_
      refine gfrom [(7, .bool _), (8, .pointer _), (9, .bool _), (10, .pointer _), (11, .bool _), (12, .pointer _), (54, .bool _)] ⟨rfl, rfl, rfl, rfl, rfl, rfl, rfl, trivial⟩ fun σ => ?_
      refine gcond (b := _) rfl (fun hc54 => ?_) (fun hc54 => ?_)
      · -- slot 54 t
         rw [hvv] at hc54; simp at hc54
      · -- slot 54 f
        refine gskip ?_
        refine hN6 _ _ ?_
        refine gfrom [(7, .bool _), (8, .pointer _), (9, .bool _), (10, .pointer _), (11, .bool _), (12, .pointer _)] ⟨rfl, rfl, rfl, rfl, rfl, rfl, trivial⟩ fun σ => ?_
        refine gseq fun N8 hN8 => ?_
        refine greg ?_
        refine gop (y_fieldAddr_box fa23_0 rfl) rfl rfl rfl ?_
        refine gop (y_load Tryd.isAgg3 rfl (cell_box 0 rfl rfl)) rfl rfl rfl ?_
        refine gop (y_neq rfl rfl) rfl rfl rfl ?_
        refine gop (y_move (v := .bool _) rfl) rfl rfl rfl ?_
        refine gop_if (want := false) rfl rfl rfl rfl rfl rfl (fun hg58 => ?_) (fun hg58 => ?_)
        · -- guard 58 on
          have hg58d := Decidable.not_not.1 (of_decide_eq_false hg58)
          refine gop (y_bare (y_fieldAddr_box fa23_0 rfl)) rfl rfl rfl ?_
          refine gop_on rfl rfl rfl rfl hg58 ?_
          refine gop (y_bare (y_load Tryd.isAgg3 rfl (cell_box 1 rfl rfl))) rfl rfl rfl ?_
          refine gop_on rfl rfl rfl rfl hg58 ?_
          refine gop (y_bare (y_neq rfl rfl)) rfl rfl rfl ?_
          refine gop (y_pick_f (v := .bool _) rfl hg58 rfl) rfl rfl rfl ?_
          refine gop (y_move (v := .bool _) rfl) rfl rfl rfl ?_
          refine gop_if (want := false) rfl rfl rfl rfl rfl rfl (fun hg63 => ?_) (fun hg63 => ?_)
          · -- guard 63 on
            have hg63d := Decidable.not_not.1 (of_decide_eq_false hg63)
            refine gop (y_bare (y_move (v := .bool _) rfl)) rfl rfl rfl ?_
            refine gop_on rfl rfl rfl rfl hg63 ?_
            refine gop (y_bare (y_not rfl)) rfl rfl rfl ?_
            refine gop (y_pick_f (v := .bool _) rfl hg63 rfl) rfl rfl rfl ?_
            refine gop (y_move (v := .bool _) rfl) rfl rfl rfl ?_
            refine gop_if (want := false) rfl rfl rfl rfl rfl rfl (fun hg67 => ?_) (fun hg67 => ?_)
            · -- guard 67 on
              have hg67d := not_f hg67
              refine gop (y_bare (y_move (v := .bool _) rfl)) rfl rfl rfl ?_
              refine gop_on rfl rfl rfl rfl hg67 ?_
              refine gop (y_bare (y_not rfl)) rfl rfl rfl ?_
              refine gop (y_pick_f (v := .bool _) rfl hg67 rfl) rfl rfl rfl ?_
              refine gop (y_move (v := .bool _) rfl) rfl rfl rfl ?_
              refine gop_if (want := false) rfl rfl rfl rfl rfl rfl (fun hg71 => ?_) (fun hg71 => ?_)
              · -- guard 71 on
                have hg71d := not_f hg71
                refine gop (y_bare (y_fieldAddr_box fa23_0 rfl)) rfl rfl rfl ?_
                refine gop_on rfl rfl rfl rfl hg71 ?_
                refine gop (y_bare (y_load Tryd.isAgg3 rfl (cell_box 2 rfl rfl))) rfl rfl rfl ?_
                refine gop_on rfl rfl rfl rfl hg71 ?_
                refine gop (y_bare (y_eql rfl rfl)) rfl rfl rfl ?_
                refine gop_on rfl rfl rfl rfl hg71 ?_
                refine gop (y_bare (y_move (v := .bool _) rfl)) rfl rfl rfl ?_
                refine gop_if (want := true) rfl rfl rfl rfl rfl rfl (fun hg75 => ?_) (fun hg75 => ?_)
                · -- guard 75 on
                  have hg75d := of_decide_eq_true hg75
                  refine gop (y_bare (y_move (v := .bool _) rfl)) rfl rfl rfl ?_
                  refine gop_on rfl rfl rfl rfl hg71 ?_
                  refine gop (y_bare (y_pick_t (v := .bool _) rfl hg75 rfl)) rfl rfl rfl ?_
                  refine gop (y_pick_f (v := .bool _) rfl hg71 rfl) rfl rfl rfl ?_
                  refine gop (y_assign (v := .bool _) rfl) rfl rfl rfl ?_
                  refine gops_nil ?_
                  refine hN8 _ _ ?_
                  refine gfrom [(6, .bool _)] ⟨rfl, trivial⟩ fun σ => ?_
                  refine gret fun w1 hM => ?_
                  refine ⟨_, res1 rfl (rt (v := .bool _) rfl), ?_⟩
                  first | exact ⟨rfl, hM.low⟩ | exact ⟨by rw [(hlaw hg58d hg63d (by simpa using hg67d) (by simpa using hg71d)).2], hM.low⟩ | exact absurd (hlaw hg58d hg63d (by simpa using hg67d) (by simpa using hg71d)).1 hg75d
                · -- guard 75 off
                  have hg75d := of_decide_eq_false hg75
                  refine gop_on rfl rfl rfl rfl hg71 ?_
                  refine gop (y_bare (y_pick_f (v := .bool _) rfl hg75 rfl)) rfl rfl rfl ?_
                  refine gop (y_pick_f (v := .bool _) rfl hg71 rfl) rfl rfl rfl ?_
                  refine gop (y_assign (v := .bool _) rfl) rfl rfl rfl ?_
                  refine gops_nil ?_
                  refine hN8 _ _ ?_
                  refine gfrom [(6, .bool _)] ⟨rfl, trivial⟩ fun σ => ?_
                  refine gret fun w1 hM => ?_
                  refine ⟨_, res1 rfl (rt (v := .bool _) rfl), ?_⟩
                  first | exact ⟨rfl, hM.low⟩ | exact ⟨by rw [(hlaw hg58d hg63d (by simpa using hg67d) (by simpa using hg71d)).2], hM.low⟩ | exact absurd (hlaw hg58d hg63d (by simpa using hg67d) (by simpa using hg71d)).1 hg75d
              · -- guard 71 off
                have hg71d := not_t hg71
                refine gop_off rfl rfl rfl rfl hg71 rfl rfl ?_
                refine gop_off rfl rfl rfl rfl hg71 rfl rfl ?_
                refine gop_off rfl rfl rfl rfl hg71 rfl rfl ?_
                refine gop_offu rfl rfl rfl rfl rfl rfl ?_
                refine gop_off rfl rfl rfl rfl hg71 rfl rfl ?_
                refine gop (y_pick_t (v := .bool _) rfl hg71 rfl) rfl rfl rfl ?_
                refine gop (y_assign (v := .bool _) rfl) rfl rfl rfl ?_
                refine gops_nil ?_
                refine hN8 _ _ ?_
                refine gfrom [(6, .bool _)] ⟨rfl, trivial⟩ fun σ => ?_
                refine gret fun w1 hM => ?_
                refine ⟨_, res1 rfl (rt (v := .bool _) rfl), ?_⟩
                first | exact ⟨rfl, hM.low⟩ | exact ⟨by rw [(hlaw hg58d hg63d (by simpa using hg67d) (by simpa using hg71d)).2], hM.low⟩ | exact absurd (hlaw hg58d hg63d (by simpa using hg67d) (by simpa using hg71d)).1 hg75d
            · -- guard 67 off
              have hg67d := not_t hg67
              refine gop_off rfl rfl rfl rfl hg67 rfl rfl ?_
              refine gop (y_pick_t (v := .bool _) rfl hg67 rfl) rfl rfl rfl ?_
              refine gop (y_move (v := .bool _) rfl) rfl rfl rfl ?_
              refine gop_off rfl rfl rfl rfl rfl rfl rfl ?_
              refine gop_off rfl rfl rfl rfl rfl rfl rfl ?_
              refine gop_off rfl rfl rfl rfl rfl rfl rfl ?_
              refine gop_off rfl rfl rfl rfl rfl rfl rfl ?_
              refine gop_offu rfl rfl rfl rfl rfl rfl ?_
              refine gop_off rfl rfl rfl rfl rfl rfl rfl ?_
              refine gop (y_pick_t (v := .bool _) rfl rfl rfl) rfl rfl rfl ?_
              refine gop (y_assign (v := .bool _) rfl) rfl rfl rfl ?_
              refine gops_nil ?_
              refine hN8 _ _ ?_
              refine gfrom [(6, .bool _)] ⟨rfl, trivial⟩ fun σ => ?_
              refine gret fun w1 hM => ?_
              refine ⟨_, res1 rfl (rt (v := .bool _) rfl), ?_⟩
              first | exact ⟨rfl, hM.low⟩ | exact ⟨by rw [(hlaw hg58d hg63d (by simpa using hg67d) (by simpa using hg71d)).2], hM.low⟩ | exact absurd (hlaw hg58d hg63d (by simpa using hg67d) (by simpa using hg71d)).1 hg75d
          · -- guard 63 off
            have hg63d := of_decide_eq_true hg63
            refine gop_off rfl rfl rfl rfl hg63 rfl rfl ?_
            refine gop (y_pick_t (v := .bool _) rfl hg63 rfl) rfl rfl rfl ?_
            refine gop (y_move (v := .bool _) rfl) rfl rfl rfl ?_
            refine gop_off rfl rfl rfl rfl rfl rfl rfl ?_
            refine gop_off rfl rfl rfl rfl rfl rfl rfl ?_
            refine gop (y_pick_t (v := .bool _) rfl rfl rfl) rfl rfl rfl ?_
            refine gop (y_move (v := .bool _) rfl) rfl rfl rfl ?_
            refine gop_off rfl rfl rfl rfl rfl rfl rfl ?_
            refine gop_off rfl rfl rfl rfl rfl rfl rfl ?_
            refine gop_off rfl rfl rfl rfl rfl rfl rfl ?_
            refine gop_off rfl rfl rfl rfl rfl rfl rfl ?_
            refine gop_offu rfl rfl rfl rfl rfl rfl ?_
            refine gop_off rfl rfl rfl rfl rfl rfl rfl ?_
            refine gop (y_pick_t (v := .bool _) rfl rfl rfl) rfl rfl rfl ?_
            refine gop (y_assign (v := .bool _) rfl) rfl rfl rfl ?_
            refine gops_nil ?_
            refine hN8 _ _ ?_
            refine gfrom [(6, .bool _)] ⟨rfl, trivial⟩ fun σ => ?_
            refine gret fun w1 hM => ?_
            refine ⟨_, res1 rfl (rt (v := .bool _) rfl), ?_⟩
            first | exact ⟨rfl, hM.low⟩ | exact ⟨by rw [(hlaw hg58d hg63d (by simpa using hg67d) (by simpa using hg71d)).2], hM.low⟩ | exact absurd (hlaw hg58d hg63d (by simpa using hg67d) (by simpa using hg71d)).1 hg75d
        · -- guard 58 off
          have hg58d := of_decide_eq_true hg58
          refine gop_off rfl rfl rfl rfl hg58 rfl rfl ?_
          refine gop_off rfl rfl rfl rfl hg58 rfl rfl ?_
          refine gop (y_pick_t (v := .bool _) rfl hg58 rfl) rfl rfl rfl ?_
          refine gop (y_move (v := .bool _) rfl) rfl rfl rfl ?_
          refine gop_off rfl rfl rfl rfl rfl rfl rfl ?_
          refine gop_off rfl rfl rfl rfl rfl rfl rfl ?_
          refine gop (y_pick_t (v := .bool _) rfl rfl rfl) rfl rfl rfl ?_
          refine gop (y_move (v := .bool _) rfl) rfl rfl rfl ?_
          refine gop_off rfl rfl rfl rfl rfl rfl rfl ?_
          refine gop_off rfl rfl rfl rfl rfl rfl rfl ?_
          refine gop (y_pick_t (v := .bool _) rfl rfl rfl) rfl rfl rfl ?_
          refine gop (y_move (v := .bool _) rfl) rfl rfl rfl ?_
          refine gop_off rfl rfl rfl rfl rfl rfl rfl ?_
          refine gop_off rfl rfl rfl rfl rfl rfl rfl ?_
          refine gop_off rfl rfl rfl rfl rfl rfl rfl ?_
          refine gop_off rfl rfl rfl rfl rfl rfl rfl ?_
          refine gop_offu rfl rfl rfl rfl rfl rfl ?_
          refine gop_off rfl rfl rfl rfl rfl rfl rfl ?_
          refine gop (y_pick_t (v := .bool _) rfl rfl rfl) rfl rfl rfl ?_
          refine gop (y_assign (v := .bool _) rfl) rfl rfl rfl ?_
          refine gops_nil ?_
          refine hN8 _ _ ?_
          refine gfrom [(6, .bool _)] ⟨rfl, trivial⟩ fun σ => ?_
          refine gret fun w1 hM => ?_
          refine ⟨_, res1 rfl (rt (v := .bool _) rfl), ?_⟩
          first | exact ⟨rfl, hM.low⟩ | exact ⟨by rw [(hlaw hg58d hg63d (by simpa using hg67d) (by simpa using hg71d)).2], hM.low⟩ | exact absurd (hlaw hg58d hg63d (by simpa using hg67d) (by simpa using hg71d)).1 hg75d
    · -- guard 50 off
       rw [h34] at hg50; simp at hg50
  · -- guard 41 off
     exact absurd hg41 (by decide)
end Go.Proofs.YtijpaljdclhehaaDoor
