/- walks, printed by program -/
import Derived.Test.YtijpaljdclhehaaDoorGlobWx
namespace Go.Proofs.YtijpaljdclhehaaDoor
open Go.RowKit Go.Cf
set_option maxRecDepth 10000



set_option maxHeartbeats 2000000 in
theorem law20_any (w : World) (d p s : ByteArray) (hd : d.size ≤ reachBytes) (hp : p.size ≤ reachBytes) (hs : s.size ≤ reachBytes) : Calls Tryd.prog 5 #[.string d, .string p, .string s] w fun e w' => e = .returned (.bool true) ∧ Below w.heap.size w w' := by
  have hRB : reachBytes ≤ 9223372036854775807 / 8 := by decide
  have h471 : (⟨#[47]⟩ : ByteArray).size = 1 := rfl
  have h472 : (⟨#[42, 42, 47]⟩ : ByteArray).size = 3 := rfl
  have h473 : (⟨#[47, 42, 42]⟩ : ByteArray).size = 3 := rfl
  refine gcalls Tryd.func5 rfl Tryd.ntmps5 (Nat.le_of_ble_eq_true rfl) ?_
  refine gfrom [(0, .string _), (1, .string _), (2, .string _)] ⟨rfl, rfl, rfl, trivial⟩ fun σ => ?_
  refine gseq fun N1 hN1 => ?_
  refine greg ?_
  refine gop (y_assign (v := .bool _) rfl) rfl rfl rfl ?_
  refine gops_nil ?_
  refine hN1 _ _ ?_
  refine gfrom [(0, .string _), (1, .string _), (2, .string _)] ⟨rfl, rfl, rfl, trivial⟩ fun σ => ?_
  refine gseq fun N2 hN2 => ?_
  refine greg ?_
  refine gop (y_move (v := .string _) rfl) rfl rfl rfl ?_
  refine gop (y_move (v := .string _) rfl) rfl rfl rfl ?_
  refine gop_pure (e_call (vs := [.string _, .string _]) Tryd.func14 rfl (by kernel_rfl) rfl) (fun w hM => match_any w _ _) rfl rfl rfl ?_
  refine gop (y_move (v := .tuple #[.bool _, .agg #[_, _]]) rfl) rfl rfl rfl ?_
  refine gop (y_extract (v := .bool _) rfl rfl) rfl rfl rfl ?_
  refine gop (y_extract (v := .agg #[_, _]) rfl rfl) rfl rfl rfl ?_
  refine gop_alloc (cs := #[.int .i64 0, .int .i64 0]) Tryd.zeroValue23 rfl rfl (fun b8 hb8 => ?_)
  refine gop (y_assign (v := .bool _) rfl) rfl rfl rfl ?_
  refine gop_store 0 (v := .agg #[_, _]) (cs' := #[_, _]) rfl rfl Tryd.sizeOf23 rfl rfl rfl rfl (Nat.le_of_ble_eq_true rfl) rfl rfl ?_
  refine gops_nil ?_
  refine hN2 _ _ ?_
  refine gT [box b8 _] rfl ?_
  refine gfrom [(0, .string _), (1, .string _), (2, .string _), (7, .bool _), (8, .pointer _)] ⟨rfl, rfl, rfl, rfl, rfl, trivial⟩ fun σ => ?_
  refine gseq fun N3 hN3 => ?_
  refine greg ?_
  refine gop (y_move (v := .string _) rfl) rfl rfl rfl ?_
  refine gop (y_cat rfl rfl (by (try simp only [ByteArray.size_append]); omega)) rfl rfl rfl ?_
  refine gop (y_move (v := .string _) rfl) rfl rfl rfl ?_
  refine gop_pure (e_call (vs := [.string _, .string _]) Tryd.func14 rfl (by kernel_rfl) rfl) (fun w hM => match_any w _ _) rfl rfl rfl ?_
  refine gop (y_move (v := .tuple #[.bool _, .agg #[_, _]]) rfl) rfl rfl rfl ?_
  refine gop (y_extract (v := .bool _) rfl rfl) rfl rfl rfl ?_
  refine gop (y_extract (v := .agg #[_, _]) rfl rfl) rfl rfl rfl ?_
  refine gop_alloc (cs := #[.int .i64 0, .int .i64 0]) Tryd.zeroValue23 rfl rfl (fun b10 hb10 => ?_)
  refine gop (y_assign (v := .bool _) rfl) rfl rfl rfl ?_
  refine gop_store 1 (v := .agg #[_, _]) (cs' := #[_, _]) rfl rfl Tryd.sizeOf23 rfl rfl rfl rfl (Nat.le_of_ble_eq_true rfl) rfl rfl ?_
  refine gops_nil ?_
  refine hN3 _ _ ?_
  refine gT [box b8 _, box b10 _] rfl ?_
  refine gfrom [(0, .string _), (1, .string _), (2, .string _), (7, .bool _), (8, .pointer _), (9, .bool _), (10, .pointer _)] ⟨rfl, rfl, rfl, rfl, rfl, rfl, rfl, trivial⟩ fun σ => ?_
  refine gseq fun N4 hN4 => ?_
  refine greg ?_
  refine gop (y_move (v := .string _) rfl) rfl rfl rfl ?_
  refine gop (y_cat rfl rfl (by (try simp only [ByteArray.size_append]); omega)) rfl rfl rfl ?_
  refine gop (y_move (v := .string _) rfl) rfl rfl rfl ?_
  refine gop_pure (e_call (vs := [.string _, .string _]) Tryd.func14 rfl (by kernel_rfl) rfl) (fun w hM => match_any w _ _) rfl rfl rfl ?_
  refine gop (y_move (v := .tuple #[.bool _, .agg #[_, _]]) rfl) rfl rfl rfl ?_
  refine gop (y_extract (v := .bool _) rfl rfl) rfl rfl rfl ?_
  refine gop (y_extract (v := .agg #[_, _]) rfl rfl) rfl rfl rfl ?_
  refine gop_alloc (cs := #[.int .i64 0, .int .i64 0]) Tryd.zeroValue23 rfl rfl (fun b12 hb12 => ?_)
  refine gop (y_assign (v := .bool _) rfl) rfl rfl rfl ?_
  refine gop_store 2 (v := .agg #[_, _]) (cs' := #[_, _]) rfl rfl Tryd.sizeOf23 rfl rfl rfl rfl (Nat.le_of_ble_eq_true rfl) rfl rfl ?_
  refine gops_nil ?_
  refine hN4 _ _ ?_
  refine gT [box b8 _, box b10 _, box b12 _] rfl ?_
  refine gfrom [(0, .string _), (1, .string _), (2, .string _), (7, .bool _), (8, .pointer _), (9, .bool _), (10, .pointer _), (11, .bool _), (12, .pointer _)] ⟨rfl, rfl, rfl, rfl, rfl, rfl, rfl, rfl, rfl, trivial⟩ fun σ => ?_
  refine gseq fun N5 hN5 => ?_
  refine greg ?_
  refine gop (y_move (v := .string _) rfl) rfl rfl rfl ?_
  refine gop (y_cat rfl rfl (by (try simp only [ByteArray.size_append]); omega)) rfl rfl rfl ?_
  refine gop (y_move (v := .string _) rfl) rfl rfl rfl ?_
  refine gop (y_cat rfl rfl (by (try simp only [ByteArray.size_append]); omega)) rfl rfl rfl ?_
  refine gop (y_move (v := .string _) rfl) rfl rfl rfl ?_
  refine gop (y_cat rfl rfl (by (try simp only [ByteArray.size_append]); omega)) rfl rfl rfl ?_
  refine gop_pure (e_call (vs := [.string _, .string _]) Tryd.func14 rfl (by kernel_rfl) rfl) (fun w hM => match_any w _ _) rfl rfl rfl ?_
  refine gop (y_move (v := .tuple #[.bool _, .agg #[_, _]]) rfl) rfl rfl rfl ?_
  refine gop (y_extract (v := .bool _) rfl rfl) rfl rfl rfl ?_
  refine gop (y_extract (v := .agg #[_, _]) rfl rfl) rfl rfl rfl ?_
  refine gop_alloc (cs := #[.int .i64 0, .int .i64 0]) Tryd.zeroValue23 rfl rfl (fun b14 hb14 => ?_)
  refine gop (y_assign (v := .bool _) rfl) rfl rfl rfl ?_
  refine gop_store 3 (v := .agg #[_, _]) (cs' := #[_, _]) rfl rfl Tryd.sizeOf23 rfl rfl rfl rfl (Nat.le_of_ble_eq_true rfl) rfl rfl ?_
  refine gops_nil ?_
  refine hN5 _ _ ?_
  refine gT [box b8 _, box b10 _, box b12 _, box b14 _] rfl ?_
  refine gfrom [(7, .bool _), (8, .pointer _), (9, .bool _), (10, .pointer _), (11, .bool _), (12, .pointer _), (13, .bool _), (14, .pointer _)] ⟨rfl, rfl, rfl, rfl, rfl, rfl, rfl, rfl, trivial⟩ fun σ => ?_
  refine gseq fun N6 hN6 => ?_
  refine gseq fun N7 hN7 => ?_
  refine greg ?_
  refine gop_pure (e_call (vs := []) Tryd.func16 rfl (by kernel_rfl) rfl) (fun w hM => globExample_any w) rfl rfl rfl ?_
  refine gop (y_not rfl) rfl rfl rfl ?_
  refine gops_nil ?_
  refine hN7 _ _ ?_
  refine gfrom [(7, .bool _), (8, .pointer _), (9, .bool _), (10, .pointer _), (11, .bool _), (12, .pointer _), (13, .bool _), (14, .pointer _), (46, .bool _)] ⟨rfl, rfl, rfl, rfl, rfl, rfl, rfl, rfl, rfl, trivial⟩ fun σ => ?_
  refine gcond (b := _) rfl (fun hc46 => ?_) (fun hc46 => ?_)
  · -- slot 46 t
     exact absurd hc46 (by decide)
  · -- slot 46 f
    replace hc46 := not_f hc46
    refine gskip ?_
    refine hN6 _ _ ?_
    refine gfrom [(7, .bool _), (8, .pointer _), (9, .bool _), (10, .pointer _), (11, .bool _), (12, .pointer _), (13, .bool _), (14, .pointer _)] ⟨rfl, rfl, rfl, rfl, rfl, rfl, rfl, rfl, trivial⟩ fun σ => ?_
    refine gseq fun N8 hN8 => ?_
    refine gseq fun N9 hN9 => ?_
    refine greg ?_
    refine gop (y_fieldAddr_box fa23_0 rfl) rfl rfl rfl ?_
    refine gop (y_load Tryd.isAgg3 rfl (cell_box 0 rfl rfl)) rfl rfl rfl ?_
    refine gop (y_neq rfl rfl) rfl rfl rfl ?_
    refine gop (y_move (v := .bool _) rfl) rfl rfl rfl ?_
    refine gop_if (want := false) rfl rfl rfl rfl rfl rfl (fun hg50 => ?_) (fun hg50 => ?_)
    · -- guard 50 on
      have hg50d := Decidable.not_not.1 (of_decide_eq_false hg50)
      refine gop (y_bare (y_move (v := .bool _) rfl)) rfl rfl rfl ?_
      refine gop_on rfl rfl rfl rfl hg50 ?_
      refine gop (y_bare (y_not rfl)) rfl rfl rfl ?_
      refine gop (y_pick_f (v := .bool _) rfl hg50 rfl) rfl rfl rfl ?_
      refine gops_nil ?_
      refine hN9 _ _ ?_
      refine gfrom [(9, .bool _), (10, .pointer _), (11, .bool _), (12, .pointer _), (13, .bool _), (14, .pointer _), (53, .bool _)] ⟨rfl, rfl, rfl, rfl, rfl, rfl, rfl, trivial⟩ fun σ => ?_
      refine gcond (b := _) rfl (fun hc53 => ?_) (fun hc53 => ?_)
      · -- slot 53 t
        replace hc53 := not_t hc53
        refine gseq fun N10 hN10 => ?_
        refine greg ?_
        refine gop (y_assign (v := .bool _) rfl) rfl rfl rfl ?_
        refine gops_nil ?_
        refine hN10 _ _ ?_
        refine gfrom [(6, .bool _)] ⟨rfl, trivial⟩ fun σ => ?_
        refine gret fun w1 hM => ?_
        refine ⟨_, res1 rfl (rt (v := .bool _) rfl), ?_⟩
        exact ⟨rfl, hM.low⟩
      · -- slot 53 f
        replace hc53 := not_f hc53
        refine gskip ?_
        refine hN8 _ _ ?_
        refine gfrom [(9, .bool _), (10, .pointer _), (11, .bool _), (12, .pointer _), (13, .bool _), (14, .pointer _)] ⟨rfl, rfl, rfl, rfl, rfl, rfl, trivial⟩ fun σ => ?_
        refine gseq fun N11 hN11 => ?_
        refine greg ?_
        refine gop (y_fieldAddr_box fa23_0 rfl) rfl rfl rfl ?_
        refine gop (y_load Tryd.isAgg3 rfl (cell_box 1 rfl rfl)) rfl rfl rfl ?_
        refine gop (y_neq rfl rfl) rfl rfl rfl ?_
        refine gop (y_move (v := .bool _) rfl) rfl rfl rfl ?_
        refine gop_if (want := false) rfl rfl rfl rfl rfl rfl (fun hg57 => ?_) (fun hg57 => ?_)
        · -- guard 57 on
          have hg57d := Decidable.not_not.1 (of_decide_eq_false hg57)
          refine gop (y_bare (y_move (v := .bool _) rfl)) rfl rfl rfl ?_
          refine gop (y_pick_f (v := .bool _) rfl hg57 rfl) rfl rfl rfl ?_
          refine gop (y_move (v := .bool _) rfl) rfl rfl rfl ?_
          refine gop_if (want := true) rfl rfl rfl rfl rfl rfl (fun hg60 => ?_) (fun hg60 => ?_)
          · -- guard 60 on
            have hg60d := hg60
            refine gop (y_bare (y_fieldAddr_box fa23_0 rfl)) rfl rfl rfl ?_
            refine gop_on rfl rfl rfl rfl hg60 ?_
            refine gop (y_bare (y_load Tryd.isAgg3 rfl (cell_box 2 rfl rfl))) rfl rfl rfl ?_
            refine gop_on rfl rfl rfl rfl hg60 ?_
            refine gop (y_bare (y_neq rfl rfl)) rfl rfl rfl ?_
            refine gop_on rfl rfl rfl rfl hg60 ?_
            refine gop (y_bare (y_move (v := .bool _) rfl)) rfl rfl rfl ?_
            refine gop_if (want := false) rfl rfl rfl rfl rfl rfl (fun hg64 => ?_) (fun hg64 => ?_)
            · -- guard 64 on
              have hg64d := Decidable.not_not.1 (of_decide_eq_false hg64)
              refine gop (y_bare (y_move (v := .bool _) rfl)) rfl rfl rfl ?_
              refine gop_on rfl rfl rfl rfl hg60 ?_
              refine gop (y_bare (y_pick_f (v := .bool _) rfl hg64 rfl)) rfl rfl rfl ?_
              refine gop (y_pick_t (v := .bool _) rfl hg60 rfl) rfl rfl rfl ?_
              refine gop (y_move (v := .bool _) rfl) rfl rfl rfl ?_
              refine gop_if (want := true) rfl rfl rfl rfl rfl rfl (fun hg68 => ?_) (fun hg68 => ?_)
              · -- guard 68 on
                have hg68d := hg68
                refine gop (y_bare (y_fieldAddr_box fa23_0 rfl)) rfl rfl rfl ?_
                refine gop_on rfl rfl rfl rfl hg68 ?_
                refine gop (y_bare (y_load Tryd.isAgg3 rfl (cell_box 3 rfl rfl))) rfl rfl rfl ?_
                refine gop_on rfl rfl rfl rfl hg68 ?_
                refine gop (y_bare (y_neq rfl rfl)) rfl rfl rfl ?_
                refine gop_on rfl rfl rfl rfl hg68 ?_
                refine gop (y_bare (y_move (v := .bool _) rfl)) rfl rfl rfl ?_
                refine gop_if (want := false) rfl rfl rfl rfl rfl rfl (fun hg72 => ?_) (fun hg72 => ?_)
                · -- guard 72 on
                  have hg72d := Decidable.not_not.1 (of_decide_eq_false hg72)
                  refine gop (y_bare (y_move (v := .bool _) rfl)) rfl rfl rfl ?_
                  refine gop_on rfl rfl rfl rfl hg68 ?_
                  refine gop (y_bare (y_pick_f (v := .bool _) rfl hg72 rfl)) rfl rfl rfl ?_
                  refine gop (y_pick_t (v := .bool _) rfl hg68 rfl) rfl rfl rfl ?_
                  refine gop (y_assign (v := .bool _) rfl) rfl rfl rfl ?_
                  refine gops_nil ?_
                  refine hN11 _ _ ?_
                  refine gfrom [(6, .bool _)] ⟨rfl, trivial⟩ fun σ => ?_
                  refine gret fun w1 hM => ?_
                  refine ⟨_, res1 rfl (rt (v := .bool _) rfl), ?_⟩
                  have hv : matchV p s = true := by simpa using hc53
                  first | exact ⟨rfl, hM.low⟩ | exact ⟨by rw [deep_below hg50d hv (by assumption)], hM.low⟩ | (have h7 := deep_front hg50d hv (by assumption); simp_all; done) | (have h7 := deep_behind hg50d hv (by assumption); simp_all; done)
                · -- guard 72 off
                  have hg72d := of_decide_eq_true hg72
                  refine gop_on rfl rfl rfl rfl hg68 ?_
                  refine gop (y_bare (y_pick_t (v := .bool _) rfl hg72 rfl)) rfl rfl rfl ?_
                  refine gop (y_pick_t (v := .bool _) rfl hg68 rfl) rfl rfl rfl ?_
                  refine gop (y_assign (v := .bool _) rfl) rfl rfl rfl ?_
                  refine gops_nil ?_
                  refine hN11 _ _ ?_
                  refine gfrom [(6, .bool _)] ⟨rfl, trivial⟩ fun σ => ?_
                  refine gret fun w1 hM => ?_
                  refine ⟨_, res1 rfl (rt (v := .bool _) rfl), ?_⟩
                  have hv : matchV p s = true := by simpa using hc53
                  first | exact ⟨rfl, hM.low⟩ | exact ⟨by rw [deep_below hg50d hv (by assumption)], hM.low⟩ | (have h7 := deep_front hg50d hv (by assumption); simp_all; done) | (have h7 := deep_behind hg50d hv (by assumption); simp_all; done)
              · -- guard 68 off
                have hg68d := hg68
                refine gop_off rfl rfl rfl rfl hg68 rfl rfl ?_
                refine gop_off rfl rfl rfl rfl hg68 rfl rfl ?_
                refine gop_off rfl rfl rfl rfl hg68 rfl rfl ?_
                refine gop_offu rfl rfl rfl rfl rfl rfl ?_
                refine gop_off rfl rfl rfl rfl hg68 rfl rfl ?_
                refine gop (y_pick_f (v := .bool _) rfl hg68 rfl) rfl rfl rfl ?_
                refine gop (y_assign (v := .bool _) rfl) rfl rfl rfl ?_
                refine gops_nil ?_
                refine hN11 _ _ ?_
                refine gfrom [(6, .bool _)] ⟨rfl, trivial⟩ fun σ => ?_
                refine gret fun w1 hM => ?_
                refine ⟨_, res1 rfl (rt (v := .bool _) rfl), ?_⟩
                have hv : matchV p s = true := by simpa using hc53
                first | exact ⟨rfl, hM.low⟩ | exact ⟨by rw [deep_below hg50d hv (by assumption)], hM.low⟩ | (have h7 := deep_front hg50d hv (by assumption); simp_all; done) | (have h7 := deep_behind hg50d hv (by assumption); simp_all; done)
            · -- guard 64 off
              have hg64d := of_decide_eq_true hg64
              refine gop_on rfl rfl rfl rfl hg60 ?_
              refine gop (y_bare (y_pick_t (v := .bool _) rfl hg64 rfl)) rfl rfl rfl ?_
              refine gop (y_pick_t (v := .bool _) rfl hg60 rfl) rfl rfl rfl ?_
              refine gop (y_move (v := .bool _) rfl) rfl rfl rfl ?_
              refine gop_on rfl rfl rfl rfl rfl ?_
              refine gop (y_bare (y_fieldAddr_box fa23_0 rfl)) rfl rfl rfl ?_
              refine gop_on rfl rfl rfl rfl rfl ?_
              refine gop (y_bare (y_load Tryd.isAgg3 rfl (cell_box 3 rfl rfl))) rfl rfl rfl ?_
              refine gop_on rfl rfl rfl rfl rfl ?_
              refine gop (y_bare (y_neq rfl rfl)) rfl rfl rfl ?_
              refine gop_on rfl rfl rfl rfl rfl ?_
              refine gop (y_bare (y_move (v := .bool _) rfl)) rfl rfl rfl ?_
              refine gop_if (want := false) rfl rfl rfl rfl rfl rfl (fun hg72 => ?_) (fun hg72 => ?_)
              · -- guard 72 on
                have hg72d := Decidable.not_not.1 (of_decide_eq_false hg72)
                refine gop (y_bare (y_move (v := .bool _) rfl)) rfl rfl rfl ?_
                refine gop_on rfl rfl rfl rfl rfl ?_
                refine gop (y_bare (y_pick_f (v := .bool _) rfl hg72 rfl)) rfl rfl rfl ?_
                refine gop (y_pick_t (v := .bool _) rfl rfl rfl) rfl rfl rfl ?_
                refine gop (y_assign (v := .bool _) rfl) rfl rfl rfl ?_
                refine gops_nil ?_
                refine hN11 _ _ ?_
                refine gfrom [(6, .bool _)] ⟨rfl, trivial⟩ fun σ => ?_
                refine gret fun w1 hM => ?_
                refine ⟨_, res1 rfl (rt (v := .bool _) rfl), ?_⟩
                have hv : matchV p s = true := by simpa using hc53
                first | exact ⟨rfl, hM.low⟩ | exact ⟨by rw [deep_below hg50d hv (by assumption)], hM.low⟩ | (have h7 := deep_front hg50d hv (by assumption); simp_all; done) | (have h7 := deep_behind hg50d hv (by assumption); simp_all; done)
              · -- guard 72 off
                have hg72d := of_decide_eq_true hg72
                refine gop_on rfl rfl rfl rfl rfl ?_
                refine gop (y_bare (y_pick_t (v := .bool _) rfl hg72 rfl)) rfl rfl rfl ?_
                refine gop (y_pick_t (v := .bool _) rfl rfl rfl) rfl rfl rfl ?_
                refine gop (y_assign (v := .bool _) rfl) rfl rfl rfl ?_
                refine gops_nil ?_
                refine hN11 _ _ ?_
                refine gfrom [(6, .bool _)] ⟨rfl, trivial⟩ fun σ => ?_
                refine gret fun w1 hM => ?_
                refine ⟨_, res1 rfl (rt (v := .bool _) rfl), ?_⟩
                have hv : matchV p s = true := by simpa using hc53
                first | exact ⟨rfl, hM.low⟩ | exact ⟨by rw [deep_below hg50d hv (by assumption)], hM.low⟩ | (have h7 := deep_front hg50d hv (by assumption); simp_all; done) | (have h7 := deep_behind hg50d hv (by assumption); simp_all; done)
          · -- guard 60 off
            have hg60d := hg60
            refine gop_off rfl rfl rfl rfl hg60 rfl rfl ?_
            refine gop_off rfl rfl rfl rfl hg60 rfl rfl ?_
            refine gop_off rfl rfl rfl rfl hg60 rfl rfl ?_
            refine gop_offu rfl rfl rfl rfl rfl rfl ?_
            refine gop_off rfl rfl rfl rfl hg60 rfl rfl ?_
            refine gop (y_pick_f (v := .bool _) rfl hg60 rfl) rfl rfl rfl ?_
            refine gop (y_move (v := .bool _) rfl) rfl rfl rfl ?_
            refine gop_off rfl rfl rfl rfl rfl rfl rfl ?_
            refine gop_off rfl rfl rfl rfl rfl rfl rfl ?_
            refine gop_off rfl rfl rfl rfl rfl rfl rfl ?_
            refine gop_off rfl rfl rfl rfl rfl rfl rfl ?_
            refine gop_offu rfl rfl rfl rfl rfl rfl ?_
            refine gop_off rfl rfl rfl rfl rfl rfl rfl ?_
            refine gop (y_pick_f (v := .bool _) rfl rfl rfl) rfl rfl rfl ?_
            refine gop (y_assign (v := .bool _) rfl) rfl rfl rfl ?_
            refine gops_nil ?_
            refine hN11 _ _ ?_
            refine gfrom [(6, .bool _)] ⟨rfl, trivial⟩ fun σ => ?_
            refine gret fun w1 hM => ?_
            refine ⟨_, res1 rfl (rt (v := .bool _) rfl), ?_⟩
            have hv : matchV p s = true := by simpa using hc53
            first | exact ⟨rfl, hM.low⟩ | exact ⟨by rw [deep_below hg50d hv (by assumption)], hM.low⟩ | (have h7 := deep_front hg50d hv (by assumption); simp_all; done) | (have h7 := deep_behind hg50d hv (by assumption); simp_all; done)
        · -- guard 57 off
          have hg57d := of_decide_eq_true hg57
          refine gop (y_pick_t (v := .bool _) rfl hg57 rfl) rfl rfl rfl ?_
          refine gop (y_move (v := .bool _) rfl) rfl rfl rfl ?_
          refine gop_on rfl rfl rfl rfl rfl ?_
          refine gop (y_bare (y_fieldAddr_box fa23_0 rfl)) rfl rfl rfl ?_
          refine gop_on rfl rfl rfl rfl rfl ?_
          refine gop (y_bare (y_load Tryd.isAgg3 rfl (cell_box 2 rfl rfl))) rfl rfl rfl ?_
          refine gop_on rfl rfl rfl rfl rfl ?_
          refine gop (y_bare (y_neq rfl rfl)) rfl rfl rfl ?_
          refine gop_on rfl rfl rfl rfl rfl ?_
          refine gop (y_bare (y_move (v := .bool _) rfl)) rfl rfl rfl ?_
          refine gop_if (want := false) rfl rfl rfl rfl rfl rfl (fun hg64 => ?_) (fun hg64 => ?_)
          · -- guard 64 on
            have hg64d := Decidable.not_not.1 (of_decide_eq_false hg64)
            refine gop (y_bare (y_move (v := .bool _) rfl)) rfl rfl rfl ?_
            refine gop_on rfl rfl rfl rfl rfl ?_
            refine gop (y_bare (y_pick_f (v := .bool _) rfl hg64 rfl)) rfl rfl rfl ?_
            refine gop (y_pick_t (v := .bool _) rfl rfl rfl) rfl rfl rfl ?_
            refine gop (y_move (v := .bool _) rfl) rfl rfl rfl ?_
            refine gop_if (want := true) rfl rfl rfl rfl rfl rfl (fun hg68 => ?_) (fun hg68 => ?_)
            · -- guard 68 on
              have hg68d := hg68
              refine gop (y_bare (y_fieldAddr_box fa23_0 rfl)) rfl rfl rfl ?_
              refine gop_on rfl rfl rfl rfl hg68 ?_
              refine gop (y_bare (y_load Tryd.isAgg3 rfl (cell_box 3 rfl rfl))) rfl rfl rfl ?_
              refine gop_on rfl rfl rfl rfl hg68 ?_
              refine gop (y_bare (y_neq rfl rfl)) rfl rfl rfl ?_
              refine gop_on rfl rfl rfl rfl hg68 ?_
              refine gop (y_bare (y_move (v := .bool _) rfl)) rfl rfl rfl ?_
              refine gop_if (want := false) rfl rfl rfl rfl rfl rfl (fun hg72 => ?_) (fun hg72 => ?_)
              · -- guard 72 on
                have hg72d := Decidable.not_not.1 (of_decide_eq_false hg72)
                refine gop (y_bare (y_move (v := .bool _) rfl)) rfl rfl rfl ?_
                refine gop_on rfl rfl rfl rfl hg68 ?_
                refine gop (y_bare (y_pick_f (v := .bool _) rfl hg72 rfl)) rfl rfl rfl ?_
                refine gop (y_pick_t (v := .bool _) rfl hg68 rfl) rfl rfl rfl ?_
                refine gop (y_assign (v := .bool _) rfl) rfl rfl rfl ?_
                refine gops_nil ?_
                refine hN11 _ _ ?_
                refine gfrom [(6, .bool _)] ⟨rfl, trivial⟩ fun σ => ?_
                refine gret fun w1 hM => ?_
                refine ⟨_, res1 rfl (rt (v := .bool _) rfl), ?_⟩
                have hv : matchV p s = true := by simpa using hc53
                first | exact ⟨rfl, hM.low⟩ | exact ⟨by rw [deep_below hg50d hv (by assumption)], hM.low⟩ | (have h7 := deep_front hg50d hv (by assumption); simp_all; done) | (have h7 := deep_behind hg50d hv (by assumption); simp_all; done)
              · -- guard 72 off
                have hg72d := of_decide_eq_true hg72
                refine gop_on rfl rfl rfl rfl hg68 ?_
                refine gop (y_bare (y_pick_t (v := .bool _) rfl hg72 rfl)) rfl rfl rfl ?_
                refine gop (y_pick_t (v := .bool _) rfl hg68 rfl) rfl rfl rfl ?_
                refine gop (y_assign (v := .bool _) rfl) rfl rfl rfl ?_
                refine gops_nil ?_
                refine hN11 _ _ ?_
                refine gfrom [(6, .bool _)] ⟨rfl, trivial⟩ fun σ => ?_
                refine gret fun w1 hM => ?_
                refine ⟨_, res1 rfl (rt (v := .bool _) rfl), ?_⟩
                have hv : matchV p s = true := by simpa using hc53
                first | exact ⟨rfl, hM.low⟩ | exact ⟨by rw [deep_below hg50d hv (by assumption)], hM.low⟩ | (have h7 := deep_front hg50d hv (by assumption); simp_all; done) | (have h7 := deep_behind hg50d hv (by assumption); simp_all; done)
            · -- guard 68 off
              have hg68d := hg68
              refine gop_off rfl rfl rfl rfl hg68 rfl rfl ?_
              refine gop_off rfl rfl rfl rfl hg68 rfl rfl ?_
              refine gop_off rfl rfl rfl rfl hg68 rfl rfl ?_
              refine gop_offu rfl rfl rfl rfl rfl rfl ?_
              refine gop_off rfl rfl rfl rfl hg68 rfl rfl ?_
              refine gop (y_pick_f (v := .bool _) rfl hg68 rfl) rfl rfl rfl ?_
              refine gop (y_assign (v := .bool _) rfl) rfl rfl rfl ?_
              refine gops_nil ?_
              refine hN11 _ _ ?_
              refine gfrom [(6, .bool _)] ⟨rfl, trivial⟩ fun σ => ?_
              refine gret fun w1 hM => ?_
              refine ⟨_, res1 rfl (rt (v := .bool _) rfl), ?_⟩
              have hv : matchV p s = true := by simpa using hc53
              first | exact ⟨rfl, hM.low⟩ | exact ⟨by rw [deep_below hg50d hv (by assumption)], hM.low⟩ | (have h7 := deep_front hg50d hv (by assumption); simp_all; done) | (have h7 := deep_behind hg50d hv (by assumption); simp_all; done)
          · -- guard 64 off
            have hg64d := of_decide_eq_true hg64
            refine gop_on rfl rfl rfl rfl rfl ?_
            refine gop (y_bare (y_pick_t (v := .bool _) rfl hg64 rfl)) rfl rfl rfl ?_
            refine gop (y_pick_t (v := .bool _) rfl rfl rfl) rfl rfl rfl ?_
            refine gop (y_move (v := .bool _) rfl) rfl rfl rfl ?_
            refine gop_on rfl rfl rfl rfl rfl ?_
            refine gop (y_bare (y_fieldAddr_box fa23_0 rfl)) rfl rfl rfl ?_
            refine gop_on rfl rfl rfl rfl rfl ?_
            refine gop (y_bare (y_load Tryd.isAgg3 rfl (cell_box 3 rfl rfl))) rfl rfl rfl ?_
            refine gop_on rfl rfl rfl rfl rfl ?_
            refine gop (y_bare (y_neq rfl rfl)) rfl rfl rfl ?_
            refine gop_on rfl rfl rfl rfl rfl ?_
            refine gop (y_bare (y_move (v := .bool _) rfl)) rfl rfl rfl ?_
            refine gop_if (want := false) rfl rfl rfl rfl rfl rfl (fun hg72 => ?_) (fun hg72 => ?_)
            · -- guard 72 on
              have hg72d := Decidable.not_not.1 (of_decide_eq_false hg72)
              refine gop (y_bare (y_move (v := .bool _) rfl)) rfl rfl rfl ?_
              refine gop_on rfl rfl rfl rfl rfl ?_
              refine gop (y_bare (y_pick_f (v := .bool _) rfl hg72 rfl)) rfl rfl rfl ?_
              refine gop (y_pick_t (v := .bool _) rfl rfl rfl) rfl rfl rfl ?_
              refine gop (y_assign (v := .bool _) rfl) rfl rfl rfl ?_
              refine gops_nil ?_
              refine hN11 _ _ ?_
              refine gfrom [(6, .bool _)] ⟨rfl, trivial⟩ fun σ => ?_
              refine gret fun w1 hM => ?_
              refine ⟨_, res1 rfl (rt (v := .bool _) rfl), ?_⟩
              have hv : matchV p s = true := by simpa using hc53
              first | exact ⟨rfl, hM.low⟩ | exact ⟨by rw [deep_below hg50d hv (by assumption)], hM.low⟩ | (have h7 := deep_front hg50d hv (by assumption); simp_all; done) | (have h7 := deep_behind hg50d hv (by assumption); simp_all; done)
            · -- guard 72 off
              have hg72d := of_decide_eq_true hg72
              refine gop_on rfl rfl rfl rfl rfl ?_
              refine gop (y_bare (y_pick_t (v := .bool _) rfl hg72 rfl)) rfl rfl rfl ?_
              refine gop (y_pick_t (v := .bool _) rfl rfl rfl) rfl rfl rfl ?_
              refine gop (y_assign (v := .bool _) rfl) rfl rfl rfl ?_
              refine gops_nil ?_
              refine hN11 _ _ ?_
              refine gfrom [(6, .bool _)] ⟨rfl, trivial⟩ fun σ => ?_
              refine gret fun w1 hM => ?_
              refine ⟨_, res1 rfl (rt (v := .bool _) rfl), ?_⟩
              have hv : matchV p s = true := by simpa using hc53
              first | exact ⟨rfl, hM.low⟩ | exact ⟨by rw [deep_below hg50d hv (by assumption)], hM.low⟩ | (have h7 := deep_front hg50d hv (by assumption); simp_all; done) | (have h7 := deep_behind hg50d hv (by assumption); simp_all; done)
    · -- guard 50 off
      have hg50d := of_decide_eq_true hg50
      refine gop_off rfl rfl rfl rfl hg50 rfl rfl ?_
      refine gop (y_pick_t (v := .bool _) rfl hg50 rfl) rfl rfl rfl ?_
      refine gops_nil ?_
      refine hN9 _ _ ?_
      refine gfrom [(9, .bool _), (10, .pointer _), (11, .bool _), (12, .pointer _), (13, .bool _), (14, .pointer _), (53, .bool _)] ⟨rfl, rfl, rfl, rfl, rfl, rfl, rfl, trivial⟩ fun σ => ?_
      refine gcond (b := _) rfl (fun hc53 => ?_) (fun hc53 => ?_)
      · -- slot 53 t
        refine gseq fun N12 hN12 => ?_
        refine greg ?_
        refine gop (y_assign (v := .bool _) rfl) rfl rfl rfl ?_
        refine gops_nil ?_
        refine hN12 _ _ ?_
        refine gfrom [(6, .bool _)] ⟨rfl, trivial⟩ fun σ => ?_
        refine gret fun w1 hM => ?_
        refine ⟨_, res1 rfl (rt (v := .bool _) rfl), ?_⟩
        exact ⟨rfl, hM.low⟩
      · -- slot 53 f
        cases hc53
end Go.Proofs.YtijpaljdclhehaaDoor
