/- walks, printed by program -/
import Derived.Test.YtijpaljdclhehaaDoorGlobWx
namespace Go.Proofs.YtijpaljdclhehaaDoor
open Go.RowKit Go.Cf
set_option maxRecDepth 10000



set_option maxHeartbeats 2000000 in
theorem law19_any (w : World) (d p s : ByteArray) (hd : d.size ≤ reachBytes) (hp : p.size ≤ reachBytes) (hs : s.size ≤ reachBytes) : Calls Tryd.prog 4 #[.string d, .string p, .string s] w fun e w' => e = .returned (.bool true) ∧ Below w.heap.size w w' := by
  have hRB : reachBytes ≤ 9223372036854775807 / 8 := by decide
  have h471 : (⟨#[47]⟩ : ByteArray).size = 1 := rfl
  have h472 : (⟨#[42, 42, 47]⟩ : ByteArray).size = 3 := rfl
  have h473 : (⟨#[47, 42, 42]⟩ : ByteArray).size = 3 := rfl
  refine gcalls Tryd.func4 rfl Tryd.ntmps4 (Nat.le_of_ble_eq_true rfl) ?_
  refine gfrom [(0, .string _), (1, .string _), (2, .string _)] ⟨rfl, rfl, rfl, trivial⟩ fun σ => ?_
  refine gseq fun N1 hN1 => ?_
  refine greg ?_
  refine gop (y_assign (v := .bool _) rfl) rfl rfl rfl ?_
  refine gops_nil ?_
  refine hN1 _ _ ?_
  refine gfrom [(0, .string _), (1, .string _), (2, .string _)] ⟨rfl, rfl, rfl, trivial⟩ fun σ => ?_
  refine gseq fun N2 hN2 => ?_
  refine greg ?_
  refine gop (y_move (v := .string _) rfl) rfl rfl rfl ?_
  refine gop (y_move (v := .string _) rfl) rfl rfl rfl ?_
  refine gop_pure (e_call (vs := [.string _, .string _]) Tryd.func14 rfl (by kernel_rfl) rfl) (fun w hM => match_any w _ _) rfl rfl rfl ?_
  refine gop (y_move (v := .tuple #[.bool _, .agg #[_, _]]) rfl) rfl rfl rfl ?_
  refine gop (y_extract (v := .bool _) rfl rfl) rfl rfl rfl ?_
  refine gop (y_extract (v := .agg #[_, _]) rfl rfl) rfl rfl rfl ?_
  refine gop_alloc (cs := #[.int .i64 0, .int .i64 0]) Tryd.zeroValue23 rfl rfl (fun b8 hb8 => ?_)
  refine gop (y_assign (v := .bool _) rfl) rfl rfl rfl ?_
  refine gop_store 0 (v := .agg #[_, _]) (cs' := #[_, _]) rfl rfl Tryd.sizeOf23 rfl rfl rfl rfl (Nat.le_of_ble_eq_true rfl) rfl rfl ?_
  refine gops_nil ?_
  refine hN2 _ _ ?_
  refine gT [box b8 _] rfl ?_
  refine gfrom [(0, .string _), (1, .string _), (2, .string _), (7, .bool _), (8, .pointer _)] ⟨rfl, rfl, rfl, rfl, rfl, trivial⟩ fun σ => ?_
  refine gseq fun N3 hN3 => ?_
  refine greg ?_
  refine gop (y_move (v := .string _) rfl) rfl rfl rfl ?_
  refine gop (y_cat rfl rfl (by (try simp only [ByteArray.size_append]); omega)) rfl rfl rfl ?_
  refine gop (y_move (v := .string _) rfl) rfl rfl rfl ?_
  refine gop (y_cat rfl rfl (by (try simp only [ByteArray.size_append]); omega)) rfl rfl rfl ?_
  refine gop (y_move (v := .string _) rfl) rfl rfl rfl ?_
  refine gop (y_cat rfl rfl (by (try simp only [ByteArray.size_append]); omega)) rfl rfl rfl ?_
  refine gop (y_move (v := .string _) rfl) rfl rfl rfl ?_
  refine gop (y_cat rfl rfl (by (try simp only [ByteArray.size_append]); omega)) rfl rfl rfl ?_
  refine gop_pure (e_call (vs := [.string _, .string _]) Tryd.func14 rfl (by kernel_rfl) rfl) (fun w hM => match_any w _ _) rfl rfl rfl ?_
  refine gop (y_move (v := .tuple #[.bool _, .agg #[_, _]]) rfl) rfl rfl rfl ?_
  refine gop (y_extract (v := .bool _) rfl rfl) rfl rfl rfl ?_
  refine gop (y_extract (v := .agg #[_, _]) rfl rfl) rfl rfl rfl ?_
  refine gop_alloc (cs := #[.int .i64 0, .int .i64 0]) Tryd.zeroValue23 rfl rfl (fun b10 hb10 => ?_)
  refine gop (y_assign (v := .bool _) rfl) rfl rfl rfl ?_
  refine gop_store 1 (v := .agg #[_, _]) (cs' := #[_, _]) rfl rfl Tryd.sizeOf23 rfl rfl rfl rfl (Nat.le_of_ble_eq_true rfl) rfl rfl ?_
  refine gops_nil ?_
  refine hN3 _ _ ?_
  refine gT [box b8 _, box b10 _] rfl ?_
  refine gfrom [(0, .string _), (7, .bool _), (8, .pointer _), (9, .bool _), (10, .pointer _)] ⟨rfl, rfl, rfl, rfl, rfl, trivial⟩ fun σ => ?_
  refine gseq fun N4 hN4 => ?_
  refine gseq fun N5 hN5 => ?_
  refine greg ?_
  refine gop_pure (e_call (vs := []) Tryd.func16 rfl (by kernel_rfl) rfl) (fun w hM => globExample_any w) rfl rfl rfl ?_
  refine gop (y_not rfl) rfl rfl rfl ?_
  refine gops_nil ?_
  refine hN5 _ _ ?_
  refine gfrom [(0, .string _), (7, .bool _), (8, .pointer _), (9, .bool _), (10, .pointer _), (30, .bool _)] ⟨rfl, rfl, rfl, rfl, rfl, rfl, trivial⟩ fun σ => ?_
  refine gcond (b := _) rfl (fun hc30 => ?_) (fun hc30 => ?_)
  · -- slot 30 t
     exact absurd hc30 (by decide)
  · -- slot 30 f
    replace hc30 := not_f hc30
    refine gskip ?_
    refine hN4 _ _ ?_
    refine gfrom [(0, .string _), (7, .bool _), (8, .pointer _), (9, .bool _), (10, .pointer _)] ⟨rfl, rfl, rfl, rfl, rfl, trivial⟩ fun σ => ?_
    refine gseq fun N6 hN6 => ?_
    refine greg ?_
    refine gop (y_fieldAddr_box fa23_0 rfl) rfl rfl rfl ?_
    refine gop (y_load Tryd.isAgg3 rfl (cell_box 0 rfl rfl)) rfl rfl rfl ?_
    refine gop (y_neq rfl rfl) rfl rfl rfl ?_
    refine gop (y_move (v := .bool _) rfl) rfl rfl rfl ?_
    refine gop_if (want := false) rfl rfl rfl rfl rfl rfl (fun hg34 => ?_) (fun hg34 => ?_)
    · -- guard 34 on
      have hg34d := Decidable.not_not.1 (of_decide_eq_false hg34)
      refine gop (y_bare (y_fieldAddr_box fa23_0 rfl)) rfl rfl rfl ?_
      refine gop_on rfl rfl rfl rfl hg34 ?_
      refine gop (y_bare (y_load Tryd.isAgg3 rfl (cell_box 1 rfl rfl))) rfl rfl rfl ?_
      refine gop_on rfl rfl rfl rfl hg34 ?_
      refine gop (y_bare (y_neq rfl rfl)) rfl rfl rfl ?_
      refine gop (y_pick_f (v := .bool _) rfl hg34 rfl) rfl rfl rfl ?_
      refine gop (y_move (v := .bool _) rfl) rfl rfl rfl ?_
      refine gop_if (want := false) rfl rfl rfl rfl rfl rfl (fun hg39 => ?_) (fun hg39 => ?_)
      · -- guard 39 on
        have hg39d := Decidable.not_not.1 (of_decide_eq_false hg39)
        refine gop (y_bare (y_move (v := .string _) rfl)) rfl rfl rfl ?_
        refine gop_on rfl rfl rfl rfl hg39 ?_
        refine gop_pure (e_call (vs := [.string _]) Tryd.func17 rfl (by kernel_rfl) rfl) (fun w hM => isPath_any w _ (Nat.le_trans (dir_size hg39d) (by decide))) rfl rfl rfl ?_
        refine gop_on rfl rfl rfl rfl hg39 ?_
        refine gop (y_bare (y_not rfl)) rfl rfl rfl ?_
        refine gop (y_pick_f (v := .bool _) rfl hg39 rfl) rfl rfl rfl ?_
        refine gop (y_move (v := .bool _) rfl) rfl rfl rfl ?_
        refine gop_if (want := false) rfl rfl rfl rfl rfl rfl (fun hg44 => ?_) (fun hg44 => ?_)
        · -- guard 44 on
          have hg44d := not_f hg44
          refine gop (y_bare (y_move (v := .bool _) rfl)) rfl rfl rfl ?_
          refine gop_on rfl rfl rfl rfl hg44 ?_
          refine gop (y_bare (y_move (v := .bool _) rfl)) rfl rfl rfl ?_
          refine gop_on rfl rfl rfl rfl hg44 ?_
          refine gop (y_bare (y_eqlb rfl rfl Tryd.underlying4)) rfl rfl rfl ?_
          refine gop (y_pick_f (v := .bool _) rfl hg44 rfl) rfl rfl rfl ?_
          refine gop (y_assign (v := .bool _) rfl) rfl rfl rfl ?_
          refine gops_nil ?_
          refine hN6 _ _ ?_
          refine gfrom [(6, .bool _)] ⟨rfl, trivial⟩ fun σ => ?_
          refine gret fun w1 hM => ?_
          refine ⟨_, res1 rfl (rt (v := .bool _) rfl), ?_⟩
          first | exact ⟨rfl, hM.low⟩ | exact ⟨by rw [dir_composes hg34d hg39d (by simpa using hg44d)]; simp, hM.low⟩
        · -- guard 44 off
          have hg44d := not_t hg44
          refine gop_off rfl rfl rfl rfl hg44 rfl rfl ?_
          refine gop_off rfl rfl rfl rfl hg44 rfl rfl ?_
          refine gop (y_pick_t (v := .bool _) rfl hg44 rfl) rfl rfl rfl ?_
          refine gop (y_assign (v := .bool _) rfl) rfl rfl rfl ?_
          refine gops_nil ?_
          refine hN6 _ _ ?_
          refine gfrom [(6, .bool _)] ⟨rfl, trivial⟩ fun σ => ?_
          refine gret fun w1 hM => ?_
          refine ⟨_, res1 rfl (rt (v := .bool _) rfl), ?_⟩
          first | exact ⟨rfl, hM.low⟩ | exact ⟨by rw [dir_composes hg34d hg39d (by simpa using hg44d)]; simp, hM.low⟩
      · -- guard 39 off
        have hg39d := of_decide_eq_true hg39
        refine gop_off rfl rfl rfl rfl hg39 rfl rfl ?_
        refine gop_off rfl rfl rfl rfl hg39 rfl rfl ?_
        refine gop (y_pick_t (v := .bool _) rfl hg39 rfl) rfl rfl rfl ?_
        refine gop (y_move (v := .bool _) rfl) rfl rfl rfl ?_
        refine gop_off rfl rfl rfl rfl rfl rfl rfl ?_
        refine gop_off rfl rfl rfl rfl rfl rfl rfl ?_
        refine gop_off rfl rfl rfl rfl rfl rfl rfl ?_
        refine gop (y_pick_t (v := .bool _) rfl rfl rfl) rfl rfl rfl ?_
        refine gop (y_assign (v := .bool _) rfl) rfl rfl rfl ?_
        refine gops_nil ?_
        refine hN6 _ _ ?_
        refine gfrom [(6, .bool _)] ⟨rfl, trivial⟩ fun σ => ?_
        refine gret fun w1 hM => ?_
        refine ⟨_, res1 rfl (rt (v := .bool _) rfl), ?_⟩
        first | exact ⟨rfl, hM.low⟩ | exact ⟨by rw [dir_composes hg34d hg39d (by simpa using hg44d)]; simp, hM.low⟩
    · -- guard 34 off
      have hg34d := of_decide_eq_true hg34
      refine gop_off rfl rfl rfl rfl hg34 rfl rfl ?_
      refine gop_off rfl rfl rfl rfl hg34 rfl rfl ?_
      refine gop (y_pick_t (v := .bool _) rfl hg34 rfl) rfl rfl rfl ?_
      refine gop (y_move (v := .bool _) rfl) rfl rfl rfl ?_
      refine gop_off rfl rfl rfl rfl rfl rfl rfl ?_
      refine gop_off rfl rfl rfl rfl rfl rfl rfl ?_
      refine gop_off rfl rfl rfl rfl rfl rfl rfl ?_
      refine gop (y_pick_t (v := .bool _) rfl rfl rfl) rfl rfl rfl ?_
      refine gop (y_move (v := .bool _) rfl) rfl rfl rfl ?_
      refine gop_off rfl rfl rfl rfl rfl rfl rfl ?_
      refine gop_off rfl rfl rfl rfl rfl rfl rfl ?_
      refine gop_off rfl rfl rfl rfl rfl rfl rfl ?_
      refine gop (y_pick_t (v := .bool _) rfl rfl rfl) rfl rfl rfl ?_
      refine gop (y_assign (v := .bool _) rfl) rfl rfl rfl ?_
      refine gops_nil ?_
      refine hN6 _ _ ?_
      refine gfrom [(6, .bool _)] ⟨rfl, trivial⟩ fun σ => ?_
      refine gret fun w1 hM => ?_
      refine ⟨_, res1 rfl (rt (v := .bool _) rfl), ?_⟩
      first | exact ⟨rfl, hM.low⟩ | exact ⟨by rw [dir_composes hg34d hg39d (by simpa using hg44d)]; simp, hM.low⟩
end Go.Proofs.YtijpaljdclhehaaDoor
