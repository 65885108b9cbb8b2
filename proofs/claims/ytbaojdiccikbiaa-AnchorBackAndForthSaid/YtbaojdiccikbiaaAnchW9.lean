/- walks, printed by program -/
import Derived.Test.YtbaojdiccikbiaaInvB
import Derived.Test.YtbaojdiccikbiaaPatchD
namespace Go.Proofs.Ytbaojdiccikbiaa
open Go.RowKit Go.Cf
set_option maxRecDepth 10000



set_option maxHeartbeats 1000000 in
theorem law9_any (w : World) (A : Option Addr) (c : Nat) (hs : List HunkC) (hp : PatR w 0 A c hs) (line : Int) :
    Calls Try.prog 6 #[.agg #[.slice A hs.length c], .int .i64 line] w fun e w' => e = .returned (.bool true) ∧ Below w.heap.size w w' := by
  refine gcalls Try.func6 rfl Try.ntmps6 (Nat.le_of_ble_eq_true rfl) ?_
  refine gfrom [(0, .agg #[_]), (1, .int _ _)] ⟨rfl, rfl, trivial⟩ fun σ => ?_
  refine gseq fun N1 hN1 => ?_
  refine greg ?_
  refine gop_box (v := .agg #[_]) (cs := #[_]) rfl rfl rfl (fun b2 hb2 => ?_)
  refine gop (y_assign (v := .bool _) rfl) rfl rfl rfl ?_
  refine gops_nil ?_
  refine hN1 _ _ ?_
  refine gT [box b2 _] rfl ?_
  refine gfrom [(1, .int _ _), (2, .pointer _)] ⟨rfl, rfl, trivial⟩ fun σ => ?_
  refine gseq fun N2 hN2 => ?_
  refine greg ?_
  refine gop (y_loads (cs := [_]) Try.isAgg25 Try.sizeOf25 rfl rfl (cells_box 0 rfl)) rfl rfl rfl ?_
  refine gop (y_move (v := .int _ _) rfl) rfl rfl rfl ?_
  refine gop_pure (e_call (vs := [.agg #[_], .int _ _]) Try.func20 rfl (by kernel_rfl) rfl) (fun w hM => map_any w _ _ hs (PatR.lasts.base hp hM) line) rfl rfl rfl ?_
  refine gop (y_move (v := .tuple #[.int _ _, .bool _, .agg #[_, _]]) rfl) rfl rfl rfl ?_
  refine gop (y_extract (v := .int _ _) rfl rfl) rfl rfl rfl ?_
  refine gop (y_extract (v := .bool _) rfl rfl) rfl rfl rfl ?_
  refine gop (y_extract (v := .agg #[_, _]) rfl rfl) rfl rfl rfl ?_
  refine gop_alloc (cs := #[.int .i64 0, .int .i64 0]) Try.zeroValue27 rfl rfl (fun b7 hb7 => ?_)
  refine gop (y_assign (v := .int _ _) rfl) rfl rfl rfl ?_
  refine gop (y_assign (v := .bool _) rfl) rfl rfl rfl ?_
  refine gop_store 1 (v := .agg #[_, _]) (cs' := #[_, _]) rfl rfl Try.sizeOf27 rfl rfl rfl rfl (Nat.le_of_ble_eq_true rfl) rfl rfl ?_
  refine gops_nil ?_
  refine hN2 _ _ ?_
  refine gT [box b2 _, box b7 _] rfl ?_
  refine gfrom [(1, .int _ _), (2, .pointer _), (5, .int _ _), (6, .bool _), (7, .pointer _)] ⟨rfl, rfl, rfl, rfl, rfl, trivial⟩ fun σ => ?_
  refine gseq fun N3 hN3 => ?_
  refine greg ?_
  refine gop (y_loads (cs := [_]) Try.isAgg25 Try.sizeOf25 rfl rfl (cells_box 0 rfl)) rfl rfl rfl ?_
  refine gop (y_move (v := .int _ _) rfl) rfl rfl rfl ?_
  refine gop_pure (e_call (vs := [.agg #[_], .int _ _]) Try.func21 rfl (by kernel_rfl) rfl) (fun w hM => mapBack_any w _ _ hs (PatR.lasts.base hp hM) (mapV (pls hs) line).1) rfl rfl rfl ?_
  refine gop (y_move (v := .tuple #[.int _ _, .bool _, .agg #[_, _]]) rfl) rfl rfl rfl ?_
  refine gop (y_extract (v := .int _ _) rfl rfl) rfl rfl rfl ?_
  refine gop (y_extract (v := .bool _) rfl rfl) rfl rfl rfl ?_
  refine gop (y_extract (v := .agg #[_, _]) rfl rfl) rfl rfl rfl ?_
  refine gop_alloc (cs := #[.int .i64 0, .int .i64 0]) Try.zeroValue27 rfl rfl (fun b10 hb10 => ?_)
  refine gop (y_assign (v := .int _ _) rfl) rfl rfl rfl ?_
  refine gop (y_assign (v := .bool _) rfl) rfl rfl rfl ?_
  refine gop_store 2 (v := .agg #[_, _]) (cs' := #[_, _]) rfl rfl Try.sizeOf27 rfl rfl rfl rfl (Nat.le_of_ble_eq_true rfl) rfl rfl ?_
  refine gops_nil ?_
  refine hN3 _ _ ?_
  refine gT [box b2 _, box b7 _, box b10 _] rfl ?_
  refine gfrom [(1, .int _ _), (6, .bool _), (7, .pointer _), (8, .int _ _), (9, .bool _), (10, .pointer _)] ⟨rfl, rfl, rfl, rfl, rfl, rfl, trivial⟩ fun σ => ?_
  refine gseq fun N4 hN4 => ?_
  refine gseq fun N5 hN5 => ?_
  refine greg ?_
  refine gop_pure (e_call (vs := []) Try.func15 rfl (by kernel_rfl) rfl) (fun w hM => anchorExample_any w) rfl rfl rfl ?_
  refine gop (y_not rfl) rfl rfl rfl ?_
  refine gops_nil ?_
  refine hN5 _ _ ?_
  refine gfrom [(1, .int _ _), (6, .bool _), (7, .pointer _), (8, .int _ _), (9, .bool _), (10, .pointer _), (26, .bool _)] ⟨rfl, rfl, rfl, rfl, rfl, rfl, rfl, trivial⟩ fun σ => ?_
  refine gcond (b := _) rfl (fun hc26 => ?_) (fun hc26 => ?_)
  · -- slot 26 t
    simp at hc26
  · -- slot 26 f
    replace hc26 := not_f hc26
    refine gskip ?_
    refine hN4 _ _ ?_
    refine gfrom [(1, .int _ _), (6, .bool _), (7, .pointer _), (8, .int _ _), (9, .bool _), (10, .pointer _)] ⟨rfl, rfl, rfl, rfl, rfl, rfl, trivial⟩ fun σ => ?_
    refine gseq fun N6 hN6 => ?_
    refine greg ?_
    refine gop (y_fieldAddr_box fa27_0 rfl) rfl rfl rfl ?_
    refine gop (y_load Try.isAgg3 rfl (cell_box 1 rfl rfl)) rfl rfl rfl ?_
    refine gop (y_neq rfl rfl) rfl rfl rfl ?_
    refine gop (y_move (v := .bool _) rfl) rfl rfl rfl ?_
    refine gop_if (want := false) rfl rfl rfl rfl rfl rfl (fun hg30 => ?_) (fun hg30 => ?_)
    · -- guard 30 on
      have hg30d := Decidable.not_not.1 (of_decide_eq_false hg30)
      refine gop (y_bare (y_fieldAddr_box fa27_0 rfl)) rfl rfl rfl ?_
      refine gop_on rfl rfl rfl rfl hg30 ?_
      refine gop (y_bare (y_load Try.isAgg3 rfl (cell_box 2 rfl rfl))) rfl rfl rfl ?_
      refine gop_on rfl rfl rfl rfl hg30 ?_
      refine gop (y_bare (y_neq rfl rfl)) rfl rfl rfl ?_
      refine gop (y_pick_f (v := .bool _) rfl hg30 rfl) rfl rfl rfl ?_
      refine gop (y_move (v := .bool _) rfl) rfl rfl rfl ?_
      refine gop_if (want := false) rfl rfl rfl rfl rfl rfl (fun hg35 => ?_) (fun hg35 => ?_)
      · -- guard 35 on
        have hg35d := Decidable.not_not.1 (of_decide_eq_false hg35)
        refine gop (y_bare (y_move (v := .bool _) rfl)) rfl rfl rfl ?_
        refine gop_on rfl rfl rfl rfl hg35 ?_
        refine gop (y_bare (y_not rfl)) rfl rfl rfl ?_
        refine gop (y_pick_f (v := .bool _) rfl hg35 rfl) rfl rfl rfl ?_
        refine gop (y_move (v := .bool _) rfl) rfl rfl rfl ?_
        refine gop_if (want := false) rfl rfl rfl rfl rfl rfl (fun hg39 => ?_) (fun hg39 => ?_)
        · -- guard 39 on
          have hg39d := not_f hg39
          have hE := law9_plain hg30d hg35d hg39d
          refine gop (y_bare (y_move (v := .bool _) rfl)) rfl rfl rfl ?_
          refine gop_on rfl rfl rfl rfl hg39 ?_
          refine gop (y_bare (y_move (v := .bool _) rfl)) rfl rfl rfl ?_
          refine gop_if (want := true) rfl rfl rfl rfl rfl rfl (fun hg41 => ?_) (fun hg41 => ?_)
          · -- guard 41 on
            have hg41d := hg41
            refine gop (y_bare (y_move (v := .int _ _) rfl)) rfl rfl rfl ?_
            refine gop_on rfl rfl rfl rfl hg41 ?_
            refine gop (y_bare (y_move (v := .int _ _) rfl)) rfl rfl rfl ?_
            refine gop_on rfl rfl rfl rfl hg41 ?_
            refine gop (y_bare (y_eql rfl rfl)) rfl rfl rfl ?_
            refine gop_on rfl rfl rfl rfl hg39 ?_
            refine gop (y_bare (y_pick_t (v := .bool _) rfl hg41 rfl)) rfl rfl rfl ?_
            refine gop (y_pick_f (v := .bool _) rfl hg39 rfl) rfl rfl rfl ?_
            refine gop (y_assign (v := .bool _) rfl) rfl rfl rfl ?_
            refine gops_nil ?_
            refine hN6 _ _ ?_
            refine gfrom [(4, .bool _)] ⟨rfl, trivial⟩ fun σ => ?_
            refine gret fun w1 hM => ?_
            refine ⟨_, res1 rfl (rt (v := .bool _) rfl), ?_⟩
            first | exact ⟨rfl, hM.low⟩ | exact ⟨by rw [hE]; simp, hM.low⟩
          · -- guard 41 off
            rw [hE] at hg41; cases hg41
        · -- guard 39 off
          have hg39d := not_t hg39
          refine gop_off rfl rfl rfl rfl hg39 rfl rfl ?_
          refine gop_offu rfl rfl rfl rfl rfl rfl ?_
          refine gop_offu rfl rfl rfl rfl rfl rfl ?_
          refine gop_offu rfl rfl rfl rfl rfl rfl ?_
          refine gop_off rfl rfl rfl rfl hg39 rfl rfl ?_
          refine gop (y_pick_t (v := .bool _) rfl hg39 rfl) rfl rfl rfl ?_
          refine gop (y_assign (v := .bool _) rfl) rfl rfl rfl ?_
          refine gops_nil ?_
          refine hN6 _ _ ?_
          refine gfrom [(4, .bool _)] ⟨rfl, trivial⟩ fun σ => ?_
          refine gret fun w1 hM => ?_
          refine ⟨_, res1 rfl (rt (v := .bool _) rfl), ?_⟩
          first | exact ⟨rfl, hM.low⟩ | exact ⟨by rw [hE]; simp, hM.low⟩
      · -- guard 35 off
        have hg35d := of_decide_eq_true hg35
        refine gop_off rfl rfl rfl rfl hg35 rfl rfl ?_
        refine gop (y_pick_t (v := .bool _) rfl hg35 rfl) rfl rfl rfl ?_
        refine gop (y_move (v := .bool _) rfl) rfl rfl rfl ?_
        refine gop_off rfl rfl rfl rfl rfl rfl rfl ?_
        refine gop_off rfl rfl rfl rfl rfl rfl rfl ?_
        refine gop_offu rfl rfl rfl rfl rfl rfl ?_
        refine gop_offu rfl rfl rfl rfl rfl rfl ?_
        refine gop_offu rfl rfl rfl rfl rfl rfl ?_
        refine gop_off rfl rfl rfl rfl rfl rfl rfl ?_
        refine gop (y_pick_t (v := .bool _) rfl rfl rfl) rfl rfl rfl ?_
        refine gop (y_assign (v := .bool _) rfl) rfl rfl rfl ?_
        refine gops_nil ?_
        refine hN6 _ _ ?_
        refine gfrom [(4, .bool _)] ⟨rfl, trivial⟩ fun σ => ?_
        refine gret fun w1 hM => ?_
        refine ⟨_, res1 rfl (rt (v := .bool _) rfl), ?_⟩
        first | exact ⟨rfl, hM.low⟩ | exact ⟨by rw [hE]; simp, hM.low⟩
    · -- guard 30 off
      have hg30d := of_decide_eq_true hg30
      refine gop_off rfl rfl rfl rfl hg30 rfl rfl ?_
      refine gop_off rfl rfl rfl rfl hg30 rfl rfl ?_
      refine gop (y_pick_t (v := .bool _) rfl hg30 rfl) rfl rfl rfl ?_
      refine gop (y_move (v := .bool _) rfl) rfl rfl rfl ?_
      refine gop_off rfl rfl rfl rfl rfl rfl rfl ?_
      refine gop_off rfl rfl rfl rfl rfl rfl rfl ?_
      refine gop (y_pick_t (v := .bool _) rfl rfl rfl) rfl rfl rfl ?_
      refine gop (y_move (v := .bool _) rfl) rfl rfl rfl ?_
      refine gop_off rfl rfl rfl rfl rfl rfl rfl ?_
      refine gop_off rfl rfl rfl rfl rfl rfl rfl ?_
      refine gop_offu rfl rfl rfl rfl rfl rfl ?_
      refine gop_offu rfl rfl rfl rfl rfl rfl ?_
      refine gop_offu rfl rfl rfl rfl rfl rfl ?_
      refine gop_off rfl rfl rfl rfl rfl rfl rfl ?_
      refine gop (y_pick_t (v := .bool _) rfl rfl rfl) rfl rfl rfl ?_
      refine gop (y_assign (v := .bool _) rfl) rfl rfl rfl ?_
      refine gops_nil ?_
      refine hN6 _ _ ?_
      refine gfrom [(4, .bool _)] ⟨rfl, trivial⟩ fun σ => ?_
      refine gret fun w1 hM => ?_
      refine ⟨_, res1 rfl (rt (v := .bool _) rfl), ?_⟩
      first | exact ⟨rfl, hM.low⟩ | exact ⟨by rw [hE]; simp, hM.low⟩
end Go.Proofs.Ytbaojdiccikbiaa
