/- walks, printed by program -/
import Derived.Test.YtbaojdiccikbiaaPatchA
namespace Go.Proofs.Ytbaojdiccikbiaa
open Go.RowKit Go.Cf
set_option maxRecDepth 10000

theorem el3 : Elem Try.prog 3 1 8 := elem_of (z := .int .i64 0) (by kernel_rfl) rfl (by decide)

set_option maxHeartbeats 1000000 in
theorem rangeFault_any (w : World) (n : Int) : Calls Try.prog 17 #[.int .i64 n] w fun e w' => e = .returned (fv (rangeF n)) ∧ Below w.heap.size w w' := by
  refine gcalls Try.func17 rfl Try.ntmps17 (Nat.le_of_ble_eq_true rfl) ?_
  refine gfrom [(0, .int _ _)] ⟨rfl, trivial⟩ fun σ => ?_
  refine gseq fun N1 hN1 => ?_
  refine greg ?_
  refine gop_alloc (cs := #[.int .i64 0, .int .i64 0]) Try.zeroValue27 rfl rfl (fun b2 hb2 => ?_)
  refine gops_nil ?_
  refine hN1 _ _ ?_
  refine gT [box b2 _] rfl ?_
  refine gfrom [(0, .int _ _), (2, .pointer _)] ⟨rfl, rfl, trivial⟩ fun σ => ?_
  refine gseq fun N2 hN2 => ?_
  refine gseq fun N3 hN3 => ?_
  refine greg ?_
  refine gop (y_move (v := .int _ _) rfl) rfl rfl rfl ?_
  refine gop (y_lss rfl rfl) rfl rfl rfl ?_
  refine gop (y_move (v := .bool _) rfl) rfl rfl rfl ?_
  refine gop_if (want := false) rfl rfl rfl rfl rfl rfl (fun hg5 => ?_) (fun hg5 => ?_)
  · -- guard 5 on
    have hg5d := of_decide_eq_false hg5
    refine gop (y_bare (y_move (v := .int _ _) rfl)) rfl rfl rfl ?_
    refine gop_on rfl rfl rfl rfl hg5 ?_
    refine gop (y_bare (y_geq rfl rfl)) rfl rfl rfl ?_
    refine gop (y_pick_f (v := .bool _) rfl hg5 rfl) rfl rfl rfl ?_
    refine gops_nil ?_
    refine hN3 _ _ ?_
    refine gfrom [(2, .pointer _), (8, .bool _)] ⟨rfl, rfl, trivial⟩ fun σ => ?_
    refine gcond (b := _) rfl (fun hc8 => ?_) (fun hc8 => ?_)
    · -- slot 8 t
      replace hc8 := of_decide_eq_true hc8
      refine gseq fun N4 hN4 => ?_
      refine greg ?_
      refine gop_pure (e_call (vs := [_, _]) Try.func16 rfl (by kernel_rfl) rfl) (fun w hM => fault_any w _ _) rfl rfl rfl ?_
      refine gop_store 0 (v := .agg #[_, _]) (cs' := #[_, _]) rfl rfl Try.sizeOf27 rfl rfl rfl rfl (Nat.le_of_ble_eq_true rfl) rfl rfl ?_
      refine gops_nil ?_
      refine hN4 _ _ ?_
      refine gT [box b2 _] rfl ?_
      refine gfrom [(2, .pointer _)] ⟨rfl, trivial⟩ fun σ => ?_
      refine gret fun w1 hM => ?_
      refine ⟨_, res1 rfl (rc 0 (cs := [_, _]) hM rfl rfl Try.isAgg27 Try.sizeOf27 rfl), ?_⟩
      exact ⟨by rw [rangeF, if_pos (by simp [isLine]; omega)], hM.low⟩
    · -- slot 8 f
      replace hc8 := of_decide_eq_false hc8
      refine gskip ?_
      refine hN2 _ _ ?_
      refine gfrom [(2, .pointer _)] ⟨rfl, trivial⟩ fun σ => ?_
      refine gseq fun N5 hN5 => ?_
      refine greg ?_
      refine gop (y_build (vs := []) (cells := #[.int .i64 0, .int .i64 0]) rfl bd27_) rfl rfl rfl ?_
      refine gop_store 0 (v := .agg #[_, _]) (cs' := #[_, _]) rfl rfl Try.sizeOf27 rfl rfl rfl rfl (Nat.le_of_ble_eq_true rfl) rfl rfl ?_
      refine gops_nil ?_
      refine hN5 _ _ ?_
      refine gT [box b2 _] rfl ?_
      refine gfrom [(2, .pointer _)] ⟨rfl, trivial⟩ fun σ => ?_
      refine gret fun w1 hM => ?_
      refine ⟨_, res1 rfl (rc 0 (cs := [_, _]) hM rfl rfl Try.isAgg27 Try.sizeOf27 rfl), ?_⟩
      exact ⟨by rw [rangeF, if_neg (by simp [isLine]; omega)], hM.low⟩
  · -- guard 5 off
    have hg5d := of_decide_eq_true hg5
    refine gop_off rfl rfl rfl rfl hg5 rfl rfl ?_
    refine gop (y_pick_t (v := .bool _) rfl hg5 rfl) rfl rfl rfl ?_
    refine gops_nil ?_
    refine hN3 _ _ ?_
    refine gfrom [(2, .pointer _), (8, .bool _)] ⟨rfl, rfl, trivial⟩ fun σ => ?_
    refine gcond (b := _) rfl (fun hc8 => ?_) (fun hc8 => ?_)
    · -- slot 8 t
      refine gseq fun N6 hN6 => ?_
      refine greg ?_
      refine gop_pure (e_call (vs := [_, _]) Try.func16 rfl (by kernel_rfl) rfl) (fun w hM => fault_any w _ _) rfl rfl rfl ?_
      refine gop_store 0 (v := .agg #[_, _]) (cs' := #[_, _]) rfl rfl Try.sizeOf27 rfl rfl rfl rfl (Nat.le_of_ble_eq_true rfl) rfl rfl ?_
      refine gops_nil ?_
      refine hN6 _ _ ?_
      refine gT [box b2 _] rfl ?_
      refine gfrom [(2, .pointer _)] ⟨rfl, trivial⟩ fun σ => ?_
      refine gret fun w1 hM => ?_
      refine ⟨_, res1 rfl (rc 0 (cs := [_, _]) hM rfl rfl Try.isAgg27 Try.sizeOf27 rfl), ?_⟩
      exact ⟨by rw [rangeF, if_pos (by simp [isLine]; omega)], hM.low⟩
    · -- slot 8 f
      cases hc8

set_option maxHeartbeats 1000000 in
theorem sameInts_any (w : World) (A B : Option Addr) (c c' : Nat) (l m : List Int) (hA : Rdl w 0 1 intCells A l) (hB : Rdl w 0 1 intCells B m) (hl : l.length ≤ maxLen) :
    Calls Try.prog 31 #[.slice A l.length c, .slice B m.length c'] w fun e w' => e = .returned (.bool (decide (l = m))) ∧ Below w.heap.size w w' := by
  unfold maxLen at hl
  refine gcalls Try.func31 rfl Try.ntmps31 (Nat.le_of_ble_eq_true rfl) ?_
  refine gfrom [(0, .slice _ _ _), (1, .slice _ _ _)] ⟨rfl, rfl, trivial⟩ fun σ => ?_
  refine gseq fun N1 hN1 => ?_
  refine greg ?_
  refine gop (y_assign (v := .bool _) rfl) rfl rfl rfl ?_
  refine gops_nil ?_
  refine hN1 _ _ ?_
  refine gfrom [(0, .slice _ _ _), (1, .slice _ _ _)] ⟨rfl, rfl, trivial⟩ fun σ => ?_
  refine gseq fun N2 hN2 => ?_
  refine gseq fun N3 hN3 => ?_
  refine greg ?_
  refine gop (y_move (v := .slice _ _ _) rfl) rfl rfl rfl ?_
  refine gop (y_len Try.underlying30 rfl) rfl rfl rfl ?_
  refine gop (y_move (v := .slice _ _ _) rfl) rfl rfl rfl ?_
  refine gop (y_len Try.underlying30 rfl) rfl rfl rfl ?_
  refine gop (y_neq rfl rfl) rfl rfl rfl ?_
  refine gops_nil ?_
  refine hN3 _ _ ?_
  refine gfrom [(0, .slice _ _ _), (1, .slice _ _ _), (10, .bool _)] ⟨rfl, rfl, rfl, trivial⟩ fun σ => ?_
  refine gcond (b := _) rfl (fun hc10 => ?_) (fun hc10 => ?_)
  · -- slot 10 t
    replace hc10 := of_decide_eq_true hc10
    refine gseq fun N4 hN4 => ?_
    refine greg ?_
    refine gop (y_assign (v := .bool _) rfl) rfl rfl rfl ?_
    refine gops_nil ?_
    refine hN4 _ _ ?_
    refine gfrom [(4, .bool _)] ⟨rfl, trivial⟩ fun σ => ?_
    refine gret fun w1 hM => ?_
    refine ⟨_, res1 rfl (rt (v := .bool _) rfl), ?_⟩
    exact ⟨by rw [decide_eq_false (fun e => by subst e; omega)], hM.low⟩
  · -- slot 10 f
    replace hc10 := Decidable.not_not.1 (of_decide_eq_false hc10)
    refine gskip ?_
    refine hN2 _ _ ?_
    refine gfrom [(0, .slice _ _ _), (1, .slice _ _ _)] ⟨rfl, rfl, trivial⟩ fun σ => ?_
    refine gseq fun N5 hN5 => ?_
    refine gseq fun N6 hN6 => ?_
    refine greg ?_
    refine gop (y_assign (v := .int _ _) rfl) rfl rfl rfl ?_
    refine gops_nil ?_
    refine hN6 _ _ ?_
    refine gfrom [(0, .slice _ _ _), (1, .slice _ _ _), (5, .int _ _)] ⟨rfl, rfl, rfl, trivial⟩ fun σ => ?_
    refine gblock ?_
    refine gfrom2 [(5, .int _ _)] [(0, .slice _ _ _), (1, .slice _ _ _)] ⟨rfl, trivial⟩ ⟨rfl, rfl, trivial⟩ fun σ => ?_
    refine gloop2 (G := Nat) (fun k => k ≤ l.length ∧ l.length = m.length ∧ l.take k = m.take k) (fun k => l.length - k) (fun k => [(5, .int .i64 (k : Int))]) (fun k => []) (0) ?h0 ⟨rfl, trivial⟩ ⟨rfl, rfl, trivial⟩ rfl ?round
    case h0 => exact ⟨Nat.zero_le _, by omega, by simp⟩
    case round =>
      intro k hφ σ
      obtain ⟨hk, hlm, htk⟩ := hφ
      refine gseq fun N7 hN7 => ?_
      refine gseq fun N8 hN8 => ?_
      refine greg ?_
      refine gop (y_move (v := .int _ _) rfl) rfl rfl rfl ?_
      refine gop (y_move (v := .slice _ _ _) rfl) rfl rfl rfl ?_
      refine gop (y_len Try.underlying30 rfl) rfl rfl rfl ?_
      refine gop (y_lss rfl rfl) rfl rfl rfl ?_
      refine gops_nil ?_
      refine hN8 _ _ ?_
      refine gfrom [(0, .slice _ _ _), (1, .slice _ _ _), (5, .int _ _), (14, .bool _)] ⟨rfl, rfl, rfl, rfl, trivial⟩ fun σ => ?_
      refine gcond (b := _) rfl (fun hc14 => ?_) (fun hc14 => ?_)
      · -- slot 14 t
        replace hc14 := of_decide_eq_true hc14
        have hk1 : k < l.length := by omega
        obtain ⟨ad, rfl, -, hca⟩ := hA.at_ hk1
        obtain ⟨ad', rfl, -, hcb⟩ := hB.at_ (k := k) (by omega)
        refine gskip ?_
        refine hN7 _ _ ?_
        refine gfrom [(0, .slice _ _ _), (1, .slice _ _ _), (5, .int _ _)] ⟨rfl, rfl, rfl, trivial⟩ fun σ => ?_
        refine gseq fun N9 hN9 => ?_
        refine gblock ?_
        refine gseq fun N10 hN10 => ?_
        refine greg_q (by kernel_rfl) (by kernel_rfl) ?_
        refine gq (y_move (v := .slice _ _ _) rfl) rfl rfl rfl ?_
        refine gq (y_move (v := .int _ _) rfl) rfl rfl rfl ?_
        refine gq (y_indexAddr Try.underlying30 Try.sizeOf3 rfl rfl rfl (by omega) (by omega)) rfl rfl rfl ?_
        refine gq (y_load Try.isAgg3 rfl (cell_base (hca 0 _ rfl))) rfl rfl rfl ?_
        refine gq (y_move (v := .slice _ _ _) rfl) rfl rfl rfl ?_
        refine gq (y_move (v := .int _ _) rfl) rfl rfl rfl ?_
        refine gq (y_indexAddr Try.underlying30 Try.sizeOf3 rfl rfl rfl (by omega) (by omega)) rfl rfl rfl ?_
        refine gq (y_load Try.isAgg3 rfl (cell_base (hcb 0 _ rfl))) rfl rfl rfl ?_
        refine gq (y_neq rfl rfl) rfl rfl rfl ?_
        refine gqs_nil ?_
        refine hN10 _ _ ?_
        refine gfrom [(0, .slice _ _ _), (1, .slice _ _ _), (5, .int _ _), (25, .bool _)] ⟨rfl, rfl, rfl, rfl, trivial⟩ fun σ => ?_
        refine gcond (b := _) rfl (fun hc25 => ?_) (fun hc25 => ?_)
        · -- slot 25 t
          replace hc25 := of_decide_eq_true hc25
          refine gseq fun N11 hN11 => ?_
          refine greg ?_
          refine gop (y_assign (v := .bool _) rfl) rfl rfl rfl ?_
          refine gops_nil ?_
          refine hN11 _ _ ?_
          refine gfrom [(4, .bool _)] ⟨rfl, trivial⟩ fun σ => ?_
          refine gret fun w1 hM => ?_
          refine ⟨_, res1 rfl (rt (v := .bool _) rfl), ?_⟩
          exact ⟨by rw [decide_eq_false (ne_of_at hk1 (by omega) hc25)], hM.low⟩
        · -- slot 25 f
          replace hc25 := Decidable.not_not.1 (of_decide_eq_false hc25)
          refine gskip ?_
          refine hN9 _ _ ?_
          refine gfrom [(0, .slice _ _ _), (1, .slice _ _ _), (5, .int _ _)] ⟨rfl, rfl, rfl, trivial⟩ fun σ => ?_
          refine greg ?_
          refine gop (y_move (v := .int _ _) rfl) rfl rfl rfl ?_
          refine gop (y_add rfl rfl ⟨by omega, by omega⟩) rfl rfl rfl ?_
          refine gop (y_assign (v := .int _ _) rfl) rfl rfl rfl ?_
          refine gops_nil ?_
          refine gnext2 (k + 1) (by omega) (⟨by omega, hlm, take_next l m k (by omega) (by omega) htk hc25⟩) ⟨rfl, trivial⟩ ⟨rfl, rfl, trivial⟩ ⟨_, rfl⟩
      · -- slot 14 f
        replace hc14 := of_decide_eq_false hc14
        refine gexit ?_
        refine hN5 _ _ ?_
        refine gfrom [] trivial fun σ => ?_
        refine gseq fun N12 hN12 => ?_
        refine greg ?_
        refine gop (y_assign (v := .bool _) rfl) rfl rfl rfl ?_
        refine gops_nil ?_
        refine hN12 _ _ ?_
        refine gfrom [(4, .bool _)] ⟨rfl, trivial⟩ fun σ => ?_
        refine gret fun w1 hM => ?_
        refine ⟨_, res1 rfl (rt (v := .bool _) rfl), ?_⟩
        exact ⟨by rw [decide_eq_true (eq_of_takes hlm (by omega) htk)], hM.low⟩

set_option maxHeartbeats 1000000 in
theorem map_any (w : World) (A : Option Addr) (c : Nat) (hs : List HunkC) (hp : PatR w 0 A c hs) (line : Int) : Calls Try.prog 20 #[.agg #[.slice A hs.length c], .int .i64 line] w fun e w' => e = .returned (.tuple #[.int .i64 (mapV (pls hs) line).1, .bool (mapV (pls hs) line).2, fv (mapF (pls hs) line)]) ∧ Below w.heap.size w w' := by
  refine gcalls Try.func20 rfl Try.ntmps20 (Nat.le_of_ble_eq_true rfl) ?_
  refine gfrom [(0, .agg #[_]), (1, .int _ _)] ⟨rfl, rfl, trivial⟩ fun σ => ?_
  refine gseq fun N1 hN1 => ?_
  refine greg ?_
  refine gop_box (v := .agg #[_]) (cs := #[_]) rfl rfl rfl (fun b2 hb2 => ?_)
  refine gop (y_assign (v := .int _ _) rfl) rfl rfl rfl ?_
  refine gop (y_assign (v := .bool _) rfl) rfl rfl rfl ?_
  refine gop_alloc (cs := #[.int .i64 0, .int .i64 0]) Try.zeroValue27 rfl rfl (fun b6 hb6 => ?_)
  refine gops_nil ?_
  refine hN1 _ _ ?_
  refine gT [box b2 _, box b6 _] rfl ?_
  refine gfrom [(1, .int _ _), (2, .pointer _), (6, .pointer _)] ⟨rfl, rfl, rfl, trivial⟩ fun σ => ?_
  refine gseq fun N2 hN2 => ?_
  refine gseq fun N3 hN3 => ?_
  refine greg ?_
  refine gop (y_loads (cs := [_]) Try.isAgg25 Try.sizeOf25 rfl rfl (cells_box 0 rfl)) rfl rfl rfl ?_
  refine gop_pure (e_call (vs := [.agg #[_]]) Try.func18 rfl (by kernel_rfl) rfl) (fun w hM => patchValidate_any w _ _ _ (PatR.lasts.base hp hM)) rfl rfl rfl ?_
  refine gop_alloc (cs := #[.int .i64 0, .int .i64 0]) Try.zeroValue27 rfl rfl (fun b7 hb7 => ?_)
  refine gop_store 2 (v := .agg #[_, _]) (cs' := #[_, _]) rfl rfl Try.sizeOf27 rfl rfl rfl rfl (Nat.le_of_ble_eq_true rfl) rfl rfl ?_
  refine gops_nil ?_
  refine hN3 _ _ ?_
  refine gT [box b2 _, box b6 _, box b7 _] rfl ?_
  refine gfrom [(1, .int _ _), (2, .pointer _), (6, .pointer _), (7, .pointer _)] ⟨rfl, rfl, rfl, rfl, trivial⟩ fun σ => ?_
  refine gseq fun N4 hN4 => ?_
  refine greg ?_
  refine gop (y_loads (cs := [_, _]) Try.isAgg27 Try.sizeOf27 rfl rfl (cells_box 2 rfl)) rfl rfl rfl ?_
  refine gop (y_build (vs := []) (cells := #[.int .i64 0, .int .i64 0]) rfl bd27_) rfl rfl rfl ?_
  refine gop (y_bin (vx := .agg #[_, _]) (vy := .agg #[_, _]) rfl rfl (fun w => eg27 _ _ _ _ _ w) (fun w => ne27 _ _ _ _ w)) rfl rfl rfl ?_
  refine gops_nil ?_
  refine hN4 _ _ ?_
  refine gfrom [(1, .int _ _), (2, .pointer _), (6, .pointer _), (7, .pointer _), (14, .bool _)] ⟨rfl, rfl, rfl, rfl, rfl, trivial⟩ fun σ => ?_
  refine gcond (b := _) rfl (fun hc14 => ?_) (fun hc14 => ?_)
  · -- slot 14 t
    replace hc14 := fault_ne.1 hc14
    have hF : mapF (pls hs) line = patchF (pls hs) := by rw [mapF, if_pos hc14]
    have hV : mapV (pls hs) line = (0, false) := by rw [mapV, hF, if_neg hc14]
    refine gseq fun N5 hN5 => ?_
    refine greg_hs [(1, room b6 27 2)] (by kernel_rfl) ?_
    refine ght 0 rfl (by kernel_rfl) (by kernel_rfl) (by kernel_rfl) (y_loads (cs := [_, _]) Try.isAgg27 Try.sizeOf27 rfl rfl (cells_box 2 rfl)) rfl rfl rfl (weak_room 1 rfl rfl) (listed' := #[true, false, false, false]) rfl ?_
    refine ght 1 rfl (by kernel_rfl) (by kernel_rfl) (by kernel_rfl) (y_assign (v := .int _ _) rfl) rfl rfl rfl (weak_room 1 rfl rfl) (listed' := #[true, true, false, false]) rfl ?_
    refine ght 2 rfl (by kernel_rfl) (by kernel_rfl) (by kernel_rfl) (y_assign (v := .bool _) rfl) rfl rfl rfl (weak_room 1 rfl rfl) (listed' := #[true, true, true, false]) rfl ?_
    refine ghs 3 (by kernel_rfl) rfl rfl rfl (listed' := #[true, true, true, true]) rfl (run_store_box 1 (v := .agg #[_, _]) (cs' := #[_, _]) rfl rfl Try.sizeOf27 rfl rfl rfl rfl (Nat.le_of_ble_eq_true rfl) rfl rfl) (weak_room 1 rfl rfl) ?_
    refine ghd_done (by kernel_rfl) ?_
    refine hN5 _ _ ?_
    refine gT [box b2 _, box b6 _, box b7 _] rfl ?_
    refine gfrom [(4, .int _ _), (5, .bool _), (6, .pointer _)] ⟨rfl, rfl, rfl, trivial⟩ fun σ => ?_
    refine gret fun w1 hM => ?_
    refine ⟨_, res3 rfl (rt (v := .int _ _) rfl) (rt (v := .bool _) rfl) (rc 1 (cs := [_, _]) hM rfl rfl Try.isAgg27 Try.sizeOf27 rfl), ?_⟩
    exact ⟨by rw [hF, hV], hM.low⟩
  · -- slot 14 f
    replace hc14 := fault_eq.1 hc14
    have hv := patchF_ok.1 hc14
    refine gskip ?_
    refine hN2 _ _ ?_
    refine gfrom [(1, .int _ _), (2, .pointer _), (6, .pointer _)] ⟨rfl, rfl, rfl, trivial⟩ fun σ => ?_
    refine gseq fun N6 hN6 => ?_
    refine gseq fun N7 hN7 => ?_
    refine greg ?_
    refine gop (y_move (v := .int _ _) rfl) rfl rfl rfl ?_
    refine gop_pure (e_call (vs := [.int _ _]) Try.func32 rfl (by kernel_rfl) rfl) (fun w hM => isLine_any w _) rfl rfl rfl ?_
    refine gop (y_not rfl) rfl rfl rfl ?_
    refine gops_nil ?_
    refine hN7 _ _ ?_
    refine gfrom [(1, .int _ _), (2, .pointer _), (6, .pointer _), (18, .bool _)] ⟨rfl, rfl, rfl, rfl, trivial⟩ fun σ => ?_
    refine gcond (b := _) rfl (fun hc18 => ?_) (fun hc18 => ?_)
    · -- slot 18 t
      replace hc18 := not_t hc18
      have hF : mapF (pls hs) line = ⟨3, -2⟩ := by rw [mapF, if_neg (by simp [hc14]), if_pos hc18]
      have hV : mapV (pls hs) line = (0, false) := by rw [mapV, hF, if_neg (by decide)]
      refine gseq fun N8 hN8 => ?_
      refine greg ?_
      refine gop (y_build (vs := [(0, _), (1, _)]) (cells := #[_, _]) rfl (bd27_0_1 _ _)) rfl rfl rfl ?_
      refine gop (y_assign (v := .int _ _) rfl) rfl rfl rfl ?_
      refine gop (y_assign (v := .bool _) rfl) rfl rfl rfl ?_
      refine gop_store 1 (v := .agg #[_, _]) (cs' := #[_, _]) rfl rfl Try.sizeOf27 rfl rfl rfl rfl (Nat.le_of_ble_eq_true rfl) rfl rfl ?_
      refine gops_nil ?_
      refine hN8 _ _ ?_
      refine gT [box b2 _, box b6 _, box b7 _] rfl ?_
      refine gfrom [(4, .int _ _), (5, .bool _), (6, .pointer _)] ⟨rfl, rfl, rfl, trivial⟩ fun σ => ?_
      refine gret fun w1 hM => ?_
      refine ⟨_, res3 rfl (rt (v := .int _ _) rfl) (rt (v := .bool _) rfl) (rc 1 (cs := [_, _]) hM rfl rfl Try.isAgg27 Try.sizeOf27 rfl), ?_⟩
      exact ⟨by rw [hF, hV], hM.low⟩
    · -- slot 18 f
      replace hc18 := not_f hc18
      have hF : mapF (pls hs) line = ⟨0, 0⟩ := by rw [mapF, if_neg (by simp [hc14]), if_neg (by simp [hc18])]
      have hV : mapV (pls hs) line = place (pls hs) line 0 := by rw [mapV, if_pos hF]
      have hln := isLine_t hc18
      refine gskip ?_
      refine hN6 _ _ ?_
      refine gfrom [(1, .int _ _), (2, .pointer _), (6, .pointer _)] ⟨rfl, rfl, rfl, trivial⟩ fun σ => ?_
      refine gseq fun N9 hN9 => ?_
      refine greg ?_
      refine gop (y_loads (cs := [_]) Try.isAgg25 Try.sizeOf25 rfl rfl (cells_box 0 rfl)) rfl rfl rfl ?_
      refine gop (y_move (v := .int _ _) rfl) rfl rfl rfl ?_
      refine gop_pure (e_call (vs := [.agg #[_], .int _ _]) Try.func34 rfl (by kernel_rfl) rfl) (fun w hM => place_any w _ _ hs (PatR.lasts.base hp hM) (by simpa using hv.len) hv.each line (by omega) (by omega)) rfl rfl rfl ?_
      refine gop (y_move (v := .tuple #[.int _ _, .bool _]) rfl) rfl rfl rfl ?_
      refine gop (y_extract (v := .int _ _) rfl rfl) rfl rfl rfl ?_
      refine gop (y_extract (v := .bool _) rfl rfl) rfl rfl rfl ?_
      refine gop (y_assign (v := .int _ _) rfl) rfl rfl rfl ?_
      refine gop (y_assign (v := .bool _) rfl) rfl rfl rfl ?_
      refine gops_nil ?_
      refine hN9 _ _ ?_
      refine gfrom [(6, .pointer _), (8, .int _ _), (9, .bool _)] ⟨rfl, rfl, rfl, trivial⟩ fun σ => ?_
      refine gseq fun N10 hN10 => ?_
      refine greg ?_
      refine gop (y_move (v := .int _ _) rfl) rfl rfl rfl ?_
      refine gop (y_move (v := .bool _) rfl) rfl rfl rfl ?_
      refine gop (y_build (vs := []) (cells := #[.int .i64 0, .int .i64 0]) rfl bd27_) rfl rfl rfl ?_
      refine gop (y_assign (v := .int _ _) rfl) rfl rfl rfl ?_
      refine gop (y_assign (v := .bool _) rfl) rfl rfl rfl ?_
      refine gop_store 1 (v := .agg #[_, _]) (cs' := #[_, _]) rfl rfl Try.sizeOf27 rfl rfl rfl rfl (Nat.le_of_ble_eq_true rfl) rfl rfl ?_
      refine gops_nil ?_
      refine hN10 _ _ ?_
      refine gT [box b2 _, box b6 _, box b7 _] rfl ?_
      refine gfrom [(4, .int _ _), (5, .bool _), (6, .pointer _)] ⟨rfl, rfl, rfl, trivial⟩ fun σ => ?_
      refine gret fun w1 hM => ?_
      refine ⟨_, res3 rfl (rt (v := .int _ _) rfl) (rt (v := .bool _) rfl) (rc 1 (cs := [_, _]) hM rfl rfl Try.isAgg27 Try.sizeOf27 rfl), ?_⟩
      exact ⟨by rw [hF, hV], hM.low⟩

set_option maxHeartbeats 1000000 in
theorem kept_any (w : World) (A : Option Addr) (c : Nat) (hs : List HunkC) (hp : PatR w 0 A c hs) (n : Int) : Calls Try.prog 14 #[.agg #[.slice A hs.length c], .int .i64 n] w fun e w' => ∃ v, e = .returned (.tuple #[v, fv (keptF (pls hs) n)]) ∧ Below w.heap.size w w' ∧ NewL 1 intCells (keptR (pls hs) n) w.heap.size w' v := by
  refine gcalls Try.func14 rfl Try.ntmps14 (Nat.le_of_ble_eq_true rfl) ?_
  refine gfrom [(0, .agg #[_]), (1, .int _ _)] ⟨rfl, rfl, trivial⟩ fun σ => ?_
  refine gseq fun N1 hN1 => ?_
  refine greg ?_
  refine gop_box (v := .agg #[_]) (cs := #[_]) rfl rfl rfl (fun b2 hb2 => ?_)
  refine gop (y_assign (v := .slice _ _ _) rfl) rfl rfl rfl ?_
  refine gop_alloc (cs := #[.int .i64 0, .int .i64 0]) Try.zeroValue27 rfl rfl (fun b5 hb5 => ?_)
  refine gops_nil ?_
  refine hN1 _ _ ?_
  refine gT [box b2 _, box b5 _] rfl ?_
  refine gfrom [(1, .int _ _), (2, .pointer _), (5, .pointer _)] ⟨rfl, rfl, rfl, trivial⟩ fun σ => ?_
  refine gseq fun N2 hN2 => ?_
  refine gseq fun N3 hN3 => ?_
  refine greg ?_
  refine gop (y_loads (cs := [_]) Try.isAgg25 Try.sizeOf25 rfl rfl (cells_box 0 rfl)) rfl rfl rfl ?_
  refine gop_pure (e_call (vs := [.agg #[_]]) Try.func18 rfl (by kernel_rfl) rfl) (fun w hM => patchValidate_any w _ _ _ (PatR.lasts.base hp hM)) rfl rfl rfl ?_
  refine gop_alloc (cs := #[.int .i64 0, .int .i64 0]) Try.zeroValue27 rfl rfl (fun b6 hb6 => ?_)
  refine gop_store 2 (v := .agg #[_, _]) (cs' := #[_, _]) rfl rfl Try.sizeOf27 rfl rfl rfl rfl (Nat.le_of_ble_eq_true rfl) rfl rfl ?_
  refine gops_nil ?_
  refine hN3 _ _ ?_
  refine gT [box b2 _, box b5 _, box b6 _] rfl ?_
  refine gfrom [(1, .int _ _), (2, .pointer _), (5, .pointer _), (6, .pointer _)] ⟨rfl, rfl, rfl, rfl, trivial⟩ fun σ => ?_
  refine gseq fun N4 hN4 => ?_
  refine greg ?_
  refine gop (y_loads (cs := [_, _]) Try.isAgg27 Try.sizeOf27 rfl rfl (cells_box 2 rfl)) rfl rfl rfl ?_
  refine gop (y_build (vs := []) (cells := #[.int .i64 0, .int .i64 0]) rfl bd27_) rfl rfl rfl ?_
  refine gop (y_bin (vx := .agg #[_, _]) (vy := .agg #[_, _]) rfl rfl (fun w => eg27 _ _ _ _ _ w) (fun w => ne27 _ _ _ _ w)) rfl rfl rfl ?_
  refine gops_nil ?_
  refine hN4 _ _ ?_
  refine gfrom [(1, .int _ _), (2, .pointer _), (5, .pointer _), (6, .pointer _), (17, .bool _)] ⟨rfl, rfl, rfl, rfl, rfl, trivial⟩ fun σ => ?_
  refine gcond (b := _) rfl (fun hc17 => ?_) (fun hc17 => ?_)
  · -- slot 17 t
    replace hc17 := fault_ne.1 hc17
    have hF : keptF (pls hs) n = patchF (pls hs) := by rw [keptF, if_pos hc17]
    have hV : keptR (pls hs) n = [] := by rw [keptR, hF, if_neg hc17]
    refine gseq fun N5 hN5 => ?_
    refine greg_hs [(1, room b5 27 2)] (by kernel_rfl) ?_
    refine ght 0 rfl (by kernel_rfl) (by kernel_rfl) (by kernel_rfl) (y_loads (cs := [_, _]) Try.isAgg27 Try.sizeOf27 rfl rfl (cells_box 2 rfl)) rfl rfl rfl (weak_room 1 rfl rfl) (listed' := #[true, false, false]) rfl ?_
    refine ght 1 rfl (by kernel_rfl) (by kernel_rfl) (by kernel_rfl) (y_assign (v := .slice _ _ _) rfl) rfl rfl rfl (weak_room 1 rfl rfl) (listed' := #[true, true, false]) rfl ?_
    refine ghs 2 (by kernel_rfl) rfl rfl rfl (listed' := #[true, true, true]) rfl (run_store_box 1 (v := .agg #[_, _]) (cs' := #[_, _]) rfl rfl Try.sizeOf27 rfl rfl rfl rfl (Nat.le_of_ble_eq_true rfl) rfl rfl) (weak_room 1 rfl rfl) ?_
    refine ghd_done (by kernel_rfl) ?_
    refine hN5 _ _ ?_
    refine gT [box b2 _, box b5 _, box b6 _] rfl ?_
    refine gfrom [(4, .slice _ _ _), (5, .pointer _)] ⟨rfl, rfl, trivial⟩ fun σ => ?_
    refine gret fun w1 hM => ?_
    refine ⟨_, res2 rfl (rt (v := .slice _ _ _) rfl) (rc 1 (cs := [_, _]) hM rfl rfl Try.isAgg27 Try.sizeOf27 rfl), ?_⟩
    exact ⟨_, by rw [hF], hM.low, by rw [hV]; exact newL_nil⟩
  · -- slot 17 f
    replace hc17 := fault_eq.1 hc17
    have hv := patchF_ok.1 hc17
    have hvl : hs.length ≤ 130 := by simpa using hv.len
    refine gskip ?_
    refine hN2 _ _ ?_
    refine gfrom [(1, .int _ _), (2, .pointer _), (5, .pointer _)] ⟨rfl, rfl, rfl, trivial⟩ fun σ => ?_
    refine gseq fun N6 hN6 => ?_
    refine gseq fun N7 hN7 => ?_
    refine greg ?_
    refine gop (y_move (v := .int _ _) rfl) rfl rfl rfl ?_
    refine gop (y_lss rfl rfl) rfl rfl rfl ?_
    refine gop (y_move (v := .bool _) rfl) rfl rfl rfl ?_
    refine gop_if (want := false) rfl rfl rfl rfl rfl rfl (fun hg21 => ?_) (fun hg21 => ?_)
    · -- guard 21 on
      have hg21d := of_decide_eq_false hg21
      refine gop (y_bare (y_move (v := .int _ _) rfl)) rfl rfl rfl ?_
      refine gop_on rfl rfl rfl rfl hg21 ?_
      refine gop (y_bare (y_gtr rfl rfl)) rfl rfl rfl ?_
      refine gop (y_pick_f (v := .bool _) rfl hg21 rfl) rfl rfl rfl ?_
      refine gops_nil ?_
      refine hN7 _ _ ?_
      refine gfrom [(1, .int _ _), (2, .pointer _), (5, .pointer _), (24, .bool _)] ⟨rfl, rfl, rfl, rfl, trivial⟩ fun σ => ?_
      refine gcond (b := _) rfl (fun hc24 => ?_) (fun hc24 => ?_)
      · -- slot 24 t
        replace hc24 := of_decide_eq_true hc24
        have hF : keptF (pls hs) n = ⟨3, -2⟩ := by rw [keptF, if_neg (by simp [hc17]), if_pos (by omega)]
        have hV : keptR (pls hs) n = [] := by rw [keptR, hF, if_neg (by decide)]
        refine gseq fun N8 hN8 => ?_
        refine greg ?_
        refine gop (y_build (vs := [(0, _), (1, _)]) (cells := #[_, _]) rfl (bd27_0_1 _ _)) rfl rfl rfl ?_
        refine gop (y_assign (v := .slice _ _ _) rfl) rfl rfl rfl ?_
        refine gop_store 1 (v := .agg #[_, _]) (cs' := #[_, _]) rfl rfl Try.sizeOf27 rfl rfl rfl rfl (Nat.le_of_ble_eq_true rfl) rfl rfl ?_
        refine gops_nil ?_
        refine hN8 _ _ ?_
        refine gT [box b2 _, box b5 _, box b6 _] rfl ?_
        refine gfrom [(4, .slice _ _ _), (5, .pointer _)] ⟨rfl, rfl, trivial⟩ fun σ => ?_
        refine gret fun w1 hM => ?_
        refine ⟨_, res2 rfl (rt (v := .slice _ _ _) rfl) (rc 1 (cs := [_, _]) hM rfl rfl Try.isAgg27 Try.sizeOf27 rfl), ?_⟩
        exact ⟨_, by rw [hF], hM.low, by rw [hV]; exact newL_nil⟩
      · -- slot 24 f
        replace hc24 := of_decide_eq_false hc24
        obtain ⟨m, rfl⟩ := Int.eq_ofNat_of_zero_le (show 0 ≤ n by omega)
        have hF0 : keptF (pls hs) (m : Int) = scan (fun _ h => if (m : Int) < h.end_ then 19 else 0) (pls hs) := by rw [keptF, if_neg (by simp [hc17]), if_neg (by omega)]
        refine gskip ?_
        refine hN6 _ _ ?_
        refine gfrom [(1, .int _ _), (2, .pointer _), (5, .pointer _)] ⟨rfl, rfl, rfl, trivial⟩ fun σ => ?_
        refine gseq fun N9 hN9 => ?_
        refine gseq fun N10 hN10 => ?_
        refine greg ?_
        refine gop (y_fieldAddr_box fa25_0 rfl) rfl rfl rfl ?_
        refine gop (y_load Try.isAgg23 rfl (cell_box 0 rfl rfl)) rfl rfl rfl ?_
        refine gop (y_len Try.underlying23 rfl) rfl rfl rfl ?_
        refine gop (y_move (v := .int _ _) rfl) rfl rfl rfl ?_
        refine gops_nil ?_
        refine hN10 _ _ ?_
        refine gfrom [(1, .int _ _), (2, .pointer _), (5, .pointer _), (27, .slice _ _ _), (28, .int _ _), (29, .int _ _)] ⟨rfl, rfl, rfl, rfl, rfl, rfl, trivial⟩ fun σ => ?_
        refine gblock ?_
        refine gfrom2 [(29, .int _ _)] [(1, .int _ _), (2, .pointer _), (5, .pointer _), (27, .slice _ _ _), (28, .int _ _)] ⟨rfl, trivial⟩ ⟨rfl, rfl, rfl, rfl, rfl, trivial⟩ fun σ => ?_
        refine gloop2 (G := Nat) (fun k => k ≤ hs.length ∧ ∀ j (h : j < (pls hs).length), j < k → (if (m : Int) < (pls hs)[j].end_ then (19 : Int) else 0) = 0) (fun k => hs.length - k) (fun k => [(29, .int .i64 (k : Int))]) (fun k => []) (0) ?h0 ⟨rfl, trivial⟩ ⟨rfl, rfl, rfl, rfl, rfl, trivial⟩ rfl ?round
        case h0 => exact ⟨Nat.zero_le _, fun _ _ h => absurd h (by omega)⟩
        case round =>
          intro k hφ σ
          obtain ⟨hk, hz⟩ := hφ
          refine gseq fun N11 hN11 => ?_
          refine greg ?_
          refine gop (y_lss rfl rfl) rfl rfl rfl ?_
          refine gops_nil ?_
          refine hN11 _ _ ?_
          refine gfrom [(1, .int _ _), (2, .pointer _), (5, .pointer _), (27, .slice _ _ _), (28, .int _ _), (29, .int _ _), (30, .bool _)] ⟨rfl, rfl, rfl, rfl, rfl, rfl, rfl, trivial⟩ fun σ => ?_
          refine gseq fun N12 hN12 => ?_
          refine gcond (b := _) rfl (fun hc30 => ?_) (fun hc30 => ?_)
          · -- slot 30 t
            replace hc30 := of_decide_eq_true hc30
            have hk1 : k < hs.length := by omega
            have hk2 : k < (pls hs).length := by simpa using hk1
            obtain ⟨ad, rfl, -, hcv⟩ := hp.rd.at_ hk1
            have hB : HB hs[k].pl := hv.each _ (List.mem_map_of_mem (List.getElem_mem hk1))
            have hB1 := hB.lo
            have hB2 := hB.hi
            have hB3 := hB.old
            refine gskip ?_
            refine hN12 _ _ ?_
            refine gfrom [(1, .int _ _), (2, .pointer _), (5, .pointer _), (27, .slice _ _ _), (28, .int _ _), (29, .int _ _)] ⟨rfl, rfl, rfl, rfl, rfl, rfl, trivial⟩ fun σ => ?_
            refine gseq fun N13 hN13 => ?_
            refine gblock ?_
            refine gseq fun N14 hN14 => ?_
            refine greg ?_
            refine gop (y_move (v := .int _ _) rfl) rfl rfl rfl ?_
            refine gop (y_indexAddr Try.underlying23 Try.sizeOf43 rfl rfl rfl (by omega) (by omega)) rfl rfl rfl ?_
            refine gop (y_loads (cs := [_, _, _]) Try.isAgg43 Try.sizeOf43 rfl rfl (cells_base hcv)) rfl rfl rfl ?_
            refine gop_alloc (cs := #[.int .i64 0, .slice none 0 0, .slice none 0 0]) Try.zeroValue43 rfl rfl (fun b8 hb8 => ?_)
            refine gop (y_assign (v := .int _ _) rfl) rfl rfl rfl ?_
            refine gop_store 3 (v := .agg #[_, _, _]) (cs' := #[_, _, _]) rfl rfl Try.sizeOf43 rfl rfl rfl rfl (Nat.le_of_ble_eq_true rfl) rfl rfl ?_
            refine gops_nil ?_
            refine hN14 _ _ ?_
            refine gT [box b2 _, box b5 _, box b6 _, box b8 _] rfl ?_
            refine gfrom [(1, .int _ _), (2, .pointer _), (5, .pointer _), (7, .int _ _), (8, .pointer _), (27, .slice _ _ _), (28, .int _ _), (29, .int _ _)] ⟨rfl, rfl, rfl, rfl, rfl, rfl, rfl, rfl, trivial⟩ fun σ => ?_
            refine gseq fun N15 hN15 => ?_
            refine greg ?_
            refine gop (y_loads (cs := [_, _, _]) Try.isAgg43 Try.sizeOf43 rfl rfl (cells_box 3 rfl)) rfl rfl rfl ?_
            refine gop_pure (e_call (vs := [.agg #[_, _, _]]) Try.func35 rfl (by kernel_rfl) rfl) (fun w hM => end_any w hs[k] (by unfold In64 Hunk.end_; omega)) rfl rfl rfl ?_
            refine gop (y_move (v := .int _ _) rfl) rfl rfl rfl ?_
            refine gop (y_gtr rfl rfl) rfl rfl rfl ?_
            refine gops_nil ?_
            refine hN15 _ _ ?_
            refine gfrom [(1, .int _ _), (2, .pointer _), (5, .pointer _), (7, .int _ _), (27, .slice _ _ _), (28, .int _ _), (29, .int _ _), (37, .bool _)] ⟨rfl, rfl, rfl, rfl, rfl, rfl, rfl, rfl, trivial⟩ fun σ => ?_
            refine gcond (b := _) rfl (fun hc37 => ?_) (fun hc37 => ?_)
            · -- slot 37 t
              replace hc37 := of_decide_eq_true hc37
              have hF : keptF (pls hs) (m : Int) = ⟨19, k⟩ := by rw [hF0, scan_at hk2 hz (by rw [if_pos (by simpa using hc37)]; decide), if_pos (by simpa using hc37)]
              have hV : keptR (pls hs) (m : Int) = [] := by rw [keptR, hF, if_neg (by simp)]
              refine gseq fun N16 hN16 => ?_
              refine greg ?_
              refine gop (y_move (v := .int _ _) rfl) rfl rfl rfl ?_
              refine gop (y_build (vs := [(0, _), (1, .int _ _)]) (cells := #[_, _]) rfl (bd27_0_1 _ _)) rfl rfl rfl ?_
              refine gop (y_assign (v := .slice _ _ _) rfl) rfl rfl rfl ?_
              refine gop_store 1 (v := .agg #[_, _]) (cs' := #[_, _]) rfl rfl Try.sizeOf27 rfl rfl rfl rfl (Nat.le_of_ble_eq_true rfl) rfl rfl ?_
              refine gops_nil ?_
              refine hN16 _ _ ?_
              refine gT [box b2 _, box b5 _, box b6 _, box b8 _] rfl ?_
              refine gfrom [(4, .slice _ _ _), (5, .pointer _)] ⟨rfl, rfl, trivial⟩ fun σ => ?_
              refine gret fun w1 hM => ?_
              refine ⟨_, res2 rfl (rt (v := .slice _ _ _) rfl) (rc 1 (cs := [_, _]) hM rfl rfl Try.isAgg27 Try.sizeOf27 rfl), ?_⟩
              exact ⟨_, by rw [hF], hM.low, by rw [hV]; exact newL_nil⟩
            · -- slot 37 f
              replace hc37 := of_decide_eq_false hc37
              refine gskip ?_
              refine hN13 _ _ ?_
              refine gfrom [(1, .int _ _), (2, .pointer _), (5, .pointer _), (27, .slice _ _ _), (28, .int _ _), (29, .int _ _)] ⟨rfl, rfl, rfl, rfl, rfl, rfl, trivial⟩ fun σ => ?_
              refine greg ?_
              refine gop (y_add rfl rfl ⟨by omega, by omega⟩) rfl rfl rfl ?_
              refine gop (y_move (v := .int _ _) rfl) rfl rfl rfl ?_
              refine gops_nil ?_
              refine gnext2 (k + 1) (by omega) (⟨by omega, fun j h hj => by rcases Nat.lt_succ_iff_lt_or_eq.1 hj with h1 | rfl; exact hz j h h1; rw [if_neg (by simpa using hc37)]⟩) ⟨rfl, trivial⟩ ⟨rfl, rfl, rfl, rfl, rfl, trivial⟩ ⟨_, rfl⟩
          · -- slot 30 f
            replace hc30 := of_decide_eq_false hc30
            have hF : keptF (pls hs) (m : Int) = ⟨0, 0⟩ := by rw [hF0]; exact scan_ok fun j hj => hz j hj (by simp at hj; omega)
            have hV : keptR (pls hs) (m : Int) = ((List.range m).map (keptAt (pls hs))) := by rw [keptR, if_pos hF, keptL, Int.toNat_natCast]
            refine gexit ?_
            refine hN9 _ _ ?_
            refine gfrom [(1, .int _ _), (2, .pointer _), (5, .pointer _)] ⟨rfl, rfl, rfl, trivial⟩ fun σ => ?_
            refine gseq fun N17 hN17 => ?_
            refine greg ?_
            refine gop (y_assign (v := .slice _ _ _) rfl) rfl rfl rfl ?_
            refine gops_nil ?_
            refine hN17 _ _ ?_
            refine gfrom [(1, .int _ _), (2, .pointer _), (5, .pointer _), (9, .slice _ _ _)] ⟨rfl, rfl, rfl, rfl, trivial⟩ fun σ => ?_
            refine gseq fun N18 hN18 => ?_
            refine gseq fun N19 hN19 => ?_
            refine greg ?_
            refine gop (y_move (v := .int _ _) rfl) rfl rfl rfl ?_
            refine gop (y_move (v := .int _ _) rfl) rfl rfl rfl ?_
            refine gops_nil ?_
            refine hN19 _ _ ?_
            refine gfrom [(2, .pointer _), (5, .pointer _), (9, .slice _ _ _), (41, .int _ _), (42, .int _ _)] ⟨rfl, rfl, rfl, rfl, rfl, trivial⟩ fun σ => ?_
            refine gblock ?_
            refine gnilrow intCells 3 1 ?_
            refine gfrom2 [(9, .slice _ _ _), (42, .int _ _)] [(2, .pointer _), (5, .pointer _), (41, .int _ _)] ⟨rfl, rfl, trivial⟩ ⟨rfl, rfl, rfl, trivial⟩ fun σ => ?_
            refine gloop2 (G := Nat × Value) (fun (k2, vL) => k2 ≤ m) (fun (k2, vL) => m - k2) (fun (k2, vL) => [(9, vL), (42, .int .i64 (k2 : Int))]) (fun (k2, vL) => [(3, rowl intCells w.heap.size 3 1 vL ((List.range k2).map (keptAt (pls hs))))]) ((0, .slice none 0 0)) ?h0 ⟨rfl, rfl, trivial⟩ ⟨rfl, rfl, rfl, trivial⟩ rfl ?round
            case h0 => exact Nat.zero_le _
            case round =>
              rintro ⟨k2, vL⟩ hφ σ
              have hk : k2 ≤ m := hφ
              refine gT [box b2 _, box b5 _, box b6 _, rowl _ _ _ _ _ _] rfl ?_
              refine gseq fun N20 hN20 => ?_
              refine greg ?_
              refine gop (y_lss rfl rfl) rfl rfl rfl ?_
              refine gops_nil ?_
              refine hN20 _ _ ?_
              refine gfrom [(2, .pointer _), (5, .pointer _), (9, vL), (41, .int _ _), (42, .int _ _), (43, .bool _)] ⟨rfl, rfl, rfl, rfl, rfl, rfl, trivial⟩ fun σ => ?_
              refine gseq fun N21 hN21 => ?_
              refine gcond (b := _) rfl (fun hc43 => ?_) (fun hc43 => ?_)
              · -- slot 43 t
                replace hc43 := of_decide_eq_true hc43
                refine gskip ?_
                refine hN21 _ _ ?_
                refine gfrom [(2, .pointer _), (5, .pointer _), (9, vL), (41, .int _ _), (42, .int _ _)] ⟨rfl, rfl, rfl, rfl, rfl, trivial⟩ fun σ => ?_
                refine gseq fun N22 hN22 => ?_
                refine gblock ?_
                refine gseq fun N23 hN23 => ?_
                refine greg ?_
                refine gop (y_move (v := .int _ _) rfl) rfl rfl rfl ?_
                refine gop (y_assign (v := .int _ _) rfl) rfl rfl rfl ?_
                refine gops_nil ?_
                refine hN23 _ _ ?_
                refine gfrom [(2, .pointer _), (5, .pointer _), (9, vL), (10, .int _ _), (41, .int _ _), (42, .int _ _)] ⟨rfl, rfl, rfl, rfl, rfl, rfl, trivial⟩ fun σ => ?_
                refine gseq fun N24 hN24 => ?_
                refine greg ?_
                refine gop (y_loads (cs := [_]) Try.isAgg25 Try.sizeOf25 rfl rfl (cells_box 0 rfl)) rfl rfl rfl ?_
                refine gop (y_move (v := .int _ _) rfl) rfl rfl rfl ?_
                refine gop_pure (e_call (vs := [.agg #[_], .int _ _]) Try.func34 rfl (by kernel_rfl) rfl) (fun w hM => place_any w _ _ hs (PatR.lasts.base hp hM) (by simpa using hv.len) hv.each (k2 : Int) (by omega) (by omega)) rfl rfl rfl ?_
                refine gop (y_move (v := .tuple #[.int _ _, .bool _]) rfl) rfl rfl rfl ?_
                refine gop (y_extract (v := .int _ _) rfl rfl) rfl rfl rfl ?_
                refine gop (y_extract (v := .bool _) rfl rfl) rfl rfl rfl ?_
                refine gop (y_assign (v := .int _ _) rfl) rfl rfl rfl ?_
                refine gop (y_assign (v := .bool _) rfl) rfl rfl rfl ?_
                refine gops_nil ?_
                refine hN24 _ _ ?_
                refine gfrom [(2, .pointer _), (5, .pointer _), (9, vL), (11, .int _ _), (12, .bool _), (41, .int _ _), (42, .int _ _)] ⟨rfl, rfl, rfl, rfl, rfl, rfl, rfl, trivial⟩ fun σ => ?_
                refine gseq fun N25 hN25 => ?_
                refine gseq fun N26 hN26 => ?_
                refine greg ?_
                refine gop (y_move (v := .bool _) rfl) rfl rfl rfl ?_
                refine gop (y_not rfl) rfl rfl rfl ?_
                refine gops_nil ?_
                refine hN26 _ _ ?_
                refine gfrom [(2, .pointer _), (5, .pointer _), (9, vL), (11, .int _ _), (41, .int _ _), (42, .int _ _), (52, .bool _)] ⟨rfl, rfl, rfl, rfl, rfl, rfl, rfl, trivial⟩ fun σ => ?_
                refine gcond (b := _) rfl (fun hc52 => ?_) (fun hc52 => ?_)
                · -- slot 52 t
                  replace hc52 := not_t hc52
                  have hK : keptAt (pls hs) k2 = -1 := by rw [keptAt, if_neg (by simp [hc52])]
                  refine greg ?_
                  refine gop (y_assign (v := .int _ _) rfl) rfl rfl rfl ?_
                  refine gops_nil ?_
                  refine hN25 _ _ ?_
                  refine gfrom [(2, .pointer _), (5, .pointer _), (9, vL), (11, .int _ _), (41, .int _ _), (42, .int _ _)] ⟨rfl, rfl, rfl, rfl, rfl, rfl, trivial⟩ fun σ => ?_
                  refine greg ?_
                  refine gop (y_move (v := vL) rfl) rfl rfl rfl ?_
                  refine gop (y_move (v := .int _ _) rfl) rfl rfl rfl ?_
                  refine gop_lit (vs := [.int _ _]) (cells := #[_]) Try.underlying30 Try.sizeOf3 Try.zeroValue3 rfl (by decide) (by decide) rfl rfl rfl rfl (fun b55 hb55 => ?_)
                  refine gop_append 3 (f := intCells) (l2 := [_]) Try.underlying30 el3 wide_int (v := vL) rfl rfl rfl rfl (fun h => by cases h) (by simp [maxLen]; omega) (by simp; omega) (src_box 4 rfl rfl) rfl (fun v56 => ?_)
                  refine gop (y_assign (v := v56) rfl) rfl rfl rfl ?_
                  refine gops_nil ?_
                  refine hN22 _ _ ?_
                  refine gT [box b2 _, box b5 _, box b6 _, rowl _ _ _ _ _ _, box b55 _] rfl ?_
                  refine gfrom [(2, .pointer _), (5, .pointer _), (9, v56), (41, .int _ _), (42, .int _ _)] ⟨rfl, rfl, rfl, rfl, rfl, trivial⟩ fun σ => ?_
                  refine greg ?_
                  refine gop (y_add rfl rfl ⟨by omega, by omega⟩) rfl rfl rfl ?_
                  refine gop (y_move (v := .int _ _) rfl) rfl rfl rfl ?_
                  refine gops_nil ?_
                  rw [show ((List.range k2).map (keptAt (pls hs))) ++ [-1] = ((List.range (k2 + 1)).map (keptAt (pls hs))) from by rw [List.range_succ, List.map_append, List.map_singleton, hK]]
                  refine gnext2 ((k2 + 1, v56)) (by show m - (k2 + 1) < m - k2; omega) (show k2 + 1 ≤ m by omega) ⟨rfl, rfl, trivial⟩ ⟨rfl, rfl, rfl, trivial⟩ ⟨_, rfl⟩
                · -- slot 52 f
                  replace hc52 := not_f hc52
                  have hK : keptAt (pls hs) k2 = (place (pls hs) k2 0).1 := by rw [keptAt, if_pos hc52]
                  refine gskip ?_
                  refine hN25 _ _ ?_
                  refine gfrom [(2, .pointer _), (5, .pointer _), (9, vL), (11, .int _ _), (41, .int _ _), (42, .int _ _)] ⟨rfl, rfl, rfl, rfl, rfl, rfl, trivial⟩ fun σ => ?_
                  refine greg ?_
                  refine gop (y_move (v := vL) rfl) rfl rfl rfl ?_
                  refine gop (y_move (v := .int _ _) rfl) rfl rfl rfl ?_
                  refine gop_lit (vs := [.int _ _]) (cells := #[_]) Try.underlying30 Try.sizeOf3 Try.zeroValue3 rfl (by decide) (by decide) rfl rfl rfl rfl (fun b55 hb55 => ?_)
                  refine gop_append 3 (f := intCells) (l2 := [_]) Try.underlying30 el3 wide_int (v := vL) rfl rfl rfl rfl (fun h => by cases h) (by simp [maxLen]; omega) (by simp; omega) (src_box 4 rfl rfl) rfl (fun v56 => ?_)
                  refine gop (y_assign (v := v56) rfl) rfl rfl rfl ?_
                  refine gops_nil ?_
                  refine hN22 _ _ ?_
                  refine gT [box b2 _, box b5 _, box b6 _, rowl _ _ _ _ _ _, box b55 _] rfl ?_
                  refine gfrom [(2, .pointer _), (5, .pointer _), (9, v56), (41, .int _ _), (42, .int _ _)] ⟨rfl, rfl, rfl, rfl, rfl, trivial⟩ fun σ => ?_
                  refine greg ?_
                  refine gop (y_add rfl rfl ⟨by omega, by omega⟩) rfl rfl rfl ?_
                  refine gop (y_move (v := .int _ _) rfl) rfl rfl rfl ?_
                  refine gops_nil ?_
                  rw [show ((List.range k2).map (keptAt (pls hs))) ++ [(place (pls hs) k2 0).1] = ((List.range (k2 + 1)).map (keptAt (pls hs))) from by rw [List.range_succ, List.map_append, List.map_singleton, hK]]
                  refine gnext2 ((k2 + 1, v56)) (by show m - (k2 + 1) < m - k2; omega) (show k2 + 1 ≤ m by omega) ⟨rfl, rfl, trivial⟩ ⟨rfl, rfl, rfl, trivial⟩ ⟨_, rfl⟩
              · -- slot 43 f
                replace hc43 := of_decide_eq_false hc43
                refine gexit ?_
                refine hN18 _ _ ?_
                refine gfrom [(5, .pointer _), (9, vL)] ⟨rfl, rfl, trivial⟩ fun σ => ?_
                refine gseq fun N27 hN27 => ?_
                refine greg ?_
                refine gop (y_move (v := vL) rfl) rfl rfl rfl ?_
                refine gop (y_build (vs := []) (cells := #[.int .i64 0, .int .i64 0]) rfl bd27_) rfl rfl rfl ?_
                refine gop (y_assign (v := vL) rfl) rfl rfl rfl ?_
                refine gop_store 1 (v := .agg #[_, _]) (cs' := #[_, _]) rfl rfl Try.sizeOf27 rfl rfl rfl rfl (Nat.le_of_ble_eq_true rfl) rfl rfl ?_
                refine gops_nil ?_
                refine hN27 _ _ ?_
                refine gT [box b2 _, box b5 _, box b6 _, rowl _ _ _ _ _ _] rfl ?_
                refine gfrom [(4, vL), (5, .pointer _)] ⟨rfl, rfl, trivial⟩ fun σ => ?_
                refine gret fun w1 hM => ?_
                refine ⟨_, res2 rfl (rt (v := vL) rfl) (rc 1 (cs := [_, _]) hM rfl rfl Try.isAgg27 Try.sizeOf27 rfl), ?_⟩
                obtain rfl : k2 = m := by omega
                exact ⟨_, by rw [hF], hM.low, by rw [hV]; exact hM.newL 3 rfl (fun _ => rfl)⟩
    · -- guard 21 off
      have hg21d := of_decide_eq_true hg21
      refine gop_off rfl rfl rfl rfl hg21 rfl rfl ?_
      refine gop (y_pick_t (v := .bool _) rfl hg21 rfl) rfl rfl rfl ?_
      refine gops_nil ?_
      refine hN7 _ _ ?_
      refine gfrom [(1, .int _ _), (2, .pointer _), (5, .pointer _), (24, .bool _)] ⟨rfl, rfl, rfl, rfl, trivial⟩ fun σ => ?_
      refine gcond (b := _) rfl (fun hc24 => ?_) (fun hc24 => ?_)
      · -- slot 24 t
        have hF : keptF (pls hs) n = ⟨3, -2⟩ := by rw [keptF, if_neg (by simp [hc17]), if_pos (by omega)]
        have hV : keptR (pls hs) n = [] := by rw [keptR, hF, if_neg (by decide)]
        refine gseq fun N28 hN28 => ?_
        refine greg ?_
        refine gop (y_build (vs := [(0, _), (1, _)]) (cells := #[_, _]) rfl (bd27_0_1 _ _)) rfl rfl rfl ?_
        refine gop (y_assign (v := .slice _ _ _) rfl) rfl rfl rfl ?_
        refine gop_store 1 (v := .agg #[_, _]) (cs' := #[_, _]) rfl rfl Try.sizeOf27 rfl rfl rfl rfl (Nat.le_of_ble_eq_true rfl) rfl rfl ?_
        refine gops_nil ?_
        refine hN28 _ _ ?_
        refine gT [box b2 _, box b5 _, box b6 _] rfl ?_
        refine gfrom [(4, .slice _ _ _), (5, .pointer _)] ⟨rfl, rfl, trivial⟩ fun σ => ?_
        refine gret fun w1 hM => ?_
        refine ⟨_, res2 rfl (rt (v := .slice _ _ _) rfl) (rc 1 (cs := [_, _]) hM rfl rfl Try.isAgg27 Try.sizeOf27 rfl), ?_⟩
        exact ⟨_, by rw [hF], hM.low, by rw [hV]; exact newL_nil⟩
      · -- slot 24 f
        cases hc24

set_option maxHeartbeats 1000000 in
theorem through_any (w : World) (A : Option Addr) (c : Nat) (ps : List PatC) (hp : PatsR w 0 A ps) (hm : ps.length ≤ maxLen) (line : Int) : Calls Try.prog 13 #[.slice A ps.length c, .int .i64 line] w fun e w' => e = .returned (.tuple #[.int .i64 (throughV (ps.map PatC.pl) line).1, .int .i64 ((throughV (ps.map PatC.pl) line).2 : Int), fv (throughF (ps.map PatC.pl) line)]) ∧ Below w.heap.size w w' := by
  unfold maxLen at hm
  refine gcalls Try.func13 rfl Try.ntmps13 (Nat.le_of_ble_eq_true rfl) ?_
  refine gfrom [(0, .slice _ _ _), (1, .int _ _)] ⟨rfl, rfl, trivial⟩ fun σ => ?_
  refine gseq fun N1 hN1 => ?_
  refine greg ?_
  refine gop (y_assign (v := .int _ _) rfl) rfl rfl rfl ?_
  refine gop (y_assign (v := .int _ _) rfl) rfl rfl rfl ?_
  refine gop_alloc (cs := #[.int .i64 0, .int .i64 0]) Try.zeroValue27 rfl rfl (fun b6 hb6 => ?_)
  refine gops_nil ?_
  refine hN1 _ _ ?_
  refine gT [box b6 _] rfl ?_
  refine gfrom [(0, .slice _ _ _), (1, .int _ _), (6, .pointer _)] ⟨rfl, rfl, rfl, trivial⟩ fun σ => ?_
  refine gseq fun N2 hN2 => ?_
  refine gseq fun N3 hN3 => ?_
  refine greg ?_
  refine gop (y_move (v := .slice _ _ _) rfl) rfl rfl rfl ?_
  refine gop (y_len Try.underlying22 rfl) rfl rfl rfl ?_
  refine gop (y_gtr rfl rfl) rfl rfl rfl ?_
  refine gops_nil ?_
  refine hN3 _ _ ?_
  refine gfrom [(0, .slice _ _ _), (1, .int _ _), (6, .pointer _), (16, .bool _)] ⟨rfl, rfl, rfl, rfl, trivial⟩ fun σ => ?_
  refine gcond (b := _) rfl (fun hc16 => ?_) (fun hc16 => ?_)
  · -- slot 16 t
    replace hc16 := of_decide_eq_true hc16
    have hF : throughF (ps.map PatC.pl) line = ⟨2, -1⟩ := by rw [throughF, if_pos (by simp; omega)]
    have hV : throughV (ps.map PatC.pl) line = (0, 0) := by rw [throughV, hF, if_neg (by decide)]
    refine gseq fun N4 hN4 => ?_
    refine greg ?_
    refine gop (y_build (vs := [(0, _), (1, _)]) (cells := #[_, _]) rfl (bd27_0_1 _ _)) rfl rfl rfl ?_
    refine gop (y_assign (v := .int _ _) rfl) rfl rfl rfl ?_
    refine gop (y_assign (v := .int _ _) rfl) rfl rfl rfl ?_
    refine gop_store 0 (v := .agg #[_, _]) (cs' := #[_, _]) rfl rfl Try.sizeOf27 rfl rfl rfl rfl (Nat.le_of_ble_eq_true rfl) rfl rfl ?_
    refine gops_nil ?_
    refine hN4 _ _ ?_
    refine gT [box b6 _] rfl ?_
    refine gfrom [(4, .int _ _), (5, .int _ _), (6, .pointer _)] ⟨rfl, rfl, rfl, trivial⟩ fun σ => ?_
    refine gret fun w1 hM => ?_
    refine ⟨_, res3 rfl (rt (v := .int _ _) rfl) (rt (v := .int _ _) rfl) (rc 0 (cs := [_, _]) hM rfl rfl Try.isAgg27 Try.sizeOf27 rfl), ?_⟩
    exact ⟨by rw [hF, hV]; rfl, hM.low⟩
  · -- slot 16 f
    replace hc16 := of_decide_eq_false hc16
    refine gskip ?_
    refine hN2 _ _ ?_
    refine gfrom [(0, .slice _ _ _), (1, .int _ _), (6, .pointer _)] ⟨rfl, rfl, rfl, trivial⟩ fun σ => ?_
    refine gseq fun N5 hN5 => ?_
    refine gseq fun N6 hN6 => ?_
    refine greg ?_
    refine gop (y_move (v := .int _ _) rfl) rfl rfl rfl ?_
    refine gop_pure (e_call (vs := [.int _ _]) Try.func32 rfl (by kernel_rfl) rfl) (fun w hM => isLine_any w _) rfl rfl rfl ?_
    refine gop (y_not rfl) rfl rfl rfl ?_
    refine gops_nil ?_
    refine hN6 _ _ ?_
    refine gfrom [(0, .slice _ _ _), (1, .int _ _), (6, .pointer _), (20, .bool _)] ⟨rfl, rfl, rfl, rfl, trivial⟩ fun σ => ?_
    refine gcond (b := _) rfl (fun hc20 => ?_) (fun hc20 => ?_)
    · -- slot 20 t
      replace hc20 := not_t hc20
      have hF : throughF (ps.map PatC.pl) line = ⟨3, -2⟩ := by rw [throughF, if_neg (by simp; omega), if_pos hc20]
      have hV : throughV (ps.map PatC.pl) line = (0, 0) := by rw [throughV, hF, if_neg (by decide)]
      refine gseq fun N7 hN7 => ?_
      refine greg ?_
      refine gop (y_build (vs := [(0, _), (1, _)]) (cells := #[_, _]) rfl (bd27_0_1 _ _)) rfl rfl rfl ?_
      refine gop (y_assign (v := .int _ _) rfl) rfl rfl rfl ?_
      refine gop (y_assign (v := .int _ _) rfl) rfl rfl rfl ?_
      refine gop_store 0 (v := .agg #[_, _]) (cs' := #[_, _]) rfl rfl Try.sizeOf27 rfl rfl rfl rfl (Nat.le_of_ble_eq_true rfl) rfl rfl ?_
      refine gops_nil ?_
      refine hN7 _ _ ?_
      refine gT [box b6 _] rfl ?_
      refine gfrom [(4, .int _ _), (5, .int _ _), (6, .pointer _)] ⟨rfl, rfl, rfl, trivial⟩ fun σ => ?_
      refine gret fun w1 hM => ?_
      refine ⟨_, res3 rfl (rt (v := .int _ _) rfl) (rt (v := .int _ _) rfl) (rc 0 (cs := [_, _]) hM rfl rfl Try.isAgg27 Try.sizeOf27 rfl), ?_⟩
      exact ⟨by rw [hF, hV]; rfl, hM.low⟩
    · -- slot 20 f
      replace hc20 := not_f hc20
      have hln := isLine_t hc20
      have hF0 : throughF (ps.map PatC.pl) line = scan (fun _ p => (patchF p).code) (ps.map PatC.pl) := by rw [throughF, if_neg (by simp; omega), if_neg (by simp [hc20])]
      refine gskip ?_
      refine hN5 _ _ ?_
      refine gfrom [(0, .slice _ _ _), (1, .int _ _), (6, .pointer _)] ⟨rfl, rfl, rfl, trivial⟩ fun σ => ?_
      refine gseq fun N8 hN8 => ?_
      refine gseq fun N9 hN9 => ?_
      refine greg ?_
      refine gop (y_move (v := .slice _ _ _) rfl) rfl rfl rfl ?_
      refine gop (y_len Try.underlying22 rfl) rfl rfl rfl ?_
      refine gop (y_move (v := .int _ _) rfl) rfl rfl rfl ?_
      refine gops_nil ?_
      refine hN9 _ _ ?_
      refine gfrom [(0, .slice _ _ _), (1, .int _ _), (6, .pointer _), (22, .slice _ _ _), (23, .int _ _), (24, .int _ _)] ⟨rfl, rfl, rfl, rfl, rfl, rfl, trivial⟩ fun σ => ?_
      refine gblock ?_
      refine gfrom2 [(24, .int _ _)] [(0, .slice _ _ _), (1, .int _ _), (6, .pointer _), (22, .slice _ _ _), (23, .int _ _)] ⟨rfl, trivial⟩ ⟨rfl, rfl, rfl, rfl, rfl, trivial⟩ fun σ => ?_
      refine gloop2 (G := Nat) (fun k => k ≤ ps.length ∧ ∀ j (h : j < (ps.map PatC.pl).length), j < k → (patchF (ps.map PatC.pl)[j]).code = 0) (fun k => ps.length - k) (fun k => [(24, .int .i64 (k : Int))]) (fun k => []) (0) ?h0 ⟨rfl, trivial⟩ ⟨rfl, rfl, rfl, rfl, rfl, trivial⟩ rfl ?round
      case h0 => exact ⟨Nat.zero_le _, fun _ _ h => absurd h (by omega)⟩
      case round =>
        intro k hφ σ
        obtain ⟨hk, hz⟩ := hφ
        refine gseq fun N10 hN10 => ?_
        refine greg ?_
        refine gop (y_lss rfl rfl) rfl rfl rfl ?_
        refine gops_nil ?_
        refine hN10 _ _ ?_
        refine gfrom [(0, .slice _ _ _), (1, .int _ _), (6, .pointer _), (22, .slice _ _ _), (23, .int _ _), (24, .int _ _), (25, .bool _)] ⟨rfl, rfl, rfl, rfl, rfl, rfl, rfl, trivial⟩ fun σ => ?_
        refine gseq fun N11 hN11 => ?_
        refine gcond (b := _) rfl (fun hc25 => ?_) (fun hc25 => ?_)
        · -- slot 25 t
          replace hc25 := of_decide_eq_true hc25
          have hk1 : k < ps.length := by omega
          have hk2 : k < (ps.map PatC.pl).length := by simpa using hk1
          obtain ⟨ad, rfl, -, hcv⟩ := hp.rd.at_ hk1
          have hpk := hp.each _ (List.getElem_mem hk1)
          refine gskip ?_
          refine hN11 _ _ ?_
          refine gfrom [(0, .slice _ _ _), (1, .int _ _), (6, .pointer _), (22, .slice _ _ _), (23, .int _ _), (24, .int _ _)] ⟨rfl, rfl, rfl, rfl, rfl, rfl, trivial⟩ fun σ => ?_
          refine gseq fun N12 hN12 => ?_
          refine gblock ?_
          refine gseq fun N13 hN13 => ?_
          refine greg ?_
          refine gop (y_move (v := .int _ _) rfl) rfl rfl rfl ?_
          refine gop (y_indexAddr Try.underlying22 Try.sizeOf25 rfl rfl rfl (by omega) (by omega)) rfl rfl rfl ?_
          refine gop (y_loads (cs := [_]) Try.isAgg25 Try.sizeOf25 rfl rfl (cells_base hcv)) rfl rfl rfl ?_
          refine gop_alloc (cs := #[.slice none 0 0]) Try.zeroValue25 rfl rfl (fun b8 hb8 => ?_)
          refine gop (y_assign (v := .int _ _) rfl) rfl rfl rfl ?_
          refine gop_store 1 (v := .agg #[_]) (cs' := #[_]) rfl rfl Try.sizeOf25 rfl rfl rfl rfl (Nat.le_of_ble_eq_true rfl) rfl rfl ?_
          refine gops_nil ?_
          refine hN13 _ _ ?_
          refine gT [box b6 _, box b8 _] rfl ?_
          refine gfrom [(0, .slice _ _ _), (1, .int _ _), (6, .pointer _), (7, .int _ _), (8, .pointer _), (22, .slice _ _ _), (23, .int _ _), (24, .int _ _)] ⟨rfl, rfl, rfl, rfl, rfl, rfl, rfl, rfl, trivial⟩ fun σ => ?_
          refine gseq fun N14 hN14 => ?_
          refine greg ?_
          refine gop (y_loads (cs := [_]) Try.isAgg25 Try.sizeOf25 rfl rfl (cells_box 1 rfl)) rfl rfl rfl ?_
          refine gop (y_move (v := .int _ _) rfl) rfl rfl rfl ?_
          refine gop_pure (e_call (vs := [.agg #[_], .int _ _]) Try.func33 rfl (by kernel_rfl) rfl) (fun w hM => patchSecond_any w _ _ _ (PatR.lasts.base hpk hM) _) rfl rfl rfl ?_
          refine gop_alloc (cs := #[.int .i64 0, .int .i64 0]) Try.zeroValue27 rfl rfl (fun b9 hb9 => ?_)
          refine gop_store 2 (v := .agg #[_, _]) (cs' := #[_, _]) rfl rfl Try.sizeOf27 rfl rfl rfl rfl (Nat.le_of_ble_eq_true rfl) rfl rfl ?_
          refine gops_nil ?_
          refine hN14 _ _ ?_
          refine gT [box b6 _, box b8 _, box b9 _] rfl ?_
          refine gfrom [(0, .slice _ _ _), (1, .int _ _), (6, .pointer _), (9, .pointer _), (22, .slice _ _ _), (23, .int _ _), (24, .int _ _)] ⟨rfl, rfl, rfl, rfl, rfl, rfl, rfl, trivial⟩ fun σ => ?_
          refine gseq fun N15 hN15 => ?_
          refine greg ?_
          refine gop (y_loads (cs := [_, _]) Try.isAgg27 Try.sizeOf27 rfl rfl (cells_box 2 rfl)) rfl rfl rfl ?_
          refine gop (y_build (vs := []) (cells := #[.int .i64 0, .int .i64 0]) rfl bd27_) rfl rfl rfl ?_
          refine gop (y_bin (vx := .agg #[_, _]) (vy := .agg #[_, _]) rfl rfl (fun w => eg27 _ _ _ _ _ w) (fun w => ne27 _ _ _ _ w)) rfl rfl rfl ?_
          refine gops_nil ?_
          refine hN15 _ _ ?_
          refine gfrom [(0, .slice _ _ _), (1, .int _ _), (6, .pointer _), (9, .pointer _), (22, .slice _ _ _), (23, .int _ _), (24, .int _ _), (34, .bool _)] ⟨rfl, rfl, rfl, rfl, rfl, rfl, rfl, rfl, trivial⟩ fun σ => ?_
          refine gcond (b := _) rfl (fun hc34 => ?_) (fun hc34 => ?_)
          · -- slot 34 t
            replace hc34 := fault_ne.1 hc34
            obtain ⟨hne, hsf⟩ := second_ne hc34
            have hF : throughF (ps.map PatC.pl) line = secondF (patchF ps[k].pl) k := by rw [hF0, scan_at hk2 hz (by simpa using hne), hsf]; simp
            have hV : throughV (ps.map PatC.pl) line = (0, 0) := by rw [throughV, hF, if_neg hc34]
            refine gseq fun N16 hN16 => ?_
            refine greg_hs [(0, room b6 27 2)] (by kernel_rfl) ?_
            refine ght 0 rfl (by kernel_rfl) (by kernel_rfl) (by kernel_rfl) (y_loads (cs := [_, _]) Try.isAgg27 Try.sizeOf27 rfl rfl (cells_box 2 rfl)) rfl rfl rfl (weak_room 0 rfl rfl) (listed' := #[true, false, false, false]) rfl ?_
            refine ght 1 rfl (by kernel_rfl) (by kernel_rfl) (by kernel_rfl) (y_assign (v := .int _ _) rfl) rfl rfl rfl (weak_room 0 rfl rfl) (listed' := #[true, true, false, false]) rfl ?_
            refine ght 2 rfl (by kernel_rfl) (by kernel_rfl) (by kernel_rfl) (y_assign (v := .int _ _) rfl) rfl rfl rfl (weak_room 0 rfl rfl) (listed' := #[true, true, true, false]) rfl ?_
            refine ghs 3 (by kernel_rfl) rfl rfl rfl (listed' := #[true, true, true, true]) rfl (run_store_box 0 (v := .agg #[_, _]) (cs' := #[_, _]) rfl rfl Try.sizeOf27 rfl rfl rfl rfl (Nat.le_of_ble_eq_true rfl) rfl rfl) (weak_room 0 rfl rfl) ?_
            refine ghd_done (by kernel_rfl) ?_
            refine hN16 _ _ ?_
            refine gT [box b6 _, box b8 _, box b9 _] rfl ?_
            refine gfrom [(4, .int _ _), (5, .int _ _), (6, .pointer _)] ⟨rfl, rfl, rfl, trivial⟩ fun σ => ?_
            refine gret fun w1 hM => ?_
            refine ⟨_, res3 rfl (rt (v := .int _ _) rfl) (rt (v := .int _ _) rfl) (rc 0 (cs := [_, _]) hM rfl rfl Try.isAgg27 Try.sizeOf27 rfl), ?_⟩
            exact ⟨by rw [hF, hV]; rfl, hM.low⟩
          · -- slot 34 f
            replace hc34 := fault_eq.1 hc34
            replace hc34 := second_eq hc34
            refine gskip ?_
            refine hN12 _ _ ?_
            refine gfrom [(0, .slice _ _ _), (1, .int _ _), (6, .pointer _), (22, .slice _ _ _), (23, .int _ _), (24, .int _ _)] ⟨rfl, rfl, rfl, rfl, rfl, rfl, trivial⟩ fun σ => ?_
            refine greg ?_
            refine gop (y_add rfl rfl ⟨by omega, by omega⟩) rfl rfl rfl ?_
            refine gop (y_move (v := .int _ _) rfl) rfl rfl rfl ?_
            refine gops_nil ?_
            refine gnext2 (k + 1) (by omega) (⟨by omega, fun j h hj => by rcases Nat.lt_succ_iff_lt_or_eq.1 hj with h1 | rfl; exact hz j h h1; rw [List.getElem_map, hc34]⟩) ⟨rfl, trivial⟩ ⟨rfl, rfl, rfl, rfl, rfl, trivial⟩ ⟨_, rfl⟩
        · -- slot 25 f
          replace hc25 := of_decide_eq_false hc25
          have hz2 : ∀ j (h : j < (ps.map PatC.pl).length), patchF (ps.map PatC.pl)[j] = ⟨0, 0⟩ := fun j hj => patchF_code (hz j hj (by simp at hj; omega))
          have hF : throughF (ps.map PatC.pl) line = ⟨0, 0⟩ := by rw [hF0]; exact scan_ok fun j hj => by rw [hz2 j hj]
          have hV : throughV (ps.map PatC.pl) line = through (ps.map PatC.pl) line := by rw [throughV, if_pos hF]
          refine gexit ?_
          refine hN8 _ _ ?_
          refine gfrom [(0, .slice _ _ _), (1, .int _ _), (6, .pointer _)] ⟨rfl, rfl, rfl, trivial⟩ fun σ => ?_
          refine gseq fun N17 hN17 => ?_
          refine gseq fun N18 hN18 => ?_
          refine greg ?_
          refine gop (y_move (v := .slice _ _ _) rfl) rfl rfl rfl ?_
          refine gop (y_len Try.underlying22 rfl) rfl rfl rfl ?_
          refine gop (y_move (v := .int _ _) rfl) rfl rfl rfl ?_
          refine gops_nil ?_
          refine hN18 _ _ ?_
          refine gfrom [(0, .slice _ _ _), (1, .int _ _), (6, .pointer _), (37, .slice _ _ _), (38, .int _ _), (39, .int _ _)] ⟨rfl, rfl, rfl, rfl, rfl, rfl, trivial⟩ fun σ => ?_
          refine gblock ?_
          refine gfrom2 [(1, .int _ _), (39, .int _ _)] [(0, .slice _ _ _), (6, .pointer _), (37, .slice _ _ _), (38, .int _ _)] ⟨rfl, rfl, trivial⟩ ⟨rfl, rfl, rfl, rfl, trivial⟩ fun σ => ?_
          refine gloop2 (G := Nat × Int) (fun (k, ln) => k ≤ ps.length ∧ -(16000 * (k : Int)) ≤ ln ∧ ln ≤ 120 + 16000 * (k : Int) ∧ through (ps.map PatC.pl) line = ((through ((ps.map PatC.pl).drop k) ln).1, (through ((ps.map PatC.pl).drop k) ln).2 + k)) (fun (k, ln) => ps.length - k) (fun (k, ln) => [(1, .int .i64 ln), (39, .int .i64 (k : Int))]) (fun (k, ln) => []) ((0, line)) ?h0 ⟨rfl, rfl, trivial⟩ ⟨rfl, rfl, rfl, rfl, trivial⟩ rfl ?round
          case h0 => exact ⟨Nat.zero_le _, by show -(16000 * ((0 : Nat) : Int)) ≤ line; omega, by show line ≤ 120 + 16000 * ((0 : Nat) : Int); omega, rfl⟩
          case round =>
            rintro ⟨k, ln⟩ hφ σ
            obtain ⟨hk, hl1, hl2, hP⟩ := hφ
            refine gseq fun N19 hN19 => ?_
            refine greg ?_
            refine gop (y_lss rfl rfl) rfl rfl rfl ?_
            refine gops_nil ?_
            refine hN19 _ _ ?_
            refine gfrom [(0, .slice _ _ _), (1, .int _ _), (6, .pointer _), (37, .slice _ _ _), (38, .int _ _), (39, .int _ _), (40, .bool _)] ⟨rfl, rfl, rfl, rfl, rfl, rfl, rfl, trivial⟩ fun σ => ?_
            refine gseq fun N20 hN20 => ?_
            refine gcond (b := _) rfl (fun hc40 => ?_) (fun hc40 => ?_)
            · -- slot 40 t
              replace hc40 := of_decide_eq_true hc40
              have hk1 : k < ps.length := by omega
              have hk2 : k < (ps.map PatC.pl).length := by simpa using hk1
              obtain ⟨ad, rfl, -, hcv⟩ := hp.rd.at_ hk1
              have hpk := hp.each _ (List.getElem_mem hk1)
              have hv : PV ps[k].pl := by have := hz2 k hk2; rw [List.getElem_map] at this; exact patchF_ok.1 this
              have hD := through_drop hk2 ln
              rw [List.getElem_map] at hD
              have hvl : ps[k].hs.length ≤ 130 := by simpa using hv.len
              refine gskip ?_
              refine hN20 _ _ ?_
              refine gfrom [(0, .slice _ _ _), (1, .int _ _), (6, .pointer _), (37, .slice _ _ _), (38, .int _ _), (39, .int _ _)] ⟨rfl, rfl, rfl, rfl, rfl, rfl, trivial⟩ fun σ => ?_
              refine gseq fun N21 hN21 => ?_
              refine gblock ?_
              refine gseq fun N22 hN22 => ?_
              refine greg ?_
              refine gop (y_move (v := .int _ _) rfl) rfl rfl rfl ?_
              refine gop (y_indexAddr Try.underlying22 Try.sizeOf25 rfl rfl rfl (by omega) (by omega)) rfl rfl rfl ?_
              refine gop (y_loads (cs := [_]) Try.isAgg25 Try.sizeOf25 rfl rfl (cells_base hcv)) rfl rfl rfl ?_
              refine gop_alloc (cs := #[.slice none 0 0]) Try.zeroValue25 rfl rfl (fun b11 hb11 => ?_)
              refine gop (y_assign (v := .int _ _) rfl) rfl rfl rfl ?_
              refine gop_store 1 (v := .agg #[_]) (cs' := #[_]) rfl rfl Try.sizeOf25 rfl rfl rfl rfl (Nat.le_of_ble_eq_true rfl) rfl rfl ?_
              refine gops_nil ?_
              refine hN22 _ _ ?_
              refine gT [box b6 _, box b11 _] rfl ?_
              refine gfrom [(0, .slice _ _ _), (1, .int _ _), (6, .pointer _), (10, .int _ _), (11, .pointer _), (37, .slice _ _ _), (38, .int _ _), (39, .int _ _)] ⟨rfl, rfl, rfl, rfl, rfl, rfl, rfl, rfl, trivial⟩ fun σ => ?_
              refine gseq fun N23 hN23 => ?_
              refine greg ?_
              refine gop (y_loads (cs := [_]) Try.isAgg25 Try.sizeOf25 rfl rfl (cells_box 1 rfl)) rfl rfl rfl ?_
              refine gop (y_move (v := .int _ _) rfl) rfl rfl rfl ?_
              refine gop_pure (e_call (vs := [.agg #[_], .int _ _]) Try.func34 rfl (by kernel_rfl) rfl) (fun w hM => place_any w _ _ ps[k].hs (PatR.lasts.base hpk hM) (by simpa using hv.len) hv.each ln (by omega) (by omega)) rfl rfl rfl ?_
              refine gop (y_move (v := .tuple #[.int _ _, .bool _]) rfl) rfl rfl rfl ?_
              refine gop (y_extract (v := .int _ _) rfl rfl) rfl rfl rfl ?_
              refine gop (y_extract (v := .bool _) rfl rfl) rfl rfl rfl ?_
              refine gop (y_assign (v := .int _ _) rfl) rfl rfl rfl ?_
              refine gop (y_assign (v := .bool _) rfl) rfl rfl rfl ?_
              refine gops_nil ?_
              refine hN23 _ _ ?_
              refine gfrom [(0, .slice _ _ _), (1, .int _ _), (6, .pointer _), (10, .int _ _), (12, .int _ _), (13, .bool _), (37, .slice _ _ _), (38, .int _ _), (39, .int _ _)] ⟨rfl, rfl, rfl, rfl, rfl, rfl, rfl, rfl, rfl, trivial⟩ fun σ => ?_
              refine gseq fun N24 hN24 => ?_
              refine gseq fun N25 hN25 => ?_
              refine greg ?_
              refine gop (y_move (v := .bool _) rfl) rfl rfl rfl ?_
              refine gop (y_not rfl) rfl rfl rfl ?_
              refine gops_nil ?_
              refine hN25 _ _ ?_
              refine gfrom [(0, .slice _ _ _), (1, .int _ _), (6, .pointer _), (10, .int _ _), (12, .int _ _), (37, .slice _ _ _), (38, .int _ _), (39, .int _ _), (51, .bool _)] ⟨rfl, rfl, rfl, rfl, rfl, rfl, rfl, rfl, rfl, trivial⟩ fun σ => ?_
              refine gcond (b := _) rfl (fun hc51 => ?_) (fun hc51 => ?_)
              · -- slot 51 t
                replace hc51 := not_t hc51
                have hE : through (ps.map PatC.pl) line = (ln, k) := by rw [hP, hD, if_neg (by simp [hc51])]; simp
                refine gseq fun N26 hN26 => ?_
                refine greg ?_
                refine gop (y_move (v := .int _ _) rfl) rfl rfl rfl ?_
                refine gop (y_move (v := .int _ _) rfl) rfl rfl rfl ?_
                refine gop (y_build (vs := []) (cells := #[.int .i64 0, .int .i64 0]) rfl bd27_) rfl rfl rfl ?_
                refine gop (y_assign (v := .int _ _) rfl) rfl rfl rfl ?_
                refine gop (y_assign (v := .int _ _) rfl) rfl rfl rfl ?_
                refine gop_store 0 (v := .agg #[_, _]) (cs' := #[_, _]) rfl rfl Try.sizeOf27 rfl rfl rfl rfl (Nat.le_of_ble_eq_true rfl) rfl rfl ?_
                refine gops_nil ?_
                refine hN26 _ _ ?_
                refine gT [box b6 _, box b11 _] rfl ?_
                refine gfrom [(4, .int _ _), (5, .int _ _), (6, .pointer _)] ⟨rfl, rfl, rfl, trivial⟩ fun σ => ?_
                refine gret fun w1 hM => ?_
                refine ⟨_, res3 rfl (rt (v := .int _ _) rfl) (rt (v := .int _ _) rfl) (rc 0 (cs := [_, _]) hM rfl rfl Try.isAgg27 Try.sizeOf27 rfl), ?_⟩
                exact ⟨by rw [hF, hV, hE], hM.low⟩
              · -- slot 51 f
                replace hc51 := not_f hc51
                have hbd := place_bd ps[k].pl ln 0 hv.each hc51
                have hbl : ps[k].pl.length = ps[k].hs.length := List.length_map ..
                refine gskip ?_
                refine hN24 _ _ ?_
                refine gfrom [(0, .slice _ _ _), (6, .pointer _), (12, .int _ _), (37, .slice _ _ _), (38, .int _ _), (39, .int _ _)] ⟨rfl, rfl, rfl, rfl, rfl, rfl, trivial⟩ fun σ => ?_
                refine greg ?_
                refine gop (y_move (v := .int _ _) rfl) rfl rfl rfl ?_
                refine gop (y_assign (v := .int _ _) rfl) rfl rfl rfl ?_
                refine gops_nil ?_
                refine hN21 _ _ ?_
                refine gfrom [(0, .slice _ _ _), (1, .int _ _), (6, .pointer _), (37, .slice _ _ _), (38, .int _ _), (39, .int _ _)] ⟨rfl, rfl, rfl, rfl, rfl, rfl, trivial⟩ fun σ => ?_
                refine greg ?_
                refine gop (y_add rfl rfl ⟨by omega, by omega⟩) rfl rfl rfl ?_
                refine gop (y_move (v := .int _ _) rfl) rfl rfl rfl ?_
                refine gops_nil ?_
                refine gnext2 ((k + 1, (place ps[k].pl ln 0).1)) (by show ps.length - (k + 1) < ps.length - k; omega) (⟨by show k + 1 ≤ _; omega, by show -(16000 * ((k + 1 : Nat) : Int)) ≤ _; omega, by show _ ≤ 120 + 16000 * ((k + 1 : Nat) : Int); omega, by rw [hP, hD, if_pos hc51]; simp only [Nat.add_assoc, Nat.add_comm 1 k]⟩) ⟨rfl, rfl, trivial⟩ ⟨rfl, rfl, rfl, rfl, trivial⟩ ⟨_, rfl⟩
            · -- slot 40 f
              replace hc40 := of_decide_eq_false hc40
              have hE : through (ps.map PatC.pl) line = (ln, ps.length) := by rw [hP, List.drop_eq_nil_of_le (by simp; omega), through]; simp; omega
              refine gexit ?_
              refine hN17 _ _ ?_
              refine gfrom [(0, .slice _ _ _), (1, .int _ _), (6, .pointer _)] ⟨rfl, rfl, rfl, trivial⟩ fun σ => ?_
              refine gseq fun N27 hN27 => ?_
              refine greg ?_
              refine gop (y_move (v := .int _ _) rfl) rfl rfl rfl ?_
              refine gop (y_move (v := .slice _ _ _) rfl) rfl rfl rfl ?_
              refine gop (y_len Try.underlying22 rfl) rfl rfl rfl ?_
              refine gop (y_build (vs := []) (cells := #[.int .i64 0, .int .i64 0]) rfl bd27_) rfl rfl rfl ?_
              refine gop (y_assign (v := .int _ _) rfl) rfl rfl rfl ?_
              refine gop (y_assign (v := .int _ _) rfl) rfl rfl rfl ?_
              refine gop_store 0 (v := .agg #[_, _]) (cs' := #[_, _]) rfl rfl Try.sizeOf27 rfl rfl rfl rfl (Nat.le_of_ble_eq_true rfl) rfl rfl ?_
              refine gops_nil ?_
              refine hN27 _ _ ?_
              refine gT [box b6 _] rfl ?_
              refine gfrom [(4, .int _ _), (5, .int _ _), (6, .pointer _)] ⟨rfl, rfl, rfl, trivial⟩ fun σ => ?_
              refine gret fun w1 hM => ?_
              refine ⟨_, res3 rfl (rt (v := .int _ _) rfl) (rt (v := .int _ _) rfl) (rc 0 (cs := [_, _]) hM rfl rfl Try.isAgg27 Try.sizeOf27 rfl), ?_⟩
              exact ⟨by rw [hF, hV, hE], hM.low⟩
end Go.Proofs.Ytbaojdiccikbiaa
