/- walks, printed by program -/
import Derived.Test.YtijpaljdclhehaaDoorGlobH
import Derived.Test.YtijpaljdclhehaaDoorGlobO
namespace Go.Proofs.YtijpaljdclhehaaDoor
open Go.RowKit Go.Cf
set_option maxRecDepth 10000

theorem fa89_0 (a : Addr) (w : World) : (Instr.fieldAt 89 (.pointer (some a)) 0).run Tryd.prog w = .ok (.pointer (some (a.add 0))) w := by kernel_rfl
theorem fa89_1 (a : Addr) (w : World) : (Instr.fieldAt 89 (.pointer (some a)) 1).run Tryd.prog w = .ok (.pointer (some (a.add 1))) w := by kernel_rfl
theorem fa89_2 (a : Addr) (w : World) : (Instr.fieldAt 89 (.pointer (some a)) 2).run Tryd.prog w = .ok (.pointer (some (a.add 2))) w := by kernel_rfl
theorem bd89_0_1_2 (x1 : Int) (x2 : Int) (x3 : Int) : Tryd.prog.built 89 [(0, .int .i64 x1), (1, .int .i64 x2), (2, .int .i64 x3)] = some #[.int .i64 x1, .int .i64 x2, .int .i64 x3] := by kernel_rfl
theorem el89 : Elem Tryd.prog 89 3 24 := elem_of (z := .agg #[.int .i64 0, .int .i64 0, .int .i64 0]) (by kernel_rfl) rfl (by decide)

set_option maxHeartbeats 1000000 in
theorem wild_any (w : World) (c : Nat) : Calls Tryd.prog 91 #[.int .u8 (c : Int)] w fun e w' => e = .returned (.bool (wildB c)) ∧ Below w.heap.size w w' := by
  refine gcalls Tryd.func91 rfl Tryd.ntmps91 (Nat.le_of_ble_eq_true rfl) ?_
  refine gfrom [(0, .int _ _)] ⟨rfl, trivial⟩ fun σ => ?_
  refine gseq fun N1 hN1 => ?_
  refine greg ?_
  refine gop (y_assign (v := .bool _) rfl) rfl rfl rfl ?_
  refine gops_nil ?_
  refine hN1 _ _ ?_
  refine gfrom [(0, .int _ _)] ⟨rfl, trivial⟩ fun σ => ?_
  refine gseq fun N2 hN2 => ?_
  refine greg ?_
  refine gop (y_move (v := .int _ _) rfl) rfl rfl rfl ?_
  refine gop (y_eql rfl rfl) rfl rfl rfl ?_
  refine gop (y_move (v := .bool _) rfl) rfl rfl rfl ?_
  refine gop_if (want := false) rfl rfl rfl rfl rfl rfl (fun hg5 => ?_) (fun hg5 => ?_)
  · -- guard 5 on
    have hg5d := of_decide_eq_false hg5
    refine gop (y_bare (y_move (v := .int _ _) rfl)) rfl rfl rfl ?_
    refine gop_on rfl rfl rfl rfl hg5 ?_
    refine gop (y_bare (y_eql rfl rfl)) rfl rfl rfl ?_
    refine gop (y_pick_f (v := .bool _) rfl hg5 rfl) rfl rfl rfl ?_
    refine gop (y_assign (v := .bool _) rfl) rfl rfl rfl ?_
    refine gops_nil ?_
    refine hN2 _ _ ?_
    refine gfrom [(2, .bool _)] ⟨rfl, trivial⟩ fun σ => ?_
    refine gret fun w1 hM => ?_
    refine ⟨_, res1 rfl (rt (v := .bool _) rfl), ?_⟩
    exact ⟨by unfold wildB; first | rw [decide_eq_true (show c = 42 by omega)]; rfl | (rw [decide_eq_false (show ¬ c = 42 by omega), Bool.false_or]; exact congrArg (fun b => Ending.returned (Value.bool b)) (decide_eq_decide.2 (by omega))), hM.low⟩
  · -- guard 5 off
    have hg5d := of_decide_eq_true hg5
    refine gop_off rfl rfl rfl rfl hg5 rfl rfl ?_
    refine gop (y_pick_t (v := .bool _) rfl hg5 rfl) rfl rfl rfl ?_
    refine gop (y_assign (v := .bool _) rfl) rfl rfl rfl ?_
    refine gops_nil ?_
    refine hN2 _ _ ?_
    refine gfrom [(2, .bool _)] ⟨rfl, trivial⟩ fun σ => ?_
    refine gret fun w1 hM => ?_
    refine ⟨_, res1 rfl (rt (v := .bool _) rfl), ?_⟩
    exact ⟨by unfold wildB; first | rw [decide_eq_true (show c = 42 by omega)]; rfl | (rw [decide_eq_false (show ¬ c = 42 by omega), Bool.false_or]; exact congrArg (fun b => Ending.returned (Value.bool b)) (decide_eq_decide.2 (by omega))), hM.low⟩

set_option maxHeartbeats 4000000 in
theorem next_any (w : World) (p q : ByteArray) (i j d : Nat) (hp : p.size ≤ 4000000) (hq : q.size ≤ 4000000) (hi : i ≤ p.size) (hj : j ≤ q.size) (hd : d ≤ 3) :
    Calls Tryd.prog 71 #[.string p, .string q, .agg #[.int .i64 (i : Int), .int .i64 (j : Int), .int .i64 (d : Int)]] w fun e w' => ∃ v T', e = .returned v ∧ T' = [rowl placeCells w.heap.size 89 3 v (nextL p q (i, j, d))] ∧ Mem w T' w' := by
  have hla := nxA_len p (i, j, d)
  have hlb := nxB_len q (i, j, d)
  refine gcalls Tryd.func71 rfl Tryd.ntmps71 (Nat.le_of_ble_eq_true rfl) ?_
  refine gfrom [(0, .string _), (1, .string _), (2, .agg #[_, _, _])] ⟨rfl, rfl, rfl, trivial⟩ fun σ => ?_
  refine gnilrow placeCells 89 3 ?_
  refine gseq fun N1 hN1 => ?_
  refine greg ?_
  refine gop_box (v := .agg #[_, _, _]) (cs := #[_, _, _]) rfl rfl rfl (fun b5 hb5 => ?_)
  refine gop (y_assign (v := .slice _ _ _) rfl) rfl rfl rfl ?_
  refine gops_nil ?_
  refine hN1 _ _ ?_
  refine gT [rowl _ _ _ _ _ _, box b5 _] rfl ?_
  refine gfrom [(0, .string _), (1, .string _), (5, .pointer _)] ⟨rfl, rfl, rfl, trivial⟩ fun σ => ?_
  refine gseq fun N2 hN2 => ?_
  refine greg ?_
  refine gop (y_assign (v := .slice _ _ _) rfl) rfl rfl rfl ?_
  refine gops_nil ?_
  refine hN2 _ _ ?_
  refine gfrom [(0, .string _), (1, .string _), (5, .pointer _), (7, .slice _ _ _)] ⟨rfl, rfl, rfl, rfl, trivial⟩ fun σ => ?_
  refine gseq fun N3 hN3 => ?_
  refine greg_q (by kernel_rfl) (by kernel_rfl) ?_
  refine gq (y_fieldAddr_box fa89_0 rfl) rfl rfl rfl ?_
  refine gq (y_load Tryd.isAgg3 rfl (cell_box 1 rfl rfl)) rfl rfl rfl ?_
  refine gq (y_move (v := .string _) rfl) rfl rfl rfl ?_
  refine gq (y_lens Tryd.underlying9 rfl) rfl rfl rfl ?_
  refine gq (y_lss rfl rfl) rfl rfl rfl ?_
  refine gq (y_fieldAddr_box fa89_1 rfl) rfl rfl rfl ?_
  refine gq (y_load Tryd.isAgg3 rfl (cell_box 1 rfl rfl)) rfl rfl rfl ?_
  refine gq (y_move (v := .string _) rfl) rfl rfl rfl ?_
  refine gq (y_lens Tryd.underlying9 rfl) rfl rfl rfl ?_
  refine gq (y_lss rfl rfl) rfl rfl rfl ?_
  refine gq (y_assign (v := .bool _) rfl) rfl rfl rfl ?_
  refine gq (y_assign (v := .bool _) rfl) rfl rfl rfl ?_
  refine gqs_nil ?_
  refine hN3 _ _ ?_
  refine gfrom [(0, .string _), (1, .string _), (5, .pointer _), (7, .slice _ _ _), (8, .bool _), (9, .bool _)] ⟨rfl, rfl, rfl, rfl, rfl, rfl, trivial⟩ fun σ => ?_
  refine gseq fun N4 hN4 => ?_
  refine gfrom [(0, .string _), (1, .string _), (5, .pointer _), (7, .slice _ _ _), (8, .bool _), (9, .bool _)] ⟨rfl, rfl, rfl, rfl, rfl, rfl, trivial⟩ fun σ => ?_
  refine gcut3 (Lf := [(0, .string _), (1, .string _), (5, .pointer _), (8, .bool _), (9, .bool _)]) (G := Option Addr × Nat × List Pl) (fun (A, c, l) => l = nxA p (i, j, d)) (fun (A, c, l) => [(7, .slice A l.length c)]) (fun (A, c, l) => [(0, rowl placeCells w.heap.size 89 3 (.slice A (l).length c) (l))]) ⟨rfl, rfl, rfl, rfl, rfl, trivial⟩ ?_ ?_
  ·
    refine gseq fun N5 hN5 => ?_
    refine greg ?_
    refine gop (y_move (v := .bool _) rfl) rfl rfl rfl ?_
    refine gop (y_move (v := .bool _) rfl) rfl rfl rfl ?_
    refine gop_if (want := true) rfl rfl rfl rfl rfl rfl (fun hg25 => ?_) (fun hg25 => ?_)
    · -- guard 25 on
      have hg25d := of_decide_eq_true hg25
      refine gop (y_bare (y_move (v := .string _) rfl)) rfl rfl rfl ?_
      refine gop_on rfl rfl rfl rfl hg25 ?_
      refine gop (y_bare (y_fieldAddr_box fa89_0 rfl)) rfl rfl rfl ?_
      refine gop_on rfl rfl rfl rfl hg25 ?_
      refine gop (y_bare (y_load Tryd.isAgg3 rfl (cell_box 1 rfl rfl))) rfl rfl rfl ?_
      refine gop_on rfl rfl rfl rfl hg25 ?_
      refine gop (y_bare (y_stridx (m := i) Tryd.underlying9 rfl rfl (by omega) (by omega) (by omega))) rfl rfl rfl ?_
      refine gop_on rfl rfl rfl rfl hg25 ?_
      refine gop (y_bare (y_eql rfl rfl)) rfl rfl rfl ?_
      refine gop (y_pick_t (v := .bool _) rfl hg25 rfl) rfl rfl rfl ?_
      refine gops_nil ?_
      refine hN5 _ _ ?_
      refine gfrom [(0, .string _), (1, .string _), (5, .pointer _), (7, .slice _ _ _), (8, .bool _), (9, .bool _), (31, .bool _)] ⟨rfl, rfl, rfl, rfl, rfl, rfl, rfl, trivial⟩ fun σ => ?_
      refine gcond (b := _) rfl (fun hc31 => ?_) (fun hc31 => ?_)
      · -- slot 31 t
        replace hc31 := of_decide_eq_true hc31
        refine greg ?_
        refine gop (y_move (v := .slice _ _ _) rfl) rfl rfl rfl ?_
        refine gop (y_fieldAddr_box fa89_0 rfl) rfl rfl rfl ?_
        refine gop (y_load Tryd.isAgg3 rfl (cell_box 1 rfl rfl)) rfl rfl rfl ?_
        refine gop (y_add rfl rfl ⟨by omega, by omega⟩) rfl rfl rfl ?_
        refine gop (y_fieldAddr_box fa89_1 rfl) rfl rfl rfl ?_
        refine gop (y_load Tryd.isAgg3 rfl (cell_box 1 rfl rfl)) rfl rfl rfl ?_
        refine gop (y_fieldAddr_box fa89_2 rfl) rfl rfl rfl ?_
        refine gop (y_load Tryd.isAgg3 rfl (cell_box 1 rfl rfl)) rfl rfl rfl ?_
        refine gop (y_build (vs := [(0, .int _ _), (1, .int _ _), (2, .int _ _)]) (cells := #[_, _, _]) rfl (bd89_0_1_2 _ _ _)) rfl rfl rfl ?_
        refine gop_lit (vs := [.agg #[_, _, _]]) (cells := #[_, _, _]) Tryd.underlying90 Tryd.sizeOf89 Tryd.zeroValue89 rfl (by decide) (by decide) rfl rfl rfl rfl (fun b41 hb41 => ?_)
        refine gop_append 0 (f := placeCells) (l2 := [(i + 1, j, d)]) Tryd.underlying90 el89 wide_place (v := .slice _ _ _) rfl rfl rfl rfl (fun h => by cases h) (by simp [maxLen] <;> omega) (by simp <;> omega) (src_box 2 rfl rfl) rfl (fun v42 => ?_)
        refine gops_fact (fun w hM => own_form (hM.own 0 rfl)) ?_
        rintro ⟨A42, c42, rfl, hc42, hm42⟩
        refine gop (y_assign (v := .slice A42 _ c42) rfl) rfl rfl rfl ?_
        refine gops_nil ?_
        refine gcut3_end ((A42, c42, [(i + 1, j, d)])) (by show _ = nxA p (i, j, d); rw [nxA, if_pos ⟨by show i < p.size; omega, by show byteAt p i = 42; omega⟩]) ⟨rfl, trivial⟩ ⟨rfl, rfl, rfl, rfl, rfl, trivial⟩ ⟨_, rfl⟩
      · -- slot 31 f
        replace hc31 := of_decide_eq_false hc31
        refine gskip ?_
        refine gcut3_end ((none, 0, [])) (by show _ = nxA p (i, j, d); rw [nxA, if_neg (by show ¬ (i < p.size ∧ byteAt p i = 42); omega)]) ⟨rfl, trivial⟩ ⟨rfl, rfl, rfl, rfl, rfl, trivial⟩ ⟨_, rfl⟩
    · -- guard 25 off
      have hg25d := of_decide_eq_false hg25
      refine gop_off rfl rfl rfl rfl hg25 rfl rfl ?_
      refine gop_off rfl rfl rfl rfl hg25 rfl rfl ?_
      refine gop_off rfl rfl rfl rfl hg25 rfl rfl ?_
      refine gop_off rfl rfl rfl rfl hg25 rfl rfl ?_
      refine gop (y_pick_f (v := .bool _) rfl hg25 rfl) rfl rfl rfl ?_
      refine gops_nil ?_
      refine hN5 _ _ ?_
      refine gfrom [(0, .string _), (1, .string _), (5, .pointer _), (7, .slice _ _ _), (8, .bool _), (9, .bool _), (31, .bool _)] ⟨rfl, rfl, rfl, rfl, rfl, rfl, rfl, trivial⟩ fun σ => ?_
      refine gcond (b := _) rfl (fun hc31 => ?_) (fun hc31 => ?_)
      · -- slot 31 t
        cases hc31
      · -- slot 31 f
        refine gskip ?_
        refine gcut3_end ((none, 0, [])) (by show _ = nxA p (i, j, d); rw [nxA, if_neg (by show ¬ (i < p.size ∧ byteAt p i = 42); omega)]) ⟨rfl, trivial⟩ ⟨rfl, rfl, rfl, rfl, rfl, trivial⟩ ⟨_, rfl⟩
  ·
    rintro ⟨A, c, l⟩ hcut σ
    refine hN4 _ _ ?_
    have hcut : l = nxA p (i, j, d) := hcut
    subst hcut
    refine gseq fun N6 hN6 => ?_
    refine gT [rowl _ _ _ _ _ _, box b5 _] rfl ?_
    refine gfrom [(0, .string _), (1, .string _), (5, .pointer _), (7, .slice A _ c), (8, .bool _), (9, .bool _)] ⟨rfl, rfl, rfl, rfl, rfl, rfl, trivial⟩ fun σ => ?_
    refine gcut3 (Lf := [(0, .string _), (1, .string _), (5, .pointer _), (8, .bool _), (9, .bool _)]) (G := Option Addr × Nat × List Pl) (fun (A, c, l) => l = nxA p (i, j, d) ++ nxB q (i, j, d)) (fun (A, c, l) => [(7, .slice A l.length c)]) (fun (A, c, l) => [(0, rowl placeCells w.heap.size 89 3 (.slice A (l).length c) (l))]) ⟨rfl, rfl, rfl, rfl, rfl, trivial⟩ ?_ ?_
    ·
      refine gseq fun N7 hN7 => ?_
      refine greg ?_
      refine gop (y_move (v := .bool _) rfl) rfl rfl rfl ?_
      refine gop (y_move (v := .bool _) rfl) rfl rfl rfl ?_
      refine gop_if (want := true) rfl rfl rfl rfl rfl rfl (fun hg44 => ?_) (fun hg44 => ?_)
      · -- guard 44 on
        have hg44d := of_decide_eq_true hg44
        refine gop (y_bare (y_move (v := .string _) rfl)) rfl rfl rfl ?_
        refine gop_on rfl rfl rfl rfl hg44 ?_
        refine gop (y_bare (y_fieldAddr_box fa89_1 rfl)) rfl rfl rfl ?_
        refine gop_on rfl rfl rfl rfl hg44 ?_
        refine gop (y_bare (y_load Tryd.isAgg3 rfl (cell_box 1 rfl rfl))) rfl rfl rfl ?_
        refine gop_on rfl rfl rfl rfl hg44 ?_
        refine gop (y_bare (y_stridx (m := j) Tryd.underlying9 rfl rfl (by omega) (by omega) (by omega))) rfl rfl rfl ?_
        refine gop_on rfl rfl rfl rfl hg44 ?_
        refine gop (y_bare (y_eql rfl rfl)) rfl rfl rfl ?_
        refine gop (y_pick_t (v := .bool _) rfl hg44 rfl) rfl rfl rfl ?_
        refine gops_nil ?_
        refine hN7 _ _ ?_
        refine gfrom [(0, .string _), (1, .string _), (5, .pointer _), (7, .slice A _ c), (8, .bool _), (9, .bool _), (50, .bool _)] ⟨rfl, rfl, rfl, rfl, rfl, rfl, rfl, trivial⟩ fun σ => ?_
        refine gcond (b := _) rfl (fun hc50 => ?_) (fun hc50 => ?_)
        · -- slot 50 t
          replace hc50 := of_decide_eq_true hc50
          refine greg ?_
          refine gop (y_move (v := .slice A _ c) rfl) rfl rfl rfl ?_
          refine gop (y_fieldAddr_box fa89_0 rfl) rfl rfl rfl ?_
          refine gop (y_load Tryd.isAgg3 rfl (cell_box 1 rfl rfl)) rfl rfl rfl ?_
          refine gop (y_fieldAddr_box fa89_1 rfl) rfl rfl rfl ?_
          refine gop (y_load Tryd.isAgg3 rfl (cell_box 1 rfl rfl)) rfl rfl rfl ?_
          refine gop (y_add rfl rfl ⟨by omega, by omega⟩) rfl rfl rfl ?_
          refine gop (y_fieldAddr_box fa89_2 rfl) rfl rfl rfl ?_
          refine gop (y_load Tryd.isAgg3 rfl (cell_box 1 rfl rfl)) rfl rfl rfl ?_
          refine gop (y_build (vs := [(0, .int _ _), (1, .int _ _), (2, .int _ _)]) (cells := #[_, _, _]) rfl (bd89_0_1_2 _ _ _)) rfl rfl rfl ?_
          refine gop_lit (vs := [.agg #[_, _, _]]) (cells := #[_, _, _]) Tryd.underlying90 Tryd.sizeOf89 Tryd.zeroValue89 rfl (by decide) (by decide) rfl rfl rfl rfl (fun b60 hb60 => ?_)
          refine gop_append 0 (f := placeCells) (l2 := [(i, j + 1, d)]) Tryd.underlying90 el89 wide_place (v := .slice A _ c) rfl rfl rfl rfl (fun h => by cases h) (by simp [maxLen] <;> omega) (by simp <;> omega) (src_box 2 rfl rfl) rfl (fun v61 => ?_)
          refine gops_fact (fun w hM => own_form (hM.own 0 rfl)) ?_
          rintro ⟨A61, c61, rfl, hc61, hm61⟩
          refine gop (y_assign (v := .slice A61 _ c61) rfl) rfl rfl rfl ?_
          refine gops_nil ?_
          refine gcut3_end ((A61, c61, nxA p (i, j, d) ++ [(i, j + 1, d)])) (by show _ = _ ++ nxB q (i, j, d); rw [nxB, if_pos ⟨by show j < q.size; omega, by show byteAt q j = 42; omega⟩]) ⟨rfl, trivial⟩ ⟨rfl, rfl, rfl, rfl, rfl, trivial⟩ ⟨_, rfl⟩
        · -- slot 50 f
          replace hc50 := of_decide_eq_false hc50
          refine gskip ?_
          refine gcut3_end ((A, c, nxA p (i, j, d))) (by show _ = _ ++ nxB q (i, j, d); rw [nxB, if_neg (by show ¬ (j < q.size ∧ byteAt q j = 42); omega), List.append_nil]) ⟨rfl, trivial⟩ ⟨rfl, rfl, rfl, rfl, rfl, trivial⟩ ⟨_, rfl⟩
      · -- guard 44 off
        have hg44d := of_decide_eq_false hg44
        refine gop_off rfl rfl rfl rfl hg44 rfl rfl ?_
        refine gop_off rfl rfl rfl rfl hg44 rfl rfl ?_
        refine gop_off rfl rfl rfl rfl hg44 rfl rfl ?_
        refine gop_off rfl rfl rfl rfl hg44 rfl rfl ?_
        refine gop (y_pick_f (v := .bool _) rfl hg44 rfl) rfl rfl rfl ?_
        refine gops_nil ?_
        refine hN7 _ _ ?_
        refine gfrom [(0, .string _), (1, .string _), (5, .pointer _), (7, .slice A _ c), (8, .bool _), (9, .bool _), (50, .bool _)] ⟨rfl, rfl, rfl, rfl, rfl, rfl, rfl, trivial⟩ fun σ => ?_
        refine gcond (b := _) rfl (fun hc50 => ?_) (fun hc50 => ?_)
        · -- slot 50 t
          cases hc50
        · -- slot 50 f
          refine gskip ?_
          refine gcut3_end ((A, c, nxA p (i, j, d))) (by show _ = _ ++ nxB q (i, j, d); rw [nxB, if_neg (by show ¬ (j < q.size ∧ byteAt q j = 42); omega), List.append_nil]) ⟨rfl, trivial⟩ ⟨rfl, rfl, rfl, rfl, rfl, trivial⟩ ⟨_, rfl⟩
    ·
      rintro ⟨A, c, l⟩ hcut σ
      refine hN6 _ _ ?_
      have hcut : l = nxA p (i, j, d) ++ nxB q (i, j, d) := hcut
      subst hcut
      refine gseq fun N8 hN8 => ?_
      refine gseq fun N9 hN9 => ?_
      refine greg ?_
      refine gop (y_move (v := .bool _) rfl) rfl rfl rfl ?_
      refine gop (y_not rfl) rfl rfl rfl ?_
      refine gop (y_move (v := .bool _) rfl) rfl rfl rfl ?_
      refine gop_if (want := false) rfl rfl rfl rfl rfl rfl (fun hg64 => ?_) (fun hg64 => ?_)
      · -- guard 64 on
        have hg64d := not_f hg64
        replace hg64d := of_decide_eq_true hg64d
        refine gop (y_bare (y_move (v := .bool _) rfl)) rfl rfl rfl ?_
        refine gop_on rfl rfl rfl rfl hg64 ?_
        refine gop (y_bare (y_not rfl)) rfl rfl rfl ?_
        refine gop (y_pick_f (v := .bool _) rfl hg64 rfl) rfl rfl rfl ?_
        refine gops_nil ?_
        refine hN9 _ _ ?_
        refine gT [rowl _ _ _ _ _ _, box b5 _] rfl ?_
        refine gfrom [(0, .string _), (1, .string _), (5, .pointer _), (7, .slice A _ c), (67, .bool _)] ⟨rfl, rfl, rfl, rfl, rfl, trivial⟩ fun σ => ?_
        refine gcond (b := _) rfl (fun hc67 => ?_) (fun hc67 => ?_)
        · -- slot 67 t
          replace hc67 := not_t hc67
          try replace hc67 := of_decide_eq_false hc67
          refine gseq fun N10 hN10 => ?_
          refine greg ?_
          refine gop (y_move (v := .slice A _ c) rfl) rfl rfl rfl ?_
          refine gop (y_assign (v := .slice A _ c) rfl) rfl rfl rfl ?_
          refine gops_nil ?_
          refine hN10 _ _ ?_
          refine gfrom [(6, .slice A _ c)] ⟨rfl, trivial⟩ fun σ => ?_
          refine gret fun w1 hM => ?_
          refine ⟨_, res1 rfl (rt (v := .slice A _ c) rfl), ?_⟩
          have hC : nxC p q (i, j, d) = [] := by rw [nxC, if_neg (by rintro ⟨h1, h2, -⟩; change i < p.size at h1; change j < q.size at h2; omega)]
          have hL : nxA p (i, j, d) ++ nxB q (i, j, d) = nextL p q (i, j, d) := by rw [nextL, hC, List.append_nil]
          exact ⟨_, _, rfl, by rw [← hL], weak_take (T' := [_]) rfl _ hM⟩
        · -- slot 67 f
          replace hc67 := not_f hc67
          replace hc67 := of_decide_eq_true hc67
          refine gskip ?_
          refine hN8 _ _ ?_
          refine gfrom [(0, .string _), (1, .string _), (5, .pointer _), (7, .slice A _ c)] ⟨rfl, rfl, rfl, rfl, trivial⟩ fun σ => ?_
          refine gseq fun N11 hN11 => ?_
          refine greg_q (by kernel_rfl) (by kernel_rfl) ?_
          refine gq (y_move (v := .string _) rfl) rfl rfl rfl ?_
          refine gq (y_fieldAddr_box fa89_0 rfl) rfl rfl rfl ?_
          refine gq (y_load Tryd.isAgg3 rfl (cell_box 1 rfl rfl)) rfl rfl rfl ?_
          refine gq (y_stridx (m := i) Tryd.underlying9 rfl rfl (by omega) (by omega) (by omega)) rfl rfl rfl ?_
          refine gq (y_move (v := .string _) rfl) rfl rfl rfl ?_
          refine gq (y_fieldAddr_box fa89_1 rfl) rfl rfl rfl ?_
          refine gq (y_load Tryd.isAgg3 rfl (cell_box 1 rfl rfl)) rfl rfl rfl ?_
          refine gq (y_stridx (m := j) Tryd.underlying9 rfl rfl (by omega) (by omega) (by omega)) rfl rfl rfl ?_
          refine gq (y_assign (v := .int _ _) rfl) rfl rfl rfl ?_
          refine gq (y_assign (v := .int _ _) rfl) rfl rfl rfl ?_
          refine gqs_nil ?_
          refine hN11 _ _ ?_
          refine gfrom [(5, .pointer _), (7, .slice A _ c), (10, .int _ _), (11, .int _ _)] ⟨rfl, rfl, rfl, rfl, trivial⟩ fun σ => ?_
          refine gseq fun N12 hN12 => ?_
          refine greg ?_
          refine gop (y_assign (v := .func (.func 91) #[] #[]) rfl) rfl rfl rfl ?_
          refine gops_nil ?_
          refine hN12 _ _ ?_
          refine gfrom [(5, .pointer _), (7, .slice A _ c), (10, .int _ _), (11, .int _ _), (12, .func (.func 91) #[] #[])] ⟨rfl, rfl, rfl, rfl, rfl, trivial⟩ fun σ => ?_
          refine gseq fun N13 hN13 => ?_
          refine gfrom [(5, .pointer _), (7, .slice A _ c), (10, .int _ _), (11, .int _ _), (12, .func (.func 91) #[] #[])] ⟨rfl, rfl, rfl, rfl, rfl, trivial⟩ fun σ => ?_
          refine gcut3 (Lf := [(5, .pointer _), (7, .slice A _ c), (10, .int _ _), (11, .int _ _)]) (G := Unit) (fun g => fits p q (i, j, d)) (fun g => []) (fun g => []) ⟨rfl, rfl, rfl, rfl, trivial⟩ ?_ ?_
          ·
            refine gseq fun N14 hN14 => ?_
            refine greg ?_
            refine gop (y_move (v := .func (.func 91) #[] #[]) rfl) rfl rfl rfl ?_
            refine gop (y_move (v := .int _ _) rfl) rfl rfl rfl ?_
            refine gop_pure (e_callv (vs := [.int _ _]) (cs := []) rfl Tryd.func91 rfl (by kernel_rfl) rfl) (fun w hM => wild_any w _) rfl rfl rfl ?_
            refine gop (y_not rfl) rfl rfl rfl ?_
            refine gop (y_move (v := .bool _) rfl) rfl rfl rfl ?_
            refine gop_if (want := true) rfl rfl rfl rfl rfl rfl (fun hg81 => ?_) (fun hg81 => ?_)
            · -- guard 81 on
              have hg81d := not_t hg81
              refine gop (y_bare (y_move (v := .func (.func 91) #[] #[]) rfl)) rfl rfl rfl ?_
              refine gop_on rfl rfl rfl rfl hg81 ?_
              refine gop (y_bare (y_move (v := .int _ _) rfl)) rfl rfl rfl ?_
              refine gop_on rfl rfl rfl rfl hg81 ?_
              refine gop_pure (e_callv (vs := [.int _ _]) (cs := []) rfl Tryd.func91 rfl (by kernel_rfl) rfl) (fun w hM => wild_any w _) rfl rfl rfl ?_
              refine gop_on rfl rfl rfl rfl hg81 ?_
              refine gop (y_bare (y_not rfl)) rfl rfl rfl ?_
              refine gop (y_pick_t (v := .bool _) rfl hg81 rfl) rfl rfl rfl ?_
              refine gop (y_move (v := .bool _) rfl) rfl rfl rfl ?_
              refine gop_if (want := true) rfl rfl rfl rfl rfl rfl (fun hg87 => ?_) (fun hg87 => ?_)
              · -- guard 87 on
                have hg87d := not_t hg87
                refine gop (y_bare (y_move (v := .int _ _) rfl)) rfl rfl rfl ?_
                refine gop_on rfl rfl rfl rfl hg87 ?_
                refine gop (y_bare (y_move (v := .int _ _) rfl)) rfl rfl rfl ?_
                refine gop_on rfl rfl rfl rfl hg87 ?_
                refine gop (y_bare (y_neq rfl rfl)) rfl rfl rfl ?_
                refine gop (y_pick_t (v := .bool _) rfl hg87 rfl) rfl rfl rfl ?_
                refine gops_nil ?_
                refine hN14 _ _ ?_
                refine gfrom [(5, .pointer _), (7, .slice A _ c), (10, .int _ _), (11, .int _ _), (91, .bool _)] ⟨rfl, rfl, rfl, rfl, rfl, trivial⟩ fun σ => ?_
                refine gcond (b := _) rfl (fun hc91 => ?_) (fun hc91 => ?_)
                · -- slot 91 t
                  replace hc91 := of_decide_eq_true hc91
                  refine gseq fun N15 hN15 => ?_
                  refine greg ?_
                  refine gop (y_move (v := .slice A _ c) rfl) rfl rfl rfl ?_
                  refine gop (y_assign (v := .slice A _ c) rfl) rfl rfl rfl ?_
                  refine gops_nil ?_
                  refine hN15 _ _ ?_
                  refine gfrom [(6, .slice A _ c)] ⟨rfl, trivial⟩ fun σ => ?_
                  refine gret fun w1 hM => ?_
                  refine ⟨_, res1 rfl (rt (v := .slice A _ c) rfl), ?_⟩
                  have hC : nxC p q (i, j, d) = [] := by rw [nxC, if_neg (by rintro ⟨-, -, h⟩; rcases h with h | h | h; simp_all; simp_all; exact hc91 (by change byteAt p i = byteAt q j at h; omega))]
                  have hL : nxA p (i, j, d) ++ nxB q (i, j, d) = nextL p q (i, j, d) := by rw [nextL, hC, List.append_nil]
                  exact ⟨_, _, rfl, by rw [← hL], weak_take (T' := [_]) rfl _ hM⟩
                · -- slot 91 f
                  replace hc91 := Decidable.not_not.1 (of_decide_eq_false hc91)
                  refine gskip ?_
                  refine gcut3_end (()) (.inr (.inr (show byteAt p i = byteAt q j by omega))) trivial ⟨rfl, rfl, rfl, rfl, trivial⟩ ⟨_, rfl⟩
              · -- guard 87 off
                have hg87d := not_f hg87
                refine gop_off rfl rfl rfl rfl hg87 rfl rfl ?_
                refine gop_off rfl rfl rfl rfl hg87 rfl rfl ?_
                refine gop (y_pick_f (v := .bool _) rfl hg87 rfl) rfl rfl rfl ?_
                refine gops_nil ?_
                refine hN14 _ _ ?_
                refine gfrom [(5, .pointer _), (7, .slice A _ c), (10, .int _ _), (11, .int _ _), (91, .bool _)] ⟨rfl, rfl, rfl, rfl, rfl, trivial⟩ fun σ => ?_
                refine gcond (b := _) rfl (fun hc91 => ?_) (fun hc91 => ?_)
                · -- slot 91 t
                  cases hc91
                · -- slot 91 f
                  refine gskip ?_
                  refine gcut3_end (()) (.inr (.inl (by simpa using hg87d))) trivial ⟨rfl, rfl, rfl, rfl, trivial⟩ ⟨_, rfl⟩
            · -- guard 81 off
              have hg81d := not_f hg81
              refine gop_off rfl rfl rfl rfl hg81 rfl rfl ?_
              refine gop_off rfl rfl rfl rfl hg81 rfl rfl ?_
              refine gop_off rfl rfl rfl rfl hg81 rfl rfl ?_
              refine gop (y_pick_f (v := .bool _) rfl hg81 rfl) rfl rfl rfl ?_
              refine gop (y_move (v := .bool _) rfl) rfl rfl rfl ?_
              refine gop_off rfl rfl rfl rfl rfl rfl rfl ?_
              refine gop_off rfl rfl rfl rfl rfl rfl rfl ?_
              refine gop_off rfl rfl rfl rfl rfl rfl rfl ?_
              refine gop (y_pick_f (v := .bool _) rfl rfl rfl) rfl rfl rfl ?_
              refine gops_nil ?_
              refine hN14 _ _ ?_
              refine gfrom [(5, .pointer _), (7, .slice A _ c), (10, .int _ _), (11, .int _ _), (91, .bool _)] ⟨rfl, rfl, rfl, rfl, rfl, trivial⟩ fun σ => ?_
              refine gcond (b := _) rfl (fun hc91 => ?_) (fun hc91 => ?_)
              · -- slot 91 t
                cases hc91
              · -- slot 91 f
                refine gskip ?_
                refine gcut3_end (()) (.inl (by simpa using hg81d)) trivial ⟨rfl, rfl, rfl, rfl, trivial⟩ ⟨_, rfl⟩
          ·
            intro g hcut σ
            refine hN13 _ _ ?_
            have hfit : fits p q (i, j, d) := hcut
            refine gseq fun N16 hN16 => ?_
            refine greg ?_
            refine gop (y_loads (cs := [_, _, _]) Tryd.isAgg89 Tryd.sizeOf89 rfl rfl (cells_box 1 rfl)) rfl rfl rfl ?_
            refine gop_alloc (cs := #[.int .i64 0, .int .i64 0, .int .i64 0]) Tryd.zeroValue89 rfl rfl (fun b13 hb13 => ?_)
            refine gop_store 2 (v := .agg #[_, _, _]) (cs' := #[_, _, _]) rfl rfl Tryd.sizeOf89 rfl rfl rfl rfl (Nat.le_of_ble_eq_true rfl) rfl rfl ?_
            refine gops_nil ?_
            refine hN16 _ _ ?_
            refine gT [rowl _ _ _ _ _ _, box b5 _, box b13 _] rfl ?_
            refine gfrom [(5, .pointer _), (7, .slice A _ c), (10, .int _ _), (11, .int _ _), (13, .pointer _)] ⟨rfl, rfl, rfl, rfl, rfl, trivial⟩ fun σ => ?_
            refine gseq fun N17 hN17 => ?_
            refine gfrom [(5, .pointer _), (7, .slice A _ c), (10, .int _ _), (11, .int _ _), (13, .pointer _)] ⟨rfl, rfl, rfl, rfl, rfl, trivial⟩ fun σ => ?_
            refine gcut3 (Lf := [(5, .pointer _), (7, .slice A _ c), (10, .int _ _), (11, .int _ _), (13, .pointer _)]) (G := Nat) (fun i1 => i1 = nxI p (i, j, d)) (fun i1 => []) (fun i1 => [(2, box b13 (.cells #[.int .i64 ((i1 : Nat) : Int), .int .i64 ((j : Nat) : Int), .int .i64 ((d : Nat) : Int)] 89))]) ⟨rfl, rfl, rfl, rfl, rfl, trivial⟩ ?_ ?_
            ·
              refine gseq fun N18 hN18 => ?_
              refine greg ?_
              refine gop (y_move (v := .int _ _) rfl) rfl rfl rfl ?_
              refine gop (y_neq rfl rfl) rfl rfl rfl ?_
              refine gops_nil ?_
              refine hN18 _ _ ?_
              refine gfrom [(5, .pointer _), (7, .slice A _ c), (10, .int _ _), (11, .int _ _), (13, .pointer _), (95, .bool _)] ⟨rfl, rfl, rfl, rfl, rfl, rfl, trivial⟩ fun σ => ?_
              refine gcond (b := _) rfl (fun hc95 => ?_) (fun hc95 => ?_)
              · -- slot 95 t
                replace hc95 := of_decide_eq_true hc95
                refine greg ?_
                refine gop (y_fieldAddr_box fa89_0 rfl) rfl rfl rfl ?_
                refine gop (y_load Tryd.isAgg3 rfl (cell_box 2 rfl rfl)) rfl rfl rfl ?_
                refine gop (y_add rfl rfl ⟨by omega, by omega⟩) rfl rfl rfl ?_
                refine gop (y_fieldAddr_box fa89_0 rfl) rfl rfl rfl ?_
                refine gop_store 2 (v := .int _ _) (cs' := #[_, _, _]) rfl rfl Tryd.sizeOf3 rfl rfl rfl rfl (Nat.le_of_ble_eq_true rfl) rfl rfl ?_
                refine gops_nil ?_
                refine gcut3_end (i + 1) (by show _ = nxI p (i, j, d); rw [nxI, if_neg (by show ¬ byteAt p i = 42; omega)]) trivial ⟨rfl, rfl, rfl, rfl, rfl, trivial⟩ ⟨_, rfl⟩
              · -- slot 95 f
                replace hc95 := Decidable.not_not.1 (of_decide_eq_false hc95)
                refine gskip ?_
                refine gcut3_end (i) (by show _ = nxI p (i, j, d); rw [nxI, if_pos (by show byteAt p i = 42; omega)]) trivial ⟨rfl, rfl, rfl, rfl, rfl, trivial⟩ ⟨_, rfl⟩
            ·
              intro i1 hcut σ
              refine hN17 _ _ ?_
              have hi1 : i1 = nxI p (i, j, d) := hcut
              refine gseq fun N19 hN19 => ?_
              refine gT [rowl _ _ _ _ _ _, box b5 _, box b13 _] rfl ?_
              refine gfrom [(5, .pointer _), (7, .slice A _ c), (10, .int _ _), (11, .int _ _), (13, .pointer _)] ⟨rfl, rfl, rfl, rfl, rfl, trivial⟩ fun σ => ?_
              refine gcut3 (Lf := [(5, .pointer _), (7, .slice A _ c), (10, .int _ _), (11, .int _ _), (13, .pointer _)]) (G := Nat) (fun j1 => j1 = nxJ q (i, j, d)) (fun j1 => []) (fun j1 => [(2, box b13 (.cells #[.int .i64 ((i1 : Nat) : Int), .int .i64 ((j1 : Nat) : Int), .int .i64 ((d : Nat) : Int)] 89))]) ⟨rfl, rfl, rfl, rfl, rfl, trivial⟩ ?_ ?_
              ·
                refine gseq fun N20 hN20 => ?_
                refine greg ?_
                refine gop (y_move (v := .int _ _) rfl) rfl rfl rfl ?_
                refine gop (y_neq rfl rfl) rfl rfl rfl ?_
                refine gops_nil ?_
                refine hN20 _ _ ?_
                refine gfrom [(5, .pointer _), (7, .slice A _ c), (10, .int _ _), (11, .int _ _), (13, .pointer _), (101, .bool _)] ⟨rfl, rfl, rfl, rfl, rfl, rfl, trivial⟩ fun σ => ?_
                refine gcond (b := _) rfl (fun hc101 => ?_) (fun hc101 => ?_)
                · -- slot 101 t
                  replace hc101 := of_decide_eq_true hc101
                  refine greg ?_
                  refine gop (y_fieldAddr_box fa89_1 rfl) rfl rfl rfl ?_
                  refine gop (y_load Tryd.isAgg3 rfl (cell_box 2 rfl rfl)) rfl rfl rfl ?_
                  refine gop (y_add rfl rfl ⟨by omega, by omega⟩) rfl rfl rfl ?_
                  refine gop (y_fieldAddr_box fa89_1 rfl) rfl rfl rfl ?_
                  refine gop_store 2 (v := .int _ _) (cs' := #[_, _, _]) rfl rfl Tryd.sizeOf3 rfl rfl rfl rfl (Nat.le_of_ble_eq_true rfl) rfl rfl ?_
                  refine gops_nil ?_
                  refine gcut3_end (j + 1) (by show _ = nxJ q (i, j, d); rw [nxJ, if_neg (by show ¬ byteAt q j = 42; omega)]) trivial ⟨rfl, rfl, rfl, rfl, rfl, trivial⟩ ⟨_, rfl⟩
                · -- slot 101 f
                  replace hc101 := Decidable.not_not.1 (of_decide_eq_false hc101)
                  refine gskip ?_
                  refine gcut3_end (j) (by show _ = nxJ q (i, j, d); rw [nxJ, if_pos (by show byteAt q j = 42; omega)]) trivial ⟨rfl, rfl, rfl, rfl, rfl, trivial⟩ ⟨_, rfl⟩
              ·
                intro j1 hcut σ
                refine hN19 _ _ ?_
                have hj1 : j1 = nxJ q (i, j, d) := hcut
                refine gseq fun N21 hN21 => ?_
                refine gT [rowl _ _ _ _ _ _, box b5 _, box b13 _] rfl ?_
                refine gfrom [(5, .pointer _), (7, .slice A _ c), (10, .int _ _), (11, .int _ _), (13, .pointer _)] ⟨rfl, rfl, rfl, rfl, rfl, trivial⟩ fun σ => ?_
                refine gcut3 (Lf := [(7, .slice A _ c), (13, .pointer _)]) (G := Nat) (fun d1 => d1 = nxD p q (i, j, d)) (fun d1 => []) (fun d1 => [(2, box b13 (.cells #[.int .i64 ((i1 : Nat) : Int), .int .i64 ((j1 : Nat) : Int), .int .i64 ((d1 : Nat) : Int)] 89))]) ⟨rfl, rfl, trivial⟩ ?_ ?_
                ·
                  refine gseq fun N22 hN22 => ?_
                  refine greg ?_
                  refine gop (y_move (v := .int _ _) rfl) rfl rfl rfl ?_
                  refine gop (y_eql rfl rfl) rfl rfl rfl ?_
                  refine gop (y_move (v := .bool _) rfl) rfl rfl rfl ?_
                  refine gop_if (want := false) rfl rfl rfl rfl rfl rfl (fun hg108 => ?_) (fun hg108 => ?_)
                  · -- guard 108 on
                    have hg108d := of_decide_eq_false hg108
                    refine gop (y_bare (y_move (v := .int _ _) rfl)) rfl rfl rfl ?_
                    refine gop_on rfl rfl rfl rfl hg108 ?_
                    refine gop (y_bare (y_eql rfl rfl)) rfl rfl rfl ?_
                    refine gop (y_pick_f (v := .bool _) rfl hg108 rfl) rfl rfl rfl ?_
                    refine gops_nil ?_
                    refine hN22 _ _ ?_
                    refine gfrom [(5, .pointer _), (7, .slice A _ c), (13, .pointer _), (111, .bool _)] ⟨rfl, rfl, rfl, rfl, trivial⟩ fun σ => ?_
                    refine gcond (b := _) rfl (fun hc111 => ?_) (fun hc111 => ?_)
                    · -- slot 111 t
                      replace hc111 := of_decide_eq_true hc111
                      refine greg ?_
                      refine gop (y_fieldAddr_box fa89_2 rfl) rfl rfl rfl ?_
                      refine gop (y_load Tryd.isAgg3 rfl (cell_box 1 rfl rfl)) rfl rfl rfl ?_
                      refine gop (y_add rfl rfl ⟨by omega, by omega⟩) rfl rfl rfl ?_
                      refine gop (y_min_nat (a := d + 1) (b := 3) rfl rfl) rfl rfl rfl ?_
                      refine gop (y_fieldAddr_box fa89_2 rfl) rfl rfl rfl ?_
                      refine gop_store 2 (v := .int _ _) (cs' := #[_, _, _]) rfl rfl Tryd.sizeOf3 rfl rfl rfl rfl (Nat.le_of_ble_eq_true rfl) rfl rfl ?_
                      refine gops_nil ?_
                      refine gcut3_end (min (d + 1) 3) (by show _ = nxD p q (i, j, d); rw [nxD, if_pos (by show byteAt p i = 46 ∨ byteAt q j = 46; omega)]) trivial ⟨rfl, rfl, trivial⟩ ⟨_, rfl⟩
                    · -- slot 111 f
                      replace hc111 := of_decide_eq_false hc111
                      refine greg ?_
                      refine gop (y_fieldAddr_box fa89_2 rfl) rfl rfl rfl ?_
                      refine gop_store 2 (v := .int _ _) (cs' := #[_, _, _]) rfl rfl Tryd.sizeOf3 rfl rfl rfl rfl (Nat.le_of_ble_eq_true rfl) rfl rfl ?_
                      refine gops_nil ?_
                      refine gcut3_end (3) (by show _ = nxD p q (i, j, d); rw [nxD, if_neg (by show ¬ (byteAt p i = 46 ∨ byteAt q j = 46); omega)]) trivial ⟨rfl, rfl, trivial⟩ ⟨_, rfl⟩
                  · -- guard 108 off
                    have hg108d := of_decide_eq_true hg108
                    refine gop_off rfl rfl rfl rfl hg108 rfl rfl ?_
                    refine gop (y_pick_t (v := .bool _) rfl hg108 rfl) rfl rfl rfl ?_
                    refine gops_nil ?_
                    refine hN22 _ _ ?_
                    refine gfrom [(5, .pointer _), (7, .slice A _ c), (13, .pointer _), (111, .bool _)] ⟨rfl, rfl, rfl, rfl, trivial⟩ fun σ => ?_
                    refine gcond (b := _) rfl (fun hc111 => ?_) (fun hc111 => ?_)
                    · -- slot 111 t
                      refine greg ?_
                      refine gop (y_fieldAddr_box fa89_2 rfl) rfl rfl rfl ?_
                      refine gop (y_load Tryd.isAgg3 rfl (cell_box 1 rfl rfl)) rfl rfl rfl ?_
                      refine gop (y_add rfl rfl ⟨by omega, by omega⟩) rfl rfl rfl ?_
                      refine gop (y_min_nat (a := d + 1) (b := 3) rfl rfl) rfl rfl rfl ?_
                      refine gop (y_fieldAddr_box fa89_2 rfl) rfl rfl rfl ?_
                      refine gop_store 2 (v := .int _ _) (cs' := #[_, _, _]) rfl rfl Tryd.sizeOf3 rfl rfl rfl rfl (Nat.le_of_ble_eq_true rfl) rfl rfl ?_
                      refine gops_nil ?_
                      refine gcut3_end (min (d + 1) 3) (by show _ = nxD p q (i, j, d); rw [nxD, if_pos (by show byteAt p i = 46 ∨ byteAt q j = 46; omega)]) trivial ⟨rfl, rfl, trivial⟩ ⟨_, rfl⟩
                    · -- slot 111 f
                      cases hc111
                ·
                  intro d1 hcut σ
                  refine hN21 _ _ ?_
                  have hd1 : d1 = nxD p q (i, j, d) := hcut
                  refine gseq fun N23 hN23 => ?_
                  refine greg ?_
                  refine gop (y_move (v := .slice A _ c) rfl) rfl rfl rfl ?_
                  refine gop (y_loads (cs := [_, _, _]) Tryd.isAgg89 Tryd.sizeOf89 rfl rfl (cells_box 2 rfl)) rfl rfl rfl ?_
                  refine gop_lit (vs := [.agg #[_, _, _]]) (cells := #[_, _, _]) Tryd.underlying90 Tryd.sizeOf89 Tryd.zeroValue89 rfl (by decide) (by decide) rfl rfl rfl rfl (fun b120 hb120 => ?_)
                  refine gop_append 0 (f := placeCells) (l2 := [(i1, j1, d1)]) Tryd.underlying90 el89 wide_place (v := .slice A _ c) rfl rfl rfl rfl (fun h => by cases h) (by simp [maxLen] <;> omega) (by simp <;> omega) (src_box 3 rfl rfl) rfl (fun v121 => ?_)
                  refine gops_fact (fun w hM => own_form (hM.own 0 rfl)) ?_
                  rintro ⟨A121, c121, rfl, hc121, hm121⟩
                  refine gop (y_assign (v := .slice A121 _ c121) rfl) rfl rfl rfl ?_
                  refine gops_nil ?_
                  refine hN23 _ _ ?_
                  refine gT [rowl _ _ _ _ _ _, box b5 _, box b13 _, box b120 _] rfl ?_
                  refine gfrom [(6, .slice A121 _ c121)] ⟨rfl, trivial⟩ fun σ => ?_
                  refine gret fun w1 hM => ?_
                  refine ⟨_, res1 rfl (rt (v := .slice A121 _ c121) rfl), ?_⟩
                  have hC : nxC p q (i, j, d) = [(i1, j1, d1)] := by rw [nxC, if_pos ⟨by show i < p.size; omega, by show j < q.size; omega, hfit⟩, hi1, hj1, hd1]
                  have hL : nxA p (i, j, d) ++ nxB q (i, j, d) ++ [(i1, j1, d1)] = nextL p q (i, j, d) := by rw [nextL, hC]
                  exact ⟨_, _, rfl, by rw [← hL], weak_take (T' := [_]) rfl _ hM⟩
      · -- guard 64 off
        have hg64d := not_t hg64
        replace hg64d := of_decide_eq_false hg64d
        refine gop_off rfl rfl rfl rfl hg64 rfl rfl ?_
        refine gop (y_pick_t (v := .bool _) rfl hg64 rfl) rfl rfl rfl ?_
        refine gops_nil ?_
        refine hN9 _ _ ?_
        refine gT [rowl _ _ _ _ _ _, box b5 _] rfl ?_
        refine gfrom [(0, .string _), (1, .string _), (5, .pointer _), (7, .slice A _ c), (67, .bool _)] ⟨rfl, rfl, rfl, rfl, rfl, trivial⟩ fun σ => ?_
        refine gcond (b := _) rfl (fun hc67 => ?_) (fun hc67 => ?_)
        · -- slot 67 t
          try replace hc67 := of_decide_eq_false hc67
          refine gseq fun N24 hN24 => ?_
          refine greg ?_
          refine gop (y_move (v := .slice A _ c) rfl) rfl rfl rfl ?_
          refine gop (y_assign (v := .slice A _ c) rfl) rfl rfl rfl ?_
          refine gops_nil ?_
          refine hN24 _ _ ?_
          refine gfrom [(6, .slice A _ c)] ⟨rfl, trivial⟩ fun σ => ?_
          refine gret fun w1 hM => ?_
          refine ⟨_, res1 rfl (rt (v := .slice A _ c) rfl), ?_⟩
          have hC : nxC p q (i, j, d) = [] := by rw [nxC, if_neg (by rintro ⟨h1, h2, -⟩; change i < p.size at h1; change j < q.size at h2; omega)]
          have hL : nxA p (i, j, d) ++ nxB q (i, j, d) = nextL p q (i, j, d) := by rw [nextL, hC, List.append_nil]
          exact ⟨_, _, rfl, by rw [← hL], weak_take (T' := [_]) rfl _ hM⟩
        · -- slot 67 f
          cases hc67
end Go.Proofs.YtijpaljdclhehaaDoor
