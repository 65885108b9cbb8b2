/- walks, printed by program -/
import Derived.Test.YtbaojdiccikbiaaThsA
namespace Go.Proofs.Ytbaojdiccikbiaa
open Go.RowKit Go.Cf
set_option maxRecDepth 10000



set_option maxHeartbeats 1000000 in
theorem lineCode_any (w : World) (s : ByteArray) : Calls Try.prog 56 #[.string s] w fun e w' => e = .returned (.int .i64 (lineC s)) ∧ Below w.heap.size w w' := by
  refine gcalls Try.func56 rfl Try.ntmps56 (Nat.le_of_ble_eq_true rfl) ?_
  refine gfrom [(0, .string _)] ⟨rfl, trivial⟩ fun σ => ?_
  refine gseq fun N1 hN1 => ?_
  refine greg ?_
  refine gop (y_assign (v := .int _ _) rfl) rfl rfl rfl ?_
  refine gops_nil ?_
  refine hN1 _ _ ?_
  refine gfrom [(0, .string _)] ⟨rfl, trivial⟩ fun σ => ?_
  refine gseq fun N2 hN2 => ?_
  refine gseq fun N3 hN3 => ?_
  refine greg ?_
  refine gop (y_move (v := .string _) rfl) rfl rfl rfl ?_
  refine gop (y_eqls rfl rfl) rfl rfl rfl ?_
  refine gops_nil ?_
  refine hN3 _ _ ?_
  refine gfrom [(0, .string _), (5, .bool _)] ⟨rfl, rfl, trivial⟩ fun σ => ?_
  refine gcond (b := _) rfl (fun hc5 => ?_) (fun hc5 => ?_)
  · -- slot 5 t
    have hE : lineC s = 5 := by rw [lineC, if_pos (show isEmptyS s = true from hc5)]
    refine gseq fun N4 hN4 => ?_
    refine greg ?_
    refine gop (y_assign (v := .int _ _) rfl) rfl rfl rfl ?_
    refine gops_nil ?_
    refine hN4 _ _ ?_
    refine gfrom [(2, .int _ _)] ⟨rfl, trivial⟩ fun σ => ?_
    refine gret fun w1 hM => ?_
    refine ⟨_, res1 rfl (rt (v := .int _ _) rfl), ?_⟩
    exact ⟨by rw [hE], hM.low⟩
  · -- slot 5 f
    have hE : lineC s = lineCode s := by rw [lineC, if_neg (show ¬ isEmptyS s = true from Bool.eq_false_iff.1 hc5)]
    refine gskip ?_
    refine hN2 _ _ ?_
    refine gfrom [(0, .string _)] ⟨rfl, trivial⟩ fun σ => ?_
    refine gseq fun N5 hN5 => ?_
    refine gseq fun N6 hN6 => ?_
    refine greg ?_
    refine gop (y_move (v := .string _) rfl) rfl rfl rfl ?_
    refine gop (y_lens Try.underlying9 rfl) rfl rfl rfl ?_
    refine gop (y_gtr rfl rfl) rfl rfl rfl ?_
    refine gops_nil ?_
    refine hN6 _ _ ?_
    refine gfrom [(0, .string _), (8, .bool _)] ⟨rfl, rfl, trivial⟩ fun σ => ?_
    refine gcond (b := _) rfl (fun hc8 => ?_) (fun hc8 => ?_)
    · -- slot 8 t
      replace hc8 := of_decide_eq_true hc8
      have hC : lineCode s = 2 := by rw [lineCode, if_pos (by omega)]
      refine gseq fun N7 hN7 => ?_
      refine greg ?_
      refine gop (y_assign (v := .int _ _) rfl) rfl rfl rfl ?_
      refine gops_nil ?_
      refine hN7 _ _ ?_
      refine gfrom [(2, .int _ _)] ⟨rfl, trivial⟩ fun σ => ?_
      refine gret fun w1 hM => ?_
      refine ⟨_, res1 rfl (rt (v := .int _ _) rfl), ?_⟩
      exact ⟨by rw [hE, hC], hM.low⟩
    · -- slot 8 f
      replace hc8 := of_decide_eq_false hc8
      refine gskip ?_
      refine hN5 _ _ ?_
      refine gfrom [(0, .string _)] ⟨rfl, trivial⟩ fun σ => ?_
      refine gseq fun N8 hN8 => ?_
      refine gseq fun N9 hN9 => ?_
      refine greg ?_
      refine gop (y_assign (v := .int _ _) rfl) rfl rfl rfl ?_
      refine gops_nil ?_
      refine hN9 _ _ ?_
      refine gfrom [(0, .string _), (3, .int _ _)] ⟨rfl, rfl, trivial⟩ fun σ => ?_
      refine gblock ?_
      refine gfrom2 [(3, .int _ _)] [(0, .string _)] ⟨rfl, trivial⟩ ⟨rfl, trivial⟩ fun σ => ?_
      refine gloop2 (G := Nat) (fun k => k ≤ s.size ∧ ∀ j, j < k → byteAt s j ≠ 10) (fun k => s.size - k) (fun k => [(3, .int .i64 (k : Int))]) (fun k => []) (0) ?h0 ⟨rfl, trivial⟩ ⟨rfl, trivial⟩ rfl ?round
      case h0 => exact ⟨Nat.zero_le _, fun _ h => absurd h (by omega)⟩
      case round =>
        intro k hφ σ
        obtain ⟨hk, hz⟩ := hφ
        refine gseq fun N10 hN10 => ?_
        refine gseq fun N11 hN11 => ?_
        refine greg ?_
        refine gop (y_move (v := .int _ _) rfl) rfl rfl rfl ?_
        refine gop (y_move (v := .string _) rfl) rfl rfl rfl ?_
        refine gop (y_lens Try.underlying9 rfl) rfl rfl rfl ?_
        refine gop (y_lss rfl rfl) rfl rfl rfl ?_
        refine gops_nil ?_
        refine hN11 _ _ ?_
        refine gfrom [(0, .string _), (3, .int _ _), (12, .bool _)] ⟨rfl, rfl, rfl, trivial⟩ fun σ => ?_
        refine gcond (b := _) rfl (fun hc12 => ?_) (fun hc12 => ?_)
        · -- slot 12 t
          replace hc12 := of_decide_eq_true hc12
          refine gskip ?_
          refine hN10 _ _ ?_
          refine gfrom [(0, .string _), (3, .int _ _)] ⟨rfl, rfl, trivial⟩ fun σ => ?_
          refine gseq fun N12 hN12 => ?_
          refine gblock ?_
          refine gseq fun N13 hN13 => ?_
          refine greg ?_
          refine gop (y_move (v := .string _) rfl) rfl rfl rfl ?_
          refine gop (y_move (v := .int _ _) rfl) rfl rfl rfl ?_
          refine gop (y_stridx (m := k) Try.underlying9 rfl rfl (by omega) (by omega) (by omega)) rfl rfl rfl ?_
          refine gop (y_eql rfl rfl) rfl rfl rfl ?_
          refine gops_nil ?_
          refine hN13 _ _ ?_
          refine gfrom [(0, .string _), (3, .int _ _), (18, .bool _)] ⟨rfl, rfl, rfl, trivial⟩ fun σ => ?_
          refine gcond (b := _) rfl (fun hc18 => ?_) (fun hc18 => ?_)
          · -- slot 18 t
            replace hc18 := of_decide_eq_true hc18
            have hC : lineCode s = 5 := by rw [lineCode, if_neg (by omega), if_pos (firstIdx_hit (k := k) (by omega) (by show byteAt s k = 10; omega))]
            refine gseq fun N14 hN14 => ?_
            refine greg ?_
            refine gop (y_assign (v := .int _ _) rfl) rfl rfl rfl ?_
            refine gops_nil ?_
            refine hN14 _ _ ?_
            refine gfrom [(2, .int _ _)] ⟨rfl, trivial⟩ fun σ => ?_
            refine gret fun w1 hM => ?_
            refine ⟨_, res1 rfl (rt (v := .int _ _) rfl), ?_⟩
            exact ⟨by rw [hE, hC], hM.low⟩
          · -- slot 18 f
            replace hc18 := of_decide_eq_false hc18
            refine gskip ?_
            refine hN12 _ _ ?_
            refine gfrom [(0, .string _), (3, .int _ _)] ⟨rfl, rfl, trivial⟩ fun σ => ?_
            refine greg ?_
            refine gop (y_move (v := .int _ _) rfl) rfl rfl rfl ?_
            refine gop (y_add rfl rfl ⟨by omega, by omega⟩) rfl rfl rfl ?_
            refine gop (y_assign (v := .int _ _) rfl) rfl rfl rfl ?_
            refine gops_nil ?_
            refine gnext2 (k + 1) (by omega) (⟨by omega, fun j hj => by rcases Nat.lt_succ_iff_lt_or_eq.1 hj with h1 | rfl; exact hz j h1; intro h; exact hc18 (by omega)⟩) ⟨rfl, trivial⟩ ⟨rfl, trivial⟩ ⟨_, rfl⟩
        · -- slot 12 f
          replace hc12 := of_decide_eq_false hc12
          have hC : lineCode s = 0 := by rw [lineCode, if_neg (by omega), if_neg (firstIdx_miss fun j hj => hz j (by omega))]
          refine gexit ?_
          refine hN8 _ _ ?_
          refine gfrom [] trivial fun σ => ?_
          refine gseq fun N15 hN15 => ?_
          refine greg ?_
          refine gop (y_assign (v := .int _ _) rfl) rfl rfl rfl ?_
          refine gops_nil ?_
          refine hN15 _ _ ?_
          refine gfrom [(2, .int _ _)] ⟨rfl, trivial⟩ fun σ => ?_
          refine gret fun w1 hM => ?_
          refine ⟨_, res1 rfl (rt (v := .int _ _) rfl), ?_⟩
          exact ⟨by rw [hE, hC], hM.low⟩

set_option maxHeartbeats 4000000 in
theorem eventCode_any (w : World) (x : EvC) : Calls Try.prog 44 #[evV x] w fun e w' => e = .returned (.int .i64 (formC x.pl)) ∧ Below w.heap.size w w' := by
  refine gcalls Try.func44 rfl Try.ntmps44 (Nat.le_of_ble_eq_true rfl) ?_
  refine gfrom [(0, .agg #[_, _, _, _, _, _])] ⟨rfl, trivial⟩ fun σ => ?_
  refine gseq fun N1 hN1 => ?_
  refine greg ?_
  refine gop_box (v := .agg #[_, _, _, _, _, _]) (cs := #[_, _, _, _, _, _]) rfl rfl rfl (fun b1 hb1 => ?_)
  refine gop (y_assign (v := .int _ _) rfl) rfl rfl rfl ?_
  refine gops_nil ?_
  refine hN1 _ _ ?_
  refine gT [box b1 _] rfl ?_
  refine gfrom [(1, .pointer _)] ⟨rfl, trivial⟩ fun σ => ?_
  refine gseq fun N2 hN2 => ?_
  refine greg ?_
  refine gop (y_fieldAddr_box fa66_5 rfl) rfl rfl rfl ?_
  refine gop (y_fieldAddr_box fa25_0 rfl) rfl rfl rfl ?_
  refine gop (y_load Try.isAgg23 rfl (cell_box 0 rfl rfl)) rfl rfl rfl ?_
  refine gop (y_len Try.underlying23 rfl) rfl rfl rfl ?_
  refine gop (y_gtr rfl rfl) rfl rfl rfl ?_
  refine gop (y_assign (v := .bool _) rfl) rfl rfl rfl ?_
  refine gops_nil ?_
  refine hN2 _ _ ?_
  refine gfrom [(1, .pointer _), (3, .bool _)] ⟨rfl, rfl, trivial⟩ fun σ => ?_
  refine gseq fun N3 hN3 => ?_
  refine gseq fun N4 hN4 => ?_
  refine greg ?_
  refine gop (y_fieldAddr_box fa66_0 rfl) rfl rfl rfl ?_
  refine gop (y_load Try.isAgg3 rfl (cell_box 0 rfl rfl)) rfl rfl rfl ?_
  refine gop (y_lss rfl rfl) rfl rfl rfl ?_
  refine gop (y_move (v := .bool _) rfl) rfl rfl rfl ?_
  refine gop_if (want := false) rfl rfl rfl rfl rfl rfl (fun hg12 => ?_) (fun hg12 => ?_)
  · -- guard 12 on
    have hg12d := of_decide_eq_false hg12
    refine gop (y_bare (y_fieldAddr_box fa66_0 rfl)) rfl rfl rfl ?_
    refine gop_on rfl rfl rfl rfl hg12 ?_
    refine gop (y_bare (y_load Try.isAgg3 rfl (cell_box 0 rfl rfl))) rfl rfl rfl ?_
    refine gop_on rfl rfl rfl rfl hg12 ?_
    refine gop (y_bare (y_gtr rfl rfl)) rfl rfl rfl ?_
    refine gop (y_pick_f (v := .bool _) rfl hg12 rfl) rfl rfl rfl ?_
    refine gops_nil ?_
    refine hN4 _ _ ?_
    refine gfrom [(1, .pointer _), (3, .bool _), (16, .bool _)] ⟨rfl, rfl, rfl, trivial⟩ fun σ => ?_
    refine gcond (b := _) rfl (fun hc16 => ?_) (fun hc16 => ?_)
    · -- slot 16 t
      replace hc16 := of_decide_eq_true hc16
      refine gseq fun N5 hN5 => ?_
      refine greg ?_
      refine gop (y_assign (v := .int _ _) rfl) rfl rfl rfl ?_
      refine gops_nil ?_
      refine hN5 _ _ ?_
      refine gfrom [(2, .int _ _)] ⟨rfl, trivial⟩ fun σ => ?_
      refine gret fun w1 hM => ?_
      refine ⟨_, res1 rfl (rt (v := .int _ _) rfl), ?_⟩
      exact ⟨by rw [formC_4 (e := x.pl) (show x.kind < 1 ∨ 4 < x.kind by omega)], hM.low⟩
    · -- slot 16 f
      replace hc16 := of_decide_eq_false hc16
      refine gskip ?_
      refine hN3 _ _ ?_
      refine gfrom [(1, .pointer _), (3, .bool _)] ⟨rfl, rfl, trivial⟩ fun σ => ?_
      refine gseq fun N6 hN6 => ?_
      refine gseq fun N7 hN7 => ?_
      refine greg ?_
      refine gop (y_fieldAddr_box fa66_0 rfl) rfl rfl rfl ?_
      refine gop (y_load Try.isAgg3 rfl (cell_box 0 rfl rfl)) rfl rfl rfl ?_
      refine gop (y_eql rfl rfl) rfl rfl rfl ?_
      refine gop (y_move (v := .bool _) rfl) rfl rfl rfl ?_
      refine gop_if (want := true) rfl rfl rfl rfl rfl rfl (fun hg20 => ?_) (fun hg20 => ?_)
      · -- guard 20 on
        have hg20d := of_decide_eq_true hg20
        refine gop (y_bare (y_fieldAddr_box fa66_2 rfl)) rfl rfl rfl ?_
        refine gop_on rfl rfl rfl rfl hg20 ?_
        refine gop (y_bare (y_load Try.isAgg3 rfl (cell_box 0 rfl rfl))) rfl rfl rfl ?_
        refine gop_on rfl rfl rfl rfl hg20 ?_
        refine gop (y_bare (y_neq rfl rfl)) rfl rfl rfl ?_
        refine gop_on rfl rfl rfl rfl hg20 ?_
        refine gop (y_bare (y_move (v := .bool _) rfl)) rfl rfl rfl ?_
        refine gop_if (want := false) rfl rfl rfl rfl rfl rfl (fun hg24 => ?_) (fun hg24 => ?_)
        · -- guard 24 on
          have hg24d := Decidable.not_not.1 (of_decide_eq_false hg24)
          refine gop (y_bare (y_move (v := .bool _) rfl)) rfl rfl rfl ?_
          refine gop_on rfl rfl rfl rfl hg20 ?_
          refine gop (y_bare (y_pick_f (v := .bool _) rfl hg24 rfl)) rfl rfl rfl ?_
          refine gop (y_pick_t (v := .bool _) rfl hg20 rfl) rfl rfl rfl ?_
          refine gops_nil ?_
          refine hN7 _ _ ?_
          refine gfrom [(1, .pointer _), (3, .bool _), (27, .bool _)] ⟨rfl, rfl, rfl, trivial⟩ fun σ => ?_
          refine gcond (b := _) rfl (fun hc27 => ?_) (fun hc27 => ?_)
          · -- slot 27 t
            replace hc27 := of_decide_eq_true hc27
            refine gseq fun N8 hN8 => ?_
            refine greg ?_
            refine gop (y_assign (v := .int _ _) rfl) rfl rfl rfl ?_
            refine gops_nil ?_
            refine hN8 _ _ ?_
            refine gfrom [(2, .int _ _)] ⟨rfl, trivial⟩ fun σ => ?_
            refine gret fun w1 hM => ?_
            refine ⟨_, res1 rfl (rt (v := .int _ _) rfl), ?_⟩
            exact ⟨by rw [formC_5 (e := x.pl) (show 1 ≤ x.kind by omega) (show x.kind ≤ 4 by omega) (show (x.thread ≠ 0 ∧ x.kind ≠ 2 ∧ x.kind ≠ 3) ∨ (x.line ≠ 0 ∧ x.kind ≠ 1) ∨ (isEmptyS x.text = false ∧ x.kind ≠ 1 ∧ x.kind ≠ 2) ∨ (0 < (pls x.hs).length ∧ x.kind ≠ 4) from by simp only [List.length_map]; grind)], hM.low⟩
          · -- slot 27 f
            replace hc27 := of_decide_eq_false hc27
            refine gskip ?_
            refine hN6 _ _ ?_
            refine gfrom [(1, .pointer _), (3, .bool _)] ⟨rfl, rfl, trivial⟩ fun σ => ?_
            refine gseq fun N9 hN9 => ?_
            refine gseq fun N10 hN10 => ?_
            refine greg ?_
            refine gop (y_fieldAddr_box fa66_0 rfl) rfl rfl rfl ?_
            refine gop (y_load Try.isAgg3 rfl (cell_box 0 rfl rfl)) rfl rfl rfl ?_
            refine gop (y_eql rfl rfl) rfl rfl rfl ?_
            refine gop (y_move (v := .bool _) rfl) rfl rfl rfl ?_
            refine gop_if (want := true) rfl rfl rfl rfl rfl rfl (fun hg31 => ?_) (fun hg31 => ?_)
            · -- guard 31 on
              have hg31d := of_decide_eq_true hg31
              refine gop (y_bare (y_fieldAddr_box fa66_3 rfl)) rfl rfl rfl ?_
              refine gop_on rfl rfl rfl rfl hg31 ?_
              refine gop (y_bare (y_load Try.isAgg3 rfl (cell_box 0 rfl rfl))) rfl rfl rfl ?_
              refine gop_on rfl rfl rfl rfl hg31 ?_
              refine gop (y_bare (y_neq rfl rfl)) rfl rfl rfl ?_
              refine gop_on rfl rfl rfl rfl hg31 ?_
              refine gop (y_bare (y_move (v := .bool _) rfl)) rfl rfl rfl ?_
              refine gop_if (want := false) rfl rfl rfl rfl rfl rfl (fun hg35 => ?_) (fun hg35 => ?_)
              · -- guard 35 on
                have hg35d := Decidable.not_not.1 (of_decide_eq_false hg35)
                refine gop (y_bare (y_move (v := .bool _) rfl)) rfl rfl rfl ?_
                refine gop_on rfl rfl rfl rfl hg31 ?_
                refine gop (y_bare (y_pick_f (v := .bool _) rfl hg35 rfl)) rfl rfl rfl ?_
                refine gop (y_pick_t (v := .bool _) rfl hg31 rfl) rfl rfl rfl ?_
                refine gops_nil ?_
                refine hN10 _ _ ?_
                refine gfrom [(1, .pointer _), (3, .bool _), (38, .bool _)] ⟨rfl, rfl, rfl, trivial⟩ fun σ => ?_
                refine gcond (b := _) rfl (fun hc38 => ?_) (fun hc38 => ?_)
                · -- slot 38 t
                  replace hc38 := of_decide_eq_true hc38
                  refine gseq fun N11 hN11 => ?_
                  refine greg ?_
                  refine gop (y_assign (v := .int _ _) rfl) rfl rfl rfl ?_
                  refine gops_nil ?_
                  refine hN11 _ _ ?_
                  refine gfrom [(2, .int _ _)] ⟨rfl, trivial⟩ fun σ => ?_
                  refine gret fun w1 hM => ?_
                  refine ⟨_, res1 rfl (rt (v := .int _ _) rfl), ?_⟩
                  exact ⟨by rw [formC_5 (e := x.pl) (show 1 ≤ x.kind by omega) (show x.kind ≤ 4 by omega) (show (x.thread ≠ 0 ∧ x.kind ≠ 2 ∧ x.kind ≠ 3) ∨ (x.line ≠ 0 ∧ x.kind ≠ 1) ∨ (isEmptyS x.text = false ∧ x.kind ≠ 1 ∧ x.kind ≠ 2) ∨ (0 < (pls x.hs).length ∧ x.kind ≠ 4) from by simp only [List.length_map]; grind)], hM.low⟩
                · -- slot 38 f
                  replace hc38 := of_decide_eq_false hc38
                  refine gskip ?_
                  refine hN9 _ _ ?_
                  refine gfrom [(1, .pointer _), (3, .bool _)] ⟨rfl, rfl, trivial⟩ fun σ => ?_
                  refine gseq fun N12 hN12 => ?_
                  refine gseq fun N13 hN13 => ?_
                  refine greg ?_
                  refine gop (y_fieldAddr_box fa66_0 rfl) rfl rfl rfl ?_
                  refine gop (y_load Try.isAgg3 rfl (cell_box 0 rfl rfl)) rfl rfl rfl ?_
                  refine gop (y_eql rfl rfl) rfl rfl rfl ?_
                  refine gop (y_move (v := .bool _) rfl) rfl rfl rfl ?_
                  refine gop_if (want := true) rfl rfl rfl rfl rfl rfl (fun hg42 => ?_) (fun hg42 => ?_)
                  · -- guard 42 on
                    have hg42d := of_decide_eq_true hg42
                    refine gop (y_bare (y_fieldAddr_box fa66_3 rfl)) rfl rfl rfl ?_
                    refine gop_on rfl rfl rfl rfl hg42 ?_
                    refine gop (y_bare (y_load Try.isAgg3 rfl (cell_box 0 rfl rfl))) rfl rfl rfl ?_
                    refine gop_on rfl rfl rfl rfl hg42 ?_
                    refine gop (y_bare (y_neq rfl rfl)) rfl rfl rfl ?_
                    refine gop_on rfl rfl rfl rfl hg42 ?_
                    refine gop (y_bare (y_move (v := .bool _) rfl)) rfl rfl rfl ?_
                    refine gop_if (want := false) rfl rfl rfl rfl rfl rfl (fun hg46 => ?_) (fun hg46 => ?_)
                    · -- guard 46 on
                      have hg46d := Decidable.not_not.1 (of_decide_eq_false hg46)
                      refine gop (y_bare (y_fieldAddr_box fa66_4 rfl)) rfl rfl rfl ?_
                      refine gop_on rfl rfl rfl rfl hg46 ?_
                      refine gop (y_bare (y_load Try.isAgg9 rfl (cell_box 0 rfl rfl))) rfl rfl rfl ?_
                      refine gop_on rfl rfl rfl rfl hg46 ?_
                      refine gop (y_bare (y_neqs rfl rfl)) rfl rfl rfl ?_
                      refine gop_on rfl rfl rfl rfl hg42 ?_
                      refine gop (y_bare (y_pick_f (v := .bool _) rfl hg46 rfl)) rfl rfl rfl ?_
                      refine gop_on rfl rfl rfl rfl hg42 ?_
                      refine gop (y_bare (y_move (v := .bool _) rfl)) rfl rfl rfl ?_
                      refine gop_if (want := false) rfl rfl rfl rfl rfl rfl (fun hg51 => ?_) (fun hg51 => ?_)
                      · -- guard 51 on
                        have hg51d := hg51
                        refine gop (y_bare (y_move (v := .bool _) rfl)) rfl rfl rfl ?_
                        refine gop_on rfl rfl rfl rfl hg42 ?_
                        refine gop (y_bare (y_pick_f (v := .bool _) rfl hg51 rfl)) rfl rfl rfl ?_
                        refine gop (y_pick_t (v := .bool _) rfl hg42 rfl) rfl rfl rfl ?_
                        refine gops_nil ?_
                        refine hN13 _ _ ?_
                        refine gfrom [(1, .pointer _), (54, .bool _)] ⟨rfl, rfl, trivial⟩ fun σ => ?_
                        refine gcond (b := _) rfl (fun hc54 => ?_) (fun hc54 => ?_)
                        · -- slot 54 t
                          replace hc54 := of_decide_eq_true hc54
                          refine gseq fun N14 hN14 => ?_
                          refine greg ?_
                          refine gop (y_assign (v := .int _ _) rfl) rfl rfl rfl ?_
                          refine gops_nil ?_
                          refine hN14 _ _ ?_
                          refine gfrom [(2, .int _ _)] ⟨rfl, trivial⟩ fun σ => ?_
                          refine gret fun w1 hM => ?_
                          refine ⟨_, res1 rfl (rt (v := .int _ _) rfl), ?_⟩
                          exact ⟨by rw [formC_5 (e := x.pl) (show 1 ≤ x.kind by omega) (show x.kind ≤ 4 by omega) (show (x.thread ≠ 0 ∧ x.kind ≠ 2 ∧ x.kind ≠ 3) ∨ (x.line ≠ 0 ∧ x.kind ≠ 1) ∨ (isEmptyS x.text = false ∧ x.kind ≠ 1 ∧ x.kind ≠ 2) ∨ (0 < (pls x.hs).length ∧ x.kind ≠ 4) from by simp only [List.length_map]; unfold isEmptyS; grind)], hM.low⟩
                        · -- slot 54 f
                          replace hc54 := of_decide_eq_false hc54
                          refine gskip ?_
                          refine hN12 _ _ ?_
                          refine gfrom [(1, .pointer _)] ⟨rfl, trivial⟩ fun σ => ?_
                          refine gseq fun N15 hN15 => ?_
                          refine gseq fun N16 hN16 => ?_
                          refine greg ?_
                          refine gop (y_fieldAddr_box fa66_0 rfl) rfl rfl rfl ?_
                          refine gop (y_load Try.isAgg3 rfl (cell_box 0 rfl rfl)) rfl rfl rfl ?_
                          refine gop (y_eql rfl rfl) rfl rfl rfl ?_
                          refine gop (y_move (v := .bool _) rfl) rfl rfl rfl ?_
                          refine gop_if (want := true) rfl rfl rfl rfl rfl rfl (fun hg58 => ?_) (fun hg58 => ?_)
                          · -- guard 58 on
                            have hg58d := of_decide_eq_true hg58
                            refine gop (y_bare (y_fieldAddr_box fa66_3 rfl)) rfl rfl rfl ?_
                            refine gop_on rfl rfl rfl rfl hg58 ?_
                            refine gop (y_bare (y_load Try.isAgg3 rfl (cell_box 0 rfl rfl))) rfl rfl rfl ?_
                            refine gop_on rfl rfl rfl rfl hg58 ?_
                            refine gop (y_bare (y_neq rfl rfl)) rfl rfl rfl ?_
                            refine gop_on rfl rfl rfl rfl hg58 ?_
                            refine gop (y_bare (y_move (v := .bool _) rfl)) rfl rfl rfl ?_
                            refine gop_if (want := false) rfl rfl rfl rfl rfl rfl (fun hg62 => ?_) (fun hg62 => ?_)
                            · -- guard 62 on
                              have hg62d := Decidable.not_not.1 (of_decide_eq_false hg62)
                              refine gop (y_bare (y_fieldAddr_box fa66_4 rfl)) rfl rfl rfl ?_
                              refine gop_on rfl rfl rfl rfl hg62 ?_
                              refine gop (y_bare (y_load Try.isAgg9 rfl (cell_box 0 rfl rfl))) rfl rfl rfl ?_
                              refine gop_on rfl rfl rfl rfl hg62 ?_
                              refine gop (y_bare (y_neqs rfl rfl)) rfl rfl rfl ?_
                              refine gop_on rfl rfl rfl rfl hg58 ?_
                              refine gop (y_bare (y_pick_f (v := .bool _) rfl hg62 rfl)) rfl rfl rfl ?_
                              refine gop_on rfl rfl rfl rfl hg58 ?_
                              refine gop (y_bare (y_move (v := .bool _) rfl)) rfl rfl rfl ?_
                              refine gop_if (want := false) rfl rfl rfl rfl rfl rfl (fun hg67 => ?_) (fun hg67 => ?_)
                              · -- guard 67 on
                                have hg67d := hg67
                                refine gop (y_bare (y_fieldAddr_box fa66_2 rfl)) rfl rfl rfl ?_
                                refine gop_on rfl rfl rfl rfl hg67 ?_
                                refine gop (y_bare (y_load Try.isAgg3 rfl (cell_box 0 rfl rfl))) rfl rfl rfl ?_
                                refine gop_on rfl rfl rfl rfl hg67 ?_
                                refine gop (y_bare (y_neq rfl rfl)) rfl rfl rfl ?_
                                refine gop_on rfl rfl rfl rfl hg58 ?_
                                refine gop (y_bare (y_pick_f (v := .bool _) rfl hg67 rfl)) rfl rfl rfl ?_
                                refine gop (y_pick_t (v := .bool _) rfl hg58 rfl) rfl rfl rfl ?_
                                refine gops_nil ?_
                                refine hN16 _ _ ?_
                                refine gfrom [(1, .pointer _), (72, .bool _)] ⟨rfl, rfl, trivial⟩ fun σ => ?_
                                refine gcond (b := _) rfl (fun hc72 => ?_) (fun hc72 => ?_)
                                · -- slot 72 t
                                  replace hc72 := of_decide_eq_true hc72
                                  refine gseq fun N17 hN17 => ?_
                                  refine greg ?_
                                  refine gop (y_assign (v := .int _ _) rfl) rfl rfl rfl ?_
                                  refine gops_nil ?_
                                  refine hN17 _ _ ?_
                                  refine gfrom [(2, .int _ _)] ⟨rfl, trivial⟩ fun σ => ?_
                                  refine gret fun w1 hM => ?_
                                  refine ⟨_, res1 rfl (rt (v := .int _ _) rfl), ?_⟩
                                  exact ⟨by rw [formC_5 (e := x.pl) (show 1 ≤ x.kind by omega) (show x.kind ≤ 4 by omega) (show (x.thread ≠ 0 ∧ x.kind ≠ 2 ∧ x.kind ≠ 3) ∨ (x.line ≠ 0 ∧ x.kind ≠ 1) ∨ (isEmptyS x.text = false ∧ x.kind ≠ 1 ∧ x.kind ≠ 2) ∨ (0 < (pls x.hs).length ∧ x.kind ≠ 4) from by simp only [List.length_map]; unfold isEmptyS; grind)], hM.low⟩
                                · -- slot 72 f
                                  replace hc72 := Decidable.not_not.1 (of_decide_eq_false hc72)
                                  refine gskip ?_
                                  refine hN15 _ _ ?_
                                  refine gfrom [(1, .pointer _)] ⟨rfl, trivial⟩ fun σ => ?_
                                  refine gseq fun N18 hN18 => ?_
                                  refine gseq fun N19 hN19 => ?_
                                  refine greg ?_
                                  refine gop (y_fieldAddr_box fa66_1 rfl) rfl rfl rfl ?_
                                  refine gop (y_load Try.isAgg3 rfl (cell_box 0 rfl rfl)) rfl rfl rfl ?_
                                  refine gop (y_lss rfl rfl) rfl rfl rfl ?_
                                  refine gop (y_move (v := .bool _) rfl) rfl rfl rfl ?_
                                  refine gop_if (want := false) rfl rfl rfl rfl rfl rfl (fun hg76 => ?_) (fun hg76 => ?_)
                                  · -- guard 76 on
                                    have hg76d := of_decide_eq_false hg76
                                    refine gop (y_bare (y_fieldAddr_box fa66_1 rfl)) rfl rfl rfl ?_
                                    refine gop_on rfl rfl rfl rfl hg76 ?_
                                    refine gop (y_bare (y_load Try.isAgg3 rfl (cell_box 0 rfl rfl))) rfl rfl rfl ?_
                                    refine gop_on rfl rfl rfl rfl hg76 ?_
                                    refine gop (y_bare (y_gtr rfl rfl)) rfl rfl rfl ?_
                                    refine gop (y_pick_f (v := .bool _) rfl hg76 rfl) rfl rfl rfl ?_
                                    refine gops_nil ?_
                                    refine hN19 _ _ ?_
                                    refine gfrom [(1, .pointer _), (80, .bool _)] ⟨rfl, rfl, trivial⟩ fun σ => ?_
                                    refine gcond (b := _) rfl (fun hc80 => ?_) (fun hc80 => ?_)
                                    · -- slot 80 t
                                      replace hc80 := of_decide_eq_true hc80
                                      have hD : ¬ ((x.thread ≠ 0 ∧ x.kind ≠ 2 ∧ x.kind ≠ 3) ∨ (x.line ≠ 0 ∧ x.kind ≠ 1) ∨ (isEmptyS x.text = false ∧ x.kind ≠ 1 ∧ x.kind ≠ 2) ∨ (0 < (pls x.hs).length ∧ x.kind ≠ 4)) := by simp only [List.length_map]; unfold isEmptyS; grind
                                      refine gseq fun N20 hN20 => ?_
                                      refine greg ?_
                                      refine gop (y_assign (v := .int _ _) rfl) rfl rfl rfl ?_
                                      refine gops_nil ?_
                                      refine hN20 _ _ ?_
                                      refine gfrom [(2, .int _ _)] ⟨rfl, trivial⟩ fun σ => ?_
                                      refine gret fun w1 hM => ?_
                                      refine ⟨_, res1 rfl (rt (v := .int _ _) rfl), ?_⟩
                                      exact ⟨by rw [formC_3 (e := x.pl) (show 1 ≤ x.kind by omega) (show x.kind ≤ 4 by omega) hD (show x.user < 0 ∨ 7 < x.user by omega)], hM.low⟩
                                    · -- slot 80 f
                                      replace hc80 := of_decide_eq_false hc80
                                      have hD : ¬ ((x.thread ≠ 0 ∧ x.kind ≠ 2 ∧ x.kind ≠ 3) ∨ (x.line ≠ 0 ∧ x.kind ≠ 1) ∨ (isEmptyS x.text = false ∧ x.kind ≠ 1 ∧ x.kind ≠ 2) ∨ (0 < (pls x.hs).length ∧ x.kind ≠ 4)) := by simp only [List.length_map]; unfold isEmptyS; grind
                                      have hL := formC_l (e := x.pl) (show 1 ≤ x.kind by omega) (show x.kind ≤ 4 by omega) hD (show ¬ (x.user < 0 ∨ 7 < x.user) by omega)
                                      refine gskip ?_
                                      refine hN18 _ _ ?_
                                      refine gfrom [(1, .pointer _)] ⟨rfl, trivial⟩ fun σ => ?_
                                      refine gseq fun N21 hN21 => ?_
                                      refine gseq fun N22 hN22 => ?_
                                      refine greg ?_
                                      refine gop (y_fieldAddr_box fa66_0 rfl) rfl rfl rfl ?_
                                      refine gop (y_load Try.isAgg3 rfl (cell_box 0 rfl rfl)) rfl rfl rfl ?_
                                      refine gop (y_lss rfl rfl) rfl rfl rfl ?_
                                      refine gops_nil ?_
                                      refine hN22 _ _ ?_
                                      refine gfrom [(1, .pointer _), (83, .bool _)] ⟨rfl, rfl, trivial⟩ fun σ => ?_
                                      refine gcond (b := _) rfl (fun hc83 => ?_) (fun hc83 => ?_)
                                      · -- slot 83 t
                                        replace hc83 := of_decide_eq_true hc83
                                        rw [if_pos (show x.pl.kind < 3 from hc83)] at hL
                                        refine gseq fun N23 hN23 => ?_
                                        refine greg ?_
                                        refine gop (y_fieldAddr_box fa66_4 rfl) rfl rfl rfl ?_
                                        refine gop (y_load Try.isAgg9 rfl (cell_box 0 rfl rfl)) rfl rfl rfl ?_
                                        refine gop_pure (e_call (vs := [.string _]) Try.func56 rfl (by kernel_rfl) rfl) (fun w hM => lineCode_any w _) rfl rfl rfl ?_
                                        refine gop (y_assign (v := .int _ _) rfl) rfl rfl rfl ?_
                                        refine gops_nil ?_
                                        refine hN23 _ _ ?_
                                        refine gfrom [(2, .int _ _)] ⟨rfl, trivial⟩ fun σ => ?_
                                        refine gret fun w1 hM => ?_
                                        refine ⟨_, res1 rfl (rt (v := .int _ _) rfl), ?_⟩
                                        exact ⟨by rw [hL], hM.low⟩
                                      · -- slot 83 f
                                        replace hc83 := of_decide_eq_false hc83
                                        rw [if_neg (show ¬ x.pl.kind < 3 from hc83)] at hL
                                        refine gskip ?_
                                        refine hN21 _ _ ?_
                                        refine gfrom [] trivial fun σ => ?_
                                        refine gseq fun N24 hN24 => ?_
                                        refine greg ?_
                                        refine gop (y_assign (v := .int _ _) rfl) rfl rfl rfl ?_
                                        refine gops_nil ?_
                                        refine hN24 _ _ ?_
                                        refine gfrom [(2, .int _ _)] ⟨rfl, trivial⟩ fun σ => ?_
                                        refine gret fun w1 hM => ?_
                                        refine ⟨_, res1 rfl (rt (v := .int _ _) rfl), ?_⟩
                                        exact ⟨by rw [hL], hM.low⟩
                                  · -- guard 76 off
                                    have hg76d := of_decide_eq_true hg76
                                    refine gop_off rfl rfl rfl rfl hg76 rfl rfl ?_
                                    refine gop_off rfl rfl rfl rfl hg76 rfl rfl ?_
                                    refine gop (y_pick_t (v := .bool _) rfl hg76 rfl) rfl rfl rfl ?_
                                    refine gops_nil ?_
                                    refine hN19 _ _ ?_
                                    refine gfrom [(1, .pointer _), (80, .bool _)] ⟨rfl, rfl, trivial⟩ fun σ => ?_
                                    refine gcond (b := _) rfl (fun hc80 => ?_) (fun hc80 => ?_)
                                    · -- slot 80 t
                                      have hD : ¬ ((x.thread ≠ 0 ∧ x.kind ≠ 2 ∧ x.kind ≠ 3) ∨ (x.line ≠ 0 ∧ x.kind ≠ 1) ∨ (isEmptyS x.text = false ∧ x.kind ≠ 1 ∧ x.kind ≠ 2) ∨ (0 < (pls x.hs).length ∧ x.kind ≠ 4)) := by simp only [List.length_map]; unfold isEmptyS; grind
                                      refine gseq fun N25 hN25 => ?_
                                      refine greg ?_
                                      refine gop (y_assign (v := .int _ _) rfl) rfl rfl rfl ?_
                                      refine gops_nil ?_
                                      refine hN25 _ _ ?_
                                      refine gfrom [(2, .int _ _)] ⟨rfl, trivial⟩ fun σ => ?_
                                      refine gret fun w1 hM => ?_
                                      refine ⟨_, res1 rfl (rt (v := .int _ _) rfl), ?_⟩
                                      exact ⟨by rw [formC_3 (e := x.pl) (show 1 ≤ x.kind by omega) (show x.kind ≤ 4 by omega) hD (show x.user < 0 ∨ 7 < x.user by omega)], hM.low⟩
                                    · -- slot 80 f
                                      cases hc80
                              · -- guard 67 off
                                have hg67d := hg67
                                refine gop_off rfl rfl rfl rfl hg67 rfl rfl ?_
                                refine gop_off rfl rfl rfl rfl hg67 rfl rfl ?_
                                refine gop_on rfl rfl rfl rfl hg58 ?_
                                refine gop (y_bare (y_pick_t (v := .bool _) rfl hg67 rfl)) rfl rfl rfl ?_
                                refine gop (y_pick_t (v := .bool _) rfl hg58 rfl) rfl rfl rfl ?_
                                refine gops_nil ?_
                                refine hN16 _ _ ?_
                                refine gfrom [(1, .pointer _), (72, .bool _)] ⟨rfl, rfl, trivial⟩ fun σ => ?_
                                refine gcond (b := _) rfl (fun hc72 => ?_) (fun hc72 => ?_)
                                · -- slot 72 t
                                  refine gseq fun N26 hN26 => ?_
                                  refine greg ?_
                                  refine gop (y_assign (v := .int _ _) rfl) rfl rfl rfl ?_
                                  refine gops_nil ?_
                                  refine hN26 _ _ ?_
                                  refine gfrom [(2, .int _ _)] ⟨rfl, trivial⟩ fun σ => ?_
                                  refine gret fun w1 hM => ?_
                                  refine ⟨_, res1 rfl (rt (v := .int _ _) rfl), ?_⟩
                                  exact ⟨by rw [formC_5 (e := x.pl) (show 1 ≤ x.kind by omega) (show x.kind ≤ 4 by omega) (show (x.thread ≠ 0 ∧ x.kind ≠ 2 ∧ x.kind ≠ 3) ∨ (x.line ≠ 0 ∧ x.kind ≠ 1) ∨ (isEmptyS x.text = false ∧ x.kind ≠ 1 ∧ x.kind ≠ 2) ∨ (0 < (pls x.hs).length ∧ x.kind ≠ 4) from by simp only [List.length_map]; unfold isEmptyS; grind)], hM.low⟩
                                · -- slot 72 f
                                  cases hc72
                            · -- guard 62 off
                              have hg62d := of_decide_eq_true hg62
                              refine gop_off rfl rfl rfl rfl hg62 rfl rfl ?_
                              refine gop_off rfl rfl rfl rfl hg62 rfl rfl ?_
                              refine gop_on rfl rfl rfl rfl hg58 ?_
                              refine gop (y_bare (y_pick_t (v := .bool _) rfl hg62 rfl)) rfl rfl rfl ?_
                              refine gop_on rfl rfl rfl rfl hg58 ?_
                              refine gop (y_bare (y_move (v := .bool _) rfl)) rfl rfl rfl ?_
                              refine gop_off rfl rfl rfl rfl rfl rfl rfl ?_
                              refine gop_off rfl rfl rfl rfl rfl rfl rfl ?_
                              refine gop_off rfl rfl rfl rfl rfl rfl rfl ?_
                              refine gop_on rfl rfl rfl rfl hg58 ?_
                              refine gop (y_bare (y_pick_t (v := .bool _) rfl rfl rfl)) rfl rfl rfl ?_
                              refine gop (y_pick_t (v := .bool _) rfl hg58 rfl) rfl rfl rfl ?_
                              refine gops_nil ?_
                              refine hN16 _ _ ?_
                              refine gfrom [(1, .pointer _), (72, .bool _)] ⟨rfl, rfl, trivial⟩ fun σ => ?_
                              refine gcond (b := _) rfl (fun hc72 => ?_) (fun hc72 => ?_)
                              · -- slot 72 t
                                refine gseq fun N27 hN27 => ?_
                                refine greg ?_
                                refine gop (y_assign (v := .int _ _) rfl) rfl rfl rfl ?_
                                refine gops_nil ?_
                                refine hN27 _ _ ?_
                                refine gfrom [(2, .int _ _)] ⟨rfl, trivial⟩ fun σ => ?_
                                refine gret fun w1 hM => ?_
                                refine ⟨_, res1 rfl (rt (v := .int _ _) rfl), ?_⟩
                                exact ⟨by rw [formC_5 (e := x.pl) (show 1 ≤ x.kind by omega) (show x.kind ≤ 4 by omega) (show (x.thread ≠ 0 ∧ x.kind ≠ 2 ∧ x.kind ≠ 3) ∨ (x.line ≠ 0 ∧ x.kind ≠ 1) ∨ (isEmptyS x.text = false ∧ x.kind ≠ 1 ∧ x.kind ≠ 2) ∨ (0 < (pls x.hs).length ∧ x.kind ≠ 4) from by simp only [List.length_map]; unfold isEmptyS; grind)], hM.low⟩
                              · -- slot 72 f
                                cases hc72
                          · -- guard 58 off
                            have hg58d := of_decide_eq_false hg58
                            refine gop_off rfl rfl rfl rfl hg58 rfl rfl ?_
                            refine gop_off rfl rfl rfl rfl hg58 rfl rfl ?_
                            refine gop_off rfl rfl rfl rfl hg58 rfl rfl ?_
                            refine gop_offu rfl rfl rfl rfl rfl rfl ?_
                            refine gop_offu rfl rfl rfl rfl rfl rfl ?_
                            refine gop_offu rfl rfl rfl rfl rfl rfl ?_
                            refine gop_off rfl rfl rfl rfl hg58 rfl rfl ?_
                            refine gop_off rfl rfl rfl rfl hg58 rfl rfl ?_
                            refine gop_offu rfl rfl rfl rfl rfl rfl ?_
                            refine gop_offu rfl rfl rfl rfl rfl rfl ?_
                            refine gop_offu rfl rfl rfl rfl rfl rfl ?_
                            refine gop_off rfl rfl rfl rfl hg58 rfl rfl ?_
                            refine gop (y_pick_f (v := .bool _) rfl hg58 rfl) rfl rfl rfl ?_
                            refine gops_nil ?_
                            refine hN16 _ _ ?_
                            refine gfrom [(1, .pointer _), (72, .bool _)] ⟨rfl, rfl, trivial⟩ fun σ => ?_
                            refine gcond (b := _) rfl (fun hc72 => ?_) (fun hc72 => ?_)
                            · -- slot 72 t
                              cases hc72
                            · -- slot 72 f
                              refine gskip ?_
                              refine hN15 _ _ ?_
                              refine gfrom [(1, .pointer _)] ⟨rfl, trivial⟩ fun σ => ?_
                              refine gseq fun N28 hN28 => ?_
                              refine gseq fun N29 hN29 => ?_
                              refine greg ?_
                              refine gop (y_fieldAddr_box fa66_1 rfl) rfl rfl rfl ?_
                              refine gop (y_load Try.isAgg3 rfl (cell_box 0 rfl rfl)) rfl rfl rfl ?_
                              refine gop (y_lss rfl rfl) rfl rfl rfl ?_
                              refine gop (y_move (v := .bool _) rfl) rfl rfl rfl ?_
                              refine gop_if (want := false) rfl rfl rfl rfl rfl rfl (fun hg76 => ?_) (fun hg76 => ?_)
                              · -- guard 76 on
                                have hg76d := of_decide_eq_false hg76
                                refine gop (y_bare (y_fieldAddr_box fa66_1 rfl)) rfl rfl rfl ?_
                                refine gop_on rfl rfl rfl rfl hg76 ?_
                                refine gop (y_bare (y_load Try.isAgg3 rfl (cell_box 0 rfl rfl))) rfl rfl rfl ?_
                                refine gop_on rfl rfl rfl rfl hg76 ?_
                                refine gop (y_bare (y_gtr rfl rfl)) rfl rfl rfl ?_
                                refine gop (y_pick_f (v := .bool _) rfl hg76 rfl) rfl rfl rfl ?_
                                refine gops_nil ?_
                                refine hN29 _ _ ?_
                                refine gfrom [(1, .pointer _), (80, .bool _)] ⟨rfl, rfl, trivial⟩ fun σ => ?_
                                refine gcond (b := _) rfl (fun hc80 => ?_) (fun hc80 => ?_)
                                · -- slot 80 t
                                  replace hc80 := of_decide_eq_true hc80
                                  have hD : ¬ ((x.thread ≠ 0 ∧ x.kind ≠ 2 ∧ x.kind ≠ 3) ∨ (x.line ≠ 0 ∧ x.kind ≠ 1) ∨ (isEmptyS x.text = false ∧ x.kind ≠ 1 ∧ x.kind ≠ 2) ∨ (0 < (pls x.hs).length ∧ x.kind ≠ 4)) := by simp only [List.length_map]; unfold isEmptyS; grind
                                  refine gseq fun N30 hN30 => ?_
                                  refine greg ?_
                                  refine gop (y_assign (v := .int _ _) rfl) rfl rfl rfl ?_
                                  refine gops_nil ?_
                                  refine hN30 _ _ ?_
                                  refine gfrom [(2, .int _ _)] ⟨rfl, trivial⟩ fun σ => ?_
                                  refine gret fun w1 hM => ?_
                                  refine ⟨_, res1 rfl (rt (v := .int _ _) rfl), ?_⟩
                                  exact ⟨by rw [formC_3 (e := x.pl) (show 1 ≤ x.kind by omega) (show x.kind ≤ 4 by omega) hD (show x.user < 0 ∨ 7 < x.user by omega)], hM.low⟩
                                · -- slot 80 f
                                  replace hc80 := of_decide_eq_false hc80
                                  have hD : ¬ ((x.thread ≠ 0 ∧ x.kind ≠ 2 ∧ x.kind ≠ 3) ∨ (x.line ≠ 0 ∧ x.kind ≠ 1) ∨ (isEmptyS x.text = false ∧ x.kind ≠ 1 ∧ x.kind ≠ 2) ∨ (0 < (pls x.hs).length ∧ x.kind ≠ 4)) := by simp only [List.length_map]; unfold isEmptyS; grind
                                  have hL := formC_l (e := x.pl) (show 1 ≤ x.kind by omega) (show x.kind ≤ 4 by omega) hD (show ¬ (x.user < 0 ∨ 7 < x.user) by omega)
                                  refine gskip ?_
                                  refine hN28 _ _ ?_
                                  refine gfrom [(1, .pointer _)] ⟨rfl, trivial⟩ fun σ => ?_
                                  refine gseq fun N31 hN31 => ?_
                                  refine gseq fun N32 hN32 => ?_
                                  refine greg ?_
                                  refine gop (y_fieldAddr_box fa66_0 rfl) rfl rfl rfl ?_
                                  refine gop (y_load Try.isAgg3 rfl (cell_box 0 rfl rfl)) rfl rfl rfl ?_
                                  refine gop (y_lss rfl rfl) rfl rfl rfl ?_
                                  refine gops_nil ?_
                                  refine hN32 _ _ ?_
                                  refine gfrom [(1, .pointer _), (83, .bool _)] ⟨rfl, rfl, trivial⟩ fun σ => ?_
                                  refine gcond (b := _) rfl (fun hc83 => ?_) (fun hc83 => ?_)
                                  · -- slot 83 t
                                    replace hc83 := of_decide_eq_true hc83
                                    rw [if_pos (show x.pl.kind < 3 from hc83)] at hL
                                    refine gseq fun N33 hN33 => ?_
                                    refine greg ?_
                                    refine gop (y_fieldAddr_box fa66_4 rfl) rfl rfl rfl ?_
                                    refine gop (y_load Try.isAgg9 rfl (cell_box 0 rfl rfl)) rfl rfl rfl ?_
                                    refine gop_pure (e_call (vs := [.string _]) Try.func56 rfl (by kernel_rfl) rfl) (fun w hM => lineCode_any w _) rfl rfl rfl ?_
                                    refine gop (y_assign (v := .int _ _) rfl) rfl rfl rfl ?_
                                    refine gops_nil ?_
                                    refine hN33 _ _ ?_
                                    refine gfrom [(2, .int _ _)] ⟨rfl, trivial⟩ fun σ => ?_
                                    refine gret fun w1 hM => ?_
                                    refine ⟨_, res1 rfl (rt (v := .int _ _) rfl), ?_⟩
                                    exact ⟨by rw [hL], hM.low⟩
                                  · -- slot 83 f
                                    replace hc83 := of_decide_eq_false hc83
                                    rw [if_neg (show ¬ x.pl.kind < 3 from hc83)] at hL
                                    refine gskip ?_
                                    refine hN31 _ _ ?_
                                    refine gfrom [] trivial fun σ => ?_
                                    refine gseq fun N34 hN34 => ?_
                                    refine greg ?_
                                    refine gop (y_assign (v := .int _ _) rfl) rfl rfl rfl ?_
                                    refine gops_nil ?_
                                    refine hN34 _ _ ?_
                                    refine gfrom [(2, .int _ _)] ⟨rfl, trivial⟩ fun σ => ?_
                                    refine gret fun w1 hM => ?_
                                    refine ⟨_, res1 rfl (rt (v := .int _ _) rfl), ?_⟩
                                    exact ⟨by rw [hL], hM.low⟩
                              · -- guard 76 off
                                have hg76d := of_decide_eq_true hg76
                                refine gop_off rfl rfl rfl rfl hg76 rfl rfl ?_
                                refine gop_off rfl rfl rfl rfl hg76 rfl rfl ?_
                                refine gop (y_pick_t (v := .bool _) rfl hg76 rfl) rfl rfl rfl ?_
                                refine gops_nil ?_
                                refine hN29 _ _ ?_
                                refine gfrom [(1, .pointer _), (80, .bool _)] ⟨rfl, rfl, trivial⟩ fun σ => ?_
                                refine gcond (b := _) rfl (fun hc80 => ?_) (fun hc80 => ?_)
                                · -- slot 80 t
                                  have hD : ¬ ((x.thread ≠ 0 ∧ x.kind ≠ 2 ∧ x.kind ≠ 3) ∨ (x.line ≠ 0 ∧ x.kind ≠ 1) ∨ (isEmptyS x.text = false ∧ x.kind ≠ 1 ∧ x.kind ≠ 2) ∨ (0 < (pls x.hs).length ∧ x.kind ≠ 4)) := by simp only [List.length_map]; unfold isEmptyS; grind
                                  refine gseq fun N35 hN35 => ?_
                                  refine greg ?_
                                  refine gop (y_assign (v := .int _ _) rfl) rfl rfl rfl ?_
                                  refine gops_nil ?_
                                  refine hN35 _ _ ?_
                                  refine gfrom [(2, .int _ _)] ⟨rfl, trivial⟩ fun σ => ?_
                                  refine gret fun w1 hM => ?_
                                  refine ⟨_, res1 rfl (rt (v := .int _ _) rfl), ?_⟩
                                  exact ⟨by rw [formC_3 (e := x.pl) (show 1 ≤ x.kind by omega) (show x.kind ≤ 4 by omega) hD (show x.user < 0 ∨ 7 < x.user by omega)], hM.low⟩
                                · -- slot 80 f
                                  cases hc80
                      · -- guard 51 off
                        have hg51d := hg51
                        refine gop_on rfl rfl rfl rfl hg42 ?_
                        refine gop (y_bare (y_pick_t (v := .bool _) rfl hg51 rfl)) rfl rfl rfl ?_
                        refine gop (y_pick_t (v := .bool _) rfl hg42 rfl) rfl rfl rfl ?_
                        refine gops_nil ?_
                        refine hN13 _ _ ?_
                        refine gfrom [(1, .pointer _), (54, .bool _)] ⟨rfl, rfl, trivial⟩ fun σ => ?_
                        refine gcond (b := _) rfl (fun hc54 => ?_) (fun hc54 => ?_)
                        · -- slot 54 t
                          refine gseq fun N36 hN36 => ?_
                          refine greg ?_
                          refine gop (y_assign (v := .int _ _) rfl) rfl rfl rfl ?_
                          refine gops_nil ?_
                          refine hN36 _ _ ?_
                          refine gfrom [(2, .int _ _)] ⟨rfl, trivial⟩ fun σ => ?_
                          refine gret fun w1 hM => ?_
                          refine ⟨_, res1 rfl (rt (v := .int _ _) rfl), ?_⟩
                          exact ⟨by rw [formC_5 (e := x.pl) (show 1 ≤ x.kind by omega) (show x.kind ≤ 4 by omega) (show (x.thread ≠ 0 ∧ x.kind ≠ 2 ∧ x.kind ≠ 3) ∨ (x.line ≠ 0 ∧ x.kind ≠ 1) ∨ (isEmptyS x.text = false ∧ x.kind ≠ 1 ∧ x.kind ≠ 2) ∨ (0 < (pls x.hs).length ∧ x.kind ≠ 4) from by simp only [List.length_map]; unfold isEmptyS; grind)], hM.low⟩
                        · -- slot 54 f
                          cases hc54
                    · -- guard 46 off
                      have hg46d := of_decide_eq_true hg46
                      refine gop_off rfl rfl rfl rfl hg46 rfl rfl ?_
                      refine gop_off rfl rfl rfl rfl hg46 rfl rfl ?_
                      refine gop_on rfl rfl rfl rfl hg42 ?_
                      refine gop (y_bare (y_pick_t (v := .bool _) rfl hg46 rfl)) rfl rfl rfl ?_
                      refine gop_on rfl rfl rfl rfl hg42 ?_
                      refine gop (y_bare (y_move (v := .bool _) rfl)) rfl rfl rfl ?_
                      refine gop_off rfl rfl rfl rfl rfl rfl rfl ?_
                      refine gop_on rfl rfl rfl rfl hg42 ?_
                      refine gop (y_bare (y_pick_t (v := .bool _) rfl rfl rfl)) rfl rfl rfl ?_
                      refine gop (y_pick_t (v := .bool _) rfl hg42 rfl) rfl rfl rfl ?_
                      refine gops_nil ?_
                      refine hN13 _ _ ?_
                      refine gfrom [(1, .pointer _), (54, .bool _)] ⟨rfl, rfl, trivial⟩ fun σ => ?_
                      refine gcond (b := _) rfl (fun hc54 => ?_) (fun hc54 => ?_)
                      · -- slot 54 t
                        refine gseq fun N37 hN37 => ?_
                        refine greg ?_
                        refine gop (y_assign (v := .int _ _) rfl) rfl rfl rfl ?_
                        refine gops_nil ?_
                        refine hN37 _ _ ?_
                        refine gfrom [(2, .int _ _)] ⟨rfl, trivial⟩ fun σ => ?_
                        refine gret fun w1 hM => ?_
                        refine ⟨_, res1 rfl (rt (v := .int _ _) rfl), ?_⟩
                        exact ⟨by rw [formC_5 (e := x.pl) (show 1 ≤ x.kind by omega) (show x.kind ≤ 4 by omega) (show (x.thread ≠ 0 ∧ x.kind ≠ 2 ∧ x.kind ≠ 3) ∨ (x.line ≠ 0 ∧ x.kind ≠ 1) ∨ (isEmptyS x.text = false ∧ x.kind ≠ 1 ∧ x.kind ≠ 2) ∨ (0 < (pls x.hs).length ∧ x.kind ≠ 4) from by simp only [List.length_map]; unfold isEmptyS; grind)], hM.low⟩
                      · -- slot 54 f
                        cases hc54
                  · -- guard 42 off
                    have hg42d := of_decide_eq_false hg42
                    refine gop_off rfl rfl rfl rfl hg42 rfl rfl ?_
                    refine gop_off rfl rfl rfl rfl hg42 rfl rfl ?_
                    refine gop_off rfl rfl rfl rfl hg42 rfl rfl ?_
                    refine gop_offu rfl rfl rfl rfl rfl rfl ?_
                    refine gop_offu rfl rfl rfl rfl rfl rfl ?_
                    refine gop_offu rfl rfl rfl rfl rfl rfl ?_
                    refine gop_off rfl rfl rfl rfl hg42 rfl rfl ?_
                    refine gop_off rfl rfl rfl rfl hg42 rfl rfl ?_
                    refine gop_offu rfl rfl rfl rfl rfl rfl ?_
                    refine gop_off rfl rfl rfl rfl hg42 rfl rfl ?_
                    refine gop (y_pick_f (v := .bool _) rfl hg42 rfl) rfl rfl rfl ?_
                    refine gops_nil ?_
                    refine hN13 _ _ ?_
                    refine gfrom [(1, .pointer _), (54, .bool _)] ⟨rfl, rfl, trivial⟩ fun σ => ?_
                    refine gcond (b := _) rfl (fun hc54 => ?_) (fun hc54 => ?_)
                    · -- slot 54 t
                      cases hc54
                    · -- slot 54 f
                      refine gskip ?_
                      refine hN12 _ _ ?_
                      refine gfrom [(1, .pointer _)] ⟨rfl, trivial⟩ fun σ => ?_
                      refine gseq fun N38 hN38 => ?_
                      refine gseq fun N39 hN39 => ?_
                      refine greg ?_
                      refine gop (y_fieldAddr_box fa66_0 rfl) rfl rfl rfl ?_
                      refine gop (y_load Try.isAgg3 rfl (cell_box 0 rfl rfl)) rfl rfl rfl ?_
                      refine gop (y_eql rfl rfl) rfl rfl rfl ?_
                      refine gop (y_move (v := .bool _) rfl) rfl rfl rfl ?_
                      refine gop_if (want := true) rfl rfl rfl rfl rfl rfl (fun hg58 => ?_) (fun hg58 => ?_)
                      · -- guard 58 on
                        have hg58d := of_decide_eq_true hg58
                        refine gop (y_bare (y_fieldAddr_box fa66_3 rfl)) rfl rfl rfl ?_
                        refine gop_on rfl rfl rfl rfl hg58 ?_
                        refine gop (y_bare (y_load Try.isAgg3 rfl (cell_box 0 rfl rfl))) rfl rfl rfl ?_
                        refine gop_on rfl rfl rfl rfl hg58 ?_
                        refine gop (y_bare (y_neq rfl rfl)) rfl rfl rfl ?_
                        refine gop_on rfl rfl rfl rfl hg58 ?_
                        refine gop (y_bare (y_move (v := .bool _) rfl)) rfl rfl rfl ?_
                        refine gop_if (want := false) rfl rfl rfl rfl rfl rfl (fun hg62 => ?_) (fun hg62 => ?_)
                        · -- guard 62 on
                          have hg62d := Decidable.not_not.1 (of_decide_eq_false hg62)
                          refine gop (y_bare (y_fieldAddr_box fa66_4 rfl)) rfl rfl rfl ?_
                          refine gop_on rfl rfl rfl rfl hg62 ?_
                          refine gop (y_bare (y_load Try.isAgg9 rfl (cell_box 0 rfl rfl))) rfl rfl rfl ?_
                          refine gop_on rfl rfl rfl rfl hg62 ?_
                          refine gop (y_bare (y_neqs rfl rfl)) rfl rfl rfl ?_
                          refine gop_on rfl rfl rfl rfl hg58 ?_
                          refine gop (y_bare (y_pick_f (v := .bool _) rfl hg62 rfl)) rfl rfl rfl ?_
                          refine gop_on rfl rfl rfl rfl hg58 ?_
                          refine gop (y_bare (y_move (v := .bool _) rfl)) rfl rfl rfl ?_
                          refine gop_if (want := false) rfl rfl rfl rfl rfl rfl (fun hg67 => ?_) (fun hg67 => ?_)
                          · -- guard 67 on
                            have hg67d := hg67
                            refine gop (y_bare (y_fieldAddr_box fa66_2 rfl)) rfl rfl rfl ?_
                            refine gop_on rfl rfl rfl rfl hg67 ?_
                            refine gop (y_bare (y_load Try.isAgg3 rfl (cell_box 0 rfl rfl))) rfl rfl rfl ?_
                            refine gop_on rfl rfl rfl rfl hg67 ?_
                            refine gop (y_bare (y_neq rfl rfl)) rfl rfl rfl ?_
                            refine gop_on rfl rfl rfl rfl hg58 ?_
                            refine gop (y_bare (y_pick_f (v := .bool _) rfl hg67 rfl)) rfl rfl rfl ?_
                            refine gop (y_pick_t (v := .bool _) rfl hg58 rfl) rfl rfl rfl ?_
                            refine gops_nil ?_
                            refine hN39 _ _ ?_
                            refine gfrom [(1, .pointer _), (72, .bool _)] ⟨rfl, rfl, trivial⟩ fun σ => ?_
                            refine gcond (b := _) rfl (fun hc72 => ?_) (fun hc72 => ?_)
                            · -- slot 72 t
                              replace hc72 := of_decide_eq_true hc72
                              refine gseq fun N40 hN40 => ?_
                              refine greg ?_
                              refine gop (y_assign (v := .int _ _) rfl) rfl rfl rfl ?_
                              refine gops_nil ?_
                              refine hN40 _ _ ?_
                              refine gfrom [(2, .int _ _)] ⟨rfl, trivial⟩ fun σ => ?_
                              refine gret fun w1 hM => ?_
                              refine ⟨_, res1 rfl (rt (v := .int _ _) rfl), ?_⟩
                              exact ⟨by rw [formC_5 (e := x.pl) (show 1 ≤ x.kind by omega) (show x.kind ≤ 4 by omega) (show (x.thread ≠ 0 ∧ x.kind ≠ 2 ∧ x.kind ≠ 3) ∨ (x.line ≠ 0 ∧ x.kind ≠ 1) ∨ (isEmptyS x.text = false ∧ x.kind ≠ 1 ∧ x.kind ≠ 2) ∨ (0 < (pls x.hs).length ∧ x.kind ≠ 4) from by simp only [List.length_map]; unfold isEmptyS; grind)], hM.low⟩
                            · -- slot 72 f
                              replace hc72 := Decidable.not_not.1 (of_decide_eq_false hc72)
                              refine gskip ?_
                              refine hN38 _ _ ?_
                              refine gfrom [(1, .pointer _)] ⟨rfl, trivial⟩ fun σ => ?_
                              refine gseq fun N41 hN41 => ?_
                              refine gseq fun N42 hN42 => ?_
                              refine greg ?_
                              refine gop (y_fieldAddr_box fa66_1 rfl) rfl rfl rfl ?_
                              refine gop (y_load Try.isAgg3 rfl (cell_box 0 rfl rfl)) rfl rfl rfl ?_
                              refine gop (y_lss rfl rfl) rfl rfl rfl ?_
                              refine gop (y_move (v := .bool _) rfl) rfl rfl rfl ?_
                              refine gop_if (want := false) rfl rfl rfl rfl rfl rfl (fun hg76 => ?_) (fun hg76 => ?_)
                              · -- guard 76 on
                                have hg76d := of_decide_eq_false hg76
                                refine gop (y_bare (y_fieldAddr_box fa66_1 rfl)) rfl rfl rfl ?_
                                refine gop_on rfl rfl rfl rfl hg76 ?_
                                refine gop (y_bare (y_load Try.isAgg3 rfl (cell_box 0 rfl rfl))) rfl rfl rfl ?_
                                refine gop_on rfl rfl rfl rfl hg76 ?_
                                refine gop (y_bare (y_gtr rfl rfl)) rfl rfl rfl ?_
                                refine gop (y_pick_f (v := .bool _) rfl hg76 rfl) rfl rfl rfl ?_
                                refine gops_nil ?_
                                refine hN42 _ _ ?_
                                refine gfrom [(1, .pointer _), (80, .bool _)] ⟨rfl, rfl, trivial⟩ fun σ => ?_
                                refine gcond (b := _) rfl (fun hc80 => ?_) (fun hc80 => ?_)
                                · -- slot 80 t
                                  replace hc80 := of_decide_eq_true hc80
                                  have hD : ¬ ((x.thread ≠ 0 ∧ x.kind ≠ 2 ∧ x.kind ≠ 3) ∨ (x.line ≠ 0 ∧ x.kind ≠ 1) ∨ (isEmptyS x.text = false ∧ x.kind ≠ 1 ∧ x.kind ≠ 2) ∨ (0 < (pls x.hs).length ∧ x.kind ≠ 4)) := by simp only [List.length_map]; unfold isEmptyS; grind
                                  refine gseq fun N43 hN43 => ?_
                                  refine greg ?_
                                  refine gop (y_assign (v := .int _ _) rfl) rfl rfl rfl ?_
                                  refine gops_nil ?_
                                  refine hN43 _ _ ?_
                                  refine gfrom [(2, .int _ _)] ⟨rfl, trivial⟩ fun σ => ?_
                                  refine gret fun w1 hM => ?_
                                  refine ⟨_, res1 rfl (rt (v := .int _ _) rfl), ?_⟩
                                  exact ⟨by rw [formC_3 (e := x.pl) (show 1 ≤ x.kind by omega) (show x.kind ≤ 4 by omega) hD (show x.user < 0 ∨ 7 < x.user by omega)], hM.low⟩
                                · -- slot 80 f
                                  replace hc80 := of_decide_eq_false hc80
                                  have hD : ¬ ((x.thread ≠ 0 ∧ x.kind ≠ 2 ∧ x.kind ≠ 3) ∨ (x.line ≠ 0 ∧ x.kind ≠ 1) ∨ (isEmptyS x.text = false ∧ x.kind ≠ 1 ∧ x.kind ≠ 2) ∨ (0 < (pls x.hs).length ∧ x.kind ≠ 4)) := by simp only [List.length_map]; unfold isEmptyS; grind
                                  have hL := formC_l (e := x.pl) (show 1 ≤ x.kind by omega) (show x.kind ≤ 4 by omega) hD (show ¬ (x.user < 0 ∨ 7 < x.user) by omega)
                                  refine gskip ?_
                                  refine hN41 _ _ ?_
                                  refine gfrom [(1, .pointer _)] ⟨rfl, trivial⟩ fun σ => ?_
                                  refine gseq fun N44 hN44 => ?_
                                  refine gseq fun N45 hN45 => ?_
                                  refine greg ?_
                                  refine gop (y_fieldAddr_box fa66_0 rfl) rfl rfl rfl ?_
                                  refine gop (y_load Try.isAgg3 rfl (cell_box 0 rfl rfl)) rfl rfl rfl ?_
                                  refine gop (y_lss rfl rfl) rfl rfl rfl ?_
                                  refine gops_nil ?_
                                  refine hN45 _ _ ?_
                                  refine gfrom [(1, .pointer _), (83, .bool _)] ⟨rfl, rfl, trivial⟩ fun σ => ?_
                                  refine gcond (b := _) rfl (fun hc83 => ?_) (fun hc83 => ?_)
                                  · -- slot 83 t
                                    replace hc83 := of_decide_eq_true hc83
                                    rw [if_pos (show x.pl.kind < 3 from hc83)] at hL
                                    refine gseq fun N46 hN46 => ?_
                                    refine greg ?_
                                    refine gop (y_fieldAddr_box fa66_4 rfl) rfl rfl rfl ?_
                                    refine gop (y_load Try.isAgg9 rfl (cell_box 0 rfl rfl)) rfl rfl rfl ?_
                                    refine gop_pure (e_call (vs := [.string _]) Try.func56 rfl (by kernel_rfl) rfl) (fun w hM => lineCode_any w _) rfl rfl rfl ?_
                                    refine gop (y_assign (v := .int _ _) rfl) rfl rfl rfl ?_
                                    refine gops_nil ?_
                                    refine hN46 _ _ ?_
                                    refine gfrom [(2, .int _ _)] ⟨rfl, trivial⟩ fun σ => ?_
                                    refine gret fun w1 hM => ?_
                                    refine ⟨_, res1 rfl (rt (v := .int _ _) rfl), ?_⟩
                                    exact ⟨by rw [hL], hM.low⟩
                                  · -- slot 83 f
                                    replace hc83 := of_decide_eq_false hc83
                                    rw [if_neg (show ¬ x.pl.kind < 3 from hc83)] at hL
                                    refine gskip ?_
                                    refine hN44 _ _ ?_
                                    refine gfrom [] trivial fun σ => ?_
                                    refine gseq fun N47 hN47 => ?_
                                    refine greg ?_
                                    refine gop (y_assign (v := .int _ _) rfl) rfl rfl rfl ?_
                                    refine gops_nil ?_
                                    refine hN47 _ _ ?_
                                    refine gfrom [(2, .int _ _)] ⟨rfl, trivial⟩ fun σ => ?_
                                    refine gret fun w1 hM => ?_
                                    refine ⟨_, res1 rfl (rt (v := .int _ _) rfl), ?_⟩
                                    exact ⟨by rw [hL], hM.low⟩
                              · -- guard 76 off
                                have hg76d := of_decide_eq_true hg76
                                refine gop_off rfl rfl rfl rfl hg76 rfl rfl ?_
                                refine gop_off rfl rfl rfl rfl hg76 rfl rfl ?_
                                refine gop (y_pick_t (v := .bool _) rfl hg76 rfl) rfl rfl rfl ?_
                                refine gops_nil ?_
                                refine hN42 _ _ ?_
                                refine gfrom [(1, .pointer _), (80, .bool _)] ⟨rfl, rfl, trivial⟩ fun σ => ?_
                                refine gcond (b := _) rfl (fun hc80 => ?_) (fun hc80 => ?_)
                                · -- slot 80 t
                                  have hD : ¬ ((x.thread ≠ 0 ∧ x.kind ≠ 2 ∧ x.kind ≠ 3) ∨ (x.line ≠ 0 ∧ x.kind ≠ 1) ∨ (isEmptyS x.text = false ∧ x.kind ≠ 1 ∧ x.kind ≠ 2) ∨ (0 < (pls x.hs).length ∧ x.kind ≠ 4)) := by simp only [List.length_map]; unfold isEmptyS; grind
                                  refine gseq fun N48 hN48 => ?_
                                  refine greg ?_
                                  refine gop (y_assign (v := .int _ _) rfl) rfl rfl rfl ?_
                                  refine gops_nil ?_
                                  refine hN48 _ _ ?_
                                  refine gfrom [(2, .int _ _)] ⟨rfl, trivial⟩ fun σ => ?_
                                  refine gret fun w1 hM => ?_
                                  refine ⟨_, res1 rfl (rt (v := .int _ _) rfl), ?_⟩
                                  exact ⟨by rw [formC_3 (e := x.pl) (show 1 ≤ x.kind by omega) (show x.kind ≤ 4 by omega) hD (show x.user < 0 ∨ 7 < x.user by omega)], hM.low⟩
                                · -- slot 80 f
                                  cases hc80
                          · -- guard 67 off
                            have hg67d := hg67
                            refine gop_off rfl rfl rfl rfl hg67 rfl rfl ?_
                            refine gop_off rfl rfl rfl rfl hg67 rfl rfl ?_
                            refine gop_on rfl rfl rfl rfl hg58 ?_
                            refine gop (y_bare (y_pick_t (v := .bool _) rfl hg67 rfl)) rfl rfl rfl ?_
                            refine gop (y_pick_t (v := .bool _) rfl hg58 rfl) rfl rfl rfl ?_
                            refine gops_nil ?_
                            refine hN39 _ _ ?_
                            refine gfrom [(1, .pointer _), (72, .bool _)] ⟨rfl, rfl, trivial⟩ fun σ => ?_
                            refine gcond (b := _) rfl (fun hc72 => ?_) (fun hc72 => ?_)
                            · -- slot 72 t
                              refine gseq fun N49 hN49 => ?_
                              refine greg ?_
                              refine gop (y_assign (v := .int _ _) rfl) rfl rfl rfl ?_
                              refine gops_nil ?_
                              refine hN49 _ _ ?_
                              refine gfrom [(2, .int _ _)] ⟨rfl, trivial⟩ fun σ => ?_
                              refine gret fun w1 hM => ?_
                              refine ⟨_, res1 rfl (rt (v := .int _ _) rfl), ?_⟩
                              exact ⟨by rw [formC_5 (e := x.pl) (show 1 ≤ x.kind by omega) (show x.kind ≤ 4 by omega) (show (x.thread ≠ 0 ∧ x.kind ≠ 2 ∧ x.kind ≠ 3) ∨ (x.line ≠ 0 ∧ x.kind ≠ 1) ∨ (isEmptyS x.text = false ∧ x.kind ≠ 1 ∧ x.kind ≠ 2) ∨ (0 < (pls x.hs).length ∧ x.kind ≠ 4) from by simp only [List.length_map]; unfold isEmptyS; grind)], hM.low⟩
                            · -- slot 72 f
                              cases hc72
                        · -- guard 62 off
                          have hg62d := of_decide_eq_true hg62
                          refine gop_off rfl rfl rfl rfl hg62 rfl rfl ?_
                          refine gop_off rfl rfl rfl rfl hg62 rfl rfl ?_
                          refine gop_on rfl rfl rfl rfl hg58 ?_
                          refine gop (y_bare (y_pick_t (v := .bool _) rfl hg62 rfl)) rfl rfl rfl ?_
                          refine gop_on rfl rfl rfl rfl hg58 ?_
                          refine gop (y_bare (y_move (v := .bool _) rfl)) rfl rfl rfl ?_
                          refine gop_off rfl rfl rfl rfl rfl rfl rfl ?_
                          refine gop_off rfl rfl rfl rfl rfl rfl rfl ?_
                          refine gop_off rfl rfl rfl rfl rfl rfl rfl ?_
                          refine gop_on rfl rfl rfl rfl hg58 ?_
                          refine gop (y_bare (y_pick_t (v := .bool _) rfl rfl rfl)) rfl rfl rfl ?_
                          refine gop (y_pick_t (v := .bool _) rfl hg58 rfl) rfl rfl rfl ?_
                          refine gops_nil ?_
                          refine hN39 _ _ ?_
                          refine gfrom [(1, .pointer _), (72, .bool _)] ⟨rfl, rfl, trivial⟩ fun σ => ?_
                          refine gcond (b := _) rfl (fun hc72 => ?_) (fun hc72 => ?_)
                          · -- slot 72 t
                            refine gseq fun N50 hN50 => ?_
                            refine greg ?_
                            refine gop (y_assign (v := .int _ _) rfl) rfl rfl rfl ?_
                            refine gops_nil ?_
                            refine hN50 _ _ ?_
                            refine gfrom [(2, .int _ _)] ⟨rfl, trivial⟩ fun σ => ?_
                            refine gret fun w1 hM => ?_
                            refine ⟨_, res1 rfl (rt (v := .int _ _) rfl), ?_⟩
                            exact ⟨by rw [formC_5 (e := x.pl) (show 1 ≤ x.kind by omega) (show x.kind ≤ 4 by omega) (show (x.thread ≠ 0 ∧ x.kind ≠ 2 ∧ x.kind ≠ 3) ∨ (x.line ≠ 0 ∧ x.kind ≠ 1) ∨ (isEmptyS x.text = false ∧ x.kind ≠ 1 ∧ x.kind ≠ 2) ∨ (0 < (pls x.hs).length ∧ x.kind ≠ 4) from by simp only [List.length_map]; unfold isEmptyS; grind)], hM.low⟩
                          · -- slot 72 f
                            cases hc72
                      · -- guard 58 off
                        have hg58d := of_decide_eq_false hg58
                        refine gop_off rfl rfl rfl rfl hg58 rfl rfl ?_
                        refine gop_off rfl rfl rfl rfl hg58 rfl rfl ?_
                        refine gop_off rfl rfl rfl rfl hg58 rfl rfl ?_
                        refine gop_offu rfl rfl rfl rfl rfl rfl ?_
                        refine gop_offu rfl rfl rfl rfl rfl rfl ?_
                        refine gop_offu rfl rfl rfl rfl rfl rfl ?_
                        refine gop_off rfl rfl rfl rfl hg58 rfl rfl ?_
                        refine gop_off rfl rfl rfl rfl hg58 rfl rfl ?_
                        refine gop_offu rfl rfl rfl rfl rfl rfl ?_
                        refine gop_offu rfl rfl rfl rfl rfl rfl ?_
                        refine gop_offu rfl rfl rfl rfl rfl rfl ?_
                        refine gop_off rfl rfl rfl rfl hg58 rfl rfl ?_
                        refine gop (y_pick_f (v := .bool _) rfl hg58 rfl) rfl rfl rfl ?_
                        refine gops_nil ?_
                        refine hN39 _ _ ?_
                        refine gfrom [(1, .pointer _), (72, .bool _)] ⟨rfl, rfl, trivial⟩ fun σ => ?_
                        refine gcond (b := _) rfl (fun hc72 => ?_) (fun hc72 => ?_)
                        · -- slot 72 t
                          cases hc72
                        · -- slot 72 f
                          refine gskip ?_
                          refine hN38 _ _ ?_
                          refine gfrom [(1, .pointer _)] ⟨rfl, trivial⟩ fun σ => ?_
                          refine gseq fun N51 hN51 => ?_
                          refine gseq fun N52 hN52 => ?_
                          refine greg ?_
                          refine gop (y_fieldAddr_box fa66_1 rfl) rfl rfl rfl ?_
                          refine gop (y_load Try.isAgg3 rfl (cell_box 0 rfl rfl)) rfl rfl rfl ?_
                          refine gop (y_lss rfl rfl) rfl rfl rfl ?_
                          refine gop (y_move (v := .bool _) rfl) rfl rfl rfl ?_
                          refine gop_if (want := false) rfl rfl rfl rfl rfl rfl (fun hg76 => ?_) (fun hg76 => ?_)
                          · -- guard 76 on
                            have hg76d := of_decide_eq_false hg76
                            refine gop (y_bare (y_fieldAddr_box fa66_1 rfl)) rfl rfl rfl ?_
                            refine gop_on rfl rfl rfl rfl hg76 ?_
                            refine gop (y_bare (y_load Try.isAgg3 rfl (cell_box 0 rfl rfl))) rfl rfl rfl ?_
                            refine gop_on rfl rfl rfl rfl hg76 ?_
                            refine gop (y_bare (y_gtr rfl rfl)) rfl rfl rfl ?_
                            refine gop (y_pick_f (v := .bool _) rfl hg76 rfl) rfl rfl rfl ?_
                            refine gops_nil ?_
                            refine hN52 _ _ ?_
                            refine gfrom [(1, .pointer _), (80, .bool _)] ⟨rfl, rfl, trivial⟩ fun σ => ?_
                            refine gcond (b := _) rfl (fun hc80 => ?_) (fun hc80 => ?_)
                            · -- slot 80 t
                              replace hc80 := of_decide_eq_true hc80
                              have hD : ¬ ((x.thread ≠ 0 ∧ x.kind ≠ 2 ∧ x.kind ≠ 3) ∨ (x.line ≠ 0 ∧ x.kind ≠ 1) ∨ (isEmptyS x.text = false ∧ x.kind ≠ 1 ∧ x.kind ≠ 2) ∨ (0 < (pls x.hs).length ∧ x.kind ≠ 4)) := by simp only [List.length_map]; unfold isEmptyS; grind
                              refine gseq fun N53 hN53 => ?_
                              refine greg ?_
                              refine gop (y_assign (v := .int _ _) rfl) rfl rfl rfl ?_
                              refine gops_nil ?_
                              refine hN53 _ _ ?_
                              refine gfrom [(2, .int _ _)] ⟨rfl, trivial⟩ fun σ => ?_
                              refine gret fun w1 hM => ?_
                              refine ⟨_, res1 rfl (rt (v := .int _ _) rfl), ?_⟩
                              exact ⟨by rw [formC_3 (e := x.pl) (show 1 ≤ x.kind by omega) (show x.kind ≤ 4 by omega) hD (show x.user < 0 ∨ 7 < x.user by omega)], hM.low⟩
                            · -- slot 80 f
                              replace hc80 := of_decide_eq_false hc80
                              have hD : ¬ ((x.thread ≠ 0 ∧ x.kind ≠ 2 ∧ x.kind ≠ 3) ∨ (x.line ≠ 0 ∧ x.kind ≠ 1) ∨ (isEmptyS x.text = false ∧ x.kind ≠ 1 ∧ x.kind ≠ 2) ∨ (0 < (pls x.hs).length ∧ x.kind ≠ 4)) := by simp only [List.length_map]; unfold isEmptyS; grind
                              have hL := formC_l (e := x.pl) (show 1 ≤ x.kind by omega) (show x.kind ≤ 4 by omega) hD (show ¬ (x.user < 0 ∨ 7 < x.user) by omega)
                              refine gskip ?_
                              refine hN51 _ _ ?_
                              refine gfrom [(1, .pointer _)] ⟨rfl, trivial⟩ fun σ => ?_
                              refine gseq fun N54 hN54 => ?_
                              refine gseq fun N55 hN55 => ?_
                              refine greg ?_
                              refine gop (y_fieldAddr_box fa66_0 rfl) rfl rfl rfl ?_
                              refine gop (y_load Try.isAgg3 rfl (cell_box 0 rfl rfl)) rfl rfl rfl ?_
                              refine gop (y_lss rfl rfl) rfl rfl rfl ?_
                              refine gops_nil ?_
                              refine hN55 _ _ ?_
                              refine gfrom [(1, .pointer _), (83, .bool _)] ⟨rfl, rfl, trivial⟩ fun σ => ?_
                              refine gcond (b := _) rfl (fun hc83 => ?_) (fun hc83 => ?_)
                              · -- slot 83 t
                                replace hc83 := of_decide_eq_true hc83
                                rw [if_pos (show x.pl.kind < 3 from hc83)] at hL
                                refine gseq fun N56 hN56 => ?_
                                refine greg ?_
                                refine gop (y_fieldAddr_box fa66_4 rfl) rfl rfl rfl ?_
                                refine gop (y_load Try.isAgg9 rfl (cell_box 0 rfl rfl)) rfl rfl rfl ?_
                                refine gop_pure (e_call (vs := [.string _]) Try.func56 rfl (by kernel_rfl) rfl) (fun w hM => lineCode_any w _) rfl rfl rfl ?_
                                refine gop (y_assign (v := .int _ _) rfl) rfl rfl rfl ?_
                                refine gops_nil ?_
                                refine hN56 _ _ ?_
                                refine gfrom [(2, .int _ _)] ⟨rfl, trivial⟩ fun σ => ?_
                                refine gret fun w1 hM => ?_
                                refine ⟨_, res1 rfl (rt (v := .int _ _) rfl), ?_⟩
                                exact ⟨by rw [hL], hM.low⟩
                              · -- slot 83 f
                                replace hc83 := of_decide_eq_false hc83
                                rw [if_neg (show ¬ x.pl.kind < 3 from hc83)] at hL
                                refine gskip ?_
                                refine hN54 _ _ ?_
                                refine gfrom [] trivial fun σ => ?_
                                refine gseq fun N57 hN57 => ?_
                                refine greg ?_
                                refine gop (y_assign (v := .int _ _) rfl) rfl rfl rfl ?_
                                refine gops_nil ?_
                                refine hN57 _ _ ?_
                                refine gfrom [(2, .int _ _)] ⟨rfl, trivial⟩ fun σ => ?_
                                refine gret fun w1 hM => ?_
                                refine ⟨_, res1 rfl (rt (v := .int _ _) rfl), ?_⟩
                                exact ⟨by rw [hL], hM.low⟩
                          · -- guard 76 off
                            have hg76d := of_decide_eq_true hg76
                            refine gop_off rfl rfl rfl rfl hg76 rfl rfl ?_
                            refine gop_off rfl rfl rfl rfl hg76 rfl rfl ?_
                            refine gop (y_pick_t (v := .bool _) rfl hg76 rfl) rfl rfl rfl ?_
                            refine gops_nil ?_
                            refine hN52 _ _ ?_
                            refine gfrom [(1, .pointer _), (80, .bool _)] ⟨rfl, rfl, trivial⟩ fun σ => ?_
                            refine gcond (b := _) rfl (fun hc80 => ?_) (fun hc80 => ?_)
                            · -- slot 80 t
                              have hD : ¬ ((x.thread ≠ 0 ∧ x.kind ≠ 2 ∧ x.kind ≠ 3) ∨ (x.line ≠ 0 ∧ x.kind ≠ 1) ∨ (isEmptyS x.text = false ∧ x.kind ≠ 1 ∧ x.kind ≠ 2) ∨ (0 < (pls x.hs).length ∧ x.kind ≠ 4)) := by simp only [List.length_map]; unfold isEmptyS; grind
                              refine gseq fun N58 hN58 => ?_
                              refine greg ?_
                              refine gop (y_assign (v := .int _ _) rfl) rfl rfl rfl ?_
                              refine gops_nil ?_
                              refine hN58 _ _ ?_
                              refine gfrom [(2, .int _ _)] ⟨rfl, trivial⟩ fun σ => ?_
                              refine gret fun w1 hM => ?_
                              refine ⟨_, res1 rfl (rt (v := .int _ _) rfl), ?_⟩
                              exact ⟨by rw [formC_3 (e := x.pl) (show 1 ≤ x.kind by omega) (show x.kind ≤ 4 by omega) hD (show x.user < 0 ∨ 7 < x.user by omega)], hM.low⟩
                            · -- slot 80 f
                              cases hc80
              · -- guard 35 off
                have hg35d := of_decide_eq_true hg35
                refine gop_on rfl rfl rfl rfl hg31 ?_
                refine gop (y_bare (y_pick_t (v := .bool _) rfl hg35 rfl)) rfl rfl rfl ?_
                refine gop (y_pick_t (v := .bool _) rfl hg31 rfl) rfl rfl rfl ?_
                refine gops_nil ?_
                refine hN10 _ _ ?_
                refine gfrom [(1, .pointer _), (3, .bool _), (38, .bool _)] ⟨rfl, rfl, rfl, trivial⟩ fun σ => ?_
                refine gcond (b := _) rfl (fun hc38 => ?_) (fun hc38 => ?_)
                · -- slot 38 t
                  refine gseq fun N59 hN59 => ?_
                  refine greg ?_
                  refine gop (y_assign (v := .int _ _) rfl) rfl rfl rfl ?_
                  refine gops_nil ?_
                  refine hN59 _ _ ?_
                  refine gfrom [(2, .int _ _)] ⟨rfl, trivial⟩ fun σ => ?_
                  refine gret fun w1 hM => ?_
                  refine ⟨_, res1 rfl (rt (v := .int _ _) rfl), ?_⟩
                  exact ⟨by rw [formC_5 (e := x.pl) (show 1 ≤ x.kind by omega) (show x.kind ≤ 4 by omega) (show (x.thread ≠ 0 ∧ x.kind ≠ 2 ∧ x.kind ≠ 3) ∨ (x.line ≠ 0 ∧ x.kind ≠ 1) ∨ (isEmptyS x.text = false ∧ x.kind ≠ 1 ∧ x.kind ≠ 2) ∨ (0 < (pls x.hs).length ∧ x.kind ≠ 4) from by simp only [List.length_map]; grind)], hM.low⟩
                · -- slot 38 f
                  cases hc38
            · -- guard 31 off
              have hg31d := of_decide_eq_false hg31
              refine gop_off rfl rfl rfl rfl hg31 rfl rfl ?_
              refine gop_off rfl rfl rfl rfl hg31 rfl rfl ?_
              refine gop_off rfl rfl rfl rfl hg31 rfl rfl ?_
              refine gop_offu rfl rfl rfl rfl rfl rfl ?_
              refine gop_off rfl rfl rfl rfl hg31 rfl rfl ?_
              refine gop (y_pick_f (v := .bool _) rfl hg31 rfl) rfl rfl rfl ?_
              refine gops_nil ?_
              refine hN10 _ _ ?_
              refine gfrom [(1, .pointer _), (3, .bool _), (38, .bool _)] ⟨rfl, rfl, rfl, trivial⟩ fun σ => ?_
              refine gcond (b := _) rfl (fun hc38 => ?_) (fun hc38 => ?_)
              · -- slot 38 t
                cases hc38
              · -- slot 38 f
                refine gskip ?_
                refine hN9 _ _ ?_
                refine gfrom [(1, .pointer _), (3, .bool _)] ⟨rfl, rfl, trivial⟩ fun σ => ?_
                refine gseq fun N60 hN60 => ?_
                refine gseq fun N61 hN61 => ?_
                refine greg ?_
                refine gop (y_fieldAddr_box fa66_0 rfl) rfl rfl rfl ?_
                refine gop (y_load Try.isAgg3 rfl (cell_box 0 rfl rfl)) rfl rfl rfl ?_
                refine gop (y_eql rfl rfl) rfl rfl rfl ?_
                refine gop (y_move (v := .bool _) rfl) rfl rfl rfl ?_
                refine gop_if (want := true) rfl rfl rfl rfl rfl rfl (fun hg42 => ?_) (fun hg42 => ?_)
                · -- guard 42 on
                  have hg42d := of_decide_eq_true hg42
                  refine gop (y_bare (y_fieldAddr_box fa66_3 rfl)) rfl rfl rfl ?_
                  refine gop_on rfl rfl rfl rfl hg42 ?_
                  refine gop (y_bare (y_load Try.isAgg3 rfl (cell_box 0 rfl rfl))) rfl rfl rfl ?_
                  refine gop_on rfl rfl rfl rfl hg42 ?_
                  refine gop (y_bare (y_neq rfl rfl)) rfl rfl rfl ?_
                  refine gop_on rfl rfl rfl rfl hg42 ?_
                  refine gop (y_bare (y_move (v := .bool _) rfl)) rfl rfl rfl ?_
                  refine gop_if (want := false) rfl rfl rfl rfl rfl rfl (fun hg46 => ?_) (fun hg46 => ?_)
                  · -- guard 46 on
                    have hg46d := Decidable.not_not.1 (of_decide_eq_false hg46)
                    refine gop (y_bare (y_fieldAddr_box fa66_4 rfl)) rfl rfl rfl ?_
                    refine gop_on rfl rfl rfl rfl hg46 ?_
                    refine gop (y_bare (y_load Try.isAgg9 rfl (cell_box 0 rfl rfl))) rfl rfl rfl ?_
                    refine gop_on rfl rfl rfl rfl hg46 ?_
                    refine gop (y_bare (y_neqs rfl rfl)) rfl rfl rfl ?_
                    refine gop_on rfl rfl rfl rfl hg42 ?_
                    refine gop (y_bare (y_pick_f (v := .bool _) rfl hg46 rfl)) rfl rfl rfl ?_
                    refine gop_on rfl rfl rfl rfl hg42 ?_
                    refine gop (y_bare (y_move (v := .bool _) rfl)) rfl rfl rfl ?_
                    refine gop_if (want := false) rfl rfl rfl rfl rfl rfl (fun hg51 => ?_) (fun hg51 => ?_)
                    · -- guard 51 on
                      have hg51d := hg51
                      refine gop (y_bare (y_move (v := .bool _) rfl)) rfl rfl rfl ?_
                      refine gop_on rfl rfl rfl rfl hg42 ?_
                      refine gop (y_bare (y_pick_f (v := .bool _) rfl hg51 rfl)) rfl rfl rfl ?_
                      refine gop (y_pick_t (v := .bool _) rfl hg42 rfl) rfl rfl rfl ?_
                      refine gops_nil ?_
                      refine hN61 _ _ ?_
                      refine gfrom [(1, .pointer _), (54, .bool _)] ⟨rfl, rfl, trivial⟩ fun σ => ?_
                      refine gcond (b := _) rfl (fun hc54 => ?_) (fun hc54 => ?_)
                      · -- slot 54 t
                        replace hc54 := of_decide_eq_true hc54
                        refine gseq fun N62 hN62 => ?_
                        refine greg ?_
                        refine gop (y_assign (v := .int _ _) rfl) rfl rfl rfl ?_
                        refine gops_nil ?_
                        refine hN62 _ _ ?_
                        refine gfrom [(2, .int _ _)] ⟨rfl, trivial⟩ fun σ => ?_
                        refine gret fun w1 hM => ?_
                        refine ⟨_, res1 rfl (rt (v := .int _ _) rfl), ?_⟩
                        exact ⟨by rw [formC_5 (e := x.pl) (show 1 ≤ x.kind by omega) (show x.kind ≤ 4 by omega) (show (x.thread ≠ 0 ∧ x.kind ≠ 2 ∧ x.kind ≠ 3) ∨ (x.line ≠ 0 ∧ x.kind ≠ 1) ∨ (isEmptyS x.text = false ∧ x.kind ≠ 1 ∧ x.kind ≠ 2) ∨ (0 < (pls x.hs).length ∧ x.kind ≠ 4) from by simp only [List.length_map]; unfold isEmptyS; grind)], hM.low⟩
                      · -- slot 54 f
                        replace hc54 := of_decide_eq_false hc54
                        refine gskip ?_
                        refine hN60 _ _ ?_
                        refine gfrom [(1, .pointer _)] ⟨rfl, trivial⟩ fun σ => ?_
                        refine gseq fun N63 hN63 => ?_
                        refine gseq fun N64 hN64 => ?_
                        refine greg ?_
                        refine gop (y_fieldAddr_box fa66_0 rfl) rfl rfl rfl ?_
                        refine gop (y_load Try.isAgg3 rfl (cell_box 0 rfl rfl)) rfl rfl rfl ?_
                        refine gop (y_eql rfl rfl) rfl rfl rfl ?_
                        refine gop (y_move (v := .bool _) rfl) rfl rfl rfl ?_
                        refine gop_if (want := true) rfl rfl rfl rfl rfl rfl (fun hg58 => ?_) (fun hg58 => ?_)
                        · -- guard 58 on
                          have hg58d := of_decide_eq_true hg58
                          refine gop (y_bare (y_fieldAddr_box fa66_3 rfl)) rfl rfl rfl ?_
                          refine gop_on rfl rfl rfl rfl hg58 ?_
                          refine gop (y_bare (y_load Try.isAgg3 rfl (cell_box 0 rfl rfl))) rfl rfl rfl ?_
                          refine gop_on rfl rfl rfl rfl hg58 ?_
                          refine gop (y_bare (y_neq rfl rfl)) rfl rfl rfl ?_
                          refine gop_on rfl rfl rfl rfl hg58 ?_
                          refine gop (y_bare (y_move (v := .bool _) rfl)) rfl rfl rfl ?_
                          refine gop_if (want := false) rfl rfl rfl rfl rfl rfl (fun hg62 => ?_) (fun hg62 => ?_)
                          · -- guard 62 on
                            have hg62d := Decidable.not_not.1 (of_decide_eq_false hg62)
                            refine gop (y_bare (y_fieldAddr_box fa66_4 rfl)) rfl rfl rfl ?_
                            refine gop_on rfl rfl rfl rfl hg62 ?_
                            refine gop (y_bare (y_load Try.isAgg9 rfl (cell_box 0 rfl rfl))) rfl rfl rfl ?_
                            refine gop_on rfl rfl rfl rfl hg62 ?_
                            refine gop (y_bare (y_neqs rfl rfl)) rfl rfl rfl ?_
                            refine gop_on rfl rfl rfl rfl hg58 ?_
                            refine gop (y_bare (y_pick_f (v := .bool _) rfl hg62 rfl)) rfl rfl rfl ?_
                            refine gop_on rfl rfl rfl rfl hg58 ?_
                            refine gop (y_bare (y_move (v := .bool _) rfl)) rfl rfl rfl ?_
                            refine gop_if (want := false) rfl rfl rfl rfl rfl rfl (fun hg67 => ?_) (fun hg67 => ?_)
                            · -- guard 67 on
                              have hg67d := hg67
                              refine gop (y_bare (y_fieldAddr_box fa66_2 rfl)) rfl rfl rfl ?_
                              refine gop_on rfl rfl rfl rfl hg67 ?_
                              refine gop (y_bare (y_load Try.isAgg3 rfl (cell_box 0 rfl rfl))) rfl rfl rfl ?_
                              refine gop_on rfl rfl rfl rfl hg67 ?_
                              refine gop (y_bare (y_neq rfl rfl)) rfl rfl rfl ?_
                              refine gop_on rfl rfl rfl rfl hg58 ?_
                              refine gop (y_bare (y_pick_f (v := .bool _) rfl hg67 rfl)) rfl rfl rfl ?_
                              refine gop (y_pick_t (v := .bool _) rfl hg58 rfl) rfl rfl rfl ?_
                              refine gops_nil ?_
                              refine hN64 _ _ ?_
                              refine gfrom [(1, .pointer _), (72, .bool _)] ⟨rfl, rfl, trivial⟩ fun σ => ?_
                              refine gcond (b := _) rfl (fun hc72 => ?_) (fun hc72 => ?_)
                              · -- slot 72 t
                                replace hc72 := of_decide_eq_true hc72
                                refine gseq fun N65 hN65 => ?_
                                refine greg ?_
                                refine gop (y_assign (v := .int _ _) rfl) rfl rfl rfl ?_
                                refine gops_nil ?_
                                refine hN65 _ _ ?_
                                refine gfrom [(2, .int _ _)] ⟨rfl, trivial⟩ fun σ => ?_
                                refine gret fun w1 hM => ?_
                                refine ⟨_, res1 rfl (rt (v := .int _ _) rfl), ?_⟩
                                exact ⟨by rw [formC_5 (e := x.pl) (show 1 ≤ x.kind by omega) (show x.kind ≤ 4 by omega) (show (x.thread ≠ 0 ∧ x.kind ≠ 2 ∧ x.kind ≠ 3) ∨ (x.line ≠ 0 ∧ x.kind ≠ 1) ∨ (isEmptyS x.text = false ∧ x.kind ≠ 1 ∧ x.kind ≠ 2) ∨ (0 < (pls x.hs).length ∧ x.kind ≠ 4) from by simp only [List.length_map]; unfold isEmptyS; grind)], hM.low⟩
                              · -- slot 72 f
                                replace hc72 := Decidable.not_not.1 (of_decide_eq_false hc72)
                                refine gskip ?_
                                refine hN63 _ _ ?_
                                refine gfrom [(1, .pointer _)] ⟨rfl, trivial⟩ fun σ => ?_
                                refine gseq fun N66 hN66 => ?_
                                refine gseq fun N67 hN67 => ?_
                                refine greg ?_
                                refine gop (y_fieldAddr_box fa66_1 rfl) rfl rfl rfl ?_
                                refine gop (y_load Try.isAgg3 rfl (cell_box 0 rfl rfl)) rfl rfl rfl ?_
                                refine gop (y_lss rfl rfl) rfl rfl rfl ?_
                                refine gop (y_move (v := .bool _) rfl) rfl rfl rfl ?_
                                refine gop_if (want := false) rfl rfl rfl rfl rfl rfl (fun hg76 => ?_) (fun hg76 => ?_)
                                · -- guard 76 on
                                  have hg76d := of_decide_eq_false hg76
                                  refine gop (y_bare (y_fieldAddr_box fa66_1 rfl)) rfl rfl rfl ?_
                                  refine gop_on rfl rfl rfl rfl hg76 ?_
                                  refine gop (y_bare (y_load Try.isAgg3 rfl (cell_box 0 rfl rfl))) rfl rfl rfl ?_
                                  refine gop_on rfl rfl rfl rfl hg76 ?_
                                  refine gop (y_bare (y_gtr rfl rfl)) rfl rfl rfl ?_
                                  refine gop (y_pick_f (v := .bool _) rfl hg76 rfl) rfl rfl rfl ?_
                                  refine gops_nil ?_
                                  refine hN67 _ _ ?_
                                  refine gfrom [(1, .pointer _), (80, .bool _)] ⟨rfl, rfl, trivial⟩ fun σ => ?_
                                  refine gcond (b := _) rfl (fun hc80 => ?_) (fun hc80 => ?_)
                                  · -- slot 80 t
                                    replace hc80 := of_decide_eq_true hc80
                                    have hD : ¬ ((x.thread ≠ 0 ∧ x.kind ≠ 2 ∧ x.kind ≠ 3) ∨ (x.line ≠ 0 ∧ x.kind ≠ 1) ∨ (isEmptyS x.text = false ∧ x.kind ≠ 1 ∧ x.kind ≠ 2) ∨ (0 < (pls x.hs).length ∧ x.kind ≠ 4)) := by simp only [List.length_map]; unfold isEmptyS; grind
                                    refine gseq fun N68 hN68 => ?_
                                    refine greg ?_
                                    refine gop (y_assign (v := .int _ _) rfl) rfl rfl rfl ?_
                                    refine gops_nil ?_
                                    refine hN68 _ _ ?_
                                    refine gfrom [(2, .int _ _)] ⟨rfl, trivial⟩ fun σ => ?_
                                    refine gret fun w1 hM => ?_
                                    refine ⟨_, res1 rfl (rt (v := .int _ _) rfl), ?_⟩
                                    exact ⟨by rw [formC_3 (e := x.pl) (show 1 ≤ x.kind by omega) (show x.kind ≤ 4 by omega) hD (show x.user < 0 ∨ 7 < x.user by omega)], hM.low⟩
                                  · -- slot 80 f
                                    replace hc80 := of_decide_eq_false hc80
                                    have hD : ¬ ((x.thread ≠ 0 ∧ x.kind ≠ 2 ∧ x.kind ≠ 3) ∨ (x.line ≠ 0 ∧ x.kind ≠ 1) ∨ (isEmptyS x.text = false ∧ x.kind ≠ 1 ∧ x.kind ≠ 2) ∨ (0 < (pls x.hs).length ∧ x.kind ≠ 4)) := by simp only [List.length_map]; unfold isEmptyS; grind
                                    have hL := formC_l (e := x.pl) (show 1 ≤ x.kind by omega) (show x.kind ≤ 4 by omega) hD (show ¬ (x.user < 0 ∨ 7 < x.user) by omega)
                                    refine gskip ?_
                                    refine hN66 _ _ ?_
                                    refine gfrom [(1, .pointer _)] ⟨rfl, trivial⟩ fun σ => ?_
                                    refine gseq fun N69 hN69 => ?_
                                    refine gseq fun N70 hN70 => ?_
                                    refine greg ?_
                                    refine gop (y_fieldAddr_box fa66_0 rfl) rfl rfl rfl ?_
                                    refine gop (y_load Try.isAgg3 rfl (cell_box 0 rfl rfl)) rfl rfl rfl ?_
                                    refine gop (y_lss rfl rfl) rfl rfl rfl ?_
                                    refine gops_nil ?_
                                    refine hN70 _ _ ?_
                                    refine gfrom [(1, .pointer _), (83, .bool _)] ⟨rfl, rfl, trivial⟩ fun σ => ?_
                                    refine gcond (b := _) rfl (fun hc83 => ?_) (fun hc83 => ?_)
                                    · -- slot 83 t
                                      replace hc83 := of_decide_eq_true hc83
                                      rw [if_pos (show x.pl.kind < 3 from hc83)] at hL
                                      refine gseq fun N71 hN71 => ?_
                                      refine greg ?_
                                      refine gop (y_fieldAddr_box fa66_4 rfl) rfl rfl rfl ?_
                                      refine gop (y_load Try.isAgg9 rfl (cell_box 0 rfl rfl)) rfl rfl rfl ?_
                                      refine gop_pure (e_call (vs := [.string _]) Try.func56 rfl (by kernel_rfl) rfl) (fun w hM => lineCode_any w _) rfl rfl rfl ?_
                                      refine gop (y_assign (v := .int _ _) rfl) rfl rfl rfl ?_
                                      refine gops_nil ?_
                                      refine hN71 _ _ ?_
                                      refine gfrom [(2, .int _ _)] ⟨rfl, trivial⟩ fun σ => ?_
                                      refine gret fun w1 hM => ?_
                                      refine ⟨_, res1 rfl (rt (v := .int _ _) rfl), ?_⟩
                                      exact ⟨by rw [hL], hM.low⟩
                                    · -- slot 83 f
                                      replace hc83 := of_decide_eq_false hc83
                                      rw [if_neg (show ¬ x.pl.kind < 3 from hc83)] at hL
                                      refine gskip ?_
                                      refine hN69 _ _ ?_
                                      refine gfrom [] trivial fun σ => ?_
                                      refine gseq fun N72 hN72 => ?_
                                      refine greg ?_
                                      refine gop (y_assign (v := .int _ _) rfl) rfl rfl rfl ?_
                                      refine gops_nil ?_
                                      refine hN72 _ _ ?_
                                      refine gfrom [(2, .int _ _)] ⟨rfl, trivial⟩ fun σ => ?_
                                      refine gret fun w1 hM => ?_
                                      refine ⟨_, res1 rfl (rt (v := .int _ _) rfl), ?_⟩
                                      exact ⟨by rw [hL], hM.low⟩
                                · -- guard 76 off
                                  have hg76d := of_decide_eq_true hg76
                                  refine gop_off rfl rfl rfl rfl hg76 rfl rfl ?_
                                  refine gop_off rfl rfl rfl rfl hg76 rfl rfl ?_
                                  refine gop (y_pick_t (v := .bool _) rfl hg76 rfl) rfl rfl rfl ?_
                                  refine gops_nil ?_
                                  refine hN67 _ _ ?_
                                  refine gfrom [(1, .pointer _), (80, .bool _)] ⟨rfl, rfl, trivial⟩ fun σ => ?_
                                  refine gcond (b := _) rfl (fun hc80 => ?_) (fun hc80 => ?_)
                                  · -- slot 80 t
                                    have hD : ¬ ((x.thread ≠ 0 ∧ x.kind ≠ 2 ∧ x.kind ≠ 3) ∨ (x.line ≠ 0 ∧ x.kind ≠ 1) ∨ (isEmptyS x.text = false ∧ x.kind ≠ 1 ∧ x.kind ≠ 2) ∨ (0 < (pls x.hs).length ∧ x.kind ≠ 4)) := by simp only [List.length_map]; unfold isEmptyS; grind
                                    refine gseq fun N73 hN73 => ?_
                                    refine greg ?_
                                    refine gop (y_assign (v := .int _ _) rfl) rfl rfl rfl ?_
                                    refine gops_nil ?_
                                    refine hN73 _ _ ?_
                                    refine gfrom [(2, .int _ _)] ⟨rfl, trivial⟩ fun σ => ?_
                                    refine gret fun w1 hM => ?_
                                    refine ⟨_, res1 rfl (rt (v := .int _ _) rfl), ?_⟩
                                    exact ⟨by rw [formC_3 (e := x.pl) (show 1 ≤ x.kind by omega) (show x.kind ≤ 4 by omega) hD (show x.user < 0 ∨ 7 < x.user by omega)], hM.low⟩
                                  · -- slot 80 f
                                    cases hc80
                            · -- guard 67 off
                              have hg67d := hg67
                              refine gop_off rfl rfl rfl rfl hg67 rfl rfl ?_
                              refine gop_off rfl rfl rfl rfl hg67 rfl rfl ?_
                              refine gop_on rfl rfl rfl rfl hg58 ?_
                              refine gop (y_bare (y_pick_t (v := .bool _) rfl hg67 rfl)) rfl rfl rfl ?_
                              refine gop (y_pick_t (v := .bool _) rfl hg58 rfl) rfl rfl rfl ?_
                              refine gops_nil ?_
                              refine hN64 _ _ ?_
                              refine gfrom [(1, .pointer _), (72, .bool _)] ⟨rfl, rfl, trivial⟩ fun σ => ?_
                              refine gcond (b := _) rfl (fun hc72 => ?_) (fun hc72 => ?_)
                              · -- slot 72 t
                                refine gseq fun N74 hN74 => ?_
                                refine greg ?_
                                refine gop (y_assign (v := .int _ _) rfl) rfl rfl rfl ?_
                                refine gops_nil ?_
                                refine hN74 _ _ ?_
                                refine gfrom [(2, .int _ _)] ⟨rfl, trivial⟩ fun σ => ?_
                                refine gret fun w1 hM => ?_
                                refine ⟨_, res1 rfl (rt (v := .int _ _) rfl), ?_⟩
                                exact ⟨by rw [formC_5 (e := x.pl) (show 1 ≤ x.kind by omega) (show x.kind ≤ 4 by omega) (show (x.thread ≠ 0 ∧ x.kind ≠ 2 ∧ x.kind ≠ 3) ∨ (x.line ≠ 0 ∧ x.kind ≠ 1) ∨ (isEmptyS x.text = false ∧ x.kind ≠ 1 ∧ x.kind ≠ 2) ∨ (0 < (pls x.hs).length ∧ x.kind ≠ 4) from by simp only [List.length_map]; unfold isEmptyS; grind)], hM.low⟩
                              · -- slot 72 f
                                cases hc72
                          · -- guard 62 off
                            have hg62d := of_decide_eq_true hg62
                            refine gop_off rfl rfl rfl rfl hg62 rfl rfl ?_
                            refine gop_off rfl rfl rfl rfl hg62 rfl rfl ?_
                            refine gop_on rfl rfl rfl rfl hg58 ?_
                            refine gop (y_bare (y_pick_t (v := .bool _) rfl hg62 rfl)) rfl rfl rfl ?_
                            refine gop_on rfl rfl rfl rfl hg58 ?_
                            refine gop (y_bare (y_move (v := .bool _) rfl)) rfl rfl rfl ?_
                            refine gop_off rfl rfl rfl rfl rfl rfl rfl ?_
                            refine gop_off rfl rfl rfl rfl rfl rfl rfl ?_
                            refine gop_off rfl rfl rfl rfl rfl rfl rfl ?_
                            refine gop_on rfl rfl rfl rfl hg58 ?_
                            refine gop (y_bare (y_pick_t (v := .bool _) rfl rfl rfl)) rfl rfl rfl ?_
                            refine gop (y_pick_t (v := .bool _) rfl hg58 rfl) rfl rfl rfl ?_
                            refine gops_nil ?_
                            refine hN64 _ _ ?_
                            refine gfrom [(1, .pointer _), (72, .bool _)] ⟨rfl, rfl, trivial⟩ fun σ => ?_
                            refine gcond (b := _) rfl (fun hc72 => ?_) (fun hc72 => ?_)
                            · -- slot 72 t
                              refine gseq fun N75 hN75 => ?_
                              refine greg ?_
                              refine gop (y_assign (v := .int _ _) rfl) rfl rfl rfl ?_
                              refine gops_nil ?_
                              refine hN75 _ _ ?_
                              refine gfrom [(2, .int _ _)] ⟨rfl, trivial⟩ fun σ => ?_
                              refine gret fun w1 hM => ?_
                              refine ⟨_, res1 rfl (rt (v := .int _ _) rfl), ?_⟩
                              exact ⟨by rw [formC_5 (e := x.pl) (show 1 ≤ x.kind by omega) (show x.kind ≤ 4 by omega) (show (x.thread ≠ 0 ∧ x.kind ≠ 2 ∧ x.kind ≠ 3) ∨ (x.line ≠ 0 ∧ x.kind ≠ 1) ∨ (isEmptyS x.text = false ∧ x.kind ≠ 1 ∧ x.kind ≠ 2) ∨ (0 < (pls x.hs).length ∧ x.kind ≠ 4) from by simp only [List.length_map]; unfold isEmptyS; grind)], hM.low⟩
                            · -- slot 72 f
                              cases hc72
                        · -- guard 58 off
                          have hg58d := of_decide_eq_false hg58
                          refine gop_off rfl rfl rfl rfl hg58 rfl rfl ?_
                          refine gop_off rfl rfl rfl rfl hg58 rfl rfl ?_
                          refine gop_off rfl rfl rfl rfl hg58 rfl rfl ?_
                          refine gop_offu rfl rfl rfl rfl rfl rfl ?_
                          refine gop_offu rfl rfl rfl rfl rfl rfl ?_
                          refine gop_offu rfl rfl rfl rfl rfl rfl ?_
                          refine gop_off rfl rfl rfl rfl hg58 rfl rfl ?_
                          refine gop_off rfl rfl rfl rfl hg58 rfl rfl ?_
                          refine gop_offu rfl rfl rfl rfl rfl rfl ?_
                          refine gop_offu rfl rfl rfl rfl rfl rfl ?_
                          refine gop_offu rfl rfl rfl rfl rfl rfl ?_
                          refine gop_off rfl rfl rfl rfl hg58 rfl rfl ?_
                          refine gop (y_pick_f (v := .bool _) rfl hg58 rfl) rfl rfl rfl ?_
                          refine gops_nil ?_
                          refine hN64 _ _ ?_
                          refine gfrom [(1, .pointer _), (72, .bool _)] ⟨rfl, rfl, trivial⟩ fun σ => ?_
                          refine gcond (b := _) rfl (fun hc72 => ?_) (fun hc72 => ?_)
                          · -- slot 72 t
                            cases hc72
                          · -- slot 72 f
                            refine gskip ?_
                            refine hN63 _ _ ?_
                            refine gfrom [(1, .pointer _)] ⟨rfl, trivial⟩ fun σ => ?_
                            refine gseq fun N76 hN76 => ?_
                            refine gseq fun N77 hN77 => ?_
                            refine greg ?_
                            refine gop (y_fieldAddr_box fa66_1 rfl) rfl rfl rfl ?_
                            refine gop (y_load Try.isAgg3 rfl (cell_box 0 rfl rfl)) rfl rfl rfl ?_
                            refine gop (y_lss rfl rfl) rfl rfl rfl ?_
                            refine gop (y_move (v := .bool _) rfl) rfl rfl rfl ?_
                            refine gop_if (want := false) rfl rfl rfl rfl rfl rfl (fun hg76 => ?_) (fun hg76 => ?_)
                            · -- guard 76 on
                              have hg76d := of_decide_eq_false hg76
                              refine gop (y_bare (y_fieldAddr_box fa66_1 rfl)) rfl rfl rfl ?_
                              refine gop_on rfl rfl rfl rfl hg76 ?_
                              refine gop (y_bare (y_load Try.isAgg3 rfl (cell_box 0 rfl rfl))) rfl rfl rfl ?_
                              refine gop_on rfl rfl rfl rfl hg76 ?_
                              refine gop (y_bare (y_gtr rfl rfl)) rfl rfl rfl ?_
                              refine gop (y_pick_f (v := .bool _) rfl hg76 rfl) rfl rfl rfl ?_
                              refine gops_nil ?_
                              refine hN77 _ _ ?_
                              refine gfrom [(1, .pointer _), (80, .bool _)] ⟨rfl, rfl, trivial⟩ fun σ => ?_
                              refine gcond (b := _) rfl (fun hc80 => ?_) (fun hc80 => ?_)
                              · -- slot 80 t
                                replace hc80 := of_decide_eq_true hc80
                                have hD : ¬ ((x.thread ≠ 0 ∧ x.kind ≠ 2 ∧ x.kind ≠ 3) ∨ (x.line ≠ 0 ∧ x.kind ≠ 1) ∨ (isEmptyS x.text = false ∧ x.kind ≠ 1 ∧ x.kind ≠ 2) ∨ (0 < (pls x.hs).length ∧ x.kind ≠ 4)) := by simp only [List.length_map]; unfold isEmptyS; grind
                                refine gseq fun N78 hN78 => ?_
                                refine greg ?_
                                refine gop (y_assign (v := .int _ _) rfl) rfl rfl rfl ?_
                                refine gops_nil ?_
                                refine hN78 _ _ ?_
                                refine gfrom [(2, .int _ _)] ⟨rfl, trivial⟩ fun σ => ?_
                                refine gret fun w1 hM => ?_
                                refine ⟨_, res1 rfl (rt (v := .int _ _) rfl), ?_⟩
                                exact ⟨by rw [formC_3 (e := x.pl) (show 1 ≤ x.kind by omega) (show x.kind ≤ 4 by omega) hD (show x.user < 0 ∨ 7 < x.user by omega)], hM.low⟩
                              · -- slot 80 f
                                replace hc80 := of_decide_eq_false hc80
                                have hD : ¬ ((x.thread ≠ 0 ∧ x.kind ≠ 2 ∧ x.kind ≠ 3) ∨ (x.line ≠ 0 ∧ x.kind ≠ 1) ∨ (isEmptyS x.text = false ∧ x.kind ≠ 1 ∧ x.kind ≠ 2) ∨ (0 < (pls x.hs).length ∧ x.kind ≠ 4)) := by simp only [List.length_map]; unfold isEmptyS; grind
                                have hL := formC_l (e := x.pl) (show 1 ≤ x.kind by omega) (show x.kind ≤ 4 by omega) hD (show ¬ (x.user < 0 ∨ 7 < x.user) by omega)
                                refine gskip ?_
                                refine hN76 _ _ ?_
                                refine gfrom [(1, .pointer _)] ⟨rfl, trivial⟩ fun σ => ?_
                                refine gseq fun N79 hN79 => ?_
                                refine gseq fun N80 hN80 => ?_
                                refine greg ?_
                                refine gop (y_fieldAddr_box fa66_0 rfl) rfl rfl rfl ?_
                                refine gop (y_load Try.isAgg3 rfl (cell_box 0 rfl rfl)) rfl rfl rfl ?_
                                refine gop (y_lss rfl rfl) rfl rfl rfl ?_
                                refine gops_nil ?_
                                refine hN80 _ _ ?_
                                refine gfrom [(1, .pointer _), (83, .bool _)] ⟨rfl, rfl, trivial⟩ fun σ => ?_
                                refine gcond (b := _) rfl (fun hc83 => ?_) (fun hc83 => ?_)
                                · -- slot 83 t
                                  replace hc83 := of_decide_eq_true hc83
                                  rw [if_pos (show x.pl.kind < 3 from hc83)] at hL
                                  refine gseq fun N81 hN81 => ?_
                                  refine greg ?_
                                  refine gop (y_fieldAddr_box fa66_4 rfl) rfl rfl rfl ?_
                                  refine gop (y_load Try.isAgg9 rfl (cell_box 0 rfl rfl)) rfl rfl rfl ?_
                                  refine gop_pure (e_call (vs := [.string _]) Try.func56 rfl (by kernel_rfl) rfl) (fun w hM => lineCode_any w _) rfl rfl rfl ?_
                                  refine gop (y_assign (v := .int _ _) rfl) rfl rfl rfl ?_
                                  refine gops_nil ?_
                                  refine hN81 _ _ ?_
                                  refine gfrom [(2, .int _ _)] ⟨rfl, trivial⟩ fun σ => ?_
                                  refine gret fun w1 hM => ?_
                                  refine ⟨_, res1 rfl (rt (v := .int _ _) rfl), ?_⟩
                                  exact ⟨by rw [hL], hM.low⟩
                                · -- slot 83 f
                                  replace hc83 := of_decide_eq_false hc83
                                  rw [if_neg (show ¬ x.pl.kind < 3 from hc83)] at hL
                                  refine gskip ?_
                                  refine hN79 _ _ ?_
                                  refine gfrom [] trivial fun σ => ?_
                                  refine gseq fun N82 hN82 => ?_
                                  refine greg ?_
                                  refine gop (y_assign (v := .int _ _) rfl) rfl rfl rfl ?_
                                  refine gops_nil ?_
                                  refine hN82 _ _ ?_
                                  refine gfrom [(2, .int _ _)] ⟨rfl, trivial⟩ fun σ => ?_
                                  refine gret fun w1 hM => ?_
                                  refine ⟨_, res1 rfl (rt (v := .int _ _) rfl), ?_⟩
                                  exact ⟨by rw [hL], hM.low⟩
                            · -- guard 76 off
                              have hg76d := of_decide_eq_true hg76
                              refine gop_off rfl rfl rfl rfl hg76 rfl rfl ?_
                              refine gop_off rfl rfl rfl rfl hg76 rfl rfl ?_
                              refine gop (y_pick_t (v := .bool _) rfl hg76 rfl) rfl rfl rfl ?_
                              refine gops_nil ?_
                              refine hN77 _ _ ?_
                              refine gfrom [(1, .pointer _), (80, .bool _)] ⟨rfl, rfl, trivial⟩ fun σ => ?_
                              refine gcond (b := _) rfl (fun hc80 => ?_) (fun hc80 => ?_)
                              · -- slot 80 t
                                have hD : ¬ ((x.thread ≠ 0 ∧ x.kind ≠ 2 ∧ x.kind ≠ 3) ∨ (x.line ≠ 0 ∧ x.kind ≠ 1) ∨ (isEmptyS x.text = false ∧ x.kind ≠ 1 ∧ x.kind ≠ 2) ∨ (0 < (pls x.hs).length ∧ x.kind ≠ 4)) := by simp only [List.length_map]; unfold isEmptyS; grind
                                refine gseq fun N83 hN83 => ?_
                                refine greg ?_
                                refine gop (y_assign (v := .int _ _) rfl) rfl rfl rfl ?_
                                refine gops_nil ?_
                                refine hN83 _ _ ?_
                                refine gfrom [(2, .int _ _)] ⟨rfl, trivial⟩ fun σ => ?_
                                refine gret fun w1 hM => ?_
                                refine ⟨_, res1 rfl (rt (v := .int _ _) rfl), ?_⟩
                                exact ⟨by rw [formC_3 (e := x.pl) (show 1 ≤ x.kind by omega) (show x.kind ≤ 4 by omega) hD (show x.user < 0 ∨ 7 < x.user by omega)], hM.low⟩
                              · -- slot 80 f
                                cases hc80
                    · -- guard 51 off
                      have hg51d := hg51
                      refine gop_on rfl rfl rfl rfl hg42 ?_
                      refine gop (y_bare (y_pick_t (v := .bool _) rfl hg51 rfl)) rfl rfl rfl ?_
                      refine gop (y_pick_t (v := .bool _) rfl hg42 rfl) rfl rfl rfl ?_
                      refine gops_nil ?_
                      refine hN61 _ _ ?_
                      refine gfrom [(1, .pointer _), (54, .bool _)] ⟨rfl, rfl, trivial⟩ fun σ => ?_
                      refine gcond (b := _) rfl (fun hc54 => ?_) (fun hc54 => ?_)
                      · -- slot 54 t
                        refine gseq fun N84 hN84 => ?_
                        refine greg ?_
                        refine gop (y_assign (v := .int _ _) rfl) rfl rfl rfl ?_
                        refine gops_nil ?_
                        refine hN84 _ _ ?_
                        refine gfrom [(2, .int _ _)] ⟨rfl, trivial⟩ fun σ => ?_
                        refine gret fun w1 hM => ?_
                        refine ⟨_, res1 rfl (rt (v := .int _ _) rfl), ?_⟩
                        exact ⟨by rw [formC_5 (e := x.pl) (show 1 ≤ x.kind by omega) (show x.kind ≤ 4 by omega) (show (x.thread ≠ 0 ∧ x.kind ≠ 2 ∧ x.kind ≠ 3) ∨ (x.line ≠ 0 ∧ x.kind ≠ 1) ∨ (isEmptyS x.text = false ∧ x.kind ≠ 1 ∧ x.kind ≠ 2) ∨ (0 < (pls x.hs).length ∧ x.kind ≠ 4) from by simp only [List.length_map]; unfold isEmptyS; grind)], hM.low⟩
                      · -- slot 54 f
                        cases hc54
                  · -- guard 46 off
                    have hg46d := of_decide_eq_true hg46
                    refine gop_off rfl rfl rfl rfl hg46 rfl rfl ?_
                    refine gop_off rfl rfl rfl rfl hg46 rfl rfl ?_
                    refine gop_on rfl rfl rfl rfl hg42 ?_
                    refine gop (y_bare (y_pick_t (v := .bool _) rfl hg46 rfl)) rfl rfl rfl ?_
                    refine gop_on rfl rfl rfl rfl hg42 ?_
                    refine gop (y_bare (y_move (v := .bool _) rfl)) rfl rfl rfl ?_
                    refine gop_off rfl rfl rfl rfl rfl rfl rfl ?_
                    refine gop_on rfl rfl rfl rfl hg42 ?_
                    refine gop (y_bare (y_pick_t (v := .bool _) rfl rfl rfl)) rfl rfl rfl ?_
                    refine gop (y_pick_t (v := .bool _) rfl hg42 rfl) rfl rfl rfl ?_
                    refine gops_nil ?_
                    refine hN61 _ _ ?_
                    refine gfrom [(1, .pointer _), (54, .bool _)] ⟨rfl, rfl, trivial⟩ fun σ => ?_
                    refine gcond (b := _) rfl (fun hc54 => ?_) (fun hc54 => ?_)
                    · -- slot 54 t
                      refine gseq fun N85 hN85 => ?_
                      refine greg ?_
                      refine gop (y_assign (v := .int _ _) rfl) rfl rfl rfl ?_
                      refine gops_nil ?_
                      refine hN85 _ _ ?_
                      refine gfrom [(2, .int _ _)] ⟨rfl, trivial⟩ fun σ => ?_
                      refine gret fun w1 hM => ?_
                      refine ⟨_, res1 rfl (rt (v := .int _ _) rfl), ?_⟩
                      exact ⟨by rw [formC_5 (e := x.pl) (show 1 ≤ x.kind by omega) (show x.kind ≤ 4 by omega) (show (x.thread ≠ 0 ∧ x.kind ≠ 2 ∧ x.kind ≠ 3) ∨ (x.line ≠ 0 ∧ x.kind ≠ 1) ∨ (isEmptyS x.text = false ∧ x.kind ≠ 1 ∧ x.kind ≠ 2) ∨ (0 < (pls x.hs).length ∧ x.kind ≠ 4) from by simp only [List.length_map]; unfold isEmptyS; grind)], hM.low⟩
                    · -- slot 54 f
                      cases hc54
                · -- guard 42 off
                  have hg42d := of_decide_eq_false hg42
                  refine gop_off rfl rfl rfl rfl hg42 rfl rfl ?_
                  refine gop_off rfl rfl rfl rfl hg42 rfl rfl ?_
                  refine gop_off rfl rfl rfl rfl hg42 rfl rfl ?_
                  refine gop_offu rfl rfl rfl rfl rfl rfl ?_
                  refine gop_offu rfl rfl rfl rfl rfl rfl ?_
                  refine gop_offu rfl rfl rfl rfl rfl rfl ?_
                  refine gop_off rfl rfl rfl rfl hg42 rfl rfl ?_
                  refine gop_off rfl rfl rfl rfl hg42 rfl rfl ?_
                  refine gop_offu rfl rfl rfl rfl rfl rfl ?_
                  refine gop_off rfl rfl rfl rfl hg42 rfl rfl ?_
                  refine gop (y_pick_f (v := .bool _) rfl hg42 rfl) rfl rfl rfl ?_
                  refine gops_nil ?_
                  refine hN61 _ _ ?_
                  refine gfrom [(1, .pointer _), (54, .bool _)] ⟨rfl, rfl, trivial⟩ fun σ => ?_
                  refine gcond (b := _) rfl (fun hc54 => ?_) (fun hc54 => ?_)
                  · -- slot 54 t
                    cases hc54
                  · -- slot 54 f
                    refine gskip ?_
                    refine hN60 _ _ ?_
                    refine gfrom [(1, .pointer _)] ⟨rfl, trivial⟩ fun σ => ?_
                    refine gseq fun N86 hN86 => ?_
                    refine gseq fun N87 hN87 => ?_
                    refine greg ?_
                    refine gop (y_fieldAddr_box fa66_0 rfl) rfl rfl rfl ?_
                    refine gop (y_load Try.isAgg3 rfl (cell_box 0 rfl rfl)) rfl rfl rfl ?_
                    refine gop (y_eql rfl rfl) rfl rfl rfl ?_
                    refine gop (y_move (v := .bool _) rfl) rfl rfl rfl ?_
                    refine gop_if (want := true) rfl rfl rfl rfl rfl rfl (fun hg58 => ?_) (fun hg58 => ?_)
                    · -- guard 58 on
                      have hg58d := of_decide_eq_true hg58
                      refine gop (y_bare (y_fieldAddr_box fa66_3 rfl)) rfl rfl rfl ?_
                      refine gop_on rfl rfl rfl rfl hg58 ?_
                      refine gop (y_bare (y_load Try.isAgg3 rfl (cell_box 0 rfl rfl))) rfl rfl rfl ?_
                      refine gop_on rfl rfl rfl rfl hg58 ?_
                      refine gop (y_bare (y_neq rfl rfl)) rfl rfl rfl ?_
                      refine gop_on rfl rfl rfl rfl hg58 ?_
                      refine gop (y_bare (y_move (v := .bool _) rfl)) rfl rfl rfl ?_
                      refine gop_if (want := false) rfl rfl rfl rfl rfl rfl (fun hg62 => ?_) (fun hg62 => ?_)
                      · -- guard 62 on
                        have hg62d := Decidable.not_not.1 (of_decide_eq_false hg62)
                        refine gop (y_bare (y_fieldAddr_box fa66_4 rfl)) rfl rfl rfl ?_
                        refine gop_on rfl rfl rfl rfl hg62 ?_
                        refine gop (y_bare (y_load Try.isAgg9 rfl (cell_box 0 rfl rfl))) rfl rfl rfl ?_
                        refine gop_on rfl rfl rfl rfl hg62 ?_
                        refine gop (y_bare (y_neqs rfl rfl)) rfl rfl rfl ?_
                        refine gop_on rfl rfl rfl rfl hg58 ?_
                        refine gop (y_bare (y_pick_f (v := .bool _) rfl hg62 rfl)) rfl rfl rfl ?_
                        refine gop_on rfl rfl rfl rfl hg58 ?_
                        refine gop (y_bare (y_move (v := .bool _) rfl)) rfl rfl rfl ?_
                        refine gop_if (want := false) rfl rfl rfl rfl rfl rfl (fun hg67 => ?_) (fun hg67 => ?_)
                        · -- guard 67 on
                          have hg67d := hg67
                          refine gop (y_bare (y_fieldAddr_box fa66_2 rfl)) rfl rfl rfl ?_
                          refine gop_on rfl rfl rfl rfl hg67 ?_
                          refine gop (y_bare (y_load Try.isAgg3 rfl (cell_box 0 rfl rfl))) rfl rfl rfl ?_
                          refine gop_on rfl rfl rfl rfl hg67 ?_
                          refine gop (y_bare (y_neq rfl rfl)) rfl rfl rfl ?_
                          refine gop_on rfl rfl rfl rfl hg58 ?_
                          refine gop (y_bare (y_pick_f (v := .bool _) rfl hg67 rfl)) rfl rfl rfl ?_
                          refine gop (y_pick_t (v := .bool _) rfl hg58 rfl) rfl rfl rfl ?_
                          refine gops_nil ?_
                          refine hN87 _ _ ?_
                          refine gfrom [(1, .pointer _), (72, .bool _)] ⟨rfl, rfl, trivial⟩ fun σ => ?_
                          refine gcond (b := _) rfl (fun hc72 => ?_) (fun hc72 => ?_)
                          · -- slot 72 t
                            replace hc72 := of_decide_eq_true hc72
                            refine gseq fun N88 hN88 => ?_
                            refine greg ?_
                            refine gop (y_assign (v := .int _ _) rfl) rfl rfl rfl ?_
                            refine gops_nil ?_
                            refine hN88 _ _ ?_
                            refine gfrom [(2, .int _ _)] ⟨rfl, trivial⟩ fun σ => ?_
                            refine gret fun w1 hM => ?_
                            refine ⟨_, res1 rfl (rt (v := .int _ _) rfl), ?_⟩
                            exact ⟨by rw [formC_5 (e := x.pl) (show 1 ≤ x.kind by omega) (show x.kind ≤ 4 by omega) (show (x.thread ≠ 0 ∧ x.kind ≠ 2 ∧ x.kind ≠ 3) ∨ (x.line ≠ 0 ∧ x.kind ≠ 1) ∨ (isEmptyS x.text = false ∧ x.kind ≠ 1 ∧ x.kind ≠ 2) ∨ (0 < (pls x.hs).length ∧ x.kind ≠ 4) from by simp only [List.length_map]; unfold isEmptyS; grind)], hM.low⟩
                          · -- slot 72 f
                            replace hc72 := Decidable.not_not.1 (of_decide_eq_false hc72)
                            refine gskip ?_
                            refine hN86 _ _ ?_
                            refine gfrom [(1, .pointer _)] ⟨rfl, trivial⟩ fun σ => ?_
                            refine gseq fun N89 hN89 => ?_
                            refine gseq fun N90 hN90 => ?_
                            refine greg ?_
                            refine gop (y_fieldAddr_box fa66_1 rfl) rfl rfl rfl ?_
                            refine gop (y_load Try.isAgg3 rfl (cell_box 0 rfl rfl)) rfl rfl rfl ?_
                            refine gop (y_lss rfl rfl) rfl rfl rfl ?_
                            refine gop (y_move (v := .bool _) rfl) rfl rfl rfl ?_
                            refine gop_if (want := false) rfl rfl rfl rfl rfl rfl (fun hg76 => ?_) (fun hg76 => ?_)
                            · -- guard 76 on
                              have hg76d := of_decide_eq_false hg76
                              refine gop (y_bare (y_fieldAddr_box fa66_1 rfl)) rfl rfl rfl ?_
                              refine gop_on rfl rfl rfl rfl hg76 ?_
                              refine gop (y_bare (y_load Try.isAgg3 rfl (cell_box 0 rfl rfl))) rfl rfl rfl ?_
                              refine gop_on rfl rfl rfl rfl hg76 ?_
                              refine gop (y_bare (y_gtr rfl rfl)) rfl rfl rfl ?_
                              refine gop (y_pick_f (v := .bool _) rfl hg76 rfl) rfl rfl rfl ?_
                              refine gops_nil ?_
                              refine hN90 _ _ ?_
                              refine gfrom [(1, .pointer _), (80, .bool _)] ⟨rfl, rfl, trivial⟩ fun σ => ?_
                              refine gcond (b := _) rfl (fun hc80 => ?_) (fun hc80 => ?_)
                              · -- slot 80 t
                                replace hc80 := of_decide_eq_true hc80
                                have hD : ¬ ((x.thread ≠ 0 ∧ x.kind ≠ 2 ∧ x.kind ≠ 3) ∨ (x.line ≠ 0 ∧ x.kind ≠ 1) ∨ (isEmptyS x.text = false ∧ x.kind ≠ 1 ∧ x.kind ≠ 2) ∨ (0 < (pls x.hs).length ∧ x.kind ≠ 4)) := by simp only [List.length_map]; unfold isEmptyS; grind
                                refine gseq fun N91 hN91 => ?_
                                refine greg ?_
                                refine gop (y_assign (v := .int _ _) rfl) rfl rfl rfl ?_
                                refine gops_nil ?_
                                refine hN91 _ _ ?_
                                refine gfrom [(2, .int _ _)] ⟨rfl, trivial⟩ fun σ => ?_
                                refine gret fun w1 hM => ?_
                                refine ⟨_, res1 rfl (rt (v := .int _ _) rfl), ?_⟩
                                exact ⟨by rw [formC_3 (e := x.pl) (show 1 ≤ x.kind by omega) (show x.kind ≤ 4 by omega) hD (show x.user < 0 ∨ 7 < x.user by omega)], hM.low⟩
                              · -- slot 80 f
                                replace hc80 := of_decide_eq_false hc80
                                have hD : ¬ ((x.thread ≠ 0 ∧ x.kind ≠ 2 ∧ x.kind ≠ 3) ∨ (x.line ≠ 0 ∧ x.kind ≠ 1) ∨ (isEmptyS x.text = false ∧ x.kind ≠ 1 ∧ x.kind ≠ 2) ∨ (0 < (pls x.hs).length ∧ x.kind ≠ 4)) := by simp only [List.length_map]; unfold isEmptyS; grind
                                have hL := formC_l (e := x.pl) (show 1 ≤ x.kind by omega) (show x.kind ≤ 4 by omega) hD (show ¬ (x.user < 0 ∨ 7 < x.user) by omega)
                                refine gskip ?_
                                refine hN89 _ _ ?_
                                refine gfrom [(1, .pointer _)] ⟨rfl, trivial⟩ fun σ => ?_
                                refine gseq fun N92 hN92 => ?_
                                refine gseq fun N93 hN93 => ?_
                                refine greg ?_
                                refine gop (y_fieldAddr_box fa66_0 rfl) rfl rfl rfl ?_
                                refine gop (y_load Try.isAgg3 rfl (cell_box 0 rfl rfl)) rfl rfl rfl ?_
                                refine gop (y_lss rfl rfl) rfl rfl rfl ?_
                                refine gops_nil ?_
                                refine hN93 _ _ ?_
                                refine gfrom [(1, .pointer _), (83, .bool _)] ⟨rfl, rfl, trivial⟩ fun σ => ?_
                                refine gcond (b := _) rfl (fun hc83 => ?_) (fun hc83 => ?_)
                                · -- slot 83 t
                                  replace hc83 := of_decide_eq_true hc83
                                  rw [if_pos (show x.pl.kind < 3 from hc83)] at hL
                                  refine gseq fun N94 hN94 => ?_
                                  refine greg ?_
                                  refine gop (y_fieldAddr_box fa66_4 rfl) rfl rfl rfl ?_
                                  refine gop (y_load Try.isAgg9 rfl (cell_box 0 rfl rfl)) rfl rfl rfl ?_
                                  refine gop_pure (e_call (vs := [.string _]) Try.func56 rfl (by kernel_rfl) rfl) (fun w hM => lineCode_any w _) rfl rfl rfl ?_
                                  refine gop (y_assign (v := .int _ _) rfl) rfl rfl rfl ?_
                                  refine gops_nil ?_
                                  refine hN94 _ _ ?_
                                  refine gfrom [(2, .int _ _)] ⟨rfl, trivial⟩ fun σ => ?_
                                  refine gret fun w1 hM => ?_
                                  refine ⟨_, res1 rfl (rt (v := .int _ _) rfl), ?_⟩
                                  exact ⟨by rw [hL], hM.low⟩
                                · -- slot 83 f
                                  replace hc83 := of_decide_eq_false hc83
                                  rw [if_neg (show ¬ x.pl.kind < 3 from hc83)] at hL
                                  refine gskip ?_
                                  refine hN92 _ _ ?_
                                  refine gfrom [] trivial fun σ => ?_
                                  refine gseq fun N95 hN95 => ?_
                                  refine greg ?_
                                  refine gop (y_assign (v := .int _ _) rfl) rfl rfl rfl ?_
                                  refine gops_nil ?_
                                  refine hN95 _ _ ?_
                                  refine gfrom [(2, .int _ _)] ⟨rfl, trivial⟩ fun σ => ?_
                                  refine gret fun w1 hM => ?_
                                  refine ⟨_, res1 rfl (rt (v := .int _ _) rfl), ?_⟩
                                  exact ⟨by rw [hL], hM.low⟩
                            · -- guard 76 off
                              have hg76d := of_decide_eq_true hg76
                              refine gop_off rfl rfl rfl rfl hg76 rfl rfl ?_
                              refine gop_off rfl rfl rfl rfl hg76 rfl rfl ?_
                              refine gop (y_pick_t (v := .bool _) rfl hg76 rfl) rfl rfl rfl ?_
                              refine gops_nil ?_
                              refine hN90 _ _ ?_
                              refine gfrom [(1, .pointer _), (80, .bool _)] ⟨rfl, rfl, trivial⟩ fun σ => ?_
                              refine gcond (b := _) rfl (fun hc80 => ?_) (fun hc80 => ?_)
                              · -- slot 80 t
                                have hD : ¬ ((x.thread ≠ 0 ∧ x.kind ≠ 2 ∧ x.kind ≠ 3) ∨ (x.line ≠ 0 ∧ x.kind ≠ 1) ∨ (isEmptyS x.text = false ∧ x.kind ≠ 1 ∧ x.kind ≠ 2) ∨ (0 < (pls x.hs).length ∧ x.kind ≠ 4)) := by simp only [List.length_map]; unfold isEmptyS; grind
                                refine gseq fun N96 hN96 => ?_
                                refine greg ?_
                                refine gop (y_assign (v := .int _ _) rfl) rfl rfl rfl ?_
                                refine gops_nil ?_
                                refine hN96 _ _ ?_
                                refine gfrom [(2, .int _ _)] ⟨rfl, trivial⟩ fun σ => ?_
                                refine gret fun w1 hM => ?_
                                refine ⟨_, res1 rfl (rt (v := .int _ _) rfl), ?_⟩
                                exact ⟨by rw [formC_3 (e := x.pl) (show 1 ≤ x.kind by omega) (show x.kind ≤ 4 by omega) hD (show x.user < 0 ∨ 7 < x.user by omega)], hM.low⟩
                              · -- slot 80 f
                                cases hc80
                        · -- guard 67 off
                          have hg67d := hg67
                          refine gop_off rfl rfl rfl rfl hg67 rfl rfl ?_
                          refine gop_off rfl rfl rfl rfl hg67 rfl rfl ?_
                          refine gop_on rfl rfl rfl rfl hg58 ?_
                          refine gop (y_bare (y_pick_t (v := .bool _) rfl hg67 rfl)) rfl rfl rfl ?_
                          refine gop (y_pick_t (v := .bool _) rfl hg58 rfl) rfl rfl rfl ?_
                          refine gops_nil ?_
                          refine hN87 _ _ ?_
                          refine gfrom [(1, .pointer _), (72, .bool _)] ⟨rfl, rfl, trivial⟩ fun σ => ?_
                          refine gcond (b := _) rfl (fun hc72 => ?_) (fun hc72 => ?_)
                          · -- slot 72 t
                            refine gseq fun N97 hN97 => ?_
                            refine greg ?_
                            refine gop (y_assign (v := .int _ _) rfl) rfl rfl rfl ?_
                            refine gops_nil ?_
                            refine hN97 _ _ ?_
                            refine gfrom [(2, .int _ _)] ⟨rfl, trivial⟩ fun σ => ?_
                            refine gret fun w1 hM => ?_
                            refine ⟨_, res1 rfl (rt (v := .int _ _) rfl), ?_⟩
                            exact ⟨by rw [formC_5 (e := x.pl) (show 1 ≤ x.kind by omega) (show x.kind ≤ 4 by omega) (show (x.thread ≠ 0 ∧ x.kind ≠ 2 ∧ x.kind ≠ 3) ∨ (x.line ≠ 0 ∧ x.kind ≠ 1) ∨ (isEmptyS x.text = false ∧ x.kind ≠ 1 ∧ x.kind ≠ 2) ∨ (0 < (pls x.hs).length ∧ x.kind ≠ 4) from by simp only [List.length_map]; unfold isEmptyS; grind)], hM.low⟩
                          · -- slot 72 f
                            cases hc72
                      · -- guard 62 off
                        have hg62d := of_decide_eq_true hg62
                        refine gop_off rfl rfl rfl rfl hg62 rfl rfl ?_
                        refine gop_off rfl rfl rfl rfl hg62 rfl rfl ?_
                        refine gop_on rfl rfl rfl rfl hg58 ?_
                        refine gop (y_bare (y_pick_t (v := .bool _) rfl hg62 rfl)) rfl rfl rfl ?_
                        refine gop_on rfl rfl rfl rfl hg58 ?_
                        refine gop (y_bare (y_move (v := .bool _) rfl)) rfl rfl rfl ?_
                        refine gop_off rfl rfl rfl rfl rfl rfl rfl ?_
                        refine gop_off rfl rfl rfl rfl rfl rfl rfl ?_
                        refine gop_off rfl rfl rfl rfl rfl rfl rfl ?_
                        refine gop_on rfl rfl rfl rfl hg58 ?_
                        refine gop (y_bare (y_pick_t (v := .bool _) rfl rfl rfl)) rfl rfl rfl ?_
                        refine gop (y_pick_t (v := .bool _) rfl hg58 rfl) rfl rfl rfl ?_
                        refine gops_nil ?_
                        refine hN87 _ _ ?_
                        refine gfrom [(1, .pointer _), (72, .bool _)] ⟨rfl, rfl, trivial⟩ fun σ => ?_
                        refine gcond (b := _) rfl (fun hc72 => ?_) (fun hc72 => ?_)
                        · -- slot 72 t
                          refine gseq fun N98 hN98 => ?_
                          refine greg ?_
                          refine gop (y_assign (v := .int _ _) rfl) rfl rfl rfl ?_
                          refine gops_nil ?_
                          refine hN98 _ _ ?_
                          refine gfrom [(2, .int _ _)] ⟨rfl, trivial⟩ fun σ => ?_
                          refine gret fun w1 hM => ?_
                          refine ⟨_, res1 rfl (rt (v := .int _ _) rfl), ?_⟩
                          exact ⟨by rw [formC_5 (e := x.pl) (show 1 ≤ x.kind by omega) (show x.kind ≤ 4 by omega) (show (x.thread ≠ 0 ∧ x.kind ≠ 2 ∧ x.kind ≠ 3) ∨ (x.line ≠ 0 ∧ x.kind ≠ 1) ∨ (isEmptyS x.text = false ∧ x.kind ≠ 1 ∧ x.kind ≠ 2) ∨ (0 < (pls x.hs).length ∧ x.kind ≠ 4) from by simp only [List.length_map]; unfold isEmptyS; grind)], hM.low⟩
                        · -- slot 72 f
                          cases hc72
                    · -- guard 58 off
                      have hg58d := of_decide_eq_false hg58
                      refine gop_off rfl rfl rfl rfl hg58 rfl rfl ?_
                      refine gop_off rfl rfl rfl rfl hg58 rfl rfl ?_
                      refine gop_off rfl rfl rfl rfl hg58 rfl rfl ?_
                      refine gop_offu rfl rfl rfl rfl rfl rfl ?_
                      refine gop_offu rfl rfl rfl rfl rfl rfl ?_
                      refine gop_offu rfl rfl rfl rfl rfl rfl ?_
                      refine gop_off rfl rfl rfl rfl hg58 rfl rfl ?_
                      refine gop_off rfl rfl rfl rfl hg58 rfl rfl ?_
                      refine gop_offu rfl rfl rfl rfl rfl rfl ?_
                      refine gop_offu rfl rfl rfl rfl rfl rfl ?_
                      refine gop_offu rfl rfl rfl rfl rfl rfl ?_
                      refine gop_off rfl rfl rfl rfl hg58 rfl rfl ?_
                      refine gop (y_pick_f (v := .bool _) rfl hg58 rfl) rfl rfl rfl ?_
                      refine gops_nil ?_
                      refine hN87 _ _ ?_
                      refine gfrom [(1, .pointer _), (72, .bool _)] ⟨rfl, rfl, trivial⟩ fun σ => ?_
                      refine gcond (b := _) rfl (fun hc72 => ?_) (fun hc72 => ?_)
                      · -- slot 72 t
                        cases hc72
                      · -- slot 72 f
                        refine gskip ?_
                        refine hN86 _ _ ?_
                        refine gfrom [(1, .pointer _)] ⟨rfl, trivial⟩ fun σ => ?_
                        refine gseq fun N99 hN99 => ?_
                        refine gseq fun N100 hN100 => ?_
                        refine greg ?_
                        refine gop (y_fieldAddr_box fa66_1 rfl) rfl rfl rfl ?_
                        refine gop (y_load Try.isAgg3 rfl (cell_box 0 rfl rfl)) rfl rfl rfl ?_
                        refine gop (y_lss rfl rfl) rfl rfl rfl ?_
                        refine gop (y_move (v := .bool _) rfl) rfl rfl rfl ?_
                        refine gop_if (want := false) rfl rfl rfl rfl rfl rfl (fun hg76 => ?_) (fun hg76 => ?_)
                        · -- guard 76 on
                          have hg76d := of_decide_eq_false hg76
                          refine gop (y_bare (y_fieldAddr_box fa66_1 rfl)) rfl rfl rfl ?_
                          refine gop_on rfl rfl rfl rfl hg76 ?_
                          refine gop (y_bare (y_load Try.isAgg3 rfl (cell_box 0 rfl rfl))) rfl rfl rfl ?_
                          refine gop_on rfl rfl rfl rfl hg76 ?_
                          refine gop (y_bare (y_gtr rfl rfl)) rfl rfl rfl ?_
                          refine gop (y_pick_f (v := .bool _) rfl hg76 rfl) rfl rfl rfl ?_
                          refine gops_nil ?_
                          refine hN100 _ _ ?_
                          refine gfrom [(1, .pointer _), (80, .bool _)] ⟨rfl, rfl, trivial⟩ fun σ => ?_
                          refine gcond (b := _) rfl (fun hc80 => ?_) (fun hc80 => ?_)
                          · -- slot 80 t
                            replace hc80 := of_decide_eq_true hc80
                            have hD : ¬ ((x.thread ≠ 0 ∧ x.kind ≠ 2 ∧ x.kind ≠ 3) ∨ (x.line ≠ 0 ∧ x.kind ≠ 1) ∨ (isEmptyS x.text = false ∧ x.kind ≠ 1 ∧ x.kind ≠ 2) ∨ (0 < (pls x.hs).length ∧ x.kind ≠ 4)) := by simp only [List.length_map]; unfold isEmptyS; grind
                            refine gseq fun N101 hN101 => ?_
                            refine greg ?_
                            refine gop (y_assign (v := .int _ _) rfl) rfl rfl rfl ?_
                            refine gops_nil ?_
                            refine hN101 _ _ ?_
                            refine gfrom [(2, .int _ _)] ⟨rfl, trivial⟩ fun σ => ?_
                            refine gret fun w1 hM => ?_
                            refine ⟨_, res1 rfl (rt (v := .int _ _) rfl), ?_⟩
                            exact ⟨by rw [formC_3 (e := x.pl) (show 1 ≤ x.kind by omega) (show x.kind ≤ 4 by omega) hD (show x.user < 0 ∨ 7 < x.user by omega)], hM.low⟩
                          · -- slot 80 f
                            replace hc80 := of_decide_eq_false hc80
                            have hD : ¬ ((x.thread ≠ 0 ∧ x.kind ≠ 2 ∧ x.kind ≠ 3) ∨ (x.line ≠ 0 ∧ x.kind ≠ 1) ∨ (isEmptyS x.text = false ∧ x.kind ≠ 1 ∧ x.kind ≠ 2) ∨ (0 < (pls x.hs).length ∧ x.kind ≠ 4)) := by simp only [List.length_map]; unfold isEmptyS; grind
                            have hL := formC_l (e := x.pl) (show 1 ≤ x.kind by omega) (show x.kind ≤ 4 by omega) hD (show ¬ (x.user < 0 ∨ 7 < x.user) by omega)
                            refine gskip ?_
                            refine hN99 _ _ ?_
                            refine gfrom [(1, .pointer _)] ⟨rfl, trivial⟩ fun σ => ?_
                            refine gseq fun N102 hN102 => ?_
                            refine gseq fun N103 hN103 => ?_
                            refine greg ?_
                            refine gop (y_fieldAddr_box fa66_0 rfl) rfl rfl rfl ?_
                            refine gop (y_load Try.isAgg3 rfl (cell_box 0 rfl rfl)) rfl rfl rfl ?_
                            refine gop (y_lss rfl rfl) rfl rfl rfl ?_
                            refine gops_nil ?_
                            refine hN103 _ _ ?_
                            refine gfrom [(1, .pointer _), (83, .bool _)] ⟨rfl, rfl, trivial⟩ fun σ => ?_
                            refine gcond (b := _) rfl (fun hc83 => ?_) (fun hc83 => ?_)
                            · -- slot 83 t
                              replace hc83 := of_decide_eq_true hc83
                              rw [if_pos (show x.pl.kind < 3 from hc83)] at hL
                              refine gseq fun N104 hN104 => ?_
                              refine greg ?_
                              refine gop (y_fieldAddr_box fa66_4 rfl) rfl rfl rfl ?_
                              refine gop (y_load Try.isAgg9 rfl (cell_box 0 rfl rfl)) rfl rfl rfl ?_
                              refine gop_pure (e_call (vs := [.string _]) Try.func56 rfl (by kernel_rfl) rfl) (fun w hM => lineCode_any w _) rfl rfl rfl ?_
                              refine gop (y_assign (v := .int _ _) rfl) rfl rfl rfl ?_
                              refine gops_nil ?_
                              refine hN104 _ _ ?_
                              refine gfrom [(2, .int _ _)] ⟨rfl, trivial⟩ fun σ => ?_
                              refine gret fun w1 hM => ?_
                              refine ⟨_, res1 rfl (rt (v := .int _ _) rfl), ?_⟩
                              exact ⟨by rw [hL], hM.low⟩
                            · -- slot 83 f
                              replace hc83 := of_decide_eq_false hc83
                              rw [if_neg (show ¬ x.pl.kind < 3 from hc83)] at hL
                              refine gskip ?_
                              refine hN102 _ _ ?_
                              refine gfrom [] trivial fun σ => ?_
                              refine gseq fun N105 hN105 => ?_
                              refine greg ?_
                              refine gop (y_assign (v := .int _ _) rfl) rfl rfl rfl ?_
                              refine gops_nil ?_
                              refine hN105 _ _ ?_
                              refine gfrom [(2, .int _ _)] ⟨rfl, trivial⟩ fun σ => ?_
                              refine gret fun w1 hM => ?_
                              refine ⟨_, res1 rfl (rt (v := .int _ _) rfl), ?_⟩
                              exact ⟨by rw [hL], hM.low⟩
                        · -- guard 76 off
                          have hg76d := of_decide_eq_true hg76
                          refine gop_off rfl rfl rfl rfl hg76 rfl rfl ?_
                          refine gop_off rfl rfl rfl rfl hg76 rfl rfl ?_
                          refine gop (y_pick_t (v := .bool _) rfl hg76 rfl) rfl rfl rfl ?_
                          refine gops_nil ?_
                          refine hN100 _ _ ?_
                          refine gfrom [(1, .pointer _), (80, .bool _)] ⟨rfl, rfl, trivial⟩ fun σ => ?_
                          refine gcond (b := _) rfl (fun hc80 => ?_) (fun hc80 => ?_)
                          · -- slot 80 t
                            have hD : ¬ ((x.thread ≠ 0 ∧ x.kind ≠ 2 ∧ x.kind ≠ 3) ∨ (x.line ≠ 0 ∧ x.kind ≠ 1) ∨ (isEmptyS x.text = false ∧ x.kind ≠ 1 ∧ x.kind ≠ 2) ∨ (0 < (pls x.hs).length ∧ x.kind ≠ 4)) := by simp only [List.length_map]; unfold isEmptyS; grind
                            refine gseq fun N106 hN106 => ?_
                            refine greg ?_
                            refine gop (y_assign (v := .int _ _) rfl) rfl rfl rfl ?_
                            refine gops_nil ?_
                            refine hN106 _ _ ?_
                            refine gfrom [(2, .int _ _)] ⟨rfl, trivial⟩ fun σ => ?_
                            refine gret fun w1 hM => ?_
                            refine ⟨_, res1 rfl (rt (v := .int _ _) rfl), ?_⟩
                            exact ⟨by rw [formC_3 (e := x.pl) (show 1 ≤ x.kind by omega) (show x.kind ≤ 4 by omega) hD (show x.user < 0 ∨ 7 < x.user by omega)], hM.low⟩
                          · -- slot 80 f
                            cases hc80
        · -- guard 24 off
          have hg24d := of_decide_eq_true hg24
          refine gop_on rfl rfl rfl rfl hg20 ?_
          refine gop (y_bare (y_pick_t (v := .bool _) rfl hg24 rfl)) rfl rfl rfl ?_
          refine gop (y_pick_t (v := .bool _) rfl hg20 rfl) rfl rfl rfl ?_
          refine gops_nil ?_
          refine hN7 _ _ ?_
          refine gfrom [(1, .pointer _), (3, .bool _), (27, .bool _)] ⟨rfl, rfl, rfl, trivial⟩ fun σ => ?_
          refine gcond (b := _) rfl (fun hc27 => ?_) (fun hc27 => ?_)
          · -- slot 27 t
            refine gseq fun N107 hN107 => ?_
            refine greg ?_
            refine gop (y_assign (v := .int _ _) rfl) rfl rfl rfl ?_
            refine gops_nil ?_
            refine hN107 _ _ ?_
            refine gfrom [(2, .int _ _)] ⟨rfl, trivial⟩ fun σ => ?_
            refine gret fun w1 hM => ?_
            refine ⟨_, res1 rfl (rt (v := .int _ _) rfl), ?_⟩
            exact ⟨by rw [formC_5 (e := x.pl) (show 1 ≤ x.kind by omega) (show x.kind ≤ 4 by omega) (show (x.thread ≠ 0 ∧ x.kind ≠ 2 ∧ x.kind ≠ 3) ∨ (x.line ≠ 0 ∧ x.kind ≠ 1) ∨ (isEmptyS x.text = false ∧ x.kind ≠ 1 ∧ x.kind ≠ 2) ∨ (0 < (pls x.hs).length ∧ x.kind ≠ 4) from by simp only [List.length_map]; grind)], hM.low⟩
          · -- slot 27 f
            cases hc27
      · -- guard 20 off
        have hg20d := of_decide_eq_false hg20
        refine gop_off rfl rfl rfl rfl hg20 rfl rfl ?_
        refine gop_off rfl rfl rfl rfl hg20 rfl rfl ?_
        refine gop_off rfl rfl rfl rfl hg20 rfl rfl ?_
        refine gop_offu rfl rfl rfl rfl rfl rfl ?_
        refine gop_off rfl rfl rfl rfl hg20 rfl rfl ?_
        refine gop (y_pick_f (v := .bool _) rfl hg20 rfl) rfl rfl rfl ?_
        refine gops_nil ?_
        refine hN7 _ _ ?_
        refine gfrom [(1, .pointer _), (3, .bool _), (27, .bool _)] ⟨rfl, rfl, rfl, trivial⟩ fun σ => ?_
        refine gcond (b := _) rfl (fun hc27 => ?_) (fun hc27 => ?_)
        · -- slot 27 t
          cases hc27
        · -- slot 27 f
          refine gskip ?_
          refine hN6 _ _ ?_
          refine gfrom [(1, .pointer _), (3, .bool _)] ⟨rfl, rfl, trivial⟩ fun σ => ?_
          refine gseq fun N108 hN108 => ?_
          refine gseq fun N109 hN109 => ?_
          refine greg ?_
          refine gop (y_fieldAddr_box fa66_0 rfl) rfl rfl rfl ?_
          refine gop (y_load Try.isAgg3 rfl (cell_box 0 rfl rfl)) rfl rfl rfl ?_
          refine gop (y_eql rfl rfl) rfl rfl rfl ?_
          refine gop (y_move (v := .bool _) rfl) rfl rfl rfl ?_
          refine gop_if (want := true) rfl rfl rfl rfl rfl rfl (fun hg31 => ?_) (fun hg31 => ?_)
          · -- guard 31 on
            have hg31d := of_decide_eq_true hg31
            refine gop (y_bare (y_fieldAddr_box fa66_3 rfl)) rfl rfl rfl ?_
            refine gop_on rfl rfl rfl rfl hg31 ?_
            refine gop (y_bare (y_load Try.isAgg3 rfl (cell_box 0 rfl rfl))) rfl rfl rfl ?_
            refine gop_on rfl rfl rfl rfl hg31 ?_
            refine gop (y_bare (y_neq rfl rfl)) rfl rfl rfl ?_
            refine gop_on rfl rfl rfl rfl hg31 ?_
            refine gop (y_bare (y_move (v := .bool _) rfl)) rfl rfl rfl ?_
            refine gop_if (want := false) rfl rfl rfl rfl rfl rfl (fun hg35 => ?_) (fun hg35 => ?_)
            · -- guard 35 on
              have hg35d := Decidable.not_not.1 (of_decide_eq_false hg35)
              refine gop (y_bare (y_move (v := .bool _) rfl)) rfl rfl rfl ?_
              refine gop_on rfl rfl rfl rfl hg31 ?_
              refine gop (y_bare (y_pick_f (v := .bool _) rfl hg35 rfl)) rfl rfl rfl ?_
              refine gop (y_pick_t (v := .bool _) rfl hg31 rfl) rfl rfl rfl ?_
              refine gops_nil ?_
              refine hN109 _ _ ?_
              refine gfrom [(1, .pointer _), (3, .bool _), (38, .bool _)] ⟨rfl, rfl, rfl, trivial⟩ fun σ => ?_
              refine gcond (b := _) rfl (fun hc38 => ?_) (fun hc38 => ?_)
              · -- slot 38 t
                replace hc38 := of_decide_eq_true hc38
                refine gseq fun N110 hN110 => ?_
                refine greg ?_
                refine gop (y_assign (v := .int _ _) rfl) rfl rfl rfl ?_
                refine gops_nil ?_
                refine hN110 _ _ ?_
                refine gfrom [(2, .int _ _)] ⟨rfl, trivial⟩ fun σ => ?_
                refine gret fun w1 hM => ?_
                refine ⟨_, res1 rfl (rt (v := .int _ _) rfl), ?_⟩
                exact ⟨by rw [formC_5 (e := x.pl) (show 1 ≤ x.kind by omega) (show x.kind ≤ 4 by omega) (show (x.thread ≠ 0 ∧ x.kind ≠ 2 ∧ x.kind ≠ 3) ∨ (x.line ≠ 0 ∧ x.kind ≠ 1) ∨ (isEmptyS x.text = false ∧ x.kind ≠ 1 ∧ x.kind ≠ 2) ∨ (0 < (pls x.hs).length ∧ x.kind ≠ 4) from by simp only [List.length_map]; grind)], hM.low⟩
              · -- slot 38 f
                replace hc38 := of_decide_eq_false hc38
                refine gskip ?_
                refine hN108 _ _ ?_
                refine gfrom [(1, .pointer _), (3, .bool _)] ⟨rfl, rfl, trivial⟩ fun σ => ?_
                refine gseq fun N111 hN111 => ?_
                refine gseq fun N112 hN112 => ?_
                refine greg ?_
                refine gop (y_fieldAddr_box fa66_0 rfl) rfl rfl rfl ?_
                refine gop (y_load Try.isAgg3 rfl (cell_box 0 rfl rfl)) rfl rfl rfl ?_
                refine gop (y_eql rfl rfl) rfl rfl rfl ?_
                refine gop (y_move (v := .bool _) rfl) rfl rfl rfl ?_
                refine gop_if (want := true) rfl rfl rfl rfl rfl rfl (fun hg42 => ?_) (fun hg42 => ?_)
                · -- guard 42 on
                  have hg42d := of_decide_eq_true hg42
                  refine gop (y_bare (y_fieldAddr_box fa66_3 rfl)) rfl rfl rfl ?_
                  refine gop_on rfl rfl rfl rfl hg42 ?_
                  refine gop (y_bare (y_load Try.isAgg3 rfl (cell_box 0 rfl rfl))) rfl rfl rfl ?_
                  refine gop_on rfl rfl rfl rfl hg42 ?_
                  refine gop (y_bare (y_neq rfl rfl)) rfl rfl rfl ?_
                  refine gop_on rfl rfl rfl rfl hg42 ?_
                  refine gop (y_bare (y_move (v := .bool _) rfl)) rfl rfl rfl ?_
                  refine gop_if (want := false) rfl rfl rfl rfl rfl rfl (fun hg46 => ?_) (fun hg46 => ?_)
                  · -- guard 46 on
                    have hg46d := Decidable.not_not.1 (of_decide_eq_false hg46)
                    refine gop (y_bare (y_fieldAddr_box fa66_4 rfl)) rfl rfl rfl ?_
                    refine gop_on rfl rfl rfl rfl hg46 ?_
                    refine gop (y_bare (y_load Try.isAgg9 rfl (cell_box 0 rfl rfl))) rfl rfl rfl ?_
                    refine gop_on rfl rfl rfl rfl hg46 ?_
                    refine gop (y_bare (y_neqs rfl rfl)) rfl rfl rfl ?_
                    refine gop_on rfl rfl rfl rfl hg42 ?_
                    refine gop (y_bare (y_pick_f (v := .bool _) rfl hg46 rfl)) rfl rfl rfl ?_
                    refine gop_on rfl rfl rfl rfl hg42 ?_
                    refine gop (y_bare (y_move (v := .bool _) rfl)) rfl rfl rfl ?_
                    refine gop_if (want := false) rfl rfl rfl rfl rfl rfl (fun hg51 => ?_) (fun hg51 => ?_)
                    · -- guard 51 on
                      have hg51d := hg51
                      refine gop (y_bare (y_move (v := .bool _) rfl)) rfl rfl rfl ?_
                      refine gop_on rfl rfl rfl rfl hg42 ?_
                      refine gop (y_bare (y_pick_f (v := .bool _) rfl hg51 rfl)) rfl rfl rfl ?_
                      refine gop (y_pick_t (v := .bool _) rfl hg42 rfl) rfl rfl rfl ?_
                      refine gops_nil ?_
                      refine hN112 _ _ ?_
                      refine gfrom [(1, .pointer _), (54, .bool _)] ⟨rfl, rfl, trivial⟩ fun σ => ?_
                      refine gcond (b := _) rfl (fun hc54 => ?_) (fun hc54 => ?_)
                      · -- slot 54 t
                        replace hc54 := of_decide_eq_true hc54
                        refine gseq fun N113 hN113 => ?_
                        refine greg ?_
                        refine gop (y_assign (v := .int _ _) rfl) rfl rfl rfl ?_
                        refine gops_nil ?_
                        refine hN113 _ _ ?_
                        refine gfrom [(2, .int _ _)] ⟨rfl, trivial⟩ fun σ => ?_
                        refine gret fun w1 hM => ?_
                        refine ⟨_, res1 rfl (rt (v := .int _ _) rfl), ?_⟩
                        exact ⟨by rw [formC_5 (e := x.pl) (show 1 ≤ x.kind by omega) (show x.kind ≤ 4 by omega) (show (x.thread ≠ 0 ∧ x.kind ≠ 2 ∧ x.kind ≠ 3) ∨ (x.line ≠ 0 ∧ x.kind ≠ 1) ∨ (isEmptyS x.text = false ∧ x.kind ≠ 1 ∧ x.kind ≠ 2) ∨ (0 < (pls x.hs).length ∧ x.kind ≠ 4) from by simp only [List.length_map]; unfold isEmptyS; grind)], hM.low⟩
                      · -- slot 54 f
                        replace hc54 := of_decide_eq_false hc54
                        refine gskip ?_
                        refine hN111 _ _ ?_
                        refine gfrom [(1, .pointer _)] ⟨rfl, trivial⟩ fun σ => ?_
                        refine gseq fun N114 hN114 => ?_
                        refine gseq fun N115 hN115 => ?_
                        refine greg ?_
                        refine gop (y_fieldAddr_box fa66_0 rfl) rfl rfl rfl ?_
                        refine gop (y_load Try.isAgg3 rfl (cell_box 0 rfl rfl)) rfl rfl rfl ?_
                        refine gop (y_eql rfl rfl) rfl rfl rfl ?_
                        refine gop (y_move (v := .bool _) rfl) rfl rfl rfl ?_
                        refine gop_if (want := true) rfl rfl rfl rfl rfl rfl (fun hg58 => ?_) (fun hg58 => ?_)
                        · -- guard 58 on
                          have hg58d := of_decide_eq_true hg58
                          refine gop (y_bare (y_fieldAddr_box fa66_3 rfl)) rfl rfl rfl ?_
                          refine gop_on rfl rfl rfl rfl hg58 ?_
                          refine gop (y_bare (y_load Try.isAgg3 rfl (cell_box 0 rfl rfl))) rfl rfl rfl ?_
                          refine gop_on rfl rfl rfl rfl hg58 ?_
                          refine gop (y_bare (y_neq rfl rfl)) rfl rfl rfl ?_
                          refine gop_on rfl rfl rfl rfl hg58 ?_
                          refine gop (y_bare (y_move (v := .bool _) rfl)) rfl rfl rfl ?_
                          refine gop_if (want := false) rfl rfl rfl rfl rfl rfl (fun hg62 => ?_) (fun hg62 => ?_)
                          · -- guard 62 on
                            have hg62d := Decidable.not_not.1 (of_decide_eq_false hg62)
                            refine gop (y_bare (y_fieldAddr_box fa66_4 rfl)) rfl rfl rfl ?_
                            refine gop_on rfl rfl rfl rfl hg62 ?_
                            refine gop (y_bare (y_load Try.isAgg9 rfl (cell_box 0 rfl rfl))) rfl rfl rfl ?_
                            refine gop_on rfl rfl rfl rfl hg62 ?_
                            refine gop (y_bare (y_neqs rfl rfl)) rfl rfl rfl ?_
                            refine gop_on rfl rfl rfl rfl hg58 ?_
                            refine gop (y_bare (y_pick_f (v := .bool _) rfl hg62 rfl)) rfl rfl rfl ?_
                            refine gop_on rfl rfl rfl rfl hg58 ?_
                            refine gop (y_bare (y_move (v := .bool _) rfl)) rfl rfl rfl ?_
                            refine gop_if (want := false) rfl rfl rfl rfl rfl rfl (fun hg67 => ?_) (fun hg67 => ?_)
                            · -- guard 67 on
                              have hg67d := hg67
                              refine gop (y_bare (y_fieldAddr_box fa66_2 rfl)) rfl rfl rfl ?_
                              refine gop_on rfl rfl rfl rfl hg67 ?_
                              refine gop (y_bare (y_load Try.isAgg3 rfl (cell_box 0 rfl rfl))) rfl rfl rfl ?_
                              refine gop_on rfl rfl rfl rfl hg67 ?_
                              refine gop (y_bare (y_neq rfl rfl)) rfl rfl rfl ?_
                              refine gop_on rfl rfl rfl rfl hg58 ?_
                              refine gop (y_bare (y_pick_f (v := .bool _) rfl hg67 rfl)) rfl rfl rfl ?_
                              refine gop (y_pick_t (v := .bool _) rfl hg58 rfl) rfl rfl rfl ?_
                              refine gops_nil ?_
                              refine hN115 _ _ ?_
                              refine gfrom [(1, .pointer _), (72, .bool _)] ⟨rfl, rfl, trivial⟩ fun σ => ?_
                              refine gcond (b := _) rfl (fun hc72 => ?_) (fun hc72 => ?_)
                              · -- slot 72 t
                                replace hc72 := of_decide_eq_true hc72
                                refine gseq fun N116 hN116 => ?_
                                refine greg ?_
                                refine gop (y_assign (v := .int _ _) rfl) rfl rfl rfl ?_
                                refine gops_nil ?_
                                refine hN116 _ _ ?_
                                refine gfrom [(2, .int _ _)] ⟨rfl, trivial⟩ fun σ => ?_
                                refine gret fun w1 hM => ?_
                                refine ⟨_, res1 rfl (rt (v := .int _ _) rfl), ?_⟩
                                exact ⟨by rw [formC_5 (e := x.pl) (show 1 ≤ x.kind by omega) (show x.kind ≤ 4 by omega) (show (x.thread ≠ 0 ∧ x.kind ≠ 2 ∧ x.kind ≠ 3) ∨ (x.line ≠ 0 ∧ x.kind ≠ 1) ∨ (isEmptyS x.text = false ∧ x.kind ≠ 1 ∧ x.kind ≠ 2) ∨ (0 < (pls x.hs).length ∧ x.kind ≠ 4) from by simp only [List.length_map]; unfold isEmptyS; grind)], hM.low⟩
                              · -- slot 72 f
                                replace hc72 := Decidable.not_not.1 (of_decide_eq_false hc72)
                                refine gskip ?_
                                refine hN114 _ _ ?_
                                refine gfrom [(1, .pointer _)] ⟨rfl, trivial⟩ fun σ => ?_
                                refine gseq fun N117 hN117 => ?_
                                refine gseq fun N118 hN118 => ?_
                                refine greg ?_
                                refine gop (y_fieldAddr_box fa66_1 rfl) rfl rfl rfl ?_
                                refine gop (y_load Try.isAgg3 rfl (cell_box 0 rfl rfl)) rfl rfl rfl ?_
                                refine gop (y_lss rfl rfl) rfl rfl rfl ?_
                                refine gop (y_move (v := .bool _) rfl) rfl rfl rfl ?_
                                refine gop_if (want := false) rfl rfl rfl rfl rfl rfl (fun hg76 => ?_) (fun hg76 => ?_)
                                · -- guard 76 on
                                  have hg76d := of_decide_eq_false hg76
                                  refine gop (y_bare (y_fieldAddr_box fa66_1 rfl)) rfl rfl rfl ?_
                                  refine gop_on rfl rfl rfl rfl hg76 ?_
                                  refine gop (y_bare (y_load Try.isAgg3 rfl (cell_box 0 rfl rfl))) rfl rfl rfl ?_
                                  refine gop_on rfl rfl rfl rfl hg76 ?_
                                  refine gop (y_bare (y_gtr rfl rfl)) rfl rfl rfl ?_
                                  refine gop (y_pick_f (v := .bool _) rfl hg76 rfl) rfl rfl rfl ?_
                                  refine gops_nil ?_
                                  refine hN118 _ _ ?_
                                  refine gfrom [(1, .pointer _), (80, .bool _)] ⟨rfl, rfl, trivial⟩ fun σ => ?_
                                  refine gcond (b := _) rfl (fun hc80 => ?_) (fun hc80 => ?_)
                                  · -- slot 80 t
                                    replace hc80 := of_decide_eq_true hc80
                                    have hD : ¬ ((x.thread ≠ 0 ∧ x.kind ≠ 2 ∧ x.kind ≠ 3) ∨ (x.line ≠ 0 ∧ x.kind ≠ 1) ∨ (isEmptyS x.text = false ∧ x.kind ≠ 1 ∧ x.kind ≠ 2) ∨ (0 < (pls x.hs).length ∧ x.kind ≠ 4)) := by simp only [List.length_map]; unfold isEmptyS; grind
                                    refine gseq fun N119 hN119 => ?_
                                    refine greg ?_
                                    refine gop (y_assign (v := .int _ _) rfl) rfl rfl rfl ?_
                                    refine gops_nil ?_
                                    refine hN119 _ _ ?_
                                    refine gfrom [(2, .int _ _)] ⟨rfl, trivial⟩ fun σ => ?_
                                    refine gret fun w1 hM => ?_
                                    refine ⟨_, res1 rfl (rt (v := .int _ _) rfl), ?_⟩
                                    exact ⟨by rw [formC_3 (e := x.pl) (show 1 ≤ x.kind by omega) (show x.kind ≤ 4 by omega) hD (show x.user < 0 ∨ 7 < x.user by omega)], hM.low⟩
                                  · -- slot 80 f
                                    replace hc80 := of_decide_eq_false hc80
                                    have hD : ¬ ((x.thread ≠ 0 ∧ x.kind ≠ 2 ∧ x.kind ≠ 3) ∨ (x.line ≠ 0 ∧ x.kind ≠ 1) ∨ (isEmptyS x.text = false ∧ x.kind ≠ 1 ∧ x.kind ≠ 2) ∨ (0 < (pls x.hs).length ∧ x.kind ≠ 4)) := by simp only [List.length_map]; unfold isEmptyS; grind
                                    have hL := formC_l (e := x.pl) (show 1 ≤ x.kind by omega) (show x.kind ≤ 4 by omega) hD (show ¬ (x.user < 0 ∨ 7 < x.user) by omega)
                                    refine gskip ?_
                                    refine hN117 _ _ ?_
                                    refine gfrom [(1, .pointer _)] ⟨rfl, trivial⟩ fun σ => ?_
                                    refine gseq fun N120 hN120 => ?_
                                    refine gseq fun N121 hN121 => ?_
                                    refine greg ?_
                                    refine gop (y_fieldAddr_box fa66_0 rfl) rfl rfl rfl ?_
                                    refine gop (y_load Try.isAgg3 rfl (cell_box 0 rfl rfl)) rfl rfl rfl ?_
                                    refine gop (y_lss rfl rfl) rfl rfl rfl ?_
                                    refine gops_nil ?_
                                    refine hN121 _ _ ?_
                                    refine gfrom [(1, .pointer _), (83, .bool _)] ⟨rfl, rfl, trivial⟩ fun σ => ?_
                                    refine gcond (b := _) rfl (fun hc83 => ?_) (fun hc83 => ?_)
                                    · -- slot 83 t
                                      replace hc83 := of_decide_eq_true hc83
                                      rw [if_pos (show x.pl.kind < 3 from hc83)] at hL
                                      refine gseq fun N122 hN122 => ?_
                                      refine greg ?_
                                      refine gop (y_fieldAddr_box fa66_4 rfl) rfl rfl rfl ?_
                                      refine gop (y_load Try.isAgg9 rfl (cell_box 0 rfl rfl)) rfl rfl rfl ?_
                                      refine gop_pure (e_call (vs := [.string _]) Try.func56 rfl (by kernel_rfl) rfl) (fun w hM => lineCode_any w _) rfl rfl rfl ?_
                                      refine gop (y_assign (v := .int _ _) rfl) rfl rfl rfl ?_
                                      refine gops_nil ?_
                                      refine hN122 _ _ ?_
                                      refine gfrom [(2, .int _ _)] ⟨rfl, trivial⟩ fun σ => ?_
                                      refine gret fun w1 hM => ?_
                                      refine ⟨_, res1 rfl (rt (v := .int _ _) rfl), ?_⟩
                                      exact ⟨by rw [hL], hM.low⟩
                                    · -- slot 83 f
                                      replace hc83 := of_decide_eq_false hc83
                                      rw [if_neg (show ¬ x.pl.kind < 3 from hc83)] at hL
                                      refine gskip ?_
                                      refine hN120 _ _ ?_
                                      refine gfrom [] trivial fun σ => ?_
                                      refine gseq fun N123 hN123 => ?_
                                      refine greg ?_
                                      refine gop (y_assign (v := .int _ _) rfl) rfl rfl rfl ?_
                                      refine gops_nil ?_
                                      refine hN123 _ _ ?_
                                      refine gfrom [(2, .int _ _)] ⟨rfl, trivial⟩ fun σ => ?_
                                      refine gret fun w1 hM => ?_
                                      refine ⟨_, res1 rfl (rt (v := .int _ _) rfl), ?_⟩
                                      exact ⟨by rw [hL], hM.low⟩
                                · -- guard 76 off
                                  have hg76d := of_decide_eq_true hg76
                                  refine gop_off rfl rfl rfl rfl hg76 rfl rfl ?_
                                  refine gop_off rfl rfl rfl rfl hg76 rfl rfl ?_
                                  refine gop (y_pick_t (v := .bool _) rfl hg76 rfl) rfl rfl rfl ?_
                                  refine gops_nil ?_
                                  refine hN118 _ _ ?_
                                  refine gfrom [(1, .pointer _), (80, .bool _)] ⟨rfl, rfl, trivial⟩ fun σ => ?_
                                  refine gcond (b := _) rfl (fun hc80 => ?_) (fun hc80 => ?_)
                                  · -- slot 80 t
                                    have hD : ¬ ((x.thread ≠ 0 ∧ x.kind ≠ 2 ∧ x.kind ≠ 3) ∨ (x.line ≠ 0 ∧ x.kind ≠ 1) ∨ (isEmptyS x.text = false ∧ x.kind ≠ 1 ∧ x.kind ≠ 2) ∨ (0 < (pls x.hs).length ∧ x.kind ≠ 4)) := by simp only [List.length_map]; unfold isEmptyS; grind
                                    refine gseq fun N124 hN124 => ?_
                                    refine greg ?_
                                    refine gop (y_assign (v := .int _ _) rfl) rfl rfl rfl ?_
                                    refine gops_nil ?_
                                    refine hN124 _ _ ?_
                                    refine gfrom [(2, .int _ _)] ⟨rfl, trivial⟩ fun σ => ?_
                                    refine gret fun w1 hM => ?_
                                    refine ⟨_, res1 rfl (rt (v := .int _ _) rfl), ?_⟩
                                    exact ⟨by rw [formC_3 (e := x.pl) (show 1 ≤ x.kind by omega) (show x.kind ≤ 4 by omega) hD (show x.user < 0 ∨ 7 < x.user by omega)], hM.low⟩
                                  · -- slot 80 f
                                    cases hc80
                            · -- guard 67 off
                              have hg67d := hg67
                              refine gop_off rfl rfl rfl rfl hg67 rfl rfl ?_
                              refine gop_off rfl rfl rfl rfl hg67 rfl rfl ?_
                              refine gop_on rfl rfl rfl rfl hg58 ?_
                              refine gop (y_bare (y_pick_t (v := .bool _) rfl hg67 rfl)) rfl rfl rfl ?_
                              refine gop (y_pick_t (v := .bool _) rfl hg58 rfl) rfl rfl rfl ?_
                              refine gops_nil ?_
                              refine hN115 _ _ ?_
                              refine gfrom [(1, .pointer _), (72, .bool _)] ⟨rfl, rfl, trivial⟩ fun σ => ?_
                              refine gcond (b := _) rfl (fun hc72 => ?_) (fun hc72 => ?_)
                              · -- slot 72 t
                                refine gseq fun N125 hN125 => ?_
                                refine greg ?_
                                refine gop (y_assign (v := .int _ _) rfl) rfl rfl rfl ?_
                                refine gops_nil ?_
                                refine hN125 _ _ ?_
                                refine gfrom [(2, .int _ _)] ⟨rfl, trivial⟩ fun σ => ?_
                                refine gret fun w1 hM => ?_
                                refine ⟨_, res1 rfl (rt (v := .int _ _) rfl), ?_⟩
                                exact ⟨by rw [formC_5 (e := x.pl) (show 1 ≤ x.kind by omega) (show x.kind ≤ 4 by omega) (show (x.thread ≠ 0 ∧ x.kind ≠ 2 ∧ x.kind ≠ 3) ∨ (x.line ≠ 0 ∧ x.kind ≠ 1) ∨ (isEmptyS x.text = false ∧ x.kind ≠ 1 ∧ x.kind ≠ 2) ∨ (0 < (pls x.hs).length ∧ x.kind ≠ 4) from by simp only [List.length_map]; unfold isEmptyS; grind)], hM.low⟩
                              · -- slot 72 f
                                cases hc72
                          · -- guard 62 off
                            have hg62d := of_decide_eq_true hg62
                            refine gop_off rfl rfl rfl rfl hg62 rfl rfl ?_
                            refine gop_off rfl rfl rfl rfl hg62 rfl rfl ?_
                            refine gop_on rfl rfl rfl rfl hg58 ?_
                            refine gop (y_bare (y_pick_t (v := .bool _) rfl hg62 rfl)) rfl rfl rfl ?_
                            refine gop_on rfl rfl rfl rfl hg58 ?_
                            refine gop (y_bare (y_move (v := .bool _) rfl)) rfl rfl rfl ?_
                            refine gop_off rfl rfl rfl rfl rfl rfl rfl ?_
                            refine gop_off rfl rfl rfl rfl rfl rfl rfl ?_
                            refine gop_off rfl rfl rfl rfl rfl rfl rfl ?_
                            refine gop_on rfl rfl rfl rfl hg58 ?_
                            refine gop (y_bare (y_pick_t (v := .bool _) rfl rfl rfl)) rfl rfl rfl ?_
                            refine gop (y_pick_t (v := .bool _) rfl hg58 rfl) rfl rfl rfl ?_
                            refine gops_nil ?_
                            refine hN115 _ _ ?_
                            refine gfrom [(1, .pointer _), (72, .bool _)] ⟨rfl, rfl, trivial⟩ fun σ => ?_
                            refine gcond (b := _) rfl (fun hc72 => ?_) (fun hc72 => ?_)
                            · -- slot 72 t
                              refine gseq fun N126 hN126 => ?_
                              refine greg ?_
                              refine gop (y_assign (v := .int _ _) rfl) rfl rfl rfl ?_
                              refine gops_nil ?_
                              refine hN126 _ _ ?_
                              refine gfrom [(2, .int _ _)] ⟨rfl, trivial⟩ fun σ => ?_
                              refine gret fun w1 hM => ?_
                              refine ⟨_, res1 rfl (rt (v := .int _ _) rfl), ?_⟩
                              exact ⟨by rw [formC_5 (e := x.pl) (show 1 ≤ x.kind by omega) (show x.kind ≤ 4 by omega) (show (x.thread ≠ 0 ∧ x.kind ≠ 2 ∧ x.kind ≠ 3) ∨ (x.line ≠ 0 ∧ x.kind ≠ 1) ∨ (isEmptyS x.text = false ∧ x.kind ≠ 1 ∧ x.kind ≠ 2) ∨ (0 < (pls x.hs).length ∧ x.kind ≠ 4) from by simp only [List.length_map]; unfold isEmptyS; grind)], hM.low⟩
                            · -- slot 72 f
                              cases hc72
                        · -- guard 58 off
                          have hg58d := of_decide_eq_false hg58
                          refine gop_off rfl rfl rfl rfl hg58 rfl rfl ?_
                          refine gop_off rfl rfl rfl rfl hg58 rfl rfl ?_
                          refine gop_off rfl rfl rfl rfl hg58 rfl rfl ?_
                          refine gop_offu rfl rfl rfl rfl rfl rfl ?_
                          refine gop_offu rfl rfl rfl rfl rfl rfl ?_
                          refine gop_offu rfl rfl rfl rfl rfl rfl ?_
                          refine gop_off rfl rfl rfl rfl hg58 rfl rfl ?_
                          refine gop_off rfl rfl rfl rfl hg58 rfl rfl ?_
                          refine gop_offu rfl rfl rfl rfl rfl rfl ?_
                          refine gop_offu rfl rfl rfl rfl rfl rfl ?_
                          refine gop_offu rfl rfl rfl rfl rfl rfl ?_
                          refine gop_off rfl rfl rfl rfl hg58 rfl rfl ?_
                          refine gop (y_pick_f (v := .bool _) rfl hg58 rfl) rfl rfl rfl ?_
                          refine gops_nil ?_
                          refine hN115 _ _ ?_
                          refine gfrom [(1, .pointer _), (72, .bool _)] ⟨rfl, rfl, trivial⟩ fun σ => ?_
                          refine gcond (b := _) rfl (fun hc72 => ?_) (fun hc72 => ?_)
                          · -- slot 72 t
                            cases hc72
                          · -- slot 72 f
                            refine gskip ?_
                            refine hN114 _ _ ?_
                            refine gfrom [(1, .pointer _)] ⟨rfl, trivial⟩ fun σ => ?_
                            refine gseq fun N127 hN127 => ?_
                            refine gseq fun N128 hN128 => ?_
                            refine greg ?_
                            refine gop (y_fieldAddr_box fa66_1 rfl) rfl rfl rfl ?_
                            refine gop (y_load Try.isAgg3 rfl (cell_box 0 rfl rfl)) rfl rfl rfl ?_
                            refine gop (y_lss rfl rfl) rfl rfl rfl ?_
                            refine gop (y_move (v := .bool _) rfl) rfl rfl rfl ?_
                            refine gop_if (want := false) rfl rfl rfl rfl rfl rfl (fun hg76 => ?_) (fun hg76 => ?_)
                            · -- guard 76 on
                              have hg76d := of_decide_eq_false hg76
                              refine gop (y_bare (y_fieldAddr_box fa66_1 rfl)) rfl rfl rfl ?_
                              refine gop_on rfl rfl rfl rfl hg76 ?_
                              refine gop (y_bare (y_load Try.isAgg3 rfl (cell_box 0 rfl rfl))) rfl rfl rfl ?_
                              refine gop_on rfl rfl rfl rfl hg76 ?_
                              refine gop (y_bare (y_gtr rfl rfl)) rfl rfl rfl ?_
                              refine gop (y_pick_f (v := .bool _) rfl hg76 rfl) rfl rfl rfl ?_
                              refine gops_nil ?_
                              refine hN128 _ _ ?_
                              refine gfrom [(1, .pointer _), (80, .bool _)] ⟨rfl, rfl, trivial⟩ fun σ => ?_
                              refine gcond (b := _) rfl (fun hc80 => ?_) (fun hc80 => ?_)
                              · -- slot 80 t
                                replace hc80 := of_decide_eq_true hc80
                                have hD : ¬ ((x.thread ≠ 0 ∧ x.kind ≠ 2 ∧ x.kind ≠ 3) ∨ (x.line ≠ 0 ∧ x.kind ≠ 1) ∨ (isEmptyS x.text = false ∧ x.kind ≠ 1 ∧ x.kind ≠ 2) ∨ (0 < (pls x.hs).length ∧ x.kind ≠ 4)) := by simp only [List.length_map]; unfold isEmptyS; grind
                                refine gseq fun N129 hN129 => ?_
                                refine greg ?_
                                refine gop (y_assign (v := .int _ _) rfl) rfl rfl rfl ?_
                                refine gops_nil ?_
                                refine hN129 _ _ ?_
                                refine gfrom [(2, .int _ _)] ⟨rfl, trivial⟩ fun σ => ?_
                                refine gret fun w1 hM => ?_
                                refine ⟨_, res1 rfl (rt (v := .int _ _) rfl), ?_⟩
                                exact ⟨by rw [formC_3 (e := x.pl) (show 1 ≤ x.kind by omega) (show x.kind ≤ 4 by omega) hD (show x.user < 0 ∨ 7 < x.user by omega)], hM.low⟩
                              · -- slot 80 f
                                replace hc80 := of_decide_eq_false hc80
                                have hD : ¬ ((x.thread ≠ 0 ∧ x.kind ≠ 2 ∧ x.kind ≠ 3) ∨ (x.line ≠ 0 ∧ x.kind ≠ 1) ∨ (isEmptyS x.text = false ∧ x.kind ≠ 1 ∧ x.kind ≠ 2) ∨ (0 < (pls x.hs).length ∧ x.kind ≠ 4)) := by simp only [List.length_map]; unfold isEmptyS; grind
                                have hL := formC_l (e := x.pl) (show 1 ≤ x.kind by omega) (show x.kind ≤ 4 by omega) hD (show ¬ (x.user < 0 ∨ 7 < x.user) by omega)
                                refine gskip ?_
                                refine hN127 _ _ ?_
                                refine gfrom [(1, .pointer _)] ⟨rfl, trivial⟩ fun σ => ?_
                                refine gseq fun N130 hN130 => ?_
                                refine gseq fun N131 hN131 => ?_
                                refine greg ?_
                                refine gop (y_fieldAddr_box fa66_0 rfl) rfl rfl rfl ?_
                                refine gop (y_load Try.isAgg3 rfl (cell_box 0 rfl rfl)) rfl rfl rfl ?_
                                refine gop (y_lss rfl rfl) rfl rfl rfl ?_
                                refine gops_nil ?_
                                refine hN131 _ _ ?_
                                refine gfrom [(1, .pointer _), (83, .bool _)] ⟨rfl, rfl, trivial⟩ fun σ => ?_
                                refine gcond (b := _) rfl (fun hc83 => ?_) (fun hc83 => ?_)
                                · -- slot 83 t
                                  replace hc83 := of_decide_eq_true hc83
                                  rw [if_pos (show x.pl.kind < 3 from hc83)] at hL
                                  refine gseq fun N132 hN132 => ?_
                                  refine greg ?_
                                  refine gop (y_fieldAddr_box fa66_4 rfl) rfl rfl rfl ?_
                                  refine gop (y_load Try.isAgg9 rfl (cell_box 0 rfl rfl)) rfl rfl rfl ?_
                                  refine gop_pure (e_call (vs := [.string _]) Try.func56 rfl (by kernel_rfl) rfl) (fun w hM => lineCode_any w _) rfl rfl rfl ?_
                                  refine gop (y_assign (v := .int _ _) rfl) rfl rfl rfl ?_
                                  refine gops_nil ?_
                                  refine hN132 _ _ ?_
                                  refine gfrom [(2, .int _ _)] ⟨rfl, trivial⟩ fun σ => ?_
                                  refine gret fun w1 hM => ?_
                                  refine ⟨_, res1 rfl (rt (v := .int _ _) rfl), ?_⟩
                                  exact ⟨by rw [hL], hM.low⟩
                                · -- slot 83 f
                                  replace hc83 := of_decide_eq_false hc83
                                  rw [if_neg (show ¬ x.pl.kind < 3 from hc83)] at hL
                                  refine gskip ?_
                                  refine hN130 _ _ ?_
                                  refine gfrom [] trivial fun σ => ?_
                                  refine gseq fun N133 hN133 => ?_
                                  refine greg ?_
                                  refine gop (y_assign (v := .int _ _) rfl) rfl rfl rfl ?_
                                  refine gops_nil ?_
                                  refine hN133 _ _ ?_
                                  refine gfrom [(2, .int _ _)] ⟨rfl, trivial⟩ fun σ => ?_
                                  refine gret fun w1 hM => ?_
                                  refine ⟨_, res1 rfl (rt (v := .int _ _) rfl), ?_⟩
                                  exact ⟨by rw [hL], hM.low⟩
                            · -- guard 76 off
                              have hg76d := of_decide_eq_true hg76
                              refine gop_off rfl rfl rfl rfl hg76 rfl rfl ?_
                              refine gop_off rfl rfl rfl rfl hg76 rfl rfl ?_
                              refine gop (y_pick_t (v := .bool _) rfl hg76 rfl) rfl rfl rfl ?_
                              refine gops_nil ?_
                              refine hN128 _ _ ?_
                              refine gfrom [(1, .pointer _), (80, .bool _)] ⟨rfl, rfl, trivial⟩ fun σ => ?_
                              refine gcond (b := _) rfl (fun hc80 => ?_) (fun hc80 => ?_)
                              · -- slot 80 t
                                have hD : ¬ ((x.thread ≠ 0 ∧ x.kind ≠ 2 ∧ x.kind ≠ 3) ∨ (x.line ≠ 0 ∧ x.kind ≠ 1) ∨ (isEmptyS x.text = false ∧ x.kind ≠ 1 ∧ x.kind ≠ 2) ∨ (0 < (pls x.hs).length ∧ x.kind ≠ 4)) := by simp only [List.length_map]; unfold isEmptyS; grind
                                refine gseq fun N134 hN134 => ?_
                                refine greg ?_
                                refine gop (y_assign (v := .int _ _) rfl) rfl rfl rfl ?_
                                refine gops_nil ?_
                                refine hN134 _ _ ?_
                                refine gfrom [(2, .int _ _)] ⟨rfl, trivial⟩ fun σ => ?_
                                refine gret fun w1 hM => ?_
                                refine ⟨_, res1 rfl (rt (v := .int _ _) rfl), ?_⟩
                                exact ⟨by rw [formC_3 (e := x.pl) (show 1 ≤ x.kind by omega) (show x.kind ≤ 4 by omega) hD (show x.user < 0 ∨ 7 < x.user by omega)], hM.low⟩
                              · -- slot 80 f
                                cases hc80
                    · -- guard 51 off
                      have hg51d := hg51
                      refine gop_on rfl rfl rfl rfl hg42 ?_
                      refine gop (y_bare (y_pick_t (v := .bool _) rfl hg51 rfl)) rfl rfl rfl ?_
                      refine gop (y_pick_t (v := .bool _) rfl hg42 rfl) rfl rfl rfl ?_
                      refine gops_nil ?_
                      refine hN112 _ _ ?_
                      refine gfrom [(1, .pointer _), (54, .bool _)] ⟨rfl, rfl, trivial⟩ fun σ => ?_
                      refine gcond (b := _) rfl (fun hc54 => ?_) (fun hc54 => ?_)
                      · -- slot 54 t
                        refine gseq fun N135 hN135 => ?_
                        refine greg ?_
                        refine gop (y_assign (v := .int _ _) rfl) rfl rfl rfl ?_
                        refine gops_nil ?_
                        refine hN135 _ _ ?_
                        refine gfrom [(2, .int _ _)] ⟨rfl, trivial⟩ fun σ => ?_
                        refine gret fun w1 hM => ?_
                        refine ⟨_, res1 rfl (rt (v := .int _ _) rfl), ?_⟩
                        exact ⟨by rw [formC_5 (e := x.pl) (show 1 ≤ x.kind by omega) (show x.kind ≤ 4 by omega) (show (x.thread ≠ 0 ∧ x.kind ≠ 2 ∧ x.kind ≠ 3) ∨ (x.line ≠ 0 ∧ x.kind ≠ 1) ∨ (isEmptyS x.text = false ∧ x.kind ≠ 1 ∧ x.kind ≠ 2) ∨ (0 < (pls x.hs).length ∧ x.kind ≠ 4) from by simp only [List.length_map]; unfold isEmptyS; grind)], hM.low⟩
                      · -- slot 54 f
                        cases hc54
                  · -- guard 46 off
                    have hg46d := of_decide_eq_true hg46
                    refine gop_off rfl rfl rfl rfl hg46 rfl rfl ?_
                    refine gop_off rfl rfl rfl rfl hg46 rfl rfl ?_
                    refine gop_on rfl rfl rfl rfl hg42 ?_
                    refine gop (y_bare (y_pick_t (v := .bool _) rfl hg46 rfl)) rfl rfl rfl ?_
                    refine gop_on rfl rfl rfl rfl hg42 ?_
                    refine gop (y_bare (y_move (v := .bool _) rfl)) rfl rfl rfl ?_
                    refine gop_off rfl rfl rfl rfl rfl rfl rfl ?_
                    refine gop_on rfl rfl rfl rfl hg42 ?_
                    refine gop (y_bare (y_pick_t (v := .bool _) rfl rfl rfl)) rfl rfl rfl ?_
                    refine gop (y_pick_t (v := .bool _) rfl hg42 rfl) rfl rfl rfl ?_
                    refine gops_nil ?_
                    refine hN112 _ _ ?_
                    refine gfrom [(1, .pointer _), (54, .bool _)] ⟨rfl, rfl, trivial⟩ fun σ => ?_
                    refine gcond (b := _) rfl (fun hc54 => ?_) (fun hc54 => ?_)
                    · -- slot 54 t
                      refine gseq fun N136 hN136 => ?_
                      refine greg ?_
                      refine gop (y_assign (v := .int _ _) rfl) rfl rfl rfl ?_
                      refine gops_nil ?_
                      refine hN136 _ _ ?_
                      refine gfrom [(2, .int _ _)] ⟨rfl, trivial⟩ fun σ => ?_
                      refine gret fun w1 hM => ?_
                      refine ⟨_, res1 rfl (rt (v := .int _ _) rfl), ?_⟩
                      exact ⟨by rw [formC_5 (e := x.pl) (show 1 ≤ x.kind by omega) (show x.kind ≤ 4 by omega) (show (x.thread ≠ 0 ∧ x.kind ≠ 2 ∧ x.kind ≠ 3) ∨ (x.line ≠ 0 ∧ x.kind ≠ 1) ∨ (isEmptyS x.text = false ∧ x.kind ≠ 1 ∧ x.kind ≠ 2) ∨ (0 < (pls x.hs).length ∧ x.kind ≠ 4) from by simp only [List.length_map]; unfold isEmptyS; grind)], hM.low⟩
                    · -- slot 54 f
                      cases hc54
                · -- guard 42 off
                  have hg42d := of_decide_eq_false hg42
                  refine gop_off rfl rfl rfl rfl hg42 rfl rfl ?_
                  refine gop_off rfl rfl rfl rfl hg42 rfl rfl ?_
                  refine gop_off rfl rfl rfl rfl hg42 rfl rfl ?_
                  refine gop_offu rfl rfl rfl rfl rfl rfl ?_
                  refine gop_offu rfl rfl rfl rfl rfl rfl ?_
                  refine gop_offu rfl rfl rfl rfl rfl rfl ?_
                  refine gop_off rfl rfl rfl rfl hg42 rfl rfl ?_
                  refine gop_off rfl rfl rfl rfl hg42 rfl rfl ?_
                  refine gop_offu rfl rfl rfl rfl rfl rfl ?_
                  refine gop_off rfl rfl rfl rfl hg42 rfl rfl ?_
                  refine gop (y_pick_f (v := .bool _) rfl hg42 rfl) rfl rfl rfl ?_
                  refine gops_nil ?_
                  refine hN112 _ _ ?_
                  refine gfrom [(1, .pointer _), (54, .bool _)] ⟨rfl, rfl, trivial⟩ fun σ => ?_
                  refine gcond (b := _) rfl (fun hc54 => ?_) (fun hc54 => ?_)
                  · -- slot 54 t
                    cases hc54
                  · -- slot 54 f
                    refine gskip ?_
                    refine hN111 _ _ ?_
                    refine gfrom [(1, .pointer _)] ⟨rfl, trivial⟩ fun σ => ?_
                    refine gseq fun N137 hN137 => ?_
                    refine gseq fun N138 hN138 => ?_
                    refine greg ?_
                    refine gop (y_fieldAddr_box fa66_0 rfl) rfl rfl rfl ?_
                    refine gop (y_load Try.isAgg3 rfl (cell_box 0 rfl rfl)) rfl rfl rfl ?_
                    refine gop (y_eql rfl rfl) rfl rfl rfl ?_
                    refine gop (y_move (v := .bool _) rfl) rfl rfl rfl ?_
                    refine gop_if (want := true) rfl rfl rfl rfl rfl rfl (fun hg58 => ?_) (fun hg58 => ?_)
                    · -- guard 58 on
                      have hg58d := of_decide_eq_true hg58
                      refine gop (y_bare (y_fieldAddr_box fa66_3 rfl)) rfl rfl rfl ?_
                      refine gop_on rfl rfl rfl rfl hg58 ?_
                      refine gop (y_bare (y_load Try.isAgg3 rfl (cell_box 0 rfl rfl))) rfl rfl rfl ?_
                      refine gop_on rfl rfl rfl rfl hg58 ?_
                      refine gop (y_bare (y_neq rfl rfl)) rfl rfl rfl ?_
                      refine gop_on rfl rfl rfl rfl hg58 ?_
                      refine gop (y_bare (y_move (v := .bool _) rfl)) rfl rfl rfl ?_
                      refine gop_if (want := false) rfl rfl rfl rfl rfl rfl (fun hg62 => ?_) (fun hg62 => ?_)
                      · -- guard 62 on
                        have hg62d := Decidable.not_not.1 (of_decide_eq_false hg62)
                        refine gop (y_bare (y_fieldAddr_box fa66_4 rfl)) rfl rfl rfl ?_
                        refine gop_on rfl rfl rfl rfl hg62 ?_
                        refine gop (y_bare (y_load Try.isAgg9 rfl (cell_box 0 rfl rfl))) rfl rfl rfl ?_
                        refine gop_on rfl rfl rfl rfl hg62 ?_
                        refine gop (y_bare (y_neqs rfl rfl)) rfl rfl rfl ?_
                        refine gop_on rfl rfl rfl rfl hg58 ?_
                        refine gop (y_bare (y_pick_f (v := .bool _) rfl hg62 rfl)) rfl rfl rfl ?_
                        refine gop_on rfl rfl rfl rfl hg58 ?_
                        refine gop (y_bare (y_move (v := .bool _) rfl)) rfl rfl rfl ?_
                        refine gop_if (want := false) rfl rfl rfl rfl rfl rfl (fun hg67 => ?_) (fun hg67 => ?_)
                        · -- guard 67 on
                          have hg67d := hg67
                          refine gop (y_bare (y_fieldAddr_box fa66_2 rfl)) rfl rfl rfl ?_
                          refine gop_on rfl rfl rfl rfl hg67 ?_
                          refine gop (y_bare (y_load Try.isAgg3 rfl (cell_box 0 rfl rfl))) rfl rfl rfl ?_
                          refine gop_on rfl rfl rfl rfl hg67 ?_
                          refine gop (y_bare (y_neq rfl rfl)) rfl rfl rfl ?_
                          refine gop_on rfl rfl rfl rfl hg58 ?_
                          refine gop (y_bare (y_pick_f (v := .bool _) rfl hg67 rfl)) rfl rfl rfl ?_
                          refine gop (y_pick_t (v := .bool _) rfl hg58 rfl) rfl rfl rfl ?_
                          refine gops_nil ?_
                          refine hN138 _ _ ?_
                          refine gfrom [(1, .pointer _), (72, .bool _)] ⟨rfl, rfl, trivial⟩ fun σ => ?_
                          refine gcond (b := _) rfl (fun hc72 => ?_) (fun hc72 => ?_)
                          · -- slot 72 t
                            replace hc72 := of_decide_eq_true hc72
                            refine gseq fun N139 hN139 => ?_
                            refine greg ?_
                            refine gop (y_assign (v := .int _ _) rfl) rfl rfl rfl ?_
                            refine gops_nil ?_
                            refine hN139 _ _ ?_
                            refine gfrom [(2, .int _ _)] ⟨rfl, trivial⟩ fun σ => ?_
                            refine gret fun w1 hM => ?_
                            refine ⟨_, res1 rfl (rt (v := .int _ _) rfl), ?_⟩
                            exact ⟨by rw [formC_5 (e := x.pl) (show 1 ≤ x.kind by omega) (show x.kind ≤ 4 by omega) (show (x.thread ≠ 0 ∧ x.kind ≠ 2 ∧ x.kind ≠ 3) ∨ (x.line ≠ 0 ∧ x.kind ≠ 1) ∨ (isEmptyS x.text = false ∧ x.kind ≠ 1 ∧ x.kind ≠ 2) ∨ (0 < (pls x.hs).length ∧ x.kind ≠ 4) from by simp only [List.length_map]; unfold isEmptyS; grind)], hM.low⟩
                          · -- slot 72 f
                            replace hc72 := Decidable.not_not.1 (of_decide_eq_false hc72)
                            refine gskip ?_
                            refine hN137 _ _ ?_
                            refine gfrom [(1, .pointer _)] ⟨rfl, trivial⟩ fun σ => ?_
                            refine gseq fun N140 hN140 => ?_
                            refine gseq fun N141 hN141 => ?_
                            refine greg ?_
                            refine gop (y_fieldAddr_box fa66_1 rfl) rfl rfl rfl ?_
                            refine gop (y_load Try.isAgg3 rfl (cell_box 0 rfl rfl)) rfl rfl rfl ?_
                            refine gop (y_lss rfl rfl) rfl rfl rfl ?_
                            refine gop (y_move (v := .bool _) rfl) rfl rfl rfl ?_
                            refine gop_if (want := false) rfl rfl rfl rfl rfl rfl (fun hg76 => ?_) (fun hg76 => ?_)
                            · -- guard 76 on
                              have hg76d := of_decide_eq_false hg76
                              refine gop (y_bare (y_fieldAddr_box fa66_1 rfl)) rfl rfl rfl ?_
                              refine gop_on rfl rfl rfl rfl hg76 ?_
                              refine gop (y_bare (y_load Try.isAgg3 rfl (cell_box 0 rfl rfl))) rfl rfl rfl ?_
                              refine gop_on rfl rfl rfl rfl hg76 ?_
                              refine gop (y_bare (y_gtr rfl rfl)) rfl rfl rfl ?_
                              refine gop (y_pick_f (v := .bool _) rfl hg76 rfl) rfl rfl rfl ?_
                              refine gops_nil ?_
                              refine hN141 _ _ ?_
                              refine gfrom [(1, .pointer _), (80, .bool _)] ⟨rfl, rfl, trivial⟩ fun σ => ?_
                              refine gcond (b := _) rfl (fun hc80 => ?_) (fun hc80 => ?_)
                              · -- slot 80 t
                                replace hc80 := of_decide_eq_true hc80
                                have hD : ¬ ((x.thread ≠ 0 ∧ x.kind ≠ 2 ∧ x.kind ≠ 3) ∨ (x.line ≠ 0 ∧ x.kind ≠ 1) ∨ (isEmptyS x.text = false ∧ x.kind ≠ 1 ∧ x.kind ≠ 2) ∨ (0 < (pls x.hs).length ∧ x.kind ≠ 4)) := by simp only [List.length_map]; unfold isEmptyS; grind
                                refine gseq fun N142 hN142 => ?_
                                refine greg ?_
                                refine gop (y_assign (v := .int _ _) rfl) rfl rfl rfl ?_
                                refine gops_nil ?_
                                refine hN142 _ _ ?_
                                refine gfrom [(2, .int _ _)] ⟨rfl, trivial⟩ fun σ => ?_
                                refine gret fun w1 hM => ?_
                                refine ⟨_, res1 rfl (rt (v := .int _ _) rfl), ?_⟩
                                exact ⟨by rw [formC_3 (e := x.pl) (show 1 ≤ x.kind by omega) (show x.kind ≤ 4 by omega) hD (show x.user < 0 ∨ 7 < x.user by omega)], hM.low⟩
                              · -- slot 80 f
                                replace hc80 := of_decide_eq_false hc80
                                have hD : ¬ ((x.thread ≠ 0 ∧ x.kind ≠ 2 ∧ x.kind ≠ 3) ∨ (x.line ≠ 0 ∧ x.kind ≠ 1) ∨ (isEmptyS x.text = false ∧ x.kind ≠ 1 ∧ x.kind ≠ 2) ∨ (0 < (pls x.hs).length ∧ x.kind ≠ 4)) := by simp only [List.length_map]; unfold isEmptyS; grind
                                have hL := formC_l (e := x.pl) (show 1 ≤ x.kind by omega) (show x.kind ≤ 4 by omega) hD (show ¬ (x.user < 0 ∨ 7 < x.user) by omega)
                                refine gskip ?_
                                refine hN140 _ _ ?_
                                refine gfrom [(1, .pointer _)] ⟨rfl, trivial⟩ fun σ => ?_
                                refine gseq fun N143 hN143 => ?_
                                refine gseq fun N144 hN144 => ?_
                                refine greg ?_
                                refine gop (y_fieldAddr_box fa66_0 rfl) rfl rfl rfl ?_
                                refine gop (y_load Try.isAgg3 rfl (cell_box 0 rfl rfl)) rfl rfl rfl ?_
                                refine gop (y_lss rfl rfl) rfl rfl rfl ?_
                                refine gops_nil ?_
                                refine hN144 _ _ ?_
                                refine gfrom [(1, .pointer _), (83, .bool _)] ⟨rfl, rfl, trivial⟩ fun σ => ?_
                                refine gcond (b := _) rfl (fun hc83 => ?_) (fun hc83 => ?_)
                                · -- slot 83 t
                                  replace hc83 := of_decide_eq_true hc83
                                  rw [if_pos (show x.pl.kind < 3 from hc83)] at hL
                                  refine gseq fun N145 hN145 => ?_
                                  refine greg ?_
                                  refine gop (y_fieldAddr_box fa66_4 rfl) rfl rfl rfl ?_
                                  refine gop (y_load Try.isAgg9 rfl (cell_box 0 rfl rfl)) rfl rfl rfl ?_
                                  refine gop_pure (e_call (vs := [.string _]) Try.func56 rfl (by kernel_rfl) rfl) (fun w hM => lineCode_any w _) rfl rfl rfl ?_
                                  refine gop (y_assign (v := .int _ _) rfl) rfl rfl rfl ?_
                                  refine gops_nil ?_
                                  refine hN145 _ _ ?_
                                  refine gfrom [(2, .int _ _)] ⟨rfl, trivial⟩ fun σ => ?_
                                  refine gret fun w1 hM => ?_
                                  refine ⟨_, res1 rfl (rt (v := .int _ _) rfl), ?_⟩
                                  exact ⟨by rw [hL], hM.low⟩
                                · -- slot 83 f
                                  replace hc83 := of_decide_eq_false hc83
                                  rw [if_neg (show ¬ x.pl.kind < 3 from hc83)] at hL
                                  refine gskip ?_
                                  refine hN143 _ _ ?_
                                  refine gfrom [] trivial fun σ => ?_
                                  refine gseq fun N146 hN146 => ?_
                                  refine greg ?_
                                  refine gop (y_assign (v := .int _ _) rfl) rfl rfl rfl ?_
                                  refine gops_nil ?_
                                  refine hN146 _ _ ?_
                                  refine gfrom [(2, .int _ _)] ⟨rfl, trivial⟩ fun σ => ?_
                                  refine gret fun w1 hM => ?_
                                  refine ⟨_, res1 rfl (rt (v := .int _ _) rfl), ?_⟩
                                  exact ⟨by rw [hL], hM.low⟩
                            · -- guard 76 off
                              have hg76d := of_decide_eq_true hg76
                              refine gop_off rfl rfl rfl rfl hg76 rfl rfl ?_
                              refine gop_off rfl rfl rfl rfl hg76 rfl rfl ?_
                              refine gop (y_pick_t (v := .bool _) rfl hg76 rfl) rfl rfl rfl ?_
                              refine gops_nil ?_
                              refine hN141 _ _ ?_
                              refine gfrom [(1, .pointer _), (80, .bool _)] ⟨rfl, rfl, trivial⟩ fun σ => ?_
                              refine gcond (b := _) rfl (fun hc80 => ?_) (fun hc80 => ?_)
                              · -- slot 80 t
                                have hD : ¬ ((x.thread ≠ 0 ∧ x.kind ≠ 2 ∧ x.kind ≠ 3) ∨ (x.line ≠ 0 ∧ x.kind ≠ 1) ∨ (isEmptyS x.text = false ∧ x.kind ≠ 1 ∧ x.kind ≠ 2) ∨ (0 < (pls x.hs).length ∧ x.kind ≠ 4)) := by simp only [List.length_map]; unfold isEmptyS; grind
                                refine gseq fun N147 hN147 => ?_
                                refine greg ?_
                                refine gop (y_assign (v := .int _ _) rfl) rfl rfl rfl ?_
                                refine gops_nil ?_
                                refine hN147 _ _ ?_
                                refine gfrom [(2, .int _ _)] ⟨rfl, trivial⟩ fun σ => ?_
                                refine gret fun w1 hM => ?_
                                refine ⟨_, res1 rfl (rt (v := .int _ _) rfl), ?_⟩
                                exact ⟨by rw [formC_3 (e := x.pl) (show 1 ≤ x.kind by omega) (show x.kind ≤ 4 by omega) hD (show x.user < 0 ∨ 7 < x.user by omega)], hM.low⟩
                              · -- slot 80 f
                                cases hc80
                        · -- guard 67 off
                          have hg67d := hg67
                          refine gop_off rfl rfl rfl rfl hg67 rfl rfl ?_
                          refine gop_off rfl rfl rfl rfl hg67 rfl rfl ?_
                          refine gop_on rfl rfl rfl rfl hg58 ?_
                          refine gop (y_bare (y_pick_t (v := .bool _) rfl hg67 rfl)) rfl rfl rfl ?_
                          refine gop (y_pick_t (v := .bool _) rfl hg58 rfl) rfl rfl rfl ?_
                          refine gops_nil ?_
                          refine hN138 _ _ ?_
                          refine gfrom [(1, .pointer _), (72, .bool _)] ⟨rfl, rfl, trivial⟩ fun σ => ?_
                          refine gcond (b := _) rfl (fun hc72 => ?_) (fun hc72 => ?_)
                          · -- slot 72 t
                            refine gseq fun N148 hN148 => ?_
                            refine greg ?_
                            refine gop (y_assign (v := .int _ _) rfl) rfl rfl rfl ?_
                            refine gops_nil ?_
                            refine hN148 _ _ ?_
                            refine gfrom [(2, .int _ _)] ⟨rfl, trivial⟩ fun σ => ?_
                            refine gret fun w1 hM => ?_
                            refine ⟨_, res1 rfl (rt (v := .int _ _) rfl), ?_⟩
                            exact ⟨by rw [formC_5 (e := x.pl) (show 1 ≤ x.kind by omega) (show x.kind ≤ 4 by omega) (show (x.thread ≠ 0 ∧ x.kind ≠ 2 ∧ x.kind ≠ 3) ∨ (x.line ≠ 0 ∧ x.kind ≠ 1) ∨ (isEmptyS x.text = false ∧ x.kind ≠ 1 ∧ x.kind ≠ 2) ∨ (0 < (pls x.hs).length ∧ x.kind ≠ 4) from by simp only [List.length_map]; unfold isEmptyS; grind)], hM.low⟩
                          · -- slot 72 f
                            cases hc72
                      · -- guard 62 off
                        have hg62d := of_decide_eq_true hg62
                        refine gop_off rfl rfl rfl rfl hg62 rfl rfl ?_
                        refine gop_off rfl rfl rfl rfl hg62 rfl rfl ?_
                        refine gop_on rfl rfl rfl rfl hg58 ?_
                        refine gop (y_bare (y_pick_t (v := .bool _) rfl hg62 rfl)) rfl rfl rfl ?_
                        refine gop_on rfl rfl rfl rfl hg58 ?_
                        refine gop (y_bare (y_move (v := .bool _) rfl)) rfl rfl rfl ?_
                        refine gop_off rfl rfl rfl rfl rfl rfl rfl ?_
                        refine gop_off rfl rfl rfl rfl rfl rfl rfl ?_
                        refine gop_off rfl rfl rfl rfl rfl rfl rfl ?_
                        refine gop_on rfl rfl rfl rfl hg58 ?_
                        refine gop (y_bare (y_pick_t (v := .bool _) rfl rfl rfl)) rfl rfl rfl ?_
                        refine gop (y_pick_t (v := .bool _) rfl hg58 rfl) rfl rfl rfl ?_
                        refine gops_nil ?_
                        refine hN138 _ _ ?_
                        refine gfrom [(1, .pointer _), (72, .bool _)] ⟨rfl, rfl, trivial⟩ fun σ => ?_
                        refine gcond (b := _) rfl (fun hc72 => ?_) (fun hc72 => ?_)
                        · -- slot 72 t
                          refine gseq fun N149 hN149 => ?_
                          refine greg ?_
                          refine gop (y_assign (v := .int _ _) rfl) rfl rfl rfl ?_
                          refine gops_nil ?_
                          refine hN149 _ _ ?_
                          refine gfrom [(2, .int _ _)] ⟨rfl, trivial⟩ fun σ => ?_
                          refine gret fun w1 hM => ?_
                          refine ⟨_, res1 rfl (rt (v := .int _ _) rfl), ?_⟩
                          exact ⟨by rw [formC_5 (e := x.pl) (show 1 ≤ x.kind by omega) (show x.kind ≤ 4 by omega) (show (x.thread ≠ 0 ∧ x.kind ≠ 2 ∧ x.kind ≠ 3) ∨ (x.line ≠ 0 ∧ x.kind ≠ 1) ∨ (isEmptyS x.text = false ∧ x.kind ≠ 1 ∧ x.kind ≠ 2) ∨ (0 < (pls x.hs).length ∧ x.kind ≠ 4) from by simp only [List.length_map]; unfold isEmptyS; grind)], hM.low⟩
                        · -- slot 72 f
                          cases hc72
                    · -- guard 58 off
                      have hg58d := of_decide_eq_false hg58
                      refine gop_off rfl rfl rfl rfl hg58 rfl rfl ?_
                      refine gop_off rfl rfl rfl rfl hg58 rfl rfl ?_
                      refine gop_off rfl rfl rfl rfl hg58 rfl rfl ?_
                      refine gop_offu rfl rfl rfl rfl rfl rfl ?_
                      refine gop_offu rfl rfl rfl rfl rfl rfl ?_
                      refine gop_offu rfl rfl rfl rfl rfl rfl ?_
                      refine gop_off rfl rfl rfl rfl hg58 rfl rfl ?_
                      refine gop_off rfl rfl rfl rfl hg58 rfl rfl ?_
                      refine gop_offu rfl rfl rfl rfl rfl rfl ?_
                      refine gop_offu rfl rfl rfl rfl rfl rfl ?_
                      refine gop_offu rfl rfl rfl rfl rfl rfl ?_
                      refine gop_off rfl rfl rfl rfl hg58 rfl rfl ?_
                      refine gop (y_pick_f (v := .bool _) rfl hg58 rfl) rfl rfl rfl ?_
                      refine gops_nil ?_
                      refine hN138 _ _ ?_
                      refine gfrom [(1, .pointer _), (72, .bool _)] ⟨rfl, rfl, trivial⟩ fun σ => ?_
                      refine gcond (b := _) rfl (fun hc72 => ?_) (fun hc72 => ?_)
                      · -- slot 72 t
                        cases hc72
                      · -- slot 72 f
                        refine gskip ?_
                        refine hN137 _ _ ?_
                        refine gfrom [(1, .pointer _)] ⟨rfl, trivial⟩ fun σ => ?_
                        refine gseq fun N150 hN150 => ?_
                        refine gseq fun N151 hN151 => ?_
                        refine greg ?_
                        refine gop (y_fieldAddr_box fa66_1 rfl) rfl rfl rfl ?_
                        refine gop (y_load Try.isAgg3 rfl (cell_box 0 rfl rfl)) rfl rfl rfl ?_
                        refine gop (y_lss rfl rfl) rfl rfl rfl ?_
                        refine gop (y_move (v := .bool _) rfl) rfl rfl rfl ?_
                        refine gop_if (want := false) rfl rfl rfl rfl rfl rfl (fun hg76 => ?_) (fun hg76 => ?_)
                        · -- guard 76 on
                          have hg76d := of_decide_eq_false hg76
                          refine gop (y_bare (y_fieldAddr_box fa66_1 rfl)) rfl rfl rfl ?_
                          refine gop_on rfl rfl rfl rfl hg76 ?_
                          refine gop (y_bare (y_load Try.isAgg3 rfl (cell_box 0 rfl rfl))) rfl rfl rfl ?_
                          refine gop_on rfl rfl rfl rfl hg76 ?_
                          refine gop (y_bare (y_gtr rfl rfl)) rfl rfl rfl ?_
                          refine gop (y_pick_f (v := .bool _) rfl hg76 rfl) rfl rfl rfl ?_
                          refine gops_nil ?_
                          refine hN151 _ _ ?_
                          refine gfrom [(1, .pointer _), (80, .bool _)] ⟨rfl, rfl, trivial⟩ fun σ => ?_
                          refine gcond (b := _) rfl (fun hc80 => ?_) (fun hc80 => ?_)
                          · -- slot 80 t
                            replace hc80 := of_decide_eq_true hc80
                            have hD : ¬ ((x.thread ≠ 0 ∧ x.kind ≠ 2 ∧ x.kind ≠ 3) ∨ (x.line ≠ 0 ∧ x.kind ≠ 1) ∨ (isEmptyS x.text = false ∧ x.kind ≠ 1 ∧ x.kind ≠ 2) ∨ (0 < (pls x.hs).length ∧ x.kind ≠ 4)) := by simp only [List.length_map]; unfold isEmptyS; grind
                            refine gseq fun N152 hN152 => ?_
                            refine greg ?_
                            refine gop (y_assign (v := .int _ _) rfl) rfl rfl rfl ?_
                            refine gops_nil ?_
                            refine hN152 _ _ ?_
                            refine gfrom [(2, .int _ _)] ⟨rfl, trivial⟩ fun σ => ?_
                            refine gret fun w1 hM => ?_
                            refine ⟨_, res1 rfl (rt (v := .int _ _) rfl), ?_⟩
                            exact ⟨by rw [formC_3 (e := x.pl) (show 1 ≤ x.kind by omega) (show x.kind ≤ 4 by omega) hD (show x.user < 0 ∨ 7 < x.user by omega)], hM.low⟩
                          · -- slot 80 f
                            replace hc80 := of_decide_eq_false hc80
                            have hD : ¬ ((x.thread ≠ 0 ∧ x.kind ≠ 2 ∧ x.kind ≠ 3) ∨ (x.line ≠ 0 ∧ x.kind ≠ 1) ∨ (isEmptyS x.text = false ∧ x.kind ≠ 1 ∧ x.kind ≠ 2) ∨ (0 < (pls x.hs).length ∧ x.kind ≠ 4)) := by simp only [List.length_map]; unfold isEmptyS; grind
                            have hL := formC_l (e := x.pl) (show 1 ≤ x.kind by omega) (show x.kind ≤ 4 by omega) hD (show ¬ (x.user < 0 ∨ 7 < x.user) by omega)
                            refine gskip ?_
                            refine hN150 _ _ ?_
                            refine gfrom [(1, .pointer _)] ⟨rfl, trivial⟩ fun σ => ?_
                            refine gseq fun N153 hN153 => ?_
                            refine gseq fun N154 hN154 => ?_
                            refine greg ?_
                            refine gop (y_fieldAddr_box fa66_0 rfl) rfl rfl rfl ?_
                            refine gop (y_load Try.isAgg3 rfl (cell_box 0 rfl rfl)) rfl rfl rfl ?_
                            refine gop (y_lss rfl rfl) rfl rfl rfl ?_
                            refine gops_nil ?_
                            refine hN154 _ _ ?_
                            refine gfrom [(1, .pointer _), (83, .bool _)] ⟨rfl, rfl, trivial⟩ fun σ => ?_
                            refine gcond (b := _) rfl (fun hc83 => ?_) (fun hc83 => ?_)
                            · -- slot 83 t
                              replace hc83 := of_decide_eq_true hc83
                              rw [if_pos (show x.pl.kind < 3 from hc83)] at hL
                              refine gseq fun N155 hN155 => ?_
                              refine greg ?_
                              refine gop (y_fieldAddr_box fa66_4 rfl) rfl rfl rfl ?_
                              refine gop (y_load Try.isAgg9 rfl (cell_box 0 rfl rfl)) rfl rfl rfl ?_
                              refine gop_pure (e_call (vs := [.string _]) Try.func56 rfl (by kernel_rfl) rfl) (fun w hM => lineCode_any w _) rfl rfl rfl ?_
                              refine gop (y_assign (v := .int _ _) rfl) rfl rfl rfl ?_
                              refine gops_nil ?_
                              refine hN155 _ _ ?_
                              refine gfrom [(2, .int _ _)] ⟨rfl, trivial⟩ fun σ => ?_
                              refine gret fun w1 hM => ?_
                              refine ⟨_, res1 rfl (rt (v := .int _ _) rfl), ?_⟩
                              exact ⟨by rw [hL], hM.low⟩
                            · -- slot 83 f
                              replace hc83 := of_decide_eq_false hc83
                              rw [if_neg (show ¬ x.pl.kind < 3 from hc83)] at hL
                              refine gskip ?_
                              refine hN153 _ _ ?_
                              refine gfrom [] trivial fun σ => ?_
                              refine gseq fun N156 hN156 => ?_
                              refine greg ?_
                              refine gop (y_assign (v := .int _ _) rfl) rfl rfl rfl ?_
                              refine gops_nil ?_
                              refine hN156 _ _ ?_
                              refine gfrom [(2, .int _ _)] ⟨rfl, trivial⟩ fun σ => ?_
                              refine gret fun w1 hM => ?_
                              refine ⟨_, res1 rfl (rt (v := .int _ _) rfl), ?_⟩
                              exact ⟨by rw [hL], hM.low⟩
                        · -- guard 76 off
                          have hg76d := of_decide_eq_true hg76
                          refine gop_off rfl rfl rfl rfl hg76 rfl rfl ?_
                          refine gop_off rfl rfl rfl rfl hg76 rfl rfl ?_
                          refine gop (y_pick_t (v := .bool _) rfl hg76 rfl) rfl rfl rfl ?_
                          refine gops_nil ?_
                          refine hN151 _ _ ?_
                          refine gfrom [(1, .pointer _), (80, .bool _)] ⟨rfl, rfl, trivial⟩ fun σ => ?_
                          refine gcond (b := _) rfl (fun hc80 => ?_) (fun hc80 => ?_)
                          · -- slot 80 t
                            have hD : ¬ ((x.thread ≠ 0 ∧ x.kind ≠ 2 ∧ x.kind ≠ 3) ∨ (x.line ≠ 0 ∧ x.kind ≠ 1) ∨ (isEmptyS x.text = false ∧ x.kind ≠ 1 ∧ x.kind ≠ 2) ∨ (0 < (pls x.hs).length ∧ x.kind ≠ 4)) := by simp only [List.length_map]; unfold isEmptyS; grind
                            refine gseq fun N157 hN157 => ?_
                            refine greg ?_
                            refine gop (y_assign (v := .int _ _) rfl) rfl rfl rfl ?_
                            refine gops_nil ?_
                            refine hN157 _ _ ?_
                            refine gfrom [(2, .int _ _)] ⟨rfl, trivial⟩ fun σ => ?_
                            refine gret fun w1 hM => ?_
                            refine ⟨_, res1 rfl (rt (v := .int _ _) rfl), ?_⟩
                            exact ⟨by rw [formC_3 (e := x.pl) (show 1 ≤ x.kind by omega) (show x.kind ≤ 4 by omega) hD (show x.user < 0 ∨ 7 < x.user by omega)], hM.low⟩
                          · -- slot 80 f
                            cases hc80
            · -- guard 35 off
              have hg35d := of_decide_eq_true hg35
              refine gop_on rfl rfl rfl rfl hg31 ?_
              refine gop (y_bare (y_pick_t (v := .bool _) rfl hg35 rfl)) rfl rfl rfl ?_
              refine gop (y_pick_t (v := .bool _) rfl hg31 rfl) rfl rfl rfl ?_
              refine gops_nil ?_
              refine hN109 _ _ ?_
              refine gfrom [(1, .pointer _), (3, .bool _), (38, .bool _)] ⟨rfl, rfl, rfl, trivial⟩ fun σ => ?_
              refine gcond (b := _) rfl (fun hc38 => ?_) (fun hc38 => ?_)
              · -- slot 38 t
                refine gseq fun N158 hN158 => ?_
                refine greg ?_
                refine gop (y_assign (v := .int _ _) rfl) rfl rfl rfl ?_
                refine gops_nil ?_
                refine hN158 _ _ ?_
                refine gfrom [(2, .int _ _)] ⟨rfl, trivial⟩ fun σ => ?_
                refine gret fun w1 hM => ?_
                refine ⟨_, res1 rfl (rt (v := .int _ _) rfl), ?_⟩
                exact ⟨by rw [formC_5 (e := x.pl) (show 1 ≤ x.kind by omega) (show x.kind ≤ 4 by omega) (show (x.thread ≠ 0 ∧ x.kind ≠ 2 ∧ x.kind ≠ 3) ∨ (x.line ≠ 0 ∧ x.kind ≠ 1) ∨ (isEmptyS x.text = false ∧ x.kind ≠ 1 ∧ x.kind ≠ 2) ∨ (0 < (pls x.hs).length ∧ x.kind ≠ 4) from by simp only [List.length_map]; grind)], hM.low⟩
              · -- slot 38 f
                cases hc38
          · -- guard 31 off
            have hg31d := of_decide_eq_false hg31
            refine gop_off rfl rfl rfl rfl hg31 rfl rfl ?_
            refine gop_off rfl rfl rfl rfl hg31 rfl rfl ?_
            refine gop_off rfl rfl rfl rfl hg31 rfl rfl ?_
            refine gop_offu rfl rfl rfl rfl rfl rfl ?_
            refine gop_off rfl rfl rfl rfl hg31 rfl rfl ?_
            refine gop (y_pick_f (v := .bool _) rfl hg31 rfl) rfl rfl rfl ?_
            refine gops_nil ?_
            refine hN109 _ _ ?_
            refine gfrom [(1, .pointer _), (3, .bool _), (38, .bool _)] ⟨rfl, rfl, rfl, trivial⟩ fun σ => ?_
            refine gcond (b := _) rfl (fun hc38 => ?_) (fun hc38 => ?_)
            · -- slot 38 t
              cases hc38
            · -- slot 38 f
              refine gskip ?_
              refine hN108 _ _ ?_
              refine gfrom [(1, .pointer _), (3, .bool _)] ⟨rfl, rfl, trivial⟩ fun σ => ?_
              refine gseq fun N159 hN159 => ?_
              refine gseq fun N160 hN160 => ?_
              refine greg ?_
              refine gop (y_fieldAddr_box fa66_0 rfl) rfl rfl rfl ?_
              refine gop (y_load Try.isAgg3 rfl (cell_box 0 rfl rfl)) rfl rfl rfl ?_
              refine gop (y_eql rfl rfl) rfl rfl rfl ?_
              refine gop (y_move (v := .bool _) rfl) rfl rfl rfl ?_
              refine gop_if (want := true) rfl rfl rfl rfl rfl rfl (fun hg42 => ?_) (fun hg42 => ?_)
              · -- guard 42 on
                have hg42d := of_decide_eq_true hg42
                refine gop (y_bare (y_fieldAddr_box fa66_3 rfl)) rfl rfl rfl ?_
                refine gop_on rfl rfl rfl rfl hg42 ?_
                refine gop (y_bare (y_load Try.isAgg3 rfl (cell_box 0 rfl rfl))) rfl rfl rfl ?_
                refine gop_on rfl rfl rfl rfl hg42 ?_
                refine gop (y_bare (y_neq rfl rfl)) rfl rfl rfl ?_
                refine gop_on rfl rfl rfl rfl hg42 ?_
                refine gop (y_bare (y_move (v := .bool _) rfl)) rfl rfl rfl ?_
                refine gop_if (want := false) rfl rfl rfl rfl rfl rfl (fun hg46 => ?_) (fun hg46 => ?_)
                · -- guard 46 on
                  have hg46d := Decidable.not_not.1 (of_decide_eq_false hg46)
                  refine gop (y_bare (y_fieldAddr_box fa66_4 rfl)) rfl rfl rfl ?_
                  refine gop_on rfl rfl rfl rfl hg46 ?_
                  refine gop (y_bare (y_load Try.isAgg9 rfl (cell_box 0 rfl rfl))) rfl rfl rfl ?_
                  refine gop_on rfl rfl rfl rfl hg46 ?_
                  refine gop (y_bare (y_neqs rfl rfl)) rfl rfl rfl ?_
                  refine gop_on rfl rfl rfl rfl hg42 ?_
                  refine gop (y_bare (y_pick_f (v := .bool _) rfl hg46 rfl)) rfl rfl rfl ?_
                  refine gop_on rfl rfl rfl rfl hg42 ?_
                  refine gop (y_bare (y_move (v := .bool _) rfl)) rfl rfl rfl ?_
                  refine gop_if (want := false) rfl rfl rfl rfl rfl rfl (fun hg51 => ?_) (fun hg51 => ?_)
                  · -- guard 51 on
                    have hg51d := hg51
                    refine gop (y_bare (y_move (v := .bool _) rfl)) rfl rfl rfl ?_
                    refine gop_on rfl rfl rfl rfl hg42 ?_
                    refine gop (y_bare (y_pick_f (v := .bool _) rfl hg51 rfl)) rfl rfl rfl ?_
                    refine gop (y_pick_t (v := .bool _) rfl hg42 rfl) rfl rfl rfl ?_
                    refine gops_nil ?_
                    refine hN160 _ _ ?_
                    refine gfrom [(1, .pointer _), (54, .bool _)] ⟨rfl, rfl, trivial⟩ fun σ => ?_
                    refine gcond (b := _) rfl (fun hc54 => ?_) (fun hc54 => ?_)
                    · -- slot 54 t
                      replace hc54 := of_decide_eq_true hc54
                      refine gseq fun N161 hN161 => ?_
                      refine greg ?_
                      refine gop (y_assign (v := .int _ _) rfl) rfl rfl rfl ?_
                      refine gops_nil ?_
                      refine hN161 _ _ ?_
                      refine gfrom [(2, .int _ _)] ⟨rfl, trivial⟩ fun σ => ?_
                      refine gret fun w1 hM => ?_
                      refine ⟨_, res1 rfl (rt (v := .int _ _) rfl), ?_⟩
                      exact ⟨by rw [formC_5 (e := x.pl) (show 1 ≤ x.kind by omega) (show x.kind ≤ 4 by omega) (show (x.thread ≠ 0 ∧ x.kind ≠ 2 ∧ x.kind ≠ 3) ∨ (x.line ≠ 0 ∧ x.kind ≠ 1) ∨ (isEmptyS x.text = false ∧ x.kind ≠ 1 ∧ x.kind ≠ 2) ∨ (0 < (pls x.hs).length ∧ x.kind ≠ 4) from by simp only [List.length_map]; unfold isEmptyS; grind)], hM.low⟩
                    · -- slot 54 f
                      replace hc54 := of_decide_eq_false hc54
                      refine gskip ?_
                      refine hN159 _ _ ?_
                      refine gfrom [(1, .pointer _)] ⟨rfl, trivial⟩ fun σ => ?_
                      refine gseq fun N162 hN162 => ?_
                      refine gseq fun N163 hN163 => ?_
                      refine greg ?_
                      refine gop (y_fieldAddr_box fa66_0 rfl) rfl rfl rfl ?_
                      refine gop (y_load Try.isAgg3 rfl (cell_box 0 rfl rfl)) rfl rfl rfl ?_
                      refine gop (y_eql rfl rfl) rfl rfl rfl ?_
                      refine gop (y_move (v := .bool _) rfl) rfl rfl rfl ?_
                      refine gop_if (want := true) rfl rfl rfl rfl rfl rfl (fun hg58 => ?_) (fun hg58 => ?_)
                      · -- guard 58 on
                        have hg58d := of_decide_eq_true hg58
                        refine gop (y_bare (y_fieldAddr_box fa66_3 rfl)) rfl rfl rfl ?_
                        refine gop_on rfl rfl rfl rfl hg58 ?_
                        refine gop (y_bare (y_load Try.isAgg3 rfl (cell_box 0 rfl rfl))) rfl rfl rfl ?_
                        refine gop_on rfl rfl rfl rfl hg58 ?_
                        refine gop (y_bare (y_neq rfl rfl)) rfl rfl rfl ?_
                        refine gop_on rfl rfl rfl rfl hg58 ?_
                        refine gop (y_bare (y_move (v := .bool _) rfl)) rfl rfl rfl ?_
                        refine gop_if (want := false) rfl rfl rfl rfl rfl rfl (fun hg62 => ?_) (fun hg62 => ?_)
                        · -- guard 62 on
                          have hg62d := Decidable.not_not.1 (of_decide_eq_false hg62)
                          refine gop (y_bare (y_fieldAddr_box fa66_4 rfl)) rfl rfl rfl ?_
                          refine gop_on rfl rfl rfl rfl hg62 ?_
                          refine gop (y_bare (y_load Try.isAgg9 rfl (cell_box 0 rfl rfl))) rfl rfl rfl ?_
                          refine gop_on rfl rfl rfl rfl hg62 ?_
                          refine gop (y_bare (y_neqs rfl rfl)) rfl rfl rfl ?_
                          refine gop_on rfl rfl rfl rfl hg58 ?_
                          refine gop (y_bare (y_pick_f (v := .bool _) rfl hg62 rfl)) rfl rfl rfl ?_
                          refine gop_on rfl rfl rfl rfl hg58 ?_
                          refine gop (y_bare (y_move (v := .bool _) rfl)) rfl rfl rfl ?_
                          refine gop_if (want := false) rfl rfl rfl rfl rfl rfl (fun hg67 => ?_) (fun hg67 => ?_)
                          · -- guard 67 on
                            have hg67d := hg67
                            refine gop (y_bare (y_fieldAddr_box fa66_2 rfl)) rfl rfl rfl ?_
                            refine gop_on rfl rfl rfl rfl hg67 ?_
                            refine gop (y_bare (y_load Try.isAgg3 rfl (cell_box 0 rfl rfl))) rfl rfl rfl ?_
                            refine gop_on rfl rfl rfl rfl hg67 ?_
                            refine gop (y_bare (y_neq rfl rfl)) rfl rfl rfl ?_
                            refine gop_on rfl rfl rfl rfl hg58 ?_
                            refine gop (y_bare (y_pick_f (v := .bool _) rfl hg67 rfl)) rfl rfl rfl ?_
                            refine gop (y_pick_t (v := .bool _) rfl hg58 rfl) rfl rfl rfl ?_
                            refine gops_nil ?_
                            refine hN163 _ _ ?_
                            refine gfrom [(1, .pointer _), (72, .bool _)] ⟨rfl, rfl, trivial⟩ fun σ => ?_
                            refine gcond (b := _) rfl (fun hc72 => ?_) (fun hc72 => ?_)
                            · -- slot 72 t
                              replace hc72 := of_decide_eq_true hc72
                              refine gseq fun N164 hN164 => ?_
                              refine greg ?_
                              refine gop (y_assign (v := .int _ _) rfl) rfl rfl rfl ?_
                              refine gops_nil ?_
                              refine hN164 _ _ ?_
                              refine gfrom [(2, .int _ _)] ⟨rfl, trivial⟩ fun σ => ?_
                              refine gret fun w1 hM => ?_
                              refine ⟨_, res1 rfl (rt (v := .int _ _) rfl), ?_⟩
                              exact ⟨by rw [formC_5 (e := x.pl) (show 1 ≤ x.kind by omega) (show x.kind ≤ 4 by omega) (show (x.thread ≠ 0 ∧ x.kind ≠ 2 ∧ x.kind ≠ 3) ∨ (x.line ≠ 0 ∧ x.kind ≠ 1) ∨ (isEmptyS x.text = false ∧ x.kind ≠ 1 ∧ x.kind ≠ 2) ∨ (0 < (pls x.hs).length ∧ x.kind ≠ 4) from by simp only [List.length_map]; unfold isEmptyS; grind)], hM.low⟩
                            · -- slot 72 f
                              replace hc72 := Decidable.not_not.1 (of_decide_eq_false hc72)
                              refine gskip ?_
                              refine hN162 _ _ ?_
                              refine gfrom [(1, .pointer _)] ⟨rfl, trivial⟩ fun σ => ?_
                              refine gseq fun N165 hN165 => ?_
                              refine gseq fun N166 hN166 => ?_
                              refine greg ?_
                              refine gop (y_fieldAddr_box fa66_1 rfl) rfl rfl rfl ?_
                              refine gop (y_load Try.isAgg3 rfl (cell_box 0 rfl rfl)) rfl rfl rfl ?_
                              refine gop (y_lss rfl rfl) rfl rfl rfl ?_
                              refine gop (y_move (v := .bool _) rfl) rfl rfl rfl ?_
                              refine gop_if (want := false) rfl rfl rfl rfl rfl rfl (fun hg76 => ?_) (fun hg76 => ?_)
                              · -- guard 76 on
                                have hg76d := of_decide_eq_false hg76
                                refine gop (y_bare (y_fieldAddr_box fa66_1 rfl)) rfl rfl rfl ?_
                                refine gop_on rfl rfl rfl rfl hg76 ?_
                                refine gop (y_bare (y_load Try.isAgg3 rfl (cell_box 0 rfl rfl))) rfl rfl rfl ?_
                                refine gop_on rfl rfl rfl rfl hg76 ?_
                                refine gop (y_bare (y_gtr rfl rfl)) rfl rfl rfl ?_
                                refine gop (y_pick_f (v := .bool _) rfl hg76 rfl) rfl rfl rfl ?_
                                refine gops_nil ?_
                                refine hN166 _ _ ?_
                                refine gfrom [(1, .pointer _), (80, .bool _)] ⟨rfl, rfl, trivial⟩ fun σ => ?_
                                refine gcond (b := _) rfl (fun hc80 => ?_) (fun hc80 => ?_)
                                · -- slot 80 t
                                  replace hc80 := of_decide_eq_true hc80
                                  have hD : ¬ ((x.thread ≠ 0 ∧ x.kind ≠ 2 ∧ x.kind ≠ 3) ∨ (x.line ≠ 0 ∧ x.kind ≠ 1) ∨ (isEmptyS x.text = false ∧ x.kind ≠ 1 ∧ x.kind ≠ 2) ∨ (0 < (pls x.hs).length ∧ x.kind ≠ 4)) := by simp only [List.length_map]; unfold isEmptyS; grind
                                  refine gseq fun N167 hN167 => ?_
                                  refine greg ?_
                                  refine gop (y_assign (v := .int _ _) rfl) rfl rfl rfl ?_
                                  refine gops_nil ?_
                                  refine hN167 _ _ ?_
                                  refine gfrom [(2, .int _ _)] ⟨rfl, trivial⟩ fun σ => ?_
                                  refine gret fun w1 hM => ?_
                                  refine ⟨_, res1 rfl (rt (v := .int _ _) rfl), ?_⟩
                                  exact ⟨by rw [formC_3 (e := x.pl) (show 1 ≤ x.kind by omega) (show x.kind ≤ 4 by omega) hD (show x.user < 0 ∨ 7 < x.user by omega)], hM.low⟩
                                · -- slot 80 f
                                  replace hc80 := of_decide_eq_false hc80
                                  have hD : ¬ ((x.thread ≠ 0 ∧ x.kind ≠ 2 ∧ x.kind ≠ 3) ∨ (x.line ≠ 0 ∧ x.kind ≠ 1) ∨ (isEmptyS x.text = false ∧ x.kind ≠ 1 ∧ x.kind ≠ 2) ∨ (0 < (pls x.hs).length ∧ x.kind ≠ 4)) := by simp only [List.length_map]; unfold isEmptyS; grind
                                  have hL := formC_l (e := x.pl) (show 1 ≤ x.kind by omega) (show x.kind ≤ 4 by omega) hD (show ¬ (x.user < 0 ∨ 7 < x.user) by omega)
                                  refine gskip ?_
                                  refine hN165 _ _ ?_
                                  refine gfrom [(1, .pointer _)] ⟨rfl, trivial⟩ fun σ => ?_
                                  refine gseq fun N168 hN168 => ?_
                                  refine gseq fun N169 hN169 => ?_
                                  refine greg ?_
                                  refine gop (y_fieldAddr_box fa66_0 rfl) rfl rfl rfl ?_
                                  refine gop (y_load Try.isAgg3 rfl (cell_box 0 rfl rfl)) rfl rfl rfl ?_
                                  refine gop (y_lss rfl rfl) rfl rfl rfl ?_
                                  refine gops_nil ?_
                                  refine hN169 _ _ ?_
                                  refine gfrom [(1, .pointer _), (83, .bool _)] ⟨rfl, rfl, trivial⟩ fun σ => ?_
                                  refine gcond (b := _) rfl (fun hc83 => ?_) (fun hc83 => ?_)
                                  · -- slot 83 t
                                    replace hc83 := of_decide_eq_true hc83
                                    rw [if_pos (show x.pl.kind < 3 from hc83)] at hL
                                    refine gseq fun N170 hN170 => ?_
                                    refine greg ?_
                                    refine gop (y_fieldAddr_box fa66_4 rfl) rfl rfl rfl ?_
                                    refine gop (y_load Try.isAgg9 rfl (cell_box 0 rfl rfl)) rfl rfl rfl ?_
                                    refine gop_pure (e_call (vs := [.string _]) Try.func56 rfl (by kernel_rfl) rfl) (fun w hM => lineCode_any w _) rfl rfl rfl ?_
                                    refine gop (y_assign (v := .int _ _) rfl) rfl rfl rfl ?_
                                    refine gops_nil ?_
                                    refine hN170 _ _ ?_
                                    refine gfrom [(2, .int _ _)] ⟨rfl, trivial⟩ fun σ => ?_
                                    refine gret fun w1 hM => ?_
                                    refine ⟨_, res1 rfl (rt (v := .int _ _) rfl), ?_⟩
                                    exact ⟨by rw [hL], hM.low⟩
                                  · -- slot 83 f
                                    replace hc83 := of_decide_eq_false hc83
                                    rw [if_neg (show ¬ x.pl.kind < 3 from hc83)] at hL
                                    refine gskip ?_
                                    refine hN168 _ _ ?_
                                    refine gfrom [] trivial fun σ => ?_
                                    refine gseq fun N171 hN171 => ?_
                                    refine greg ?_
                                    refine gop (y_assign (v := .int _ _) rfl) rfl rfl rfl ?_
                                    refine gops_nil ?_
                                    refine hN171 _ _ ?_
                                    refine gfrom [(2, .int _ _)] ⟨rfl, trivial⟩ fun σ => ?_
                                    refine gret fun w1 hM => ?_
                                    refine ⟨_, res1 rfl (rt (v := .int _ _) rfl), ?_⟩
                                    exact ⟨by rw [hL], hM.low⟩
                              · -- guard 76 off
                                have hg76d := of_decide_eq_true hg76
                                refine gop_off rfl rfl rfl rfl hg76 rfl rfl ?_
                                refine gop_off rfl rfl rfl rfl hg76 rfl rfl ?_
                                refine gop (y_pick_t (v := .bool _) rfl hg76 rfl) rfl rfl rfl ?_
                                refine gops_nil ?_
                                refine hN166 _ _ ?_
                                refine gfrom [(1, .pointer _), (80, .bool _)] ⟨rfl, rfl, trivial⟩ fun σ => ?_
                                refine gcond (b := _) rfl (fun hc80 => ?_) (fun hc80 => ?_)
                                · -- slot 80 t
                                  have hD : ¬ ((x.thread ≠ 0 ∧ x.kind ≠ 2 ∧ x.kind ≠ 3) ∨ (x.line ≠ 0 ∧ x.kind ≠ 1) ∨ (isEmptyS x.text = false ∧ x.kind ≠ 1 ∧ x.kind ≠ 2) ∨ (0 < (pls x.hs).length ∧ x.kind ≠ 4)) := by simp only [List.length_map]; unfold isEmptyS; grind
                                  refine gseq fun N172 hN172 => ?_
                                  refine greg ?_
                                  refine gop (y_assign (v := .int _ _) rfl) rfl rfl rfl ?_
                                  refine gops_nil ?_
                                  refine hN172 _ _ ?_
                                  refine gfrom [(2, .int _ _)] ⟨rfl, trivial⟩ fun σ => ?_
                                  refine gret fun w1 hM => ?_
                                  refine ⟨_, res1 rfl (rt (v := .int _ _) rfl), ?_⟩
                                  exact ⟨by rw [formC_3 (e := x.pl) (show 1 ≤ x.kind by omega) (show x.kind ≤ 4 by omega) hD (show x.user < 0 ∨ 7 < x.user by omega)], hM.low⟩
                                · -- slot 80 f
                                  cases hc80
                          · -- guard 67 off
                            have hg67d := hg67
                            refine gop_off rfl rfl rfl rfl hg67 rfl rfl ?_
                            refine gop_off rfl rfl rfl rfl hg67 rfl rfl ?_
                            refine gop_on rfl rfl rfl rfl hg58 ?_
                            refine gop (y_bare (y_pick_t (v := .bool _) rfl hg67 rfl)) rfl rfl rfl ?_
                            refine gop (y_pick_t (v := .bool _) rfl hg58 rfl) rfl rfl rfl ?_
                            refine gops_nil ?_
                            refine hN163 _ _ ?_
                            refine gfrom [(1, .pointer _), (72, .bool _)] ⟨rfl, rfl, trivial⟩ fun σ => ?_
                            refine gcond (b := _) rfl (fun hc72 => ?_) (fun hc72 => ?_)
                            · -- slot 72 t
                              refine gseq fun N173 hN173 => ?_
                              refine greg ?_
                              refine gop (y_assign (v := .int _ _) rfl) rfl rfl rfl ?_
                              refine gops_nil ?_
                              refine hN173 _ _ ?_
                              refine gfrom [(2, .int _ _)] ⟨rfl, trivial⟩ fun σ => ?_
                              refine gret fun w1 hM => ?_
                              refine ⟨_, res1 rfl (rt (v := .int _ _) rfl), ?_⟩
                              exact ⟨by rw [formC_5 (e := x.pl) (show 1 ≤ x.kind by omega) (show x.kind ≤ 4 by omega) (show (x.thread ≠ 0 ∧ x.kind ≠ 2 ∧ x.kind ≠ 3) ∨ (x.line ≠ 0 ∧ x.kind ≠ 1) ∨ (isEmptyS x.text = false ∧ x.kind ≠ 1 ∧ x.kind ≠ 2) ∨ (0 < (pls x.hs).length ∧ x.kind ≠ 4) from by simp only [List.length_map]; unfold isEmptyS; grind)], hM.low⟩
                            · -- slot 72 f
                              cases hc72
                        · -- guard 62 off
                          have hg62d := of_decide_eq_true hg62
                          refine gop_off rfl rfl rfl rfl hg62 rfl rfl ?_
                          refine gop_off rfl rfl rfl rfl hg62 rfl rfl ?_
                          refine gop_on rfl rfl rfl rfl hg58 ?_
                          refine gop (y_bare (y_pick_t (v := .bool _) rfl hg62 rfl)) rfl rfl rfl ?_
                          refine gop_on rfl rfl rfl rfl hg58 ?_
                          refine gop (y_bare (y_move (v := .bool _) rfl)) rfl rfl rfl ?_
                          refine gop_off rfl rfl rfl rfl rfl rfl rfl ?_
                          refine gop_off rfl rfl rfl rfl rfl rfl rfl ?_
                          refine gop_off rfl rfl rfl rfl rfl rfl rfl ?_
                          refine gop_on rfl rfl rfl rfl hg58 ?_
                          refine gop (y_bare (y_pick_t (v := .bool _) rfl rfl rfl)) rfl rfl rfl ?_
                          refine gop (y_pick_t (v := .bool _) rfl hg58 rfl) rfl rfl rfl ?_
                          refine gops_nil ?_
                          refine hN163 _ _ ?_
                          refine gfrom [(1, .pointer _), (72, .bool _)] ⟨rfl, rfl, trivial⟩ fun σ => ?_
                          refine gcond (b := _) rfl (fun hc72 => ?_) (fun hc72 => ?_)
                          · -- slot 72 t
                            refine gseq fun N174 hN174 => ?_
                            refine greg ?_
                            refine gop (y_assign (v := .int _ _) rfl) rfl rfl rfl ?_
                            refine gops_nil ?_
                            refine hN174 _ _ ?_
                            refine gfrom [(2, .int _ _)] ⟨rfl, trivial⟩ fun σ => ?_
                            refine gret fun w1 hM => ?_
                            refine ⟨_, res1 rfl (rt (v := .int _ _) rfl), ?_⟩
                            exact ⟨by rw [formC_5 (e := x.pl) (show 1 ≤ x.kind by omega) (show x.kind ≤ 4 by omega) (show (x.thread ≠ 0 ∧ x.kind ≠ 2 ∧ x.kind ≠ 3) ∨ (x.line ≠ 0 ∧ x.kind ≠ 1) ∨ (isEmptyS x.text = false ∧ x.kind ≠ 1 ∧ x.kind ≠ 2) ∨ (0 < (pls x.hs).length ∧ x.kind ≠ 4) from by simp only [List.length_map]; unfold isEmptyS; grind)], hM.low⟩
                          · -- slot 72 f
                            cases hc72
                      · -- guard 58 off
                        have hg58d := of_decide_eq_false hg58
                        refine gop_off rfl rfl rfl rfl hg58 rfl rfl ?_
                        refine gop_off rfl rfl rfl rfl hg58 rfl rfl ?_
                        refine gop_off rfl rfl rfl rfl hg58 rfl rfl ?_
                        refine gop_offu rfl rfl rfl rfl rfl rfl ?_
                        refine gop_offu rfl rfl rfl rfl rfl rfl ?_
                        refine gop_offu rfl rfl rfl rfl rfl rfl ?_
                        refine gop_off rfl rfl rfl rfl hg58 rfl rfl ?_
                        refine gop_off rfl rfl rfl rfl hg58 rfl rfl ?_
                        refine gop_offu rfl rfl rfl rfl rfl rfl ?_
                        refine gop_offu rfl rfl rfl rfl rfl rfl ?_
                        refine gop_offu rfl rfl rfl rfl rfl rfl ?_
                        refine gop_off rfl rfl rfl rfl hg58 rfl rfl ?_
                        refine gop (y_pick_f (v := .bool _) rfl hg58 rfl) rfl rfl rfl ?_
                        refine gops_nil ?_
                        refine hN163 _ _ ?_
                        refine gfrom [(1, .pointer _), (72, .bool _)] ⟨rfl, rfl, trivial⟩ fun σ => ?_
                        refine gcond (b := _) rfl (fun hc72 => ?_) (fun hc72 => ?_)
                        · -- slot 72 t
                          cases hc72
                        · -- slot 72 f
                          refine gskip ?_
                          refine hN162 _ _ ?_
                          refine gfrom [(1, .pointer _)] ⟨rfl, trivial⟩ fun σ => ?_
                          refine gseq fun N175 hN175 => ?_
                          refine gseq fun N176 hN176 => ?_
                          refine greg ?_
                          refine gop (y_fieldAddr_box fa66_1 rfl) rfl rfl rfl ?_
                          refine gop (y_load Try.isAgg3 rfl (cell_box 0 rfl rfl)) rfl rfl rfl ?_
                          refine gop (y_lss rfl rfl) rfl rfl rfl ?_
                          refine gop (y_move (v := .bool _) rfl) rfl rfl rfl ?_
                          refine gop_if (want := false) rfl rfl rfl rfl rfl rfl (fun hg76 => ?_) (fun hg76 => ?_)
                          · -- guard 76 on
                            have hg76d := of_decide_eq_false hg76
                            refine gop (y_bare (y_fieldAddr_box fa66_1 rfl)) rfl rfl rfl ?_
                            refine gop_on rfl rfl rfl rfl hg76 ?_
                            refine gop (y_bare (y_load Try.isAgg3 rfl (cell_box 0 rfl rfl))) rfl rfl rfl ?_
                            refine gop_on rfl rfl rfl rfl hg76 ?_
                            refine gop (y_bare (y_gtr rfl rfl)) rfl rfl rfl ?_
                            refine gop (y_pick_f (v := .bool _) rfl hg76 rfl) rfl rfl rfl ?_
                            refine gops_nil ?_
                            refine hN176 _ _ ?_
                            refine gfrom [(1, .pointer _), (80, .bool _)] ⟨rfl, rfl, trivial⟩ fun σ => ?_
                            refine gcond (b := _) rfl (fun hc80 => ?_) (fun hc80 => ?_)
                            · -- slot 80 t
                              replace hc80 := of_decide_eq_true hc80
                              have hD : ¬ ((x.thread ≠ 0 ∧ x.kind ≠ 2 ∧ x.kind ≠ 3) ∨ (x.line ≠ 0 ∧ x.kind ≠ 1) ∨ (isEmptyS x.text = false ∧ x.kind ≠ 1 ∧ x.kind ≠ 2) ∨ (0 < (pls x.hs).length ∧ x.kind ≠ 4)) := by simp only [List.length_map]; unfold isEmptyS; grind
                              refine gseq fun N177 hN177 => ?_
                              refine greg ?_
                              refine gop (y_assign (v := .int _ _) rfl) rfl rfl rfl ?_
                              refine gops_nil ?_
                              refine hN177 _ _ ?_
                              refine gfrom [(2, .int _ _)] ⟨rfl, trivial⟩ fun σ => ?_
                              refine gret fun w1 hM => ?_
                              refine ⟨_, res1 rfl (rt (v := .int _ _) rfl), ?_⟩
                              exact ⟨by rw [formC_3 (e := x.pl) (show 1 ≤ x.kind by omega) (show x.kind ≤ 4 by omega) hD (show x.user < 0 ∨ 7 < x.user by omega)], hM.low⟩
                            · -- slot 80 f
                              replace hc80 := of_decide_eq_false hc80
                              have hD : ¬ ((x.thread ≠ 0 ∧ x.kind ≠ 2 ∧ x.kind ≠ 3) ∨ (x.line ≠ 0 ∧ x.kind ≠ 1) ∨ (isEmptyS x.text = false ∧ x.kind ≠ 1 ∧ x.kind ≠ 2) ∨ (0 < (pls x.hs).length ∧ x.kind ≠ 4)) := by simp only [List.length_map]; unfold isEmptyS; grind
                              have hL := formC_l (e := x.pl) (show 1 ≤ x.kind by omega) (show x.kind ≤ 4 by omega) hD (show ¬ (x.user < 0 ∨ 7 < x.user) by omega)
                              refine gskip ?_
                              refine hN175 _ _ ?_
                              refine gfrom [(1, .pointer _)] ⟨rfl, trivial⟩ fun σ => ?_
                              refine gseq fun N178 hN178 => ?_
                              refine gseq fun N179 hN179 => ?_
                              refine greg ?_
                              refine gop (y_fieldAddr_box fa66_0 rfl) rfl rfl rfl ?_
                              refine gop (y_load Try.isAgg3 rfl (cell_box 0 rfl rfl)) rfl rfl rfl ?_
                              refine gop (y_lss rfl rfl) rfl rfl rfl ?_
                              refine gops_nil ?_
                              refine hN179 _ _ ?_
                              refine gfrom [(1, .pointer _), (83, .bool _)] ⟨rfl, rfl, trivial⟩ fun σ => ?_
                              refine gcond (b := _) rfl (fun hc83 => ?_) (fun hc83 => ?_)
                              · -- slot 83 t
                                replace hc83 := of_decide_eq_true hc83
                                rw [if_pos (show x.pl.kind < 3 from hc83)] at hL
                                refine gseq fun N180 hN180 => ?_
                                refine greg ?_
                                refine gop (y_fieldAddr_box fa66_4 rfl) rfl rfl rfl ?_
                                refine gop (y_load Try.isAgg9 rfl (cell_box 0 rfl rfl)) rfl rfl rfl ?_
                                refine gop_pure (e_call (vs := [.string _]) Try.func56 rfl (by kernel_rfl) rfl) (fun w hM => lineCode_any w _) rfl rfl rfl ?_
                                refine gop (y_assign (v := .int _ _) rfl) rfl rfl rfl ?_
                                refine gops_nil ?_
                                refine hN180 _ _ ?_
                                refine gfrom [(2, .int _ _)] ⟨rfl, trivial⟩ fun σ => ?_
                                refine gret fun w1 hM => ?_
                                refine ⟨_, res1 rfl (rt (v := .int _ _) rfl), ?_⟩
                                exact ⟨by rw [hL], hM.low⟩
                              · -- slot 83 f
                                replace hc83 := of_decide_eq_false hc83
                                rw [if_neg (show ¬ x.pl.kind < 3 from hc83)] at hL
                                refine gskip ?_
                                refine hN178 _ _ ?_
                                refine gfrom [] trivial fun σ => ?_
                                refine gseq fun N181 hN181 => ?_
                                refine greg ?_
                                refine gop (y_assign (v := .int _ _) rfl) rfl rfl rfl ?_
                                refine gops_nil ?_
                                refine hN181 _ _ ?_
                                refine gfrom [(2, .int _ _)] ⟨rfl, trivial⟩ fun σ => ?_
                                refine gret fun w1 hM => ?_
                                refine ⟨_, res1 rfl (rt (v := .int _ _) rfl), ?_⟩
                                exact ⟨by rw [hL], hM.low⟩
                          · -- guard 76 off
                            have hg76d := of_decide_eq_true hg76
                            refine gop_off rfl rfl rfl rfl hg76 rfl rfl ?_
                            refine gop_off rfl rfl rfl rfl hg76 rfl rfl ?_
                            refine gop (y_pick_t (v := .bool _) rfl hg76 rfl) rfl rfl rfl ?_
                            refine gops_nil ?_
                            refine hN176 _ _ ?_
                            refine gfrom [(1, .pointer _), (80, .bool _)] ⟨rfl, rfl, trivial⟩ fun σ => ?_
                            refine gcond (b := _) rfl (fun hc80 => ?_) (fun hc80 => ?_)
                            · -- slot 80 t
                              have hD : ¬ ((x.thread ≠ 0 ∧ x.kind ≠ 2 ∧ x.kind ≠ 3) ∨ (x.line ≠ 0 ∧ x.kind ≠ 1) ∨ (isEmptyS x.text = false ∧ x.kind ≠ 1 ∧ x.kind ≠ 2) ∨ (0 < (pls x.hs).length ∧ x.kind ≠ 4)) := by simp only [List.length_map]; unfold isEmptyS; grind
                              refine gseq fun N182 hN182 => ?_
                              refine greg ?_
                              refine gop (y_assign (v := .int _ _) rfl) rfl rfl rfl ?_
                              refine gops_nil ?_
                              refine hN182 _ _ ?_
                              refine gfrom [(2, .int _ _)] ⟨rfl, trivial⟩ fun σ => ?_
                              refine gret fun w1 hM => ?_
                              refine ⟨_, res1 rfl (rt (v := .int _ _) rfl), ?_⟩
                              exact ⟨by rw [formC_3 (e := x.pl) (show 1 ≤ x.kind by omega) (show x.kind ≤ 4 by omega) hD (show x.user < 0 ∨ 7 < x.user by omega)], hM.low⟩
                            · -- slot 80 f
                              cases hc80
                  · -- guard 51 off
                    have hg51d := hg51
                    refine gop_on rfl rfl rfl rfl hg42 ?_
                    refine gop (y_bare (y_pick_t (v := .bool _) rfl hg51 rfl)) rfl rfl rfl ?_
                    refine gop (y_pick_t (v := .bool _) rfl hg42 rfl) rfl rfl rfl ?_
                    refine gops_nil ?_
                    refine hN160 _ _ ?_
                    refine gfrom [(1, .pointer _), (54, .bool _)] ⟨rfl, rfl, trivial⟩ fun σ => ?_
                    refine gcond (b := _) rfl (fun hc54 => ?_) (fun hc54 => ?_)
                    · -- slot 54 t
                      refine gseq fun N183 hN183 => ?_
                      refine greg ?_
                      refine gop (y_assign (v := .int _ _) rfl) rfl rfl rfl ?_
                      refine gops_nil ?_
                      refine hN183 _ _ ?_
                      refine gfrom [(2, .int _ _)] ⟨rfl, trivial⟩ fun σ => ?_
                      refine gret fun w1 hM => ?_
                      refine ⟨_, res1 rfl (rt (v := .int _ _) rfl), ?_⟩
                      exact ⟨by rw [formC_5 (e := x.pl) (show 1 ≤ x.kind by omega) (show x.kind ≤ 4 by omega) (show (x.thread ≠ 0 ∧ x.kind ≠ 2 ∧ x.kind ≠ 3) ∨ (x.line ≠ 0 ∧ x.kind ≠ 1) ∨ (isEmptyS x.text = false ∧ x.kind ≠ 1 ∧ x.kind ≠ 2) ∨ (0 < (pls x.hs).length ∧ x.kind ≠ 4) from by simp only [List.length_map]; unfold isEmptyS; grind)], hM.low⟩
                    · -- slot 54 f
                      cases hc54
                · -- guard 46 off
                  have hg46d := of_decide_eq_true hg46
                  refine gop_off rfl rfl rfl rfl hg46 rfl rfl ?_
                  refine gop_off rfl rfl rfl rfl hg46 rfl rfl ?_
                  refine gop_on rfl rfl rfl rfl hg42 ?_
                  refine gop (y_bare (y_pick_t (v := .bool _) rfl hg46 rfl)) rfl rfl rfl ?_
                  refine gop_on rfl rfl rfl rfl hg42 ?_
                  refine gop (y_bare (y_move (v := .bool _) rfl)) rfl rfl rfl ?_
                  refine gop_off rfl rfl rfl rfl rfl rfl rfl ?_
                  refine gop_on rfl rfl rfl rfl hg42 ?_
                  refine gop (y_bare (y_pick_t (v := .bool _) rfl rfl rfl)) rfl rfl rfl ?_
                  refine gop (y_pick_t (v := .bool _) rfl hg42 rfl) rfl rfl rfl ?_
                  refine gops_nil ?_
                  refine hN160 _ _ ?_
                  refine gfrom [(1, .pointer _), (54, .bool _)] ⟨rfl, rfl, trivial⟩ fun σ => ?_
                  refine gcond (b := _) rfl (fun hc54 => ?_) (fun hc54 => ?_)
                  · -- slot 54 t
                    refine gseq fun N184 hN184 => ?_
                    refine greg ?_
                    refine gop (y_assign (v := .int _ _) rfl) rfl rfl rfl ?_
                    refine gops_nil ?_
                    refine hN184 _ _ ?_
                    refine gfrom [(2, .int _ _)] ⟨rfl, trivial⟩ fun σ => ?_
                    refine gret fun w1 hM => ?_
                    refine ⟨_, res1 rfl (rt (v := .int _ _) rfl), ?_⟩
                    exact ⟨by rw [formC_5 (e := x.pl) (show 1 ≤ x.kind by omega) (show x.kind ≤ 4 by omega) (show (x.thread ≠ 0 ∧ x.kind ≠ 2 ∧ x.kind ≠ 3) ∨ (x.line ≠ 0 ∧ x.kind ≠ 1) ∨ (isEmptyS x.text = false ∧ x.kind ≠ 1 ∧ x.kind ≠ 2) ∨ (0 < (pls x.hs).length ∧ x.kind ≠ 4) from by simp only [List.length_map]; unfold isEmptyS; grind)], hM.low⟩
                  · -- slot 54 f
                    cases hc54
              · -- guard 42 off
                have hg42d := of_decide_eq_false hg42
                refine gop_off rfl rfl rfl rfl hg42 rfl rfl ?_
                refine gop_off rfl rfl rfl rfl hg42 rfl rfl ?_
                refine gop_off rfl rfl rfl rfl hg42 rfl rfl ?_
                refine gop_offu rfl rfl rfl rfl rfl rfl ?_
                refine gop_offu rfl rfl rfl rfl rfl rfl ?_
                refine gop_offu rfl rfl rfl rfl rfl rfl ?_
                refine gop_off rfl rfl rfl rfl hg42 rfl rfl ?_
                refine gop_off rfl rfl rfl rfl hg42 rfl rfl ?_
                refine gop_offu rfl rfl rfl rfl rfl rfl ?_
                refine gop_off rfl rfl rfl rfl hg42 rfl rfl ?_
                refine gop (y_pick_f (v := .bool _) rfl hg42 rfl) rfl rfl rfl ?_
                refine gops_nil ?_
                refine hN160 _ _ ?_
                refine gfrom [(1, .pointer _), (54, .bool _)] ⟨rfl, rfl, trivial⟩ fun σ => ?_
                refine gcond (b := _) rfl (fun hc54 => ?_) (fun hc54 => ?_)
                · -- slot 54 t
                  cases hc54
                · -- slot 54 f
                  refine gskip ?_
                  refine hN159 _ _ ?_
                  refine gfrom [(1, .pointer _)] ⟨rfl, trivial⟩ fun σ => ?_
                  refine gseq fun N185 hN185 => ?_
                  refine gseq fun N186 hN186 => ?_
                  refine greg ?_
                  refine gop (y_fieldAddr_box fa66_0 rfl) rfl rfl rfl ?_
                  refine gop (y_load Try.isAgg3 rfl (cell_box 0 rfl rfl)) rfl rfl rfl ?_
                  refine gop (y_eql rfl rfl) rfl rfl rfl ?_
                  refine gop (y_move (v := .bool _) rfl) rfl rfl rfl ?_
                  refine gop_if (want := true) rfl rfl rfl rfl rfl rfl (fun hg58 => ?_) (fun hg58 => ?_)
                  · -- guard 58 on
                    have hg58d := of_decide_eq_true hg58
                    refine gop (y_bare (y_fieldAddr_box fa66_3 rfl)) rfl rfl rfl ?_
                    refine gop_on rfl rfl rfl rfl hg58 ?_
                    refine gop (y_bare (y_load Try.isAgg3 rfl (cell_box 0 rfl rfl))) rfl rfl rfl ?_
                    refine gop_on rfl rfl rfl rfl hg58 ?_
                    refine gop (y_bare (y_neq rfl rfl)) rfl rfl rfl ?_
                    refine gop_on rfl rfl rfl rfl hg58 ?_
                    refine gop (y_bare (y_move (v := .bool _) rfl)) rfl rfl rfl ?_
                    refine gop_if (want := false) rfl rfl rfl rfl rfl rfl (fun hg62 => ?_) (fun hg62 => ?_)
                    · -- guard 62 on
                      have hg62d := Decidable.not_not.1 (of_decide_eq_false hg62)
                      refine gop (y_bare (y_fieldAddr_box fa66_4 rfl)) rfl rfl rfl ?_
                      refine gop_on rfl rfl rfl rfl hg62 ?_
                      refine gop (y_bare (y_load Try.isAgg9 rfl (cell_box 0 rfl rfl))) rfl rfl rfl ?_
                      refine gop_on rfl rfl rfl rfl hg62 ?_
                      refine gop (y_bare (y_neqs rfl rfl)) rfl rfl rfl ?_
                      refine gop_on rfl rfl rfl rfl hg58 ?_
                      refine gop (y_bare (y_pick_f (v := .bool _) rfl hg62 rfl)) rfl rfl rfl ?_
                      refine gop_on rfl rfl rfl rfl hg58 ?_
                      refine gop (y_bare (y_move (v := .bool _) rfl)) rfl rfl rfl ?_
                      refine gop_if (want := false) rfl rfl rfl rfl rfl rfl (fun hg67 => ?_) (fun hg67 => ?_)
                      · -- guard 67 on
                        have hg67d := hg67
                        refine gop (y_bare (y_fieldAddr_box fa66_2 rfl)) rfl rfl rfl ?_
                        refine gop_on rfl rfl rfl rfl hg67 ?_
                        refine gop (y_bare (y_load Try.isAgg3 rfl (cell_box 0 rfl rfl))) rfl rfl rfl ?_
                        refine gop_on rfl rfl rfl rfl hg67 ?_
                        refine gop (y_bare (y_neq rfl rfl)) rfl rfl rfl ?_
                        refine gop_on rfl rfl rfl rfl hg58 ?_
                        refine gop (y_bare (y_pick_f (v := .bool _) rfl hg67 rfl)) rfl rfl rfl ?_
                        refine gop (y_pick_t (v := .bool _) rfl hg58 rfl) rfl rfl rfl ?_
                        refine gops_nil ?_
                        refine hN186 _ _ ?_
                        refine gfrom [(1, .pointer _), (72, .bool _)] ⟨rfl, rfl, trivial⟩ fun σ => ?_
                        refine gcond (b := _) rfl (fun hc72 => ?_) (fun hc72 => ?_)
                        · -- slot 72 t
                          replace hc72 := of_decide_eq_true hc72
                          refine gseq fun N187 hN187 => ?_
                          refine greg ?_
                          refine gop (y_assign (v := .int _ _) rfl) rfl rfl rfl ?_
                          refine gops_nil ?_
                          refine hN187 _ _ ?_
                          refine gfrom [(2, .int _ _)] ⟨rfl, trivial⟩ fun σ => ?_
                          refine gret fun w1 hM => ?_
                          refine ⟨_, res1 rfl (rt (v := .int _ _) rfl), ?_⟩
                          exact ⟨by rw [formC_5 (e := x.pl) (show 1 ≤ x.kind by omega) (show x.kind ≤ 4 by omega) (show (x.thread ≠ 0 ∧ x.kind ≠ 2 ∧ x.kind ≠ 3) ∨ (x.line ≠ 0 ∧ x.kind ≠ 1) ∨ (isEmptyS x.text = false ∧ x.kind ≠ 1 ∧ x.kind ≠ 2) ∨ (0 < (pls x.hs).length ∧ x.kind ≠ 4) from by simp only [List.length_map]; unfold isEmptyS; grind)], hM.low⟩
                        · -- slot 72 f
                          replace hc72 := Decidable.not_not.1 (of_decide_eq_false hc72)
                          refine gskip ?_
                          refine hN185 _ _ ?_
                          refine gfrom [(1, .pointer _)] ⟨rfl, trivial⟩ fun σ => ?_
                          refine gseq fun N188 hN188 => ?_
                          refine gseq fun N189 hN189 => ?_
                          refine greg ?_
                          refine gop (y_fieldAddr_box fa66_1 rfl) rfl rfl rfl ?_
                          refine gop (y_load Try.isAgg3 rfl (cell_box 0 rfl rfl)) rfl rfl rfl ?_
                          refine gop (y_lss rfl rfl) rfl rfl rfl ?_
                          refine gop (y_move (v := .bool _) rfl) rfl rfl rfl ?_
                          refine gop_if (want := false) rfl rfl rfl rfl rfl rfl (fun hg76 => ?_) (fun hg76 => ?_)
                          · -- guard 76 on
                            have hg76d := of_decide_eq_false hg76
                            refine gop (y_bare (y_fieldAddr_box fa66_1 rfl)) rfl rfl rfl ?_
                            refine gop_on rfl rfl rfl rfl hg76 ?_
                            refine gop (y_bare (y_load Try.isAgg3 rfl (cell_box 0 rfl rfl))) rfl rfl rfl ?_
                            refine gop_on rfl rfl rfl rfl hg76 ?_
                            refine gop (y_bare (y_gtr rfl rfl)) rfl rfl rfl ?_
                            refine gop (y_pick_f (v := .bool _) rfl hg76 rfl) rfl rfl rfl ?_
                            refine gops_nil ?_
                            refine hN189 _ _ ?_
                            refine gfrom [(1, .pointer _), (80, .bool _)] ⟨rfl, rfl, trivial⟩ fun σ => ?_
                            refine gcond (b := _) rfl (fun hc80 => ?_) (fun hc80 => ?_)
                            · -- slot 80 t
                              replace hc80 := of_decide_eq_true hc80
                              have hD : ¬ ((x.thread ≠ 0 ∧ x.kind ≠ 2 ∧ x.kind ≠ 3) ∨ (x.line ≠ 0 ∧ x.kind ≠ 1) ∨ (isEmptyS x.text = false ∧ x.kind ≠ 1 ∧ x.kind ≠ 2) ∨ (0 < (pls x.hs).length ∧ x.kind ≠ 4)) := by simp only [List.length_map]; unfold isEmptyS; grind
                              refine gseq fun N190 hN190 => ?_
                              refine greg ?_
                              refine gop (y_assign (v := .int _ _) rfl) rfl rfl rfl ?_
                              refine gops_nil ?_
                              refine hN190 _ _ ?_
                              refine gfrom [(2, .int _ _)] ⟨rfl, trivial⟩ fun σ => ?_
                              refine gret fun w1 hM => ?_
                              refine ⟨_, res1 rfl (rt (v := .int _ _) rfl), ?_⟩
                              exact ⟨by rw [formC_3 (e := x.pl) (show 1 ≤ x.kind by omega) (show x.kind ≤ 4 by omega) hD (show x.user < 0 ∨ 7 < x.user by omega)], hM.low⟩
                            · -- slot 80 f
                              replace hc80 := of_decide_eq_false hc80
                              have hD : ¬ ((x.thread ≠ 0 ∧ x.kind ≠ 2 ∧ x.kind ≠ 3) ∨ (x.line ≠ 0 ∧ x.kind ≠ 1) ∨ (isEmptyS x.text = false ∧ x.kind ≠ 1 ∧ x.kind ≠ 2) ∨ (0 < (pls x.hs).length ∧ x.kind ≠ 4)) := by simp only [List.length_map]; unfold isEmptyS; grind
                              have hL := formC_l (e := x.pl) (show 1 ≤ x.kind by omega) (show x.kind ≤ 4 by omega) hD (show ¬ (x.user < 0 ∨ 7 < x.user) by omega)
                              refine gskip ?_
                              refine hN188 _ _ ?_
                              refine gfrom [(1, .pointer _)] ⟨rfl, trivial⟩ fun σ => ?_
                              refine gseq fun N191 hN191 => ?_
                              refine gseq fun N192 hN192 => ?_
                              refine greg ?_
                              refine gop (y_fieldAddr_box fa66_0 rfl) rfl rfl rfl ?_
                              refine gop (y_load Try.isAgg3 rfl (cell_box 0 rfl rfl)) rfl rfl rfl ?_
                              refine gop (y_lss rfl rfl) rfl rfl rfl ?_
                              refine gops_nil ?_
                              refine hN192 _ _ ?_
                              refine gfrom [(1, .pointer _), (83, .bool _)] ⟨rfl, rfl, trivial⟩ fun σ => ?_
                              refine gcond (b := _) rfl (fun hc83 => ?_) (fun hc83 => ?_)
                              · -- slot 83 t
                                replace hc83 := of_decide_eq_true hc83
                                rw [if_pos (show x.pl.kind < 3 from hc83)] at hL
                                refine gseq fun N193 hN193 => ?_
                                refine greg ?_
                                refine gop (y_fieldAddr_box fa66_4 rfl) rfl rfl rfl ?_
                                refine gop (y_load Try.isAgg9 rfl (cell_box 0 rfl rfl)) rfl rfl rfl ?_
                                refine gop_pure (e_call (vs := [.string _]) Try.func56 rfl (by kernel_rfl) rfl) (fun w hM => lineCode_any w _) rfl rfl rfl ?_
                                refine gop (y_assign (v := .int _ _) rfl) rfl rfl rfl ?_
                                refine gops_nil ?_
                                refine hN193 _ _ ?_
                                refine gfrom [(2, .int _ _)] ⟨rfl, trivial⟩ fun σ => ?_
                                refine gret fun w1 hM => ?_
                                refine ⟨_, res1 rfl (rt (v := .int _ _) rfl), ?_⟩
                                exact ⟨by rw [hL], hM.low⟩
                              · -- slot 83 f
                                replace hc83 := of_decide_eq_false hc83
                                rw [if_neg (show ¬ x.pl.kind < 3 from hc83)] at hL
                                refine gskip ?_
                                refine hN191 _ _ ?_
                                refine gfrom [] trivial fun σ => ?_
                                refine gseq fun N194 hN194 => ?_
                                refine greg ?_
                                refine gop (y_assign (v := .int _ _) rfl) rfl rfl rfl ?_
                                refine gops_nil ?_
                                refine hN194 _ _ ?_
                                refine gfrom [(2, .int _ _)] ⟨rfl, trivial⟩ fun σ => ?_
                                refine gret fun w1 hM => ?_
                                refine ⟨_, res1 rfl (rt (v := .int _ _) rfl), ?_⟩
                                exact ⟨by rw [hL], hM.low⟩
                          · -- guard 76 off
                            have hg76d := of_decide_eq_true hg76
                            refine gop_off rfl rfl rfl rfl hg76 rfl rfl ?_
                            refine gop_off rfl rfl rfl rfl hg76 rfl rfl ?_
                            refine gop (y_pick_t (v := .bool _) rfl hg76 rfl) rfl rfl rfl ?_
                            refine gops_nil ?_
                            refine hN189 _ _ ?_
                            refine gfrom [(1, .pointer _), (80, .bool _)] ⟨rfl, rfl, trivial⟩ fun σ => ?_
                            refine gcond (b := _) rfl (fun hc80 => ?_) (fun hc80 => ?_)
                            · -- slot 80 t
                              have hD : ¬ ((x.thread ≠ 0 ∧ x.kind ≠ 2 ∧ x.kind ≠ 3) ∨ (x.line ≠ 0 ∧ x.kind ≠ 1) ∨ (isEmptyS x.text = false ∧ x.kind ≠ 1 ∧ x.kind ≠ 2) ∨ (0 < (pls x.hs).length ∧ x.kind ≠ 4)) := by simp only [List.length_map]; unfold isEmptyS; grind
                              refine gseq fun N195 hN195 => ?_
                              refine greg ?_
                              refine gop (y_assign (v := .int _ _) rfl) rfl rfl rfl ?_
                              refine gops_nil ?_
                              refine hN195 _ _ ?_
                              refine gfrom [(2, .int _ _)] ⟨rfl, trivial⟩ fun σ => ?_
                              refine gret fun w1 hM => ?_
                              refine ⟨_, res1 rfl (rt (v := .int _ _) rfl), ?_⟩
                              exact ⟨by rw [formC_3 (e := x.pl) (show 1 ≤ x.kind by omega) (show x.kind ≤ 4 by omega) hD (show x.user < 0 ∨ 7 < x.user by omega)], hM.low⟩
                            · -- slot 80 f
                              cases hc80
                      · -- guard 67 off
                        have hg67d := hg67
                        refine gop_off rfl rfl rfl rfl hg67 rfl rfl ?_
                        refine gop_off rfl rfl rfl rfl hg67 rfl rfl ?_
                        refine gop_on rfl rfl rfl rfl hg58 ?_
                        refine gop (y_bare (y_pick_t (v := .bool _) rfl hg67 rfl)) rfl rfl rfl ?_
                        refine gop (y_pick_t (v := .bool _) rfl hg58 rfl) rfl rfl rfl ?_
                        refine gops_nil ?_
                        refine hN186 _ _ ?_
                        refine gfrom [(1, .pointer _), (72, .bool _)] ⟨rfl, rfl, trivial⟩ fun σ => ?_
                        refine gcond (b := _) rfl (fun hc72 => ?_) (fun hc72 => ?_)
                        · -- slot 72 t
                          refine gseq fun N196 hN196 => ?_
                          refine greg ?_
                          refine gop (y_assign (v := .int _ _) rfl) rfl rfl rfl ?_
                          refine gops_nil ?_
                          refine hN196 _ _ ?_
                          refine gfrom [(2, .int _ _)] ⟨rfl, trivial⟩ fun σ => ?_
                          refine gret fun w1 hM => ?_
                          refine ⟨_, res1 rfl (rt (v := .int _ _) rfl), ?_⟩
                          exact ⟨by rw [formC_5 (e := x.pl) (show 1 ≤ x.kind by omega) (show x.kind ≤ 4 by omega) (show (x.thread ≠ 0 ∧ x.kind ≠ 2 ∧ x.kind ≠ 3) ∨ (x.line ≠ 0 ∧ x.kind ≠ 1) ∨ (isEmptyS x.text = false ∧ x.kind ≠ 1 ∧ x.kind ≠ 2) ∨ (0 < (pls x.hs).length ∧ x.kind ≠ 4) from by simp only [List.length_map]; unfold isEmptyS; grind)], hM.low⟩
                        · -- slot 72 f
                          cases hc72
                    · -- guard 62 off
                      have hg62d := of_decide_eq_true hg62
                      refine gop_off rfl rfl rfl rfl hg62 rfl rfl ?_
                      refine gop_off rfl rfl rfl rfl hg62 rfl rfl ?_
                      refine gop_on rfl rfl rfl rfl hg58 ?_
                      refine gop (y_bare (y_pick_t (v := .bool _) rfl hg62 rfl)) rfl rfl rfl ?_
                      refine gop_on rfl rfl rfl rfl hg58 ?_
                      refine gop (y_bare (y_move (v := .bool _) rfl)) rfl rfl rfl ?_
                      refine gop_off rfl rfl rfl rfl rfl rfl rfl ?_
                      refine gop_off rfl rfl rfl rfl rfl rfl rfl ?_
                      refine gop_off rfl rfl rfl rfl rfl rfl rfl ?_
                      refine gop_on rfl rfl rfl rfl hg58 ?_
                      refine gop (y_bare (y_pick_t (v := .bool _) rfl rfl rfl)) rfl rfl rfl ?_
                      refine gop (y_pick_t (v := .bool _) rfl hg58 rfl) rfl rfl rfl ?_
                      refine gops_nil ?_
                      refine hN186 _ _ ?_
                      refine gfrom [(1, .pointer _), (72, .bool _)] ⟨rfl, rfl, trivial⟩ fun σ => ?_
                      refine gcond (b := _) rfl (fun hc72 => ?_) (fun hc72 => ?_)
                      · -- slot 72 t
                        refine gseq fun N197 hN197 => ?_
                        refine greg ?_
                        refine gop (y_assign (v := .int _ _) rfl) rfl rfl rfl ?_
                        refine gops_nil ?_
                        refine hN197 _ _ ?_
                        refine gfrom [(2, .int _ _)] ⟨rfl, trivial⟩ fun σ => ?_
                        refine gret fun w1 hM => ?_
                        refine ⟨_, res1 rfl (rt (v := .int _ _) rfl), ?_⟩
                        exact ⟨by rw [formC_5 (e := x.pl) (show 1 ≤ x.kind by omega) (show x.kind ≤ 4 by omega) (show (x.thread ≠ 0 ∧ x.kind ≠ 2 ∧ x.kind ≠ 3) ∨ (x.line ≠ 0 ∧ x.kind ≠ 1) ∨ (isEmptyS x.text = false ∧ x.kind ≠ 1 ∧ x.kind ≠ 2) ∨ (0 < (pls x.hs).length ∧ x.kind ≠ 4) from by simp only [List.length_map]; unfold isEmptyS; grind)], hM.low⟩
                      · -- slot 72 f
                        cases hc72
                  · -- guard 58 off
                    have hg58d := of_decide_eq_false hg58
                    refine gop_off rfl rfl rfl rfl hg58 rfl rfl ?_
                    refine gop_off rfl rfl rfl rfl hg58 rfl rfl ?_
                    refine gop_off rfl rfl rfl rfl hg58 rfl rfl ?_
                    refine gop_offu rfl rfl rfl rfl rfl rfl ?_
                    refine gop_offu rfl rfl rfl rfl rfl rfl ?_
                    refine gop_offu rfl rfl rfl rfl rfl rfl ?_
                    refine gop_off rfl rfl rfl rfl hg58 rfl rfl ?_
                    refine gop_off rfl rfl rfl rfl hg58 rfl rfl ?_
                    refine gop_offu rfl rfl rfl rfl rfl rfl ?_
                    refine gop_offu rfl rfl rfl rfl rfl rfl ?_
                    refine gop_offu rfl rfl rfl rfl rfl rfl ?_
                    refine gop_off rfl rfl rfl rfl hg58 rfl rfl ?_
                    refine gop (y_pick_f (v := .bool _) rfl hg58 rfl) rfl rfl rfl ?_
                    refine gops_nil ?_
                    refine hN186 _ _ ?_
                    refine gfrom [(1, .pointer _), (72, .bool _)] ⟨rfl, rfl, trivial⟩ fun σ => ?_
                    refine gcond (b := _) rfl (fun hc72 => ?_) (fun hc72 => ?_)
                    · -- slot 72 t
                      cases hc72
                    · -- slot 72 f
                      refine gskip ?_
                      refine hN185 _ _ ?_
                      refine gfrom [(1, .pointer _)] ⟨rfl, trivial⟩ fun σ => ?_
                      refine gseq fun N198 hN198 => ?_
                      refine gseq fun N199 hN199 => ?_
                      refine greg ?_
                      refine gop (y_fieldAddr_box fa66_1 rfl) rfl rfl rfl ?_
                      refine gop (y_load Try.isAgg3 rfl (cell_box 0 rfl rfl)) rfl rfl rfl ?_
                      refine gop (y_lss rfl rfl) rfl rfl rfl ?_
                      refine gop (y_move (v := .bool _) rfl) rfl rfl rfl ?_
                      refine gop_if (want := false) rfl rfl rfl rfl rfl rfl (fun hg76 => ?_) (fun hg76 => ?_)
                      · -- guard 76 on
                        have hg76d := of_decide_eq_false hg76
                        refine gop (y_bare (y_fieldAddr_box fa66_1 rfl)) rfl rfl rfl ?_
                        refine gop_on rfl rfl rfl rfl hg76 ?_
                        refine gop (y_bare (y_load Try.isAgg3 rfl (cell_box 0 rfl rfl))) rfl rfl rfl ?_
                        refine gop_on rfl rfl rfl rfl hg76 ?_
                        refine gop (y_bare (y_gtr rfl rfl)) rfl rfl rfl ?_
                        refine gop (y_pick_f (v := .bool _) rfl hg76 rfl) rfl rfl rfl ?_
                        refine gops_nil ?_
                        refine hN199 _ _ ?_
                        refine gfrom [(1, .pointer _), (80, .bool _)] ⟨rfl, rfl, trivial⟩ fun σ => ?_
                        refine gcond (b := _) rfl (fun hc80 => ?_) (fun hc80 => ?_)
                        · -- slot 80 t
                          replace hc80 := of_decide_eq_true hc80
                          have hD : ¬ ((x.thread ≠ 0 ∧ x.kind ≠ 2 ∧ x.kind ≠ 3) ∨ (x.line ≠ 0 ∧ x.kind ≠ 1) ∨ (isEmptyS x.text = false ∧ x.kind ≠ 1 ∧ x.kind ≠ 2) ∨ (0 < (pls x.hs).length ∧ x.kind ≠ 4)) := by simp only [List.length_map]; unfold isEmptyS; grind
                          refine gseq fun N200 hN200 => ?_
                          refine greg ?_
                          refine gop (y_assign (v := .int _ _) rfl) rfl rfl rfl ?_
                          refine gops_nil ?_
                          refine hN200 _ _ ?_
                          refine gfrom [(2, .int _ _)] ⟨rfl, trivial⟩ fun σ => ?_
                          refine gret fun w1 hM => ?_
                          refine ⟨_, res1 rfl (rt (v := .int _ _) rfl), ?_⟩
                          exact ⟨by rw [formC_3 (e := x.pl) (show 1 ≤ x.kind by omega) (show x.kind ≤ 4 by omega) hD (show x.user < 0 ∨ 7 < x.user by omega)], hM.low⟩
                        · -- slot 80 f
                          replace hc80 := of_decide_eq_false hc80
                          have hD : ¬ ((x.thread ≠ 0 ∧ x.kind ≠ 2 ∧ x.kind ≠ 3) ∨ (x.line ≠ 0 ∧ x.kind ≠ 1) ∨ (isEmptyS x.text = false ∧ x.kind ≠ 1 ∧ x.kind ≠ 2) ∨ (0 < (pls x.hs).length ∧ x.kind ≠ 4)) := by simp only [List.length_map]; unfold isEmptyS; grind
                          have hL := formC_l (e := x.pl) (show 1 ≤ x.kind by omega) (show x.kind ≤ 4 by omega) hD (show ¬ (x.user < 0 ∨ 7 < x.user) by omega)
                          refine gskip ?_
                          refine hN198 _ _ ?_
                          refine gfrom [(1, .pointer _)] ⟨rfl, trivial⟩ fun σ => ?_
                          refine gseq fun N201 hN201 => ?_
                          refine gseq fun N202 hN202 => ?_
                          refine greg ?_
                          refine gop (y_fieldAddr_box fa66_0 rfl) rfl rfl rfl ?_
                          refine gop (y_load Try.isAgg3 rfl (cell_box 0 rfl rfl)) rfl rfl rfl ?_
                          refine gop (y_lss rfl rfl) rfl rfl rfl ?_
                          refine gops_nil ?_
                          refine hN202 _ _ ?_
                          refine gfrom [(1, .pointer _), (83, .bool _)] ⟨rfl, rfl, trivial⟩ fun σ => ?_
                          refine gcond (b := _) rfl (fun hc83 => ?_) (fun hc83 => ?_)
                          · -- slot 83 t
                            replace hc83 := of_decide_eq_true hc83
                            rw [if_pos (show x.pl.kind < 3 from hc83)] at hL
                            refine gseq fun N203 hN203 => ?_
                            refine greg ?_
                            refine gop (y_fieldAddr_box fa66_4 rfl) rfl rfl rfl ?_
                            refine gop (y_load Try.isAgg9 rfl (cell_box 0 rfl rfl)) rfl rfl rfl ?_
                            refine gop_pure (e_call (vs := [.string _]) Try.func56 rfl (by kernel_rfl) rfl) (fun w hM => lineCode_any w _) rfl rfl rfl ?_
                            refine gop (y_assign (v := .int _ _) rfl) rfl rfl rfl ?_
                            refine gops_nil ?_
                            refine hN203 _ _ ?_
                            refine gfrom [(2, .int _ _)] ⟨rfl, trivial⟩ fun σ => ?_
                            refine gret fun w1 hM => ?_
                            refine ⟨_, res1 rfl (rt (v := .int _ _) rfl), ?_⟩
                            exact ⟨by rw [hL], hM.low⟩
                          · -- slot 83 f
                            replace hc83 := of_decide_eq_false hc83
                            rw [if_neg (show ¬ x.pl.kind < 3 from hc83)] at hL
                            refine gskip ?_
                            refine hN201 _ _ ?_
                            refine gfrom [] trivial fun σ => ?_
                            refine gseq fun N204 hN204 => ?_
                            refine greg ?_
                            refine gop (y_assign (v := .int _ _) rfl) rfl rfl rfl ?_
                            refine gops_nil ?_
                            refine hN204 _ _ ?_
                            refine gfrom [(2, .int _ _)] ⟨rfl, trivial⟩ fun σ => ?_
                            refine gret fun w1 hM => ?_
                            refine ⟨_, res1 rfl (rt (v := .int _ _) rfl), ?_⟩
                            exact ⟨by rw [hL], hM.low⟩
                      · -- guard 76 off
                        have hg76d := of_decide_eq_true hg76
                        refine gop_off rfl rfl rfl rfl hg76 rfl rfl ?_
                        refine gop_off rfl rfl rfl rfl hg76 rfl rfl ?_
                        refine gop (y_pick_t (v := .bool _) rfl hg76 rfl) rfl rfl rfl ?_
                        refine gops_nil ?_
                        refine hN199 _ _ ?_
                        refine gfrom [(1, .pointer _), (80, .bool _)] ⟨rfl, rfl, trivial⟩ fun σ => ?_
                        refine gcond (b := _) rfl (fun hc80 => ?_) (fun hc80 => ?_)
                        · -- slot 80 t
                          have hD : ¬ ((x.thread ≠ 0 ∧ x.kind ≠ 2 ∧ x.kind ≠ 3) ∨ (x.line ≠ 0 ∧ x.kind ≠ 1) ∨ (isEmptyS x.text = false ∧ x.kind ≠ 1 ∧ x.kind ≠ 2) ∨ (0 < (pls x.hs).length ∧ x.kind ≠ 4)) := by simp only [List.length_map]; unfold isEmptyS; grind
                          refine gseq fun N205 hN205 => ?_
                          refine greg ?_
                          refine gop (y_assign (v := .int _ _) rfl) rfl rfl rfl ?_
                          refine gops_nil ?_
                          refine hN205 _ _ ?_
                          refine gfrom [(2, .int _ _)] ⟨rfl, trivial⟩ fun σ => ?_
                          refine gret fun w1 hM => ?_
                          refine ⟨_, res1 rfl (rt (v := .int _ _) rfl), ?_⟩
                          exact ⟨by rw [formC_3 (e := x.pl) (show 1 ≤ x.kind by omega) (show x.kind ≤ 4 by omega) hD (show x.user < 0 ∨ 7 < x.user by omega)], hM.low⟩
                        · -- slot 80 f
                          cases hc80
  · -- guard 12 off
    have hg12d := of_decide_eq_true hg12
    refine gop_off rfl rfl rfl rfl hg12 rfl rfl ?_
    refine gop_off rfl rfl rfl rfl hg12 rfl rfl ?_
    refine gop (y_pick_t (v := .bool _) rfl hg12 rfl) rfl rfl rfl ?_
    refine gops_nil ?_
    refine hN4 _ _ ?_
    refine gfrom [(1, .pointer _), (3, .bool _), (16, .bool _)] ⟨rfl, rfl, rfl, trivial⟩ fun σ => ?_
    refine gcond (b := _) rfl (fun hc16 => ?_) (fun hc16 => ?_)
    · -- slot 16 t
      refine gseq fun N206 hN206 => ?_
      refine greg ?_
      refine gop (y_assign (v := .int _ _) rfl) rfl rfl rfl ?_
      refine gops_nil ?_
      refine hN206 _ _ ?_
      refine gfrom [(2, .int _ _)] ⟨rfl, trivial⟩ fun σ => ?_
      refine gret fun w1 hM => ?_
      refine ⟨_, res1 rfl (rt (v := .int _ _) rfl), ?_⟩
      exact ⟨by rw [formC_4 (e := x.pl) (show x.kind < 1 ∨ 4 < x.kind by omega)], hM.low⟩
    · -- slot 16 f
      cases hc16
end Go.Proofs.Ytbaojdiccikbiaa
