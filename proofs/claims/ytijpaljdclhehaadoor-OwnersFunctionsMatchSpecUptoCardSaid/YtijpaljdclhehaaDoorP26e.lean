/- Own frame, plain models and walks, part 5 (texts of this claim put together). -/
import Derived.Test.YtijpaljdclhehaaDoorP26d
namespace Go.Proofs.YtijpaljdclhehaaDoor
open Go.RowKit Go.Cf
set_option maxRecDepth 10000
theorem fa32_0 (a : Addr) (w : World) : (Instr.fieldAt 32 (.pointer (some a)) 0).run Tryd.prog w = .ok (.pointer (some (a.add 0))) w := by kernel_rfl
theorem fa32_1 (a : Addr) (w : World) : (Instr.fieldAt 32 (.pointer (some a)) 1).run Tryd.prog w = .ok (.pointer (some (a.add 1))) w := by kernel_rfl
theorem el3 : Elem Tryd.prog 3 1 8 := elem_of (z := .int .i64 0) (by kernel_rfl) rfl (by decide)
set_option maxHeartbeats 2000000 in
theorem check_any (w : World) (pat : ByteArray) (us : List Int) (A : Option Addr) (c : Nat) (hR : RuleR w 0 ⟨⟨pat, us⟩, A, c⟩) : Calls Tryd.prog 57 #[.agg #[.string pat, .slice A us.length c]] w fun e w' => e = .returned (.int .i64 (ruleCode ⟨pat, us⟩)) ∧ Below w.heap.size w w' := by
  have hmx : c ≤ maxLen := hR.sb.max
  have hln : us.length ≤ c := hR.sb.len
  have hrd : Rdl w 0 1 intCells A us := hR.rd
  unfold maxLen at hmx
  refine gcalls Tryd.func57 rfl Tryd.ntmps57 (Nat.le_of_ble_eq_true rfl) ?_
  refine gfrom [(0, .agg #[_, _])] ⟨rfl, trivial⟩ fun σ => ?_
  refine gseq fun N1 hN1 => ?_
  refine greg ?_
  refine gop_box (v := .agg #[_, _]) (cs := #[_, _]) rfl rfl rfl (fun b1 hb1 => ?_)
  refine gop (y_assign (v := .int _ _) rfl) rfl rfl rfl ?_
  refine gops_nil ?_
  refine hN1 _ _ ?_
  refine gT [box b1 _] rfl ?_
  refine gfrom [(1, .pointer _)] ⟨rfl, trivial⟩ fun σ => ?_
  refine gseq fun N2 hN2 => ?_
  refine gseq fun N3 hN3 => ?_
  refine greg ?_
  refine gop (y_fieldAddr_box fa32_0 rfl) rfl rfl rfl ?_
  refine gop (y_load Tryd.isAgg9 rfl (cell_box 0 rfl rfl)) rfl rfl rfl ?_
  refine gop_pure (e_call (vs := [.string _]) Tryd.func38 rfl (by kernel_rfl) rfl) (fun w hM => validate_any w _) rfl rfl rfl ?_
  refine gop_alloc (cs := #[.int .i64 0, .int .i64 0]) Tryd.zeroValue23 rfl rfl (fun b3 hb3 => ?_)
  refine gop_store 1 (v := .agg #[_, _]) (cs' := #[_, _]) rfl rfl Tryd.sizeOf23 rfl rfl rfl rfl (Nat.le_of_ble_eq_true rfl) rfl rfl ?_
  refine gops_nil ?_
  refine hN3 _ _ ?_
  refine gT [box b1 _, box b3 _] rfl ?_
  refine gfrom [(1, .pointer _), (3, .pointer _)] ⟨rfl, rfl, trivial⟩ fun σ => ?_
  refine gseq fun N4 hN4 => ?_
  refine greg ?_
  refine gop (y_loads (cs := [_, _]) Tryd.isAgg23 Tryd.sizeOf23 rfl rfl (cells_box 1 rfl)) rfl rfl rfl ?_
  refine gop (y_build (vs := []) (cells := #[.int .i64 0, .int .i64 0]) rfl bd23_) rfl rfl rfl ?_
  refine gop (y_bin (vx := .agg #[_, _]) (vy := .agg #[_, _]) rfl rfl (fun w => eg23 _ _ _ _ _ w) (fun w => ne23 _ _ _ _ w)) rfl rfl rfl ?_
  refine gops_nil ?_
  refine hN4 _ _ ?_
  refine gfrom [(1, .pointer _), (3, .pointer _), (11, .bool _)] ⟨rfl, rfl, rfl, trivial⟩ fun σ => ?_
  refine gcond (b := _) rfl (fun hc11 => ?_) (fun hc11 => ?_)
  · 
    replace hc11 := fault_ne.1 hc11
    have hC : ruleCode ⟨pat, us⟩ = (patFault pat).code := by rw [ruleCode, if_pos (fun h => hc11 (by rw [patFault, if_pos h]))]; exact (patFault_code pat).symm
    refine gseq fun N5 hN5 => ?_
    refine greg ?_
    refine gop (y_fieldAddr_box fa23_0 rfl) rfl rfl rfl ?_
    refine gop (y_load Tryd.isAgg3 rfl (cell_box 1 rfl rfl)) rfl rfl rfl ?_
    refine gop (y_assign (v := .int _ _) rfl) rfl rfl rfl ?_
    refine gops_nil ?_
    refine hN5 _ _ ?_
    refine gfrom [(2, .int _ _)] ⟨rfl, trivial⟩ fun σ => ?_
    refine gret fun w1 hM => ?_
    refine ⟨_, res1 rfl (rt (v := .int _ _) rfl), ?_⟩
    exact ⟨by rw [hC], hM.low⟩
  · 
    replace hc11 := fault_eq.1 hc11
    have hp0 : patCode pat = 0 := by have h0 := patFault_code pat; rw [hc11] at h0; have h1 : (0 : Int) = (patCode pat : Int) := h0; omega
    refine gskip ?_
    refine hN2 _ _ ?_
    refine gfrom [(1, .pointer _)] ⟨rfl, trivial⟩ fun σ => ?_
    refine gseq fun N6 hN6 => ?_
    refine gseq fun N7 hN7 => ?_
    refine greg ?_
    refine gop (y_fieldAddr_box fa32_1 rfl) rfl rfl rfl ?_
    refine gop (y_load Tryd.isAgg30 rfl (cell_box 0 rfl rfl)) rfl rfl rfl ?_
    refine gop (y_len Tryd.underlying30 rfl) rfl rfl rfl ?_
    refine gop (y_gtr rfl rfl) rfl rfl rfl ?_
    refine gops_nil ?_
    refine hN7 _ _ ?_
    refine gfrom [(1, .pointer _), (17, .bool _)] ⟨rfl, rfl, trivial⟩ fun σ => ?_
    refine gcond (b := _) rfl (fun hc17 => ?_) (fun hc17 => ?_)
    · 
      replace hc17 := of_decide_eq_true hc17
      have hC : ruleCode ⟨pat, us⟩ = 2 := by rw [ruleCode, if_neg (fun h => h hp0), if_pos (show 4 < us.length by omega)]
      refine gseq fun N8 hN8 => ?_
      refine greg ?_
      refine gop (y_assign (v := .int _ _) rfl) rfl rfl rfl ?_
      refine gops_nil ?_
      refine hN8 _ _ ?_
      refine gfrom [(2, .int _ _)] ⟨rfl, trivial⟩ fun σ => ?_
      refine gret fun w1 hM => ?_
      refine ⟨_, res1 rfl (rt (v := .int _ _) rfl), ?_⟩
      exact ⟨by rw [hC], hM.low⟩
    · 
      replace hc17 := of_decide_eq_false hc17
      have hC : ruleCode ⟨pat, us⟩ = uCode (-1) us := by rw [ruleCode, if_neg (fun h => h hp0), if_neg (show ¬ 4 < us.length by omega)]
      refine gskip ?_
      refine hN6 _ _ ?_
      refine gfrom [(1, .pointer _)] ⟨rfl, trivial⟩ fun σ => ?_
      refine gseq fun N9 hN9 => ?_
      refine gseq fun N10 hN10 => ?_
      refine greg ?_
      refine gop (y_fieldAddr_box fa32_1 rfl) rfl rfl rfl ?_
      refine gop (y_load Tryd.isAgg30 rfl (cell_box 0 rfl rfl)) rfl rfl rfl ?_
      refine gop (y_len Tryd.underlying30 rfl) rfl rfl rfl ?_
      refine gop (y_move (v := .int _ _) rfl) rfl rfl rfl ?_
      refine gops_nil ?_
      refine hN10 _ _ ?_
      refine gfrom [(1, .pointer _), (19, .slice _ _ _), (20, .int _ _), (21, .int _ _)] ⟨rfl, rfl, rfl, rfl, trivial⟩ fun σ => ?_
      refine gblock ?_
      refine gfrom2 [(21, .int _ _)] [(1, .pointer _), (19, .slice _ _ _), (20, .int _ _)] ⟨rfl, trivial⟩ ⟨rfl, rfl, rfl, trivial⟩ fun σ => ?_
      refine gloop2 (G := Nat) (fun k => k ≤ us.length ∧ uCode (prevU us k) (us.drop k) = uCode (-1) us) (fun k => us.length - k) (fun k => [(21, .int .i64 (k : Int))]) (fun k => []) (0) ?h0 ⟨rfl, trivial⟩ ⟨rfl, rfl, rfl, trivial⟩ rfl ?round
      case h0 => exact ⟨Nat.zero_le _, rfl⟩
      case round =>
        intro k hφ σ
        obtain ⟨hk, hu⟩ := hφ
        refine gseq fun N11 hN11 => ?_
        refine greg ?_
        refine gop (y_lss rfl rfl) rfl rfl rfl ?_
        refine gops_nil ?_
        refine hN11 _ _ ?_
        refine gfrom [(1, .pointer _), (19, .slice _ _ _), (20, .int _ _), (21, .int _ _), (22, .bool _)] ⟨rfl, rfl, rfl, rfl, rfl, trivial⟩ fun σ => ?_
        refine gseq fun N12 hN12 => ?_
        refine gcond (b := _) rfl (fun hc22 => ?_) (fun hc22 => ?_)
        · 
          replace hc22 := of_decide_eq_true hc22
          have hk1 : k < us.length := by omega
          obtain ⟨ad, rfl, -, hca⟩ := hrd.at_ hk1
          refine gskip ?_
          refine hN12 _ _ ?_
          refine gfrom [(1, .pointer _), (19, .slice _ _ _), (20, .int _ _), (21, .int _ _)] ⟨rfl, rfl, rfl, rfl, trivial⟩ fun σ => ?_
          refine gseq fun N13 hN13 => ?_
          refine gblock ?_
          refine gseq fun N14 hN14 => ?_
          refine greg ?_
          refine gop (y_move (v := .int _ _) rfl) rfl rfl rfl ?_
          refine gop (y_indexAddr (m := k) Tryd.underlying30 Tryd.sizeOf3 rfl rfl (by omega) (by omega) (by omega)) rfl rfl rfl ?_
          refine gop (y_load Tryd.isAgg3 rfl (cell_base (hca 0 _ rfl))) rfl rfl rfl ?_
          refine gop (y_assign (v := .int _ _) rfl) rfl rfl rfl ?_
          refine gop (y_assign (v := .int _ _) rfl) rfl rfl rfl ?_
          refine gops_nil ?_
          refine hN14 _ _ ?_
          refine gfrom [(1, .pointer _), (4, .int _ _), (5, .int _ _), (19, .slice _ _ _), (20, .int _ _), (21, .int _ _)] ⟨rfl, rfl, rfl, rfl, rfl, rfl, trivial⟩ fun σ => ?_
          refine gseq fun N15 hN15 => ?_
          refine gseq fun N16 hN16 => ?_
          refine greg ?_
          refine gop (y_move (v := .int _ _) rfl) rfl rfl rfl ?_
          refine gop (y_lss rfl rfl) rfl rfl rfl ?_
          refine gop (y_move (v := .bool _) rfl) rfl rfl rfl ?_
          refine gop_if (want := false) rfl rfl rfl rfl rfl rfl (fun hg28 => ?_) (fun hg28 => ?_)
          · 
            have hg28d := of_decide_eq_false hg28
            refine gop (y_bare (y_move (v := .int _ _) rfl)) rfl rfl rfl ?_
            refine gop_on rfl rfl rfl rfl hg28 ?_
            refine gop (y_bare (y_gtr rfl rfl)) rfl rfl rfl ?_
            refine gop (y_pick_f (v := .bool _) rfl hg28 rfl) rfl rfl rfl ?_
            refine gops_nil ?_
            refine hN16 _ _ ?_
            refine gfrom [(1, .pointer _), (4, .int _ _), (5, .int _ _), (19, .slice _ _ _), (20, .int _ _), (21, .int _ _), (31, .bool _)] ⟨rfl, rfl, rfl, rfl, rfl, rfl, rfl, trivial⟩ fun σ => ?_
            refine gcond (b := _) rfl (fun hc31 => ?_) (fun hc31 => ?_)
            · 
              replace hc31 := of_decide_eq_true hc31
              refine gseq fun N17 hN17 => ?_
              refine greg ?_
              refine gop (y_assign (v := .int _ _) rfl) rfl rfl rfl ?_
              refine gops_nil ?_
              refine hN17 _ _ ?_
              refine gfrom [(2, .int _ _)] ⟨rfl, trivial⟩ fun σ => ?_
              refine gret fun w1 hM => ?_
              refine ⟨_, res1 rfl (rt (v := .int _ _) rfl), ?_⟩
              exact ⟨by rw [hC, ← hu, uCode_bad hk1 (by omega)], hM.low⟩
            · 
              replace hc31 := of_decide_eq_false hc31
              refine gskip ?_
              refine hN15 _ _ ?_
              refine gfrom [(1, .pointer _), (4, .int _ _), (5, .int _ _), (19, .slice _ _ _), (20, .int _ _), (21, .int _ _)] ⟨rfl, rfl, rfl, rfl, rfl, rfl, trivial⟩ fun σ => ?_
              refine gseq fun N18 hN18 => ?_
              refine greg ?_
              refine gop (y_move (v := .int _ _) rfl) rfl rfl rfl ?_
              refine gop (y_gtr rfl rfl) rfl rfl rfl ?_
              refine gop (y_move (v := .bool _) rfl) rfl rfl rfl ?_
              refine gop_if (want := true) rfl rfl rfl rfl rfl rfl (fun hg34 => ?_) (fun hg34 => ?_)
              · 
                have hg34d := of_decide_eq_true hg34
                have hk0 : 0 < k := by omega
                obtain ⟨ad2, he2, -, hcp⟩ := hrd.at_ (show k - 1 < us.length by omega)
                cases he2
                refine gop (y_bare (y_move (v := .int _ _) rfl)) rfl rfl rfl ?_
                refine gop_on rfl rfl rfl rfl hg34 ?_
                refine gop (y_bare (y_fieldAddr_box fa32_1 rfl)) rfl rfl rfl ?_
                refine gop_on rfl rfl rfl rfl hg34 ?_
                refine gop (y_bare (y_load Tryd.isAgg30 rfl (cell_box 0 rfl rfl))) rfl rfl rfl ?_
                refine gop_on rfl rfl rfl rfl hg34 ?_
                refine gop (y_bare (y_move (v := .int _ _) rfl)) rfl rfl rfl ?_
                refine gop_on rfl rfl rfl rfl hg34 ?_
                refine gop (y_bare (y_sub rfl rfl ⟨by omega, by omega⟩)) rfl rfl rfl ?_
                refine gop_on rfl rfl rfl rfl hg34 ?_
                refine gop (y_bare (y_indexAddr (m := k - 1) Tryd.underlying30 Tryd.sizeOf3 rfl rfl (by omega) (by omega) (by omega))) rfl rfl rfl ?_
                refine gop_on rfl rfl rfl rfl hg34 ?_
                refine gop (y_bare (y_load Tryd.isAgg3 rfl (cell_base (hcp 0 _ rfl)))) rfl rfl rfl ?_
                refine gop_on rfl rfl rfl rfl hg34 ?_
                refine gop (y_bare (y_leq rfl rfl)) rfl rfl rfl ?_
                refine gop (y_pick_t (v := .bool _) rfl hg34 rfl) rfl rfl rfl ?_
                refine gops_nil ?_
                refine hN18 _ _ ?_
                refine gfrom [(1, .pointer _), (19, .slice _ _ _), (20, .int _ _), (21, .int _ _), (43, .bool _)] ⟨rfl, rfl, rfl, rfl, rfl, trivial⟩ fun σ => ?_
                refine gcond (b := _) rfl (fun hc43 => ?_) (fun hc43 => ?_)
                · 
                  replace hc43 := of_decide_eq_true hc43
                  refine gseq fun N19 hN19 => ?_
                  refine greg ?_
                  refine gop (y_assign (v := .int _ _) rfl) rfl rfl rfl ?_
                  refine gops_nil ?_
                  refine hN19 _ _ ?_
                  refine gfrom [(2, .int _ _)] ⟨rfl, trivial⟩ fun σ => ?_
                  refine gret fun w1 hM => ?_
                  refine ⟨_, res1 rfl (rt (v := .int _ _) rfl), ?_⟩
                  exact ⟨by rw [hC, ← hu, uCode_old hk1 (by omega) (by rw [prevU_pos hk0 (by omega)]; exact hc43)], hM.low⟩
                · 
                  replace hc43 := of_decide_eq_false hc43
                  refine gskip ?_
                  refine hN13 _ _ ?_
                  refine gfrom [(1, .pointer _), (19, .slice _ _ _), (20, .int _ _), (21, .int _ _)] ⟨rfl, rfl, rfl, rfl, trivial⟩ fun σ => ?_
                  refine greg ?_
                  refine gop (y_add rfl rfl ⟨by omega, by omega⟩) rfl rfl rfl ?_
                  refine gop (y_move (v := .int _ _) rfl) rfl rfl rfl ?_
                  refine gops_nil ?_
                  refine gnext2 (k + 1) (by omega) (⟨by omega, (uCode_next hk1 (by omega) (by rw [prevU_pos hk0 (by omega)]; exact hc43)).symm.trans hu⟩) ⟨rfl, trivial⟩ ⟨rfl, rfl, rfl, trivial⟩ ⟨_, rfl⟩
              · 
                have hg34d := of_decide_eq_false hg34
                refine gop_off rfl rfl rfl rfl hg34 rfl rfl ?_
                refine gop_off rfl rfl rfl rfl hg34 rfl rfl ?_
                refine gop_off rfl rfl rfl rfl hg34 rfl rfl ?_
                refine gop_off rfl rfl rfl rfl hg34 rfl rfl ?_
                refine gop_off rfl rfl rfl rfl hg34 rfl rfl ?_
                refine gop_off rfl rfl rfl rfl hg34 rfl rfl ?_
                refine gop_off rfl rfl rfl rfl hg34 rfl rfl ?_
                refine gop (y_pick_f (v := .bool _) rfl hg34 rfl) rfl rfl rfl ?_
                refine gops_nil ?_
                refine hN18 _ _ ?_
                refine gfrom [(1, .pointer _), (19, .slice _ _ _), (20, .int _ _), (21, .int _ _), (43, .bool _)] ⟨rfl, rfl, rfl, rfl, rfl, trivial⟩ fun σ => ?_
                refine gcond (b := _) rfl (fun hc43 => ?_) (fun hc43 => ?_)
                · 
                  cases hc43
                · 
                  refine gskip ?_
                  refine hN13 _ _ ?_
                  refine gfrom [(1, .pointer _), (19, .slice _ _ _), (20, .int _ _), (21, .int _ _)] ⟨rfl, rfl, rfl, rfl, trivial⟩ fun σ => ?_
                  refine greg ?_
                  refine gop (y_add rfl rfl ⟨by omega, by omega⟩) rfl rfl rfl ?_
                  refine gop (y_move (v := .int _ _) rfl) rfl rfl rfl ?_
                  refine gops_nil ?_
                  refine gnext2 (k + 1) (by omega) (⟨by omega, (uCode_next hk1 (by omega) (by rw [prevU, if_pos (by omega)]; omega)).symm.trans hu⟩) ⟨rfl, trivial⟩ ⟨rfl, rfl, rfl, trivial⟩ ⟨_, rfl⟩
          · 
            have hg28d := of_decide_eq_true hg28
            refine gop_off rfl rfl rfl rfl hg28 rfl rfl ?_
            refine gop (y_pick_t (v := .bool _) rfl hg28 rfl) rfl rfl rfl ?_
            refine gops_nil ?_
            refine hN16 _ _ ?_
            refine gfrom [(1, .pointer _), (4, .int _ _), (5, .int _ _), (19, .slice _ _ _), (20, .int _ _), (21, .int _ _), (31, .bool _)] ⟨rfl, rfl, rfl, rfl, rfl, rfl, rfl, trivial⟩ fun σ => ?_
            refine gcond (b := _) rfl (fun hc31 => ?_) (fun hc31 => ?_)
            · 
              refine gseq fun N20 hN20 => ?_
              refine greg ?_
              refine gop (y_assign (v := .int _ _) rfl) rfl rfl rfl ?_
              refine gops_nil ?_
              refine hN20 _ _ ?_
              refine gfrom [(2, .int _ _)] ⟨rfl, trivial⟩ fun σ => ?_
              refine gret fun w1 hM => ?_
              refine ⟨_, res1 rfl (rt (v := .int _ _) rfl), ?_⟩
              exact ⟨by rw [hC, ← hu, uCode_bad hk1 (by omega)], hM.low⟩
            · 
              cases hc31
        · 
          replace hc22 := of_decide_eq_false hc22
          have hE : uCode (-1) us = 0 := by rw [← hu]; exact uCode_end (by omega)
          refine gexit ?_
          refine hN9 _ _ ?_
          refine gfrom [] trivial fun σ => ?_
          refine gseq fun N21 hN21 => ?_
          refine greg ?_
          refine gop (y_assign (v := .int _ _) rfl) rfl rfl rfl ?_
          refine gops_nil ?_
          refine hN21 _ _ ?_
          refine gfrom [(2, .int _ _)] ⟨rfl, trivial⟩ fun σ => ?_
          refine gret fun w1 hM => ?_
          refine ⟨_, res1 rfl (rt (v := .int _ _) rfl), ?_⟩
          exact ⟨by rw [hC, hE], hM.low⟩
set_option maxHeartbeats 2000000 in
theorem ownValidate_any (w : World) (A : Option Addr) (c : Nat) (rs : List RuleC) (hR : RulesR w 0 A c rs) : Calls Tryd.prog 28 #[.slice A rs.length c] w fun e w' => e = .returned (fv (rulesF (rls rs))) ∧ Below w.heap.size w w' := by
  have hln := hR.sb.len
  have hmx := hR.sb.max
  unfold maxLen at hmx
  refine gcalls Tryd.func28 rfl Tryd.ntmps28 (Nat.le_of_ble_eq_true rfl) ?_
  refine gfrom [(0, .slice _ _ _)] ⟨rfl, trivial⟩ fun σ => ?_
  refine gseq fun N1 hN1 => ?_
  refine greg ?_
  refine gop_alloc (cs := #[.int .i64 0, .int .i64 0]) Tryd.zeroValue23 rfl rfl (fun b2 hb2 => ?_)
  refine gops_nil ?_
  refine hN1 _ _ ?_
  refine gT [box b2 _] rfl ?_
  refine gfrom [(0, .slice _ _ _), (2, .pointer _)] ⟨rfl, rfl, trivial⟩ fun σ => ?_
  refine gseq fun N2 hN2 => ?_
  refine gseq fun N3 hN3 => ?_
  refine greg ?_
  refine gop (y_move (v := .slice _ _ _) rfl) rfl rfl rfl ?_
  refine gop (y_len Tryd.underlying29 rfl) rfl rfl rfl ?_
  refine gop (y_gtr rfl rfl) rfl rfl rfl ?_
  refine gops_nil ?_
  refine hN3 _ _ ?_
  refine gfrom [(0, .slice _ _ _), (2, .pointer _), (8, .bool _)] ⟨rfl, rfl, rfl, trivial⟩ fun σ => ?_
  refine gcond (b := _) rfl (fun hc8 => ?_) (fun hc8 => ?_)
  · 
    replace hc8 := of_decide_eq_true hc8
    have hF : rulesF (rls rs) = ⟨2, -1⟩ := by rw [rulesF, if_pos (by simp; omega)]
    refine gseq fun N4 hN4 => ?_
    refine greg ?_
    refine gop (y_build (vs := [(0, _), (1, _)]) (cells := #[_, _]) rfl (bd23_0_1 _ _)) rfl rfl rfl ?_
    refine gop_store 0 (v := .agg #[_, _]) (cs' := #[_, _]) rfl rfl Tryd.sizeOf23 rfl rfl rfl rfl (Nat.le_of_ble_eq_true rfl) rfl rfl ?_
    refine gops_nil ?_
    refine hN4 _ _ ?_
    refine gT [box b2 _] rfl ?_
    refine gfrom [(2, .pointer _)] ⟨rfl, trivial⟩ fun σ => ?_
    refine gret fun w1 hM => ?_
    refine ⟨_, res1 rfl (rc 0 (cs := [_, _]) hM rfl rfl Tryd.isAgg23 Tryd.sizeOf23 rfl), ?_⟩
    exact ⟨by rw [hF], hM.low⟩
  · 
    replace hc8 := of_decide_eq_false hc8
    have hF : rulesF (rls rs) = scan (fun _ r => ruleCode r) (rls rs) := by rw [rulesF, if_neg (by simp; omega)]
    refine gskip ?_
    refine hN2 _ _ ?_
    refine gfrom [(0, .slice _ _ _), (2, .pointer _)] ⟨rfl, rfl, trivial⟩ fun σ => ?_
    refine gseq fun N5 hN5 => ?_
    refine gseq fun N6 hN6 => ?_
    refine greg ?_
    refine gop (y_move (v := .slice _ _ _) rfl) rfl rfl rfl ?_
    refine gop (y_len Tryd.underlying29 rfl) rfl rfl rfl ?_
    refine gop (y_move (v := .int _ _) rfl) rfl rfl rfl ?_
    refine gops_nil ?_
    refine hN6 _ _ ?_
    refine gfrom [(2, .pointer _), (10, .slice _ _ _), (11, .int _ _), (12, .int _ _)] ⟨rfl, rfl, rfl, rfl, trivial⟩ fun σ => ?_
    refine gblock ?_
    refine gfrom2 [(12, .int _ _)] [(2, .pointer _), (10, .slice _ _ _), (11, .int _ _)] ⟨rfl, trivial⟩ ⟨rfl, rfl, rfl, trivial⟩ fun σ => ?_
    refine gloop2 (G := Nat) (fun k => k ≤ rs.length ∧ ∀ j (h : j < rs.length), j < k → ruleCode rs[j].pl = 0) (fun k => rs.length - k) (fun k => [(12, .int .i64 (k : Int))]) (fun k => []) (0) ?h0 ⟨rfl, trivial⟩ ⟨rfl, rfl, rfl, trivial⟩ rfl ?round
    case h0 => exact ⟨Nat.zero_le _, fun _ _ h => absurd h (by omega)⟩
    case round =>
      intro k hφ σ
      obtain ⟨hk, hz⟩ := hφ
      refine gseq fun N7 hN7 => ?_
      refine greg ?_
      refine gop (y_lss rfl rfl) rfl rfl rfl ?_
      refine gops_nil ?_
      refine hN7 _ _ ?_
      refine gfrom [(2, .pointer _), (10, .slice _ _ _), (11, .int _ _), (12, .int _ _), (13, .bool _)] ⟨rfl, rfl, rfl, rfl, rfl, trivial⟩ fun σ => ?_
      refine gseq fun N8 hN8 => ?_
      refine gcond (b := _) rfl (fun hc13 => ?_) (fun hc13 => ?_)
      · 
        replace hc13 := of_decide_eq_true hc13
        have hk1 : k < rs.length := by omega
        obtain ⟨ad, rfl, -, hca⟩ := hR.rd.at_ hk1
        refine gskip ?_
        refine hN8 _ _ ?_
        refine gfrom [(2, .pointer _), (10, .slice _ _ _), (11, .int _ _), (12, .int _ _)] ⟨rfl, rfl, rfl, rfl, trivial⟩ fun σ => ?_
        refine gseq fun N9 hN9 => ?_
        refine gblock ?_
        refine gseq fun N10 hN10 => ?_
        refine greg ?_
        refine gop (y_move (v := .int _ _) rfl) rfl rfl rfl ?_
        refine gop (y_indexAddr (m := k) Tryd.underlying29 Tryd.sizeOf32 rfl rfl (by omega) (by omega) (by omega)) rfl rfl rfl ?_
        refine gop (y_loads (cs := [_, _]) Tryd.isAgg32 Tryd.sizeOf32 rfl rfl (cells_base hca)) rfl rfl rfl ?_
        refine gop_alloc (cs := #[.string .empty, .slice none 0 0]) Tryd.zeroValue32 rfl rfl (fun b4 hb4 => ?_)
        refine gop (y_assign (v := .int _ _) rfl) rfl rfl rfl ?_
        refine gop_store 1 (v := .agg #[_, _]) (cs' := #[_, _]) rfl rfl Tryd.sizeOf32 rfl rfl rfl rfl (Nat.le_of_ble_eq_true rfl) rfl rfl ?_
        refine gops_nil ?_
        refine hN10 _ _ ?_
        refine gT [box b2 _, box b4 _] rfl ?_
        refine gfrom [(2, .pointer _), (3, .int _ _), (4, .pointer _), (10, .slice _ _ _), (11, .int _ _), (12, .int _ _)] ⟨rfl, rfl, rfl, rfl, rfl, rfl, trivial⟩ fun σ => ?_
        refine gseq fun N11 hN11 => ?_
        refine greg ?_
        refine gop (y_loads (cs := [_, _]) Tryd.isAgg32 Tryd.sizeOf32 rfl rfl (cells_box 1 rfl)) rfl rfl rfl ?_
        refine gop_pure (e_call (vs := [.agg #[_, _]]) Tryd.func57 rfl (by kernel_rfl) rfl) (fun w hM => check_any w rs[k].pl.pat rs[k].pl.users rs[k].A rs[k].c (RuleR.lasts.base (hR.each _ (List.getElem_mem hk1)) hM)) rfl rfl rfl ?_
        refine gop (y_assign (v := .int _ _) rfl) rfl rfl rfl ?_
        refine gops_nil ?_
        refine hN11 _ _ ?_
        refine gfrom [(2, .pointer _), (3, .int _ _), (5, .int _ _), (10, .slice _ _ _), (11, .int _ _), (12, .int _ _)] ⟨rfl, rfl, rfl, rfl, rfl, rfl, trivial⟩ fun σ => ?_
        refine gseq fun N12 hN12 => ?_
        refine greg ?_
        refine gop (y_move (v := .int _ _) rfl) rfl rfl rfl ?_
        refine gop (y_neq rfl rfl) rfl rfl rfl ?_
        refine gops_nil ?_
        refine hN12 _ _ ?_
        refine gfrom [(2, .pointer _), (3, .int _ _), (5, .int _ _), (10, .slice _ _ _), (11, .int _ _), (12, .int _ _), (20, .bool _)] ⟨rfl, rfl, rfl, rfl, rfl, rfl, rfl, trivial⟩ fun σ => ?_
        refine gcond (b := _) rfl (fun hc20 => ?_) (fun hc20 => ?_)
        · 
          replace hc20 := of_decide_eq_true hc20
          refine gseq fun N13 hN13 => ?_
          refine greg ?_
          refine gop (y_move (v := .int _ _) rfl) rfl rfl rfl ?_
          refine gop (y_move (v := .int _ _) rfl) rfl rfl rfl ?_
          refine gop (y_build (vs := [(0, .int _ _), (1, .int _ _)]) (cells := #[_, _]) rfl (bd23_0_1 _ _)) rfl rfl rfl ?_
          refine gop_store 0 (v := .agg #[_, _]) (cs' := #[_, _]) rfl rfl Tryd.sizeOf23 rfl rfl rfl rfl (Nat.le_of_ble_eq_true rfl) rfl rfl ?_
          refine gops_nil ?_
          refine hN13 _ _ ?_
          refine gT [box b2 _, box b4 _] rfl ?_
          refine gfrom [(2, .pointer _)] ⟨rfl, trivial⟩ fun σ => ?_
          refine gret fun w1 hM => ?_
          refine ⟨_, res1 rfl (rc 0 (cs := [_, _]) hM rfl rfl Tryd.isAgg23 Tryd.sizeOf23 rfl), ?_⟩
          have hs := scan_at (f := fun _ r => ruleCode r) (l := rls rs) (k := k) (by simpa using hk1) (fun j h hj => by simpa using hz j (by simpa using h) hj) (by simpa using hc20)
          exact ⟨by rw [hF, hs]; simp, hM.low⟩
        · 
          replace hc20 := Decidable.not_not.1 (of_decide_eq_false hc20)
          refine gskip ?_
          refine hN9 _ _ ?_
          refine gfrom [(2, .pointer _), (10, .slice _ _ _), (11, .int _ _), (12, .int _ _)] ⟨rfl, rfl, rfl, rfl, trivial⟩ fun σ => ?_
          refine greg ?_
          refine gop (y_add rfl rfl ⟨by omega, by omega⟩) rfl rfl rfl ?_
          refine gop (y_move (v := .int _ _) rfl) rfl rfl rfl ?_
          refine gops_nil ?_
          refine gnext2 (k + 1) (by omega) (⟨by omega, fun j h hj => by rcases Nat.lt_succ_iff_lt_or_eq.1 hj with h1 | rfl; exact hz j h h1; exact hc20⟩) ⟨rfl, trivial⟩ ⟨rfl, rfl, rfl, trivial⟩ ⟨_, rfl⟩
      · 
        replace hc13 := of_decide_eq_false hc13
        have hF2 : rulesF (rls rs) = ⟨0, 0⟩ := by rw [hF]; exact scan_ok fun j hj => by simpa using hz j (by simpa using hj) (by simp at hj; omega)
        refine gexit ?_
        refine hN5 _ _ ?_
        refine gfrom [(2, .pointer _)] ⟨rfl, trivial⟩ fun σ => ?_
        refine gseq fun N14 hN14 => ?_
        refine greg ?_
        refine gop (y_build (vs := []) (cells := #[.int .i64 0, .int .i64 0]) rfl bd23_) rfl rfl rfl ?_
        refine gop_store 0 (v := .agg #[_, _]) (cs' := #[_, _]) rfl rfl Tryd.sizeOf23 rfl rfl rfl rfl (Nat.le_of_ble_eq_true rfl) rfl rfl ?_
        refine gops_nil ?_
        refine hN14 _ _ ?_
        refine gT [box b2 _] rfl ?_
        refine gfrom [(2, .pointer _)] ⟨rfl, trivial⟩ fun σ => ?_
        refine gret fun w1 hM => ?_
        refine ⟨_, res1 rfl (rc 0 (cs := [_, _]) hM rfl rfl Tryd.isAgg23 Tryd.sizeOf23 rfl), ?_⟩
        exact ⟨by rw [hF2], hM.low⟩
set_option maxHeartbeats 1000000 in
theorem cloneInts_any (w : World) (A : Option Addr) (c : Nat) (l : List Int) (hl : Rdl w 0 1 intCells A l) (hb : l.length * 8 ≤ 140737488355328) (hA : A = none → c = 0) :
    Calls Tryd.prog 73 #[.slice A l.length c] w fun e w' => ∃ v T', e = .returned v ∧ T' = [rowl intCells w.heap.size 3 1 (v) (l)] ∧ Mem w T' w' := by
  refine gcalls Tryd.func73 rfl Tryd.ntmps73 (Nat.le_of_ble_eq_true rfl) ?_
  refine gfrom [(0, .slice _ _ _)] ⟨rfl, trivial⟩ fun σ => ?_
  refine gseq fun N1 hN1 => ?_
  refine greg ?_
  refine gop (y_assign (v := .slice _ _ _) rfl) rfl rfl rfl ?_
  refine gops_nil ?_
  refine hN1 _ _ ?_
  refine gfrom [(0, .slice _ _ _)] ⟨rfl, trivial⟩ fun σ => ?_
  refine gseq fun N2 hN2 => ?_
  refine gseq fun N3 hN3 => ?_
  refine greg ?_
  refine gop (y_move (v := .slice _ _ _) rfl) rfl rfl rfl ?_
  refine gop (y_eqlnil Tryd.underlying30 rfl rfl) rfl rfl rfl ?_
  refine gops_nil ?_
  refine hN3 _ _ ?_
  refine gfrom [(0, .slice _ _ _), (4, .bool _)] ⟨rfl, rfl, trivial⟩ fun σ => ?_
  refine gcond (b := _) rfl (fun hc4 => ?_) (fun hc4 => ?_)
  · 
    obtain rfl : A = none := by simpa using hc4
    obtain rfl : l = [] := by
      cases l with
      | nil => rfl
      | cons x t => obtain ⟨_, h, _⟩ := hl (by simp); cases h
    refine gseq fun N4 hN4 => ?_
    refine greg ?_
    refine gop (y_assign (v := .slice _ _ _) rfl) rfl rfl rfl ?_
    refine gops_nil ?_
    refine hN4 _ _ ?_
    refine gfrom [(2, .slice _ _ _)] ⟨rfl, trivial⟩ fun σ => ?_
    refine gret fun w1 hM => ?_
    refine ⟨_, res1 rfl (rt (v := .slice _ _ _) rfl), ?_⟩
    exact ⟨_, _, rfl, rfl, mem_nilrow intCells _ 1 hM⟩
  · 
    refine gskip ?_
    refine hN2 _ _ ?_
    refine gfrom [(0, .slice _ _ _)] ⟨rfl, trivial⟩ fun σ => ?_
    refine gseq fun N5 hN5 => ?_
    refine greg ?_
    refine gop_bslice0 intCells Tryd.underlying30 Tryd.sizeOf3 rfl (fun b5 hb5 => ?_)
    refine gop (y_move (v := .slice _ _ _) rfl) rfl rfl rfl ?_
    refine gop_append 0 (f := intCells) (l2 := l) Tryd.underlying30 el3 wide_int (v := .slice (some ⟨b5, 0, none⟩) 0 0) rfl rfl rfl rfl hA (by simp [maxLen]; omega) (by simp; omega) (fun w hM => (hl.base hM).src (fun _ => rfl)) rfl (fun v7 => ?_)
    refine gop (y_assign (v := v7) rfl) rfl rfl rfl ?_
    refine gops_nil ?_
    refine hN5 _ _ ?_
    refine gT [rowl _ _ _ _ _ _] rfl ?_
    refine gfrom [(2, v7)] ⟨rfl, trivial⟩ fun σ => ?_
    refine gret fun w1 hM => ?_
    refine ⟨_, res1 rfl (rt (v := v7) rfl), ?_⟩
    exact ⟨_, _, rfl, rfl, hM⟩
end Go.Proofs.YtijpaljdclhehaaDoor
namespace Go.Proofs.YtijpaljdclhehaaDoor
open Go.RowKit Go.Cf
set_option maxRecDepth 10000
set_option maxHeartbeats 2000000 in
theorem back1_iters (w0 : World) (A : Option Addr) (c : Nat) (rs : List RuleC) (hR : RulesR w0 0 A c rs) (b1 : Nat) :
    ItersAt Tryd.prog w0 92 [.pointer (some ⟨b1, 0, none⟩)] (fun x : Int × RuleC => [.int .i64 x.1, ruleV x.2]) (backL rs) [box b1 (.cells #[.slice A rs.length c] 29)] := by
  intro ι W l J Jx hM0 hY
  have hln := hR.sb.len
  have hmx := hR.sb.max
  unfold maxLen at hmx
  refine gcallsI Tryd.func92 rfl Tryd.ntmps92 (Nat.le_of_ble_eq_true rfl) hM0 ?_
  refine gfrom [(0, .func _ _ _), (1, _)] ⟨rfl, rfl, trivial⟩ fun σ => ?_
  refine gseq fun N1 hN1 => ?_
  refine greg ?_
  refine gop (y_load Tryd.isAgg29 rfl (cell_box 1 rfl rfl)) rfl rfl rfl ?_
  refine gop (y_len Tryd.underlying29 rfl) rfl rfl rfl ?_
  refine gop (y_sub rfl rfl ⟨by omega, by omega⟩) rfl rfl rfl ?_
  refine gop (y_assign (v := .int _ _) rfl) rfl rfl rfl ?_
  refine gops_nil ?_
  refine hN1 _ _ ?_
  refine gfrom [(0, .func _ _ _), (1, _), (3, .int _ _)] ⟨rfl, rfl, rfl, trivial⟩ fun σ => ?_
  refine gblock ?_
  refine gfrom2 [(3, .int _ _)] [(0, .func _ _ _), (1, _)] ⟨rfl, trivial⟩ ⟨rfl, rfl, trivial⟩ fun σ => ?_
  refine gloop2 (G := Nat) (fun k => k ≤ rs.length) (fun k => rs.length - k) (fun k => [(3, .int .i64 ((rs.length : Int) - 1 - k))]) (fun k => [(0, J k)]) (0) ?h0 ⟨congrArg (Value.int .i64) (by omega), trivial⟩ ⟨rfl, rfl, trivial⟩ rfl ?round
  case h0 => exact Nat.zero_le _
  case round =>
    intro k hφ σ
    have hk : k ≤ rs.length := hφ
    refine gT [_, box b1 _] rfl ?_
    refine gseq fun N2 hN2 => ?_
    refine gseq fun N3 hN3 => ?_
    refine greg ?_
    refine gop (y_move (v := .int _ _) rfl) rfl rfl rfl ?_
    refine gop (y_geq rfl rfl) rfl rfl rfl ?_
    refine gops_nil ?_
    refine hN3 _ _ ?_
    refine gfrom [(0, .func _ _ _), (1, _), (3, .int _ _), (8, .bool _)] ⟨rfl, rfl, rfl, rfl, trivial⟩ fun σ => ?_
    refine gcond (b := _) rfl (fun hc8 => ?_) (fun hc8 => ?_)
    · 
      replace hc8 := of_decide_eq_true hc8
      have hk1 : k < rs.length := by omega
      obtain ⟨ad, rfl, -, hca⟩ := hR.rd.at_ (show rs.length - 1 - k < rs.length by omega)
      refine gskip ?_
      refine hN2 _ _ ?_
      refine gfrom [(0, .func _ _ _), (1, _), (3, .int _ _)] ⟨rfl, rfl, rfl, trivial⟩ fun σ => ?_
      refine gseq fun N4 hN4 => ?_
      refine gblock ?_
      refine gseq fun N5 hN5 => ?_
      refine greg ?_
      refine gop (y_move (v := .func _ _ _) rfl) rfl rfl rfl ?_
      refine gop (y_move (v := .int _ _) rfl) rfl rfl rfl ?_
      refine gop (y_load Tryd.isAgg29 rfl (cell_box 1 rfl rfl)) rfl rfl rfl ?_
      refine gop (y_move (v := .int _ _) rfl) rfl rfl rfl ?_
      refine gop (y_indexAddr (m := rs.length - 1 - k) Tryd.underlying29 Tryd.sizeOf32 rfl rfl (by omega) (by omega) (by omega)) rfl rfl rfl ?_
      refine gop (y_loads (cs := [_, _]) Tryd.isAgg32 Tryd.sizeOf32 rfl rfl (cells_base hca)) rfl rfl rfl ?_
      refine gop_yield (l := l) (k := k) (J := J) (Jx := Jx) (vs := [.int _ _, .agg #[_, _]]) rfl rfl rfl (fun r W1 hM1 => hY k ((rs.length : Int) - 1 - k, rs[rs.length - 1 - k]) r W1 (backL_at hk1) hM1) rfl (fun bY17 gY17 hY17 => ?_)
      refine gop (y_not rfl) rfl rfl rfl ?_
      refine gops_nil ?_
      refine hN5 _ _ ?_
      refine gT [_, box b1 _] rfl ?_
      refine gfrom [(0, .func _ _ _), (1, _), (3, .int _ _), (18, .bool _)] ⟨rfl, rfl, rfl, rfl, trivial⟩ fun σ => ?_
      refine gcond (b := _) rfl (fun hc18 => ?_) (fun hc18 => ?_)
      · 
        obtain rfl : bY17 = false := by simpa using hc18
        obtain ⟨iY, rfl⟩ : ∃ i, gY17 = Jx k i := hY17
        refine gret fun w1 hM => ?_
        refine ⟨_, res0 rfl, ?_⟩
        exact ⟨⟨_, rfl⟩, .inr ⟨k, iY, by rw [backL_len]; exact hk1, hM.sub (List.singleton_sublist.2 (by simp))⟩⟩
      · 
        obtain rfl : bY17 = true := by simpa using hc18
        obtain rfl : gY17 = J (k + 1) := hY17
        refine gskip ?_
        refine hN4 _ _ ?_
        refine gfrom [(0, .func _ _ _), (1, _), (3, .int _ _)] ⟨rfl, rfl, rfl, trivial⟩ fun σ => ?_
        refine greg ?_
        refine gop (y_move (v := .int _ _) rfl) rfl rfl rfl ?_
        refine gop (y_sub rfl rfl ⟨by omega, by omega⟩) rfl rfl rfl ?_
        refine gop (y_assign (v := .int _ _) rfl) rfl rfl rfl ?_
        refine gops_nil ?_
        refine gnext2 (k + 1) (by omega) (show k + 1 ≤ _ by omega) ⟨congrArg (Value.int .i64) (by omega), trivial⟩ ⟨rfl, rfl, trivial⟩ ⟨_, rfl⟩
    · 
      replace hc8 := of_decide_eq_false hc8
      refine gexit ?_
      intro w1 hM
      refine ⟨_, res0 rfl, ?_⟩
      exact ⟨⟨_, rfl⟩, .inl (by rw [backL_len, show rs.length = k by omega]; exact hM.sub (List.singleton_sublist.2 (by simp)))⟩
set_option maxHeartbeats 1000000 in
theorem back_any (w : World) (A : Option Addr) (n c : Nat) :
    Calls Tryd.prog 72 #[.slice A n c] w fun e w' => ∃ v T', e = .returned v ∧ (∃ b1, v = .func (.func 92) #[] #[.pointer (some ⟨b1, 0, none⟩)] ∧ T' = [box b1 (.cells #[.slice A n c] 29)]) ∧ Mem w T' w' := by
  refine gcalls Tryd.func72 rfl Tryd.ntmps72 (Nat.le_of_ble_eq_true rfl) ?_
  refine gfrom [(0, .slice _ _ _)] ⟨rfl, trivial⟩ fun σ => ?_
  refine gseq fun N1 hN1 => ?_
  refine greg ?_
  refine gop_box (v := .slice _ _ _) (cs := #[_]) rfl rfl rfl (fun b1 hb1 => ?_)
  refine gop (y_assign (v := .nilFunc) rfl) rfl rfl rfl ?_
  refine gops_nil ?_
  refine hN1 _ _ ?_
  refine gT [box b1 _] rfl ?_
  refine gfrom [(1, .pointer _)] ⟨rfl, trivial⟩ fun σ => ?_
  refine gseq fun N2 hN2 => ?_
  refine greg ?_
  refine gop (y_makeFunc (vs := [.pointer (some ⟨b1, 0, none⟩)]) rfl) rfl rfl rfl ?_
  refine gop (y_assign (v := .func (.func 92) #[] #[.pointer (some ⟨b1, 0, none⟩)]) rfl) rfl rfl rfl ?_
  refine gops_nil ?_
  refine hN2 _ _ ?_
  refine gfrom [(2, .func (.func 92) #[] #[.pointer (some ⟨b1, 0, none⟩)])] ⟨rfl, trivial⟩ fun σ => ?_
  refine gret fun w1 hM => ?_
  refine ⟨_, res1 rfl (rt (v := .func (.func 92) #[] #[.pointer (some ⟨b1, 0, none⟩)]) rfl), ?_⟩
  exact ⟨_, _, rfl, ⟨_, rfl, rfl⟩, hM⟩
set_option maxHeartbeats 2000000 in
theorem find_any (w : World) (A : Option Addr) (c : Nat) (rs : List RuleC) (hR : RulesR w 0 A c rs) (path : ByteArray) (hps : ∀ a ∈ rs, a.pl.pat.size ≤ 4000000) (hs : path.size ≤ 4000000) (hus : ∀ a ∈ rs, a.pl.users.length ≤ 1000000) :
    Calls Tryd.prog 49 #[.slice A rs.length c, .string path] w fun e w' => ∃ v T', e = .returned v ∧ T' = [rowl intCells w.heap.size 3 1 (v) (findU (rls rs) path)] ∧ Mem w T' w' := by
  have hln := hR.sb.len
  have hmx := hR.sb.max
  unfold maxLen at hmx
  refine gcalls Tryd.func49 rfl Tryd.ntmps49 (Nat.le_of_ble_eq_true rfl) ?_
  refine gfrom [(0, .slice _ _ _), (1, .string _)] ⟨rfl, rfl, trivial⟩ fun σ => ?_
  refine gseq fun N1 hN1 => ?_
  refine greg ?_
  refine gop_box (v := .string _) (cs := #[_]) rfl rfl rfl (fun b3 hb3 => ?_)
  refine gop_alloc (cs := #[.slice none 0 0]) Tryd.zeroValue30 rfl rfl (fun b4 hb4 => ?_)
  refine gops_nil ?_
  refine hN1 _ _ ?_
  refine gT [box b3 _, box b4 _] rfl ?_
  refine gfrom [(0, .slice _ _ _), (3, .pointer _), (4, .pointer _)] ⟨rfl, rfl, rfl, trivial⟩ fun σ => ?_
  refine gseqAB fun N2 hN2 => ?_
  refine greg ?_
  refine gop (y_move (v := .slice _ _ _) rfl) rfl rfl rfl ?_
  refine gop_got (fun v T' => ∃ c1, v = .func (.func 92) #[] #[.pointer (some ⟨c1, 0, none⟩)] ∧ T' = [box c1 (.cells #[.slice A rs.length c] 29)]) (e_call (vs := [.slice _ _ _]) Tryd.func72 rfl (by kernel_rfl) rfl) (fun w hM => back_any w A rs.length c) rfl rfl rfl ?_
  rintro _ _ ⟨c1, rfl, rfl⟩
  refine gops_nil ?_
  refine hN2 _ _ ?_
  refine gthen_T [box b3 _, box b4 _, box c1 _] rfl ?_
  refine gthen_from [(3, .pointer _), (4, .pointer _), (8, .func _ _ _)] ⟨rfl, rfl, rfl, trivial⟩ fun σ => ?_
  refine grange (lb := [.pointer (some ⟨c1, 0, none⟩)]) (ps := [9, 10]) (xs := backL rs) (fun k => [sure (∀ j (h : j < rs.length), rs.length - k ≤ j → matchR path rs[j].pl = false), box b3 (.cells #[.string path] 9), box b4 (.cells #[.slice none 0 0] 30)]) (fun _ (i : Value) => [box b4 (.cells #[i] 30), rowl intCells w.heap.size 3 1 (i) (findU (rls rs) path)]) rfl (e_enter Tryd.func92 rfl (by kernel_rfl)) (back1_iters _ A c rs hR c1) (fun w hM => hM.sure (fun j h hj => absurd hj (by omega))) (by decide) (fun _ => rfl) ?round ?done ?stop
  case round =>
    intro lR k x q hx NR hNR
    obtain ⟨xi, xr⟩ := x
    obtain ⟨hk1, hk2, hxr⟩ := backL_inv hx
    obtain rfl : xr = rs[rs.length - 1 - k] := hxr
    have hRk := hR.each _ (List.getElem_mem hk2)
    refine g_fact (fun w hM => hM.known 1 rfl) ?_
    intro hJ
    refine gfrom [(3, .pointer _), (4, .pointer _), (8, .func _ _ _), (10, .agg #[_, _])] ⟨rfl, rfl, rfl, rfl, trivial⟩ fun σ => ?_
    refine greg ?_
    refine gop_alloc (cs := #[.string .empty, .slice none 0 0]) Tryd.zeroValue32 rfl rfl (fun b6 hb6 => ?_)
    refine gop_store 4 (v := .agg #[_, _]) (cs' := #[_, _]) rfl rfl Tryd.sizeOf32 rfl rfl rfl rfl (Nat.le_of_ble_eq_true rfl) rfl rfl ?_
    refine gops_nil ?_
    refine hNR _ _ fun q2 => ?_
    refine gfrom [(3, .pointer _), (4, .pointer _), (6, .pointer _), (8, .func _ _ _)] ⟨rfl, rfl, rfl, rfl, trivial⟩ fun σ => ?_
    refine gblock ?_
    refine gseq fun N3 hN3 => ?_
    refine greg ?_
    refine gop (y_fieldAddr_box fa32_0 rfl) rfl rfl rfl ?_
    refine gop (y_load Tryd.isAgg9 rfl (cell_box 4 rfl rfl)) rfl rfl rfl ?_
    refine gop (y_load Tryd.isAgg9 rfl (cell_box 2 rfl rfl)) rfl rfl rfl ?_
    refine gop_pure (e_call (vs := [.string _, .string _]) Tryd.func43 rfl (by kernel_rfl) rfl) (fun w hM => matches_any w _ _ (hps _ (List.getElem_mem hk2)) hs) rfl rfl rfl ?_
    refine gops_nil ?_
    refine hN3 _ _ ?_
    refine gT [_, sure _, box b3 _, box b4 _, box b6 _] rfl ?_
    refine gfrom [(3, .pointer _), (4, .pointer _), (6, .pointer _), (8, .func _ _ _), (14, .bool _)] ⟨rfl, rfl, rfl, rfl, rfl, trivial⟩ fun σ => ?_
    refine gcond (b := _) rfl (fun hc14 => ?_) (fun hc14 => ?_)
    · 
      refine gseq fun N4 hN4 => ?_
      refine greg ?_
      refine gop (y_fieldAddr_box fa32_1 rfl) rfl rfl rfl ?_
      refine gop (y_load Tryd.isAgg30 rfl (cell_box 4 rfl rfl)) rfl rfl rfl ?_
      refine gop_got (fun v T' => ∃ lo, w.heap.size ≤ lo ∧ T' = [rowl intCells lo 3 1 (v) (rs[rs.length - 1 - k].pl.users)]) (e_call (vs := [.slice _ _ _]) Tryd.func73 rfl (by kernel_rfl) rfl) (fun w hM => (cloneInts_any w _ _ _ (hRk.rd.base hM) (by have h0 := hus _ (List.getElem_mem hk2); omega) hRk.sb.nil).mono fun _ _ ⟨v, T1, h1, h2, h3⟩ => ⟨v, T1, h1, ⟨_, hM.low.size, h2⟩, h3⟩) rfl rfl rfl ?_
      rintro v17 _ ⟨lo17, hlo17, rfl⟩
      refine gops_fact (fun w hM => row_form (hM.ok _ (List.mem_of_getElem? (i := 5) rfl))) ?_
      rintro ⟨A17, c17, rfl, hc17, hm17, hn17⟩
      refine gops_mem _ (weak_lower 5 rfl hlo17) ?_
      refine gop_store 3 (v := .slice A17 _ c17) (cs' := #[_]) rfl rfl Tryd.sizeOf30 rfl rfl rfl rfl (Nat.le_of_ble_eq_true rfl) rfl rfl ?_
      refine gops_nil ?_
      refine hN4 _ _ ?_
      refine gT [_, sure _, box b3 _, box b4 _, box b6 _, rowl _ _ _ _ _ _] rfl ?_
      refine gfrom [(4, .pointer _)] ⟨rfl, trivial⟩ fun σ => ?_
      refine gret fun w1 hM => ?_
      refine ⟨.slice A17 (rs[rs.length - 1 - k].pl.users.length) c17, ?_⟩
      rw [findU_hit hk2 hc14 (fun j h hj => hJ j h (by omega))]
      exact hM.sub (.cons_cons _ (.cons _ (.cons _ (.cons_cons _ (.cons _ (.cons_cons _ .slnil))))))
    · 
      refine gskip ?_
      intro w1 hM
      have hJ2 : ∀ j (h : j < rs.length), rs.length - (k + 1) ≤ j → matchR path rs[j].pl = false := by
        intro j h hj
        rcases Nat.lt_or_ge j (rs.length - k) with h1 | h1
        · obtain rfl : j = rs.length - 1 - k := by omega
          exact hc14
        · exact hJ j h h1
      exact (hM.resure 1 rfl hJ2).sub (.cons_cons _ (.cons_cons _ (.cons_cons _ (.cons_cons _ (.cons _ .slnil)))))
  case done =>
    intro D qD
    refine gfrom [(4, .pointer _)] ⟨rfl, trivial⟩ fun σ => ?_
    refine g_fact (fun w hM => hM.known 2 rfl) ?_
    intro hJ
    have hz : findU (rls rs) path = [] := findU_none (fun j h => hJ j h (by rw [backL_len]; omega))
    refine gseq fun N5 hN5 => ?_
    refine greg ?_
    refine gop_store 4 (v := .slice _ _ _) (cs' := #[_]) rfl rfl Tryd.sizeOf30 rfl rfl rfl rfl (Nat.le_of_ble_eq_true rfl) rfl rfl ?_
    refine gops_nil ?_
    refine hN5 _ _ ?_
    refine gT [_, _, sure _, box b3 _, box b4 _] rfl ?_
    refine gfrom [(4, .pointer _)] ⟨rfl, trivial⟩ fun σ => ?_
    refine gret (fin_marked 0 rfl rfl fun w1 hM => ?_)
    refine ⟨_, res1 rfl (rc1 4 hM rfl rfl Tryd.isAgg30), ?_⟩
    exact ⟨_, _, rfl, by rw [hz]; rfl, (mem_nilrow intCells 3 1 hM).dropTo 5 rfl⟩
  case stop =>
    rintro D qD k i hk w1 hM
    refine ⟨_, res1 rfl (rc1 2 hM rfl rfl Tryd.isAgg30), ?_⟩
    exact ⟨_, _, rfl, rfl, hM.dropTo 3 rfl⟩
end Go.Proofs.YtijpaljdclhehaaDoor
namespace Go.Proofs.YtijpaljdclhehaaDoor
open Go.RowKit Go.Cf
set_option maxRecDepth 10000
set_option maxHeartbeats 2000000 in
theorem of_any (w : World) (A : Option Addr) (c : Nat) (rs : List RuleC) (hR : RulesR w 0 A c rs) (path : ByteArray) :
    Calls Tryd.prog 18 #[.slice A rs.length c, .string path] w fun e w' => ∃ v T', e = .returned (.tuple #[v, fv (ofF (rls rs) path)]) ∧ T' = [rowl intCells w.heap.size 3 1 (v) (ofV (rls rs) path)] ∧ Mem w T' w' := by
  refine gcalls Tryd.func18 rfl Tryd.ntmps18 (Nat.le_of_ble_eq_true rfl) ?_
  refine gfrom [(0, .slice _ _ _), (1, .string _)] ⟨rfl, rfl, trivial⟩ fun σ => ?_
  refine gseq fun N1 hN1 => ?_
  refine greg ?_
  refine gop (y_assign (v := .slice _ _ _) rfl) rfl rfl rfl ?_
  refine gop_alloc (cs := #[.int .i64 0, .int .i64 0]) Tryd.zeroValue23 rfl rfl (fun b5 hb5 => ?_)
  refine gops_nil ?_
  refine hN1 _ _ ?_
  refine gT [box b5 _] rfl ?_
  refine gfrom [(0, .slice _ _ _), (1, .string _), (5, .pointer _)] ⟨rfl, rfl, rfl, trivial⟩ fun σ => ?_
  refine gseq fun N2 hN2 => ?_
  refine gseq fun N3 hN3 => ?_
  refine greg ?_
  refine gop (y_move (v := .slice _ _ _) rfl) rfl rfl rfl ?_
  refine gop_pure (e_call (vs := [.slice _ _ _]) Tryd.func28 rfl (by kernel_rfl) rfl) (fun w hM => ownValidate_any w A c rs (RulesR.lasts.base hR hM)) rfl rfl rfl ?_
  refine gop_alloc (cs := #[.int .i64 0, .int .i64 0]) Tryd.zeroValue23 rfl rfl (fun b6 hb6 => ?_)
  refine gop_store 1 (v := .agg #[_, _]) (cs' := #[_, _]) rfl rfl Tryd.sizeOf23 rfl rfl rfl rfl (Nat.le_of_ble_eq_true rfl) rfl rfl ?_
  refine gops_nil ?_
  refine hN3 _ _ ?_
  refine gT [box b5 _, box b6 _] rfl ?_
  refine gfrom [(0, .slice _ _ _), (1, .string _), (5, .pointer _), (6, .pointer _)] ⟨rfl, rfl, rfl, rfl, trivial⟩ fun σ => ?_
  refine gseq fun N4 hN4 => ?_
  refine greg ?_
  refine gop (y_loads (cs := [_, _]) Tryd.isAgg23 Tryd.sizeOf23 rfl rfl (cells_box 1 rfl)) rfl rfl rfl ?_
  refine gop (y_build (vs := []) (cells := #[.int .i64 0, .int .i64 0]) rfl bd23_) rfl rfl rfl ?_
  refine gop (y_bin (vx := .agg #[_, _]) (vy := .agg #[_, _]) rfl rfl (fun w => eg23 _ _ _ _ _ w) (fun w => ne23 _ _ _ _ w)) rfl rfl rfl ?_
  refine gops_nil ?_
  refine hN4 _ _ ?_
  refine gfrom [(0, .slice _ _ _), (1, .string _), (5, .pointer _), (6, .pointer _), (11, .bool _)] ⟨rfl, rfl, rfl, rfl, rfl, trivial⟩ fun σ => ?_
  refine gcond (b := _) rfl (fun hc11 => ?_) (fun hc11 => ?_)
  · 
    replace hc11 := fault_ne.1 hc11
    have hV : ofV (rls rs) path = [] := by rw [ofV, if_neg (fun h => hc11 h.1)]
    refine gseq fun N5 hN5 => ?_
    refine greg_e1 [] [(0, room b5 23 2)] (by kernel_rfl) ?_
    refine ge_take 0 (TK := [room b5 23 2, box b6 _]) rfl (by kernel_rfl) (by kernel_rfl) (by kernel_rfl) #[false, true, false] (by kernel_rfl) rfl (y_loads (cs := [_, _]) Tryd.isAgg23 Tryd.sizeOf23 rfl rfl (cells_box 1 rfl)) rfl rfl rfl (weak_room 0 rfl rfl) (listed' := #[true, false, false]) rfl ?_
    refine ge_take 1 (TK := [room b5 23 2, box b6 _]) rfl (by kernel_rfl) (by kernel_rfl) (by kernel_rfl) #[true, false, false] (by kernel_rfl) rfl (y_assign (v := .slice _ _ _) rfl) rfl rfl rfl (weak_room 0 rfl rfl) (listed' := #[true, true, false]) rfl ?_
    refine ge_one 2 (k' := 0) (listed' := #[true, true, true]) (by kernel_rfl) rfl rfl rfl ?_
    refine gop_store 0 (v := .agg #[_, _]) (cs' := #[_, _]) rfl rfl Tryd.sizeOf23 rfl rfl rfl rfl (Nat.le_of_ble_eq_true rfl) rfl rfl ?_
    refine gops_nil ?_
    refine ge_fin (TK := [room b5 23 2, box b6 _]) rfl (weak_room 0 rfl rfl) ?_
    refine ge_done (by kernel_rfl) ?_
    refine hN5 _ _ ?_
    refine gT [box b5 _, box b6 _] rfl ?_
    refine gfrom [(4, .slice _ _ _), (5, .pointer _)] ⟨rfl, rfl, trivial⟩ fun σ => ?_
    refine gret fun w1 hM => ?_
    refine ⟨_, res2 rfl (rt (v := .slice _ _ _) rfl) (rc 0 (cs := [_, _]) hM rfl rfl Tryd.isAgg23 Tryd.sizeOf23 rfl), ?_⟩
    exact ⟨_, _, by rw [ofF, if_pos hc11], by rw [hV]; rfl, (mem_nilrow intCells _ 1 hM).dropTo 2 rfl⟩
  · 
    replace hc11 := fault_eq.1 hc11
    refine gskip ?_
    refine hN2 _ _ ?_
    refine gfrom [(0, .slice _ _ _), (1, .string _), (5, .pointer _)] ⟨rfl, rfl, rfl, trivial⟩ fun σ => ?_
    refine gseq fun N6 hN6 => ?_
    refine gseq fun N7 hN7 => ?_
    refine greg ?_
    refine gop (y_move (v := .string _) rfl) rfl rfl rfl ?_
    refine gop_pure (e_call (vs := [.string _]) Tryd.func42 rfl (by kernel_rfl) rfl) (fun w hM => validPath_any w _) rfl rfl rfl ?_
    refine gop (y_not rfl) rfl rfl rfl ?_
    refine gops_nil ?_
    refine hN7 _ _ ?_
    refine gfrom [(0, .slice _ _ _), (1, .string _), (5, .pointer _), (15, .bool _)] ⟨rfl, rfl, rfl, rfl, trivial⟩ fun σ => ?_
    refine gcond (b := _) rfl (fun hc15 => ?_) (fun hc15 => ?_)
    · 
      replace hc15 := not_t hc15
      have hV : ofV (rls rs) path = [] := by rw [ofV, if_neg (fun h => absurd h.2 (by simp [hc15]))]
      refine gseq fun N8 hN8 => ?_
      refine greg ?_
      refine gop (y_build (vs := [(0, _), (1, _)]) (cells := #[_, _]) rfl (bd23_0_1 _ _)) rfl rfl rfl ?_
      refine gop (y_assign (v := .slice _ _ _) rfl) rfl rfl rfl ?_
      refine gop_store 0 (v := .agg #[_, _]) (cs' := #[_, _]) rfl rfl Tryd.sizeOf23 rfl rfl rfl rfl (Nat.le_of_ble_eq_true rfl) rfl rfl ?_
      refine gops_nil ?_
      refine hN8 _ _ ?_
      refine gT [box b5 _, box b6 _] rfl ?_
      refine gfrom [(4, .slice _ _ _), (5, .pointer _)] ⟨rfl, rfl, trivial⟩ fun σ => ?_
      refine gret fun w1 hM => ?_
      refine ⟨_, res2 rfl (rt (v := .slice _ _ _) rfl) (rc 0 (cs := [_, _]) hM rfl rfl Tryd.isAgg23 Tryd.sizeOf23 rfl), ?_⟩
      exact ⟨_, _, by rw [ofF, if_neg (fun h => h hc11), hc15]; rfl, by rw [hV]; rfl, (mem_nilrow intCells _ 1 hM).dropTo 2 rfl⟩
    · 
      replace hc15 := not_f hc15
      have hpk : pathOk path = true := hc15
      refine gskip ?_
      refine hN6 _ _ ?_
      refine gfrom [(0, .slice _ _ _), (1, .string _), (5, .pointer _)] ⟨rfl, rfl, rfl, trivial⟩ fun σ => ?_
      refine gseq fun N9 hN9 => ?_
      refine greg ?_
      refine gop (y_move (v := .slice _ _ _) rfl) rfl rfl rfl ?_
      refine gop (y_move (v := .string _) rfl) rfl rfl rfl ?_
      refine gop_got (fun v T' => ∃ lo, w.heap.size ≤ lo ∧ T' = [rowl intCells lo 3 1 (v) (findU (rls rs) path)]) (e_call (vs := [.slice _ _ _, .string _]) Tryd.func49 rfl (by kernel_rfl) rfl) (fun w hM => (find_any w A c rs (RulesR.lasts.base hR hM) path (fun a ha => Nat.le_trans (patFault_size (ruleCode_zero (rulesF_each hc11 a.pl (List.mem_map.2 ⟨a, ha, rfl⟩))).1) (by decide)) (Nat.le_trans (pathOk_size hpk) (by decide)) (fun a ha => Nat.le_trans (ruleCode_zero (rulesF_each hc11 a.pl (List.mem_map.2 ⟨a, ha, rfl⟩))).2.1 (by decide))).mono fun _ _ ⟨v, T1, h1, h2, h3⟩ => ⟨v, T1, h1, ⟨_, hM.low.size, h2⟩, h3⟩) rfl rfl rfl ?_
      rintro v19 _ ⟨lo19, hlo19, rfl⟩
      refine gops_fact (fun w hM => row_form (hM.ok _ (List.mem_of_getElem? (i := 2) rfl))) ?_
      rintro ⟨A19, c19, rfl, hc19, hm19, hn19⟩
      refine gops_mem _ (weak_lower 2 rfl hlo19) ?_
      refine gop (y_build (vs := []) (cells := #[.int .i64 0, .int .i64 0]) rfl bd23_) rfl rfl rfl ?_
      refine gop (y_assign (v := .slice A19 _ c19) rfl) rfl rfl rfl ?_
      refine gop_store 0 (v := .agg #[_, _]) (cs' := #[_, _]) rfl rfl Tryd.sizeOf23 rfl rfl rfl rfl (Nat.le_of_ble_eq_true rfl) rfl rfl ?_
      refine gops_nil ?_
      refine hN9 _ _ ?_
      refine gT [box b5 _, box b6 _, rowl _ _ _ _ _ _] rfl ?_
      refine gfrom [(4, .slice A19 _ c19), (5, .pointer _)] ⟨rfl, rfl, trivial⟩ fun σ => ?_
      refine gret fun w1 hM => ?_
      refine ⟨_, res2 rfl (rt (v := .slice A19 _ c19) rfl) (rc 0 (cs := [_, _]) hM rfl rfl Tryd.isAgg23 Tryd.sizeOf23 rfl), ?_⟩
      exact ⟨_, _, by rw [ofF, if_neg (fun h => h hc11), hpk]; rfl, by rw [ofV, if_pos ⟨hc11, hpk⟩]; rfl, hM.dropTo 2 rfl⟩
set_option maxHeartbeats 1000000 in
theorem sameInts_any (w : World) (A B : Option Addr) (c c' : Nat) (l m : List Int) (hA : Rdl w 0 1 intCells A l) (hB : Rdl w 0 1 intCells B m) (hl : l.length ≤ maxLen) :
    Calls Tryd.prog 20 #[.slice A l.length c, .slice B m.length c'] w fun e w' => e = .returned (.bool (decide (l = m))) ∧ Below w.heap.size w w' := by
  unfold maxLen at hl
  refine gcalls Tryd.func20 rfl Tryd.ntmps20 (Nat.le_of_ble_eq_true rfl) ?_
  refine gfrom [(0, .slice _ _ _), (1, .slice _ _ _)] ⟨rfl, rfl, trivial⟩ fun σ => ?_
  refine gseq fun N1 hN1 => ?_
  refine greg ?_
  refine gop (y_assign (v := .bool _) rfl) rfl rfl rfl ?_
  refine gops_nil ?_
  refine hN1 _ _ ?_
  refine gfrom [(0, .slice _ _ _), (1, .slice _ _ _)] ⟨rfl, rfl, trivial⟩ fun σ => ?_
  refine gseq fun N2 hN2 => ?_
  refine gseq fun N3 hN3 => ?_
  refine greg ?_
  refine gop (y_move (v := .slice _ _ _) rfl) rfl rfl rfl ?_
  refine gop (y_len Tryd.underlying30 rfl) rfl rfl rfl ?_
  refine gop (y_move (v := .slice _ _ _) rfl) rfl rfl rfl ?_
  refine gop (y_len Tryd.underlying30 rfl) rfl rfl rfl ?_
  refine gop (y_neq rfl rfl) rfl rfl rfl ?_
  refine gops_nil ?_
  refine hN3 _ _ ?_
  refine gfrom [(0, .slice _ _ _), (1, .slice _ _ _), (10, .bool _)] ⟨rfl, rfl, rfl, trivial⟩ fun σ => ?_
  refine gcond (b := _) rfl (fun hc10 => ?_) (fun hc10 => ?_)
  · 
    replace hc10 := of_decide_eq_true hc10
    refine gseq fun N4 hN4 => ?_
    refine greg ?_
    refine gop (y_assign (v := .bool _) rfl) rfl rfl rfl ?_
    refine gops_nil ?_
    refine hN4 _ _ ?_
    refine gfrom [(4, .bool _)] ⟨rfl, trivial⟩ fun σ => ?_
    refine gret fun w1 hM => ?_
    refine ⟨_, res1 rfl (rt (v := .bool _) rfl), ?_⟩
    exact ⟨by rw [decide_eq_false (fun e => by subst e; omega)], hM.low⟩
  · 
    replace hc10 := Decidable.not_not.1 (of_decide_eq_false hc10)
    refine gskip ?_
    refine hN2 _ _ ?_
    refine gfrom [(0, .slice _ _ _), (1, .slice _ _ _)] ⟨rfl, rfl, trivial⟩ fun σ => ?_
    refine gseq fun N5 hN5 => ?_
    refine gseq fun N6 hN6 => ?_
    refine greg ?_
    refine gop (y_assign (v := .int _ _) rfl) rfl rfl rfl ?_
    refine gops_nil ?_
    refine hN6 _ _ ?_
    refine gfrom [(0, .slice _ _ _), (1, .slice _ _ _), (5, .int _ _)] ⟨rfl, rfl, rfl, trivial⟩ fun σ => ?_
    refine gblock ?_
    refine gfrom2 [(5, .int _ _)] [(0, .slice _ _ _), (1, .slice _ _ _)] ⟨rfl, trivial⟩ ⟨rfl, rfl, trivial⟩ fun σ => ?_
    refine gloop2 (G := Nat) (fun k => k ≤ l.length ∧ l.length = m.length ∧ l.take k = m.take k) (fun k => l.length - k) (fun k => [(5, .int .i64 (k : Int))]) (fun k => []) (0) ?h0 ⟨rfl, trivial⟩ ⟨rfl, rfl, trivial⟩ rfl ?round
    case h0 => exact ⟨Nat.zero_le _, by omega, by simp⟩
    case round =>
      intro k hφ σ
      obtain ⟨hk, hlm, htk⟩ := hφ
      refine gseq fun N7 hN7 => ?_
      refine gseq fun N8 hN8 => ?_
      refine greg ?_
      refine gop (y_move (v := .int _ _) rfl) rfl rfl rfl ?_
      refine gop (y_move (v := .slice _ _ _) rfl) rfl rfl rfl ?_
      refine gop (y_len Tryd.underlying30 rfl) rfl rfl rfl ?_
      refine gop (y_lss rfl rfl) rfl rfl rfl ?_
      refine gops_nil ?_
      refine hN8 _ _ ?_
      refine gfrom [(0, .slice _ _ _), (1, .slice _ _ _), (5, .int _ _), (14, .bool _)] ⟨rfl, rfl, rfl, rfl, trivial⟩ fun σ => ?_
      refine gcond (b := _) rfl (fun hc14 => ?_) (fun hc14 => ?_)
      · 
        replace hc14 := of_decide_eq_true hc14
        have hk1 : k < l.length := by omega
        obtain ⟨ad, rfl, -, hca⟩ := hA.at_ hk1
        obtain ⟨ad', rfl, -, hcb⟩ := hB.at_ (k := k) (by omega)
        refine gskip ?_
        refine hN7 _ _ ?_
        refine gfrom [(0, .slice _ _ _), (1, .slice _ _ _), (5, .int _ _)] ⟨rfl, rfl, rfl, trivial⟩ fun σ => ?_
        refine gseq fun N9 hN9 => ?_
        refine gblock ?_
        refine gseq fun N10 hN10 => ?_
        refine greg_q (by kernel_rfl) (by kernel_rfl) ?_
        refine gq (y_move (v := .slice _ _ _) rfl) rfl rfl rfl ?_
        refine gq (y_move (v := .int _ _) rfl) rfl rfl rfl ?_
        refine gq (y_indexAddr Tryd.underlying30 Tryd.sizeOf3 rfl rfl rfl (by omega) (by omega)) rfl rfl rfl ?_
        refine gq (y_load Tryd.isAgg3 rfl (cell_base (hca 0 _ rfl))) rfl rfl rfl ?_
        refine gq (y_move (v := .slice _ _ _) rfl) rfl rfl rfl ?_
        refine gq (y_move (v := .int _ _) rfl) rfl rfl rfl ?_
        refine gq (y_indexAddr Tryd.underlying30 Tryd.sizeOf3 rfl rfl rfl (by omega) (by omega)) rfl rfl rfl ?_
        refine gq (y_load Tryd.isAgg3 rfl (cell_base (hcb 0 _ rfl))) rfl rfl rfl ?_
        refine gq (y_neq rfl rfl) rfl rfl rfl ?_
        refine gqs_nil ?_
        refine hN10 _ _ ?_
        refine gfrom [(0, .slice _ _ _), (1, .slice _ _ _), (5, .int _ _), (25, .bool _)] ⟨rfl, rfl, rfl, rfl, trivial⟩ fun σ => ?_
        refine gcond (b := _) rfl (fun hc25 => ?_) (fun hc25 => ?_)
        · 
          replace hc25 := of_decide_eq_true hc25
          refine gseq fun N11 hN11 => ?_
          refine greg ?_
          refine gop (y_assign (v := .bool _) rfl) rfl rfl rfl ?_
          refine gops_nil ?_
          refine hN11 _ _ ?_
          refine gfrom [(4, .bool _)] ⟨rfl, trivial⟩ fun σ => ?_
          refine gret fun w1 hM => ?_
          refine ⟨_, res1 rfl (rt (v := .bool _) rfl), ?_⟩
          exact ⟨by rw [decide_eq_false (ne_of_at hk1 (by omega) hc25)], hM.low⟩
        · 
          replace hc25 := Decidable.not_not.1 (of_decide_eq_false hc25)
          refine gskip ?_
          refine hN9 _ _ ?_
          refine gfrom [(0, .slice _ _ _), (1, .slice _ _ _), (5, .int _ _)] ⟨rfl, rfl, rfl, trivial⟩ fun σ => ?_
          refine greg ?_
          refine gop (y_move (v := .int _ _) rfl) rfl rfl rfl ?_
          refine gop (y_add rfl rfl ⟨by omega, by omega⟩) rfl rfl rfl ?_
          refine gop (y_assign (v := .int _ _) rfl) rfl rfl rfl ?_
          refine gops_nil ?_
          refine gnext2 (k + 1) (by omega) (⟨by omega, hlm, take_next l m k (by omega) (by omega) htk hc25⟩) ⟨rfl, trivial⟩ ⟨rfl, rfl, trivial⟩ ⟨_, rfl⟩
      · 
        replace hc14 := of_decide_eq_false hc14
        refine gexit ?_
        refine hN5 _ _ ?_
        refine gfrom [] trivial fun σ => ?_
        refine gseq fun N12 hN12 => ?_
        refine greg ?_
        refine gop (y_assign (v := .bool _) rfl) rfl rfl rfl ?_
        refine gops_nil ?_
        refine hN12 _ _ ?_
        refine gfrom [(4, .bool _)] ⟨rfl, trivial⟩ fun σ => ?_
        refine gret fun w1 hM => ?_
        refine ⟨_, res1 rfl (rt (v := .bool _) rfl), ?_⟩
        exact ⟨by rw [decide_eq_true (eq_of_takes hlm (by omega) htk)], hM.low⟩
set_option maxHeartbeats 2000000 in
theorem sameRules_any (w : World) (A B : Option Addr) (c c' : Nat) (l m : List RuleC) (hA : Rdl w 0 2 ruleCells A l) (hAe : ∀ a ∈ l, RuleR w 0 a) (hB : Rdl w 0 2 ruleCells B m) (hBe : ∀ a ∈ m, RuleR w 0 a) (hl : l.length ≤ maxLen) : Calls Tryd.prog 23 #[.slice A l.length c, .slice B m.length c'] w fun e w' => e = .returned (.bool (decide (rls l = rls m))) ∧ Below w.heap.size w w' := by
  unfold maxLen at hl
  refine gcalls Tryd.func23 rfl Tryd.ntmps23 (Nat.le_of_ble_eq_true rfl) ?_
  refine gfrom [(0, .slice _ _ _), (1, .slice _ _ _)] ⟨rfl, rfl, trivial⟩ fun σ => ?_
  refine gseq fun N1 hN1 => ?_
  refine greg ?_
  refine gop (y_assign (v := .bool _) rfl) rfl rfl rfl ?_
  refine gops_nil ?_
  refine hN1 _ _ ?_
  refine gfrom [(0, .slice _ _ _), (1, .slice _ _ _)] ⟨rfl, rfl, trivial⟩ fun σ => ?_
  refine gseq fun N2 hN2 => ?_
  refine gseq fun N3 hN3 => ?_
  refine greg ?_
  refine gop (y_move (v := .slice _ _ _) rfl) rfl rfl rfl ?_
  refine gop (y_len Tryd.underlying29 rfl) rfl rfl rfl ?_
  refine gop (y_move (v := .slice _ _ _) rfl) rfl rfl rfl ?_
  refine gop (y_len Tryd.underlying29 rfl) rfl rfl rfl ?_
  refine gop (y_neq rfl rfl) rfl rfl rfl ?_
  refine gops_nil ?_
  refine hN3 _ _ ?_
  refine gfrom [(0, .slice _ _ _), (1, .slice _ _ _), (10, .bool _)] ⟨rfl, rfl, rfl, trivial⟩ fun σ => ?_
  refine gcond (b := _) rfl (fun hc10 => ?_) (fun hc10 => ?_)
  · 
    replace hc10 := of_decide_eq_true hc10
    refine gseq fun N4 hN4 => ?_
    refine greg ?_
    refine gop (y_assign (v := .bool _) rfl) rfl rfl rfl ?_
    refine gops_nil ?_
    refine hN4 _ _ ?_
    refine gfrom [(4, .bool _)] ⟨rfl, trivial⟩ fun σ => ?_
    refine gret fun w1 hM => ?_
    refine ⟨_, res1 rfl (rt (v := .bool _) rfl), ?_⟩
    exact ⟨by rw [decide_eq_false (fun e => by have h1 := congrArg List.length e; simp at h1; omega)], hM.low⟩
  · 
    replace hc10 := Decidable.not_not.1 (of_decide_eq_false hc10)
    refine gskip ?_
    refine hN2 _ _ ?_
    refine gfrom [(0, .slice _ _ _), (1, .slice _ _ _)] ⟨rfl, rfl, trivial⟩ fun σ => ?_
    refine gseq fun N5 hN5 => ?_
    refine gseq fun N6 hN6 => ?_
    refine greg ?_
    refine gop (y_assign (v := .int _ _) rfl) rfl rfl rfl ?_
    refine gops_nil ?_
    refine hN6 _ _ ?_
    refine gfrom [(0, .slice _ _ _), (1, .slice _ _ _), (5, .int _ _)] ⟨rfl, rfl, rfl, trivial⟩ fun σ => ?_
    refine gblock ?_
    refine gfrom2 [(5, .int _ _)] [(0, .slice _ _ _), (1, .slice _ _ _)] ⟨rfl, trivial⟩ ⟨rfl, rfl, trivial⟩ fun σ => ?_
    refine gloop2 (G := Nat) (fun k => k ≤ l.length ∧ l.length = m.length ∧ (rls l).take k = (rls m).take k) (fun k => l.length - k) (fun k => [(5, .int .i64 (k : Int))]) (fun k => []) (0) ?h0 ⟨rfl, trivial⟩ ⟨rfl, rfl, trivial⟩ rfl ?round
    case h0 => exact ⟨Nat.zero_le _, by omega, by simp⟩
    case round =>
      intro k hφ σ
      obtain ⟨hk, hlm, htk⟩ := hφ
      refine gseq fun N7 hN7 => ?_
      refine gseq fun N8 hN8 => ?_
      refine greg ?_
      refine gop (y_move (v := .int _ _) rfl) rfl rfl rfl ?_
      refine gop (y_move (v := .slice _ _ _) rfl) rfl rfl rfl ?_
      refine gop (y_len Tryd.underlying29 rfl) rfl rfl rfl ?_
      refine gop (y_lss rfl rfl) rfl rfl rfl ?_
      refine gops_nil ?_
      refine hN8 _ _ ?_
      refine gfrom [(0, .slice _ _ _), (1, .slice _ _ _), (5, .int _ _), (14, .bool _)] ⟨rfl, rfl, rfl, rfl, trivial⟩ fun σ => ?_
      refine gcond (b := _) rfl (fun hc14 => ?_) (fun hc14 => ?_)
      · 
        replace hc14 := of_decide_eq_true hc14
        have hk1 : k < l.length := by omega
        have hk2 : k < m.length := by omega
        obtain ⟨ad, rfl, -, hca⟩ := hA.at_ hk1
        obtain ⟨ad', rfl, -, hcb⟩ := hB.at_ hk2
        refine gskip ?_
        refine hN7 _ _ ?_
        refine gfrom [(0, .slice _ _ _), (1, .slice _ _ _), (5, .int _ _)] ⟨rfl, rfl, rfl, trivial⟩ fun σ => ?_
        refine gseq fun N9 hN9 => ?_
        refine gblock ?_
        refine gseq fun N10 hN10 => ?_
        refine greg_q (by kernel_rfl) (by kernel_rfl) ?_
        refine gq (y_move (v := .slice _ _ _) rfl) rfl rfl rfl ?_
        refine gq (y_move (v := .int _ _) rfl) rfl rfl rfl ?_
        refine gq (y_indexAddr (m := k) Tryd.underlying29 Tryd.sizeOf32 rfl rfl (by omega) (by omega) (by omega)) rfl rfl rfl ?_
        refine gq (y_fieldAddr_add fa32_0 rfl) rfl rfl rfl ?_
        refine gq (y_load Tryd.isAgg9 rfl (cell_base (hca 0 _ rfl))) rfl rfl rfl ?_
        refine gq (y_move (v := .slice _ _ _) rfl) rfl rfl rfl ?_
        refine gq (y_move (v := .int _ _) rfl) rfl rfl rfl ?_
        refine gq (y_indexAddr (m := k) Tryd.underlying29 Tryd.sizeOf32 rfl rfl (by omega) (by omega) (by omega)) rfl rfl rfl ?_
        refine gq (y_fieldAddr_add fa32_0 rfl) rfl rfl rfl ?_
        refine gq (y_load Tryd.isAgg9 rfl (cell_base (hcb 0 _ rfl))) rfl rfl rfl ?_
        refine gq (y_neqs rfl rfl) rfl rfl rfl ?_
        refine gq (y_move (v := .bool _) rfl) rfl rfl rfl ?_
        refine gq_if (want := false) rfl rfl rfl rfl rfl rfl (fun hg28 => ?_) (fun hg28 => ?_)
        · 
          have hg28d := hg28
          refine gq (y_bare (y_move (v := .slice _ _ _) rfl)) rfl rfl rfl ?_
          refine gq_on rfl rfl rfl rfl hg28 ?_
          refine gq (y_bare (y_move (v := .int _ _) rfl)) rfl rfl rfl ?_
          refine gq_on rfl rfl rfl rfl hg28 ?_
          refine gq (y_bare (y_indexAddr (m := k) Tryd.underlying29 Tryd.sizeOf32 rfl rfl (by omega) (by omega) (by omega))) rfl rfl rfl ?_
          refine gq_on rfl rfl rfl rfl hg28 ?_
          refine gq (y_bare (y_fieldAddr_add fa32_1 rfl)) rfl rfl rfl ?_
          refine gq_on rfl rfl rfl rfl hg28 ?_
          refine gq (y_bare (y_load Tryd.isAgg30 rfl (cell_base (hca 1 _ rfl)))) rfl rfl rfl ?_
          refine gq_on rfl rfl rfl rfl hg28 ?_
          refine gq (y_bare (y_move (v := .slice _ _ _) rfl)) rfl rfl rfl ?_
          refine gq_on rfl rfl rfl rfl hg28 ?_
          refine gq (y_bare (y_move (v := .int _ _) rfl)) rfl rfl rfl ?_
          refine gq_on rfl rfl rfl rfl hg28 ?_
          refine gq (y_bare (y_indexAddr (m := k) Tryd.underlying29 Tryd.sizeOf32 rfl rfl (by omega) (by omega) (by omega))) rfl rfl rfl ?_
          refine gq_on rfl rfl rfl rfl hg28 ?_
          refine gq (y_bare (y_fieldAddr_add fa32_1 rfl)) rfl rfl rfl ?_
          refine gq_on rfl rfl rfl rfl hg28 ?_
          refine gq (y_bare (y_load Tryd.isAgg30 rfl (cell_base (hcb 1 _ rfl)))) rfl rfl rfl ?_
          refine gq_on rfl rfl rfl rfl hg28 ?_
          refine gq_pure (e_call (vs := [.slice _ _ _, .slice _ _ _]) Tryd.func20 rfl (by kernel_rfl) rfl) (fun w hM => sameInts_any w _ _ _ _ l[k].pl.users m[k].pl.users ((hAe _ (List.getElem_mem hk1)).rd.base hM) ((hBe _ (List.getElem_mem hk2)).rd.base hM) (Nat.le_trans (hAe _ (List.getElem_mem hk1)).sb.len (hAe _ (List.getElem_mem hk1)).sb.max)) rfl rfl rfl ?_
          refine gq_on rfl rfl rfl rfl hg28 ?_
          refine gq (y_bare (y_not rfl)) rfl rfl rfl ?_
          refine gq (y_pick_f (v := .bool _) rfl hg28 rfl) rfl rfl rfl ?_
          refine gqs_nil ?_
          refine hN10 _ _ ?_
          refine gfrom [(0, .slice _ _ _), (1, .slice _ _ _), (5, .int _ _), (41, .bool _)] ⟨rfl, rfl, rfl, rfl, trivial⟩ fun σ => ?_
          refine gcond (b := _) rfl (fun hc41 => ?_) (fun hc41 => ?_)
          · 
            replace hc41 := not_t hc41
            have hne : ¬ rls l = rls m := rules_ne hk1 hk2 (by first | exact .inl (strEq_ne2 hg28d) | exact .inr (of_decide_eq_false hc41))
            refine gseq fun N11 hN11 => ?_
            refine greg ?_
            refine gop (y_assign (v := .bool _) rfl) rfl rfl rfl ?_
            refine gops_nil ?_
            refine hN11 _ _ ?_
            refine gfrom [(4, .bool _)] ⟨rfl, trivial⟩ fun σ => ?_
            refine gret fun w1 hM => ?_
            refine ⟨_, res1 rfl (rt (v := .bool _) rfl), ?_⟩
            exact ⟨by rw [decide_eq_false hne], hM.low⟩
          · 
            replace hc41 := not_f hc41
            refine gskip ?_
            refine hN9 _ _ ?_
            refine gfrom [(0, .slice _ _ _), (1, .slice _ _ _), (5, .int _ _)] ⟨rfl, rfl, rfl, trivial⟩ fun σ => ?_
            refine greg ?_
            refine gop (y_move (v := .int _ _) rfl) rfl rfl rfl ?_
            refine gop (y_add rfl rfl ⟨by omega, by omega⟩) rfl rfl rfl ?_
            refine gop (y_assign (v := .int _ _) rfl) rfl rfl rfl ?_
            refine gops_nil ?_
            refine gnext2 (k + 1) (by omega) (⟨by omega, hlm, take_next (rls l) (rls m) k (by simpa using hk1) (by simpa using hk2) htk (by simp; exact rule_ext (strEq_eq.1 (strEq_no2 hg28d)) (of_decide_eq_true hc41))⟩) ⟨rfl, trivial⟩ ⟨rfl, rfl, trivial⟩ ⟨_, rfl⟩
        · 
          have hg28d := hg28
          refine gq_off rfl rfl rfl rfl hg28 rfl rfl ?_
          refine gq_off rfl rfl rfl rfl hg28 rfl rfl ?_
          refine gq_off rfl rfl rfl rfl hg28 rfl rfl ?_
          refine gq_off rfl rfl rfl rfl hg28 rfl rfl ?_
          refine gq_off rfl rfl rfl rfl hg28 rfl rfl ?_
          refine gq_off rfl rfl rfl rfl hg28 rfl rfl ?_
          refine gq_off rfl rfl rfl rfl hg28 rfl rfl ?_
          refine gq_off rfl rfl rfl rfl hg28 rfl rfl ?_
          refine gq_off rfl rfl rfl rfl hg28 rfl rfl ?_
          refine gq_off rfl rfl rfl rfl hg28 rfl rfl ?_
          refine gq_off rfl rfl rfl rfl hg28 rfl rfl ?_
          refine gq (y_pick_t (v := .bool _) rfl hg28 rfl) rfl rfl rfl ?_
          refine gqs_nil ?_
          refine hN10 _ _ ?_
          refine gfrom [(0, .slice _ _ _), (1, .slice _ _ _), (5, .int _ _), (41, .bool _)] ⟨rfl, rfl, rfl, rfl, trivial⟩ fun σ => ?_
          refine gcond (b := _) rfl (fun hc41 => ?_) (fun hc41 => ?_)
          · 
            have hne : ¬ rls l = rls m := rules_ne hk1 hk2 (by first | exact .inl (strEq_ne2 hg28d) | exact .inr (of_decide_eq_false hc41))
            refine gseq fun N12 hN12 => ?_
            refine greg ?_
            refine gop (y_assign (v := .bool _) rfl) rfl rfl rfl ?_
            refine gops_nil ?_
            refine hN12 _ _ ?_
            refine gfrom [(4, .bool _)] ⟨rfl, trivial⟩ fun σ => ?_
            refine gret fun w1 hM => ?_
            refine ⟨_, res1 rfl (rt (v := .bool _) rfl), ?_⟩
            exact ⟨by rw [decide_eq_false hne], hM.low⟩
          · 
            cases hc41
      · 
        replace hc14 := of_decide_eq_false hc14
        refine gexit ?_
        refine hN5 _ _ ?_
        refine gfrom [] trivial fun σ => ?_
        refine gseq fun N13 hN13 => ?_
        refine greg ?_
        refine gop (y_assign (v := .bool _) rfl) rfl rfl rfl ?_
        refine gops_nil ?_
        refine hN13 _ _ ?_
        refine gfrom [(4, .bool _)] ⟨rfl, trivial⟩ fun σ => ?_
        refine gret fun w1 hM => ?_
        refine ⟨_, res1 rfl (rt (v := .bool _) rfl), ?_⟩
        exact ⟨by rw [decide_eq_true (eq_of_takes (by simpa using hlm) (by simp; omega) htk)], hM.low⟩
end Go.Proofs.YtijpaljdclhehaaDoor
namespace Go.Proofs.YtijpaljdclhehaaDoor
open Go.RowKit Go.Cf
set_option maxRecDepth 10000
theorem bd32_0 (x1 : ByteArray) : Tryd.prog.built 32 [(0, .string x1)] = some #[.string x1, .slice none 0 0] := by kernel_rfl
set_option maxHeartbeats 2000000 in
theorem parse_any (w : World) (line : ByteArray) (hs : line.size ≤ 4000000) :
    Calls Tryd.prog 50 #[.string line] w fun e w' => ∃ A c T', e = .returned (.tuple #[.agg #[.string (lineR line).pat, .slice A (lineR line).users.length c], .int .i64 (lineC line)]) ∧ T' = [rowl intCells w.heap.size 3 1 (.slice A (lineR line).users.length c) ((lineR line).users)] ∧ Mem w T' w' := by
  have hpos := cutB_pos line
  have hcl := cutB_len line
  refine gcalls Tryd.func50 rfl Tryd.ntmps50 (Nat.le_of_ble_eq_true rfl) ?_
  refine gfrom [(0, .string _)] ⟨rfl, trivial⟩ fun σ => ?_
  refine gseq fun N1 hN1 => ?_
  refine greg ?_
  refine gop_alloc (cs := #[.string .empty, .slice none 0 0]) Tryd.zeroValue32 rfl rfl (fun b2 hb2 => ?_)
  refine gop (y_assign (v := .int _ _) rfl) rfl rfl rfl ?_
  refine gops_nil ?_
  refine hN1 _ _ ?_
  refine gT [box b2 _] rfl ?_
  refine gfrom [(0, .string _), (2, .pointer _)] ⟨rfl, rfl, trivial⟩ fun σ => ?_
  refine gseq fun N2 hN2 => ?_
  refine greg ?_
  refine gop (y_move (v := .string _) rfl) rfl rfl rfl ?_
  refine gop_got (fun v T' => ∃ lo, w.heap.size ≤ lo ∧ T' = [rowl strCells lo 9 1 v (cutB line)]) (e_call (vs := [.string _, _]) Tryd.func44 rfl (by kernel_rfl) rfl) (fun w hM => (split_anyB w line hs).mono fun _ _ ⟨v, T1, h1, h2, h3⟩ => ⟨v, T1, h1, ⟨_, hM.low.size, h2⟩, h3⟩) rfl rfl rfl ?_
  rintro v9 _ ⟨lo9, hlo9, rfl⟩
  refine gops_fact (fun w hM => row_form (hM.ok _ (List.mem_of_getElem? (i := 1) rfl))) ?_
  rintro ⟨A9, c9, rfl, hc9, hm9, hn9⟩
  refine gops_fact (fun w hM => own_some (hM.own 1 rfl) (cutB_pos line)) ?_
  rintro ⟨rg1, cg1, hvg, -, -⟩
  simp only [Value.slice.injEq] at hvg
  obtain ⟨rfl, -, rfl⟩ := hvg
  refine gop (y_assign (v := .slice (some ⟨rg1, 0, none⟩) _ _) rfl) rfl rfl rfl ?_
  refine gops_nil ?_
  refine hN2 _ _ ?_
  refine gT [box b2 _, rowl _ _ _ _ _ _] rfl ?_
  refine gfrom [(2, .pointer _), (4, .slice (some ⟨rg1, 0, none⟩) _ _)] ⟨rfl, rfl, trivial⟩ fun σ => ?_
  refine gseq fun N3 hN3 => ?_
  refine greg ?_
  refine gop (y_move (v := .slice (some ⟨rg1, 0, none⟩) _ _) rfl) rfl rfl rfl ?_
  refine gop (y_indexAddr Tryd.underlying37 Tryd.sizeOf9 rfl rfl rfl (by omega) (by omega)) rfl rfl rfl ?_
  refine gop (y_load Tryd.isAgg9 rfl (cells_rowl 1 (f := strCells) (l := cutB line) rfl rfl (fun _ => rfl) (List.getElem?_eq_getElem (cutB_pos line)) 0 _ rfl)) rfl rfl rfl ?_
  refine gop (y_build (vs := [(0, .string _)]) (cells := #[_, .slice none 0 0]) rfl (bd32_0 _)) rfl rfl rfl ?_
  refine gop_alloc (cs := #[.string .empty, .slice none 0 0]) Tryd.zeroValue32 rfl rfl (fun b5 hb5 => ?_)
  refine gop_store 2 (v := .agg #[_, _]) (cs' := #[_, _]) rfl rfl Tryd.sizeOf32 rfl rfl rfl rfl (Nat.le_of_ble_eq_true rfl) rfl rfl ?_
  refine gops_nil ?_
  refine hN3 _ _ ?_
  refine gT [box b2 _, rowl _ _ _ _ _ _, box b5 _] rfl ?_
  refine gfrom [(2, .pointer _), (4, .slice (some ⟨rg1, 0, none⟩) _ _), (5, .pointer _)] ⟨rfl, rfl, rfl, trivial⟩ fun σ => ?_
  refine gseq fun N4 hN4 => ?_
  refine gseq fun N5 hN5 => ?_
  refine greg ?_
  refine gop (y_move (v := .slice (some ⟨rg1, 0, none⟩) _ _) rfl) rfl rfl rfl ?_
  refine gop (y_tail Tryd.underlying37 Tryd.sizeOf9 rfl rfl (by omega)) rfl rfl rfl ?_
  refine gop (y_len Tryd.underlying37 rfl) rfl rfl rfl ?_
  refine gop (y_move (v := .int _ _) rfl) rfl rfl rfl ?_
  refine gops_nil ?_
  refine hN5 _ _ ?_
  refine gfrom [(2, .pointer _), (5, .pointer _), (15, .slice (some ⟨rg1, tl c9, none⟩) _ _), (16, .int _ _), (17, .int _ _)] ⟨rfl, rfl, rfl, rfl, rfl, trivial⟩ fun σ => ?_
  refine gblock ?_
  rw [← headW_eq line]
  refine gnilrow intCells 3 1 ?_
  refine gfrom2 [(17, .int _ _)] [(2, .pointer _), (5, .pointer _), (15, .slice (some ⟨rg1, tl c9, none⟩) _ _), (16, .int _ _)] ⟨rfl, trivial⟩ ⟨rfl, rfl, rfl, rfl, trivial⟩ fun σ => ?_
  refine gloop2 (G := Nat × Option Addr × Nat × List Int) (fun (k, Av, cv, us) => k ≤ (cutB line).length - 1 ∧ ReadTo ((cutB line).drop 1) k us) (fun (k, Av, cv, us) => (cutB line).length - 1 - k) (fun (k, Av, cv, us) => [(17, .int .i64 (k : Int))]) (fun (k, Av, cv, us) => [(2, box b5 (.cells #[.string (headW (cutB line)), .slice Av us.length cv] 32)), (3, rowl intCells w.heap.size 3 1 (.slice Av us.length cv) (us))]) ((0, none, 0, [])) ?h0 ⟨rfl, trivial⟩ ⟨rfl, rfl, rfl, rfl, trivial⟩ rfl ?round
  case h0 => exact ⟨Nat.zero_le _, ReadTo.zero _⟩
  case round =>
    rintro ⟨k, Av, cv, us⟩ hφ σ
    obtain ⟨hk, hRT⟩ := hφ
    refine gT [box b2 _, rowl _ _ _ _ _ _, box b5 _, rowl _ _ _ _ _ _] rfl ?_
    refine gseq fun N6 hN6 => ?_
    refine greg ?_
    refine gop (y_lss rfl rfl) rfl rfl rfl ?_
    refine gops_nil ?_
    refine hN6 _ _ ?_
    refine gfrom [(2, .pointer _), (5, .pointer _), (15, .slice (some ⟨rg1, tl c9, none⟩) _ _), (16, .int _ _), (17, .int _ _), (18, .bool _)] ⟨rfl, rfl, rfl, rfl, rfl, rfl, trivial⟩ fun σ => ?_
    refine gseq fun N7 hN7 => ?_
    refine gcond (b := _) rfl (fun hc18 => ?_) (fun hc18 => ?_)
    · 
      replace hc18 := of_decide_eq_true hc18
      have hk1 : k + 1 < (cutB line).length := by omega
      refine gskip ?_
      refine hN7 _ _ ?_
      refine gfrom [(2, .pointer _), (5, .pointer _), (15, .slice (some ⟨rg1, tl c9, none⟩) _ _), (16, .int _ _), (17, .int _ _)] ⟨rfl, rfl, rfl, rfl, rfl, trivial⟩ fun σ => ?_
      refine gseq fun N8 hN8 => ?_
      refine gblock ?_
      refine gseq fun N9 hN9 => ?_
      refine greg ?_
      refine gop (y_indexAddr (m := k) Tryd.underlying37 Tryd.sizeOf9 rfl rfl (by omega) (by omega) (by omega)) rfl rfl rfl ?_
      refine gop (y_load Tryd.isAgg9 rfl (cell_tail 1 (f := strCells) rfl rfl (fun _ => rfl) (by omega) (List.getElem?_eq_getElem hk1) rfl)) rfl rfl rfl ?_
      refine gop (y_assign (v := .string _) rfl) rfl rfl rfl ?_
      refine gops_nil ?_
      refine hN9 _ _ ?_
      refine gfrom [(2, .pointer _), (5, .pointer _), (7, .string _), (15, .slice (some ⟨rg1, tl c9, none⟩) _ _), (16, .int _ _), (17, .int _ _)] ⟨rfl, rfl, rfl, rfl, rfl, rfl, trivial⟩ fun σ => ?_
      refine gseq fun N10 hN10 => ?_
      refine gseq fun N11 hN11 => ?_
      refine greg ?_
      refine gop (y_move (v := .string _) rfl) rfl rfl rfl ?_
      refine gop (y_lens Tryd.underlying9 rfl) rfl rfl rfl ?_
      refine gop (y_neq rfl rfl) rfl rfl rfl ?_
      refine gop (y_move (v := .bool _) rfl) rfl rfl rfl ?_
      refine gop_if (want := false) rfl rfl rfl rfl rfl rfl (fun hg24 => ?_) (fun hg24 => ?_)
      · 
        have hg24d := Decidable.not_not.1 (of_decide_eq_false hg24)
        refine gop (y_bare (y_move (v := .string _) rfl)) rfl rfl rfl ?_
        refine gop_on rfl rfl rfl rfl hg24 ?_
        refine gop (y_bare (y_stridx (m := 0) Tryd.underlying9 rfl rfl (by omega) (by omega) (by omega))) rfl rfl rfl ?_
        refine gop_on rfl rfl rfl rfl hg24 ?_
        refine gop (y_bare (y_lss rfl rfl)) rfl rfl rfl ?_
        refine gop (y_pick_f (v := .bool _) rfl hg24 rfl) rfl rfl rfl ?_
        refine gop (y_move (v := .bool _) rfl) rfl rfl rfl ?_
        refine gop_if (want := false) rfl rfl rfl rfl rfl rfl (fun hg29 => ?_) (fun hg29 => ?_)
        · 
          have hg29d := of_decide_eq_false hg29
          refine gop (y_bare (y_move (v := .string _) rfl)) rfl rfl rfl ?_
          refine gop_on rfl rfl rfl rfl hg29 ?_
          refine gop (y_bare (y_stridx (m := 0) Tryd.underlying9 rfl rfl (by omega) (by omega) (by omega))) rfl rfl rfl ?_
          refine gop_on rfl rfl rfl rfl hg29 ?_
          refine gop (y_bare (y_gtr rfl rfl)) rfl rfl rfl ?_
          refine gop (y_pick_f (v := .bool _) rfl hg29 rfl) rfl rfl rfl ?_
          refine gops_nil ?_
          refine hN11 _ _ ?_
          refine gfrom [(2, .pointer _), (5, .pointer _), (7, .string _), (15, .slice (some ⟨rg1, tl c9, none⟩) _ _), (16, .int _ _), (17, .int _ _), (33, .bool _)] ⟨rfl, rfl, rfl, rfl, rfl, rfl, rfl, trivial⟩ fun σ => ?_
          refine gcond (b := _) rfl (fun hc33 => ?_) (fun hc33 => ?_)
          · 
            replace hc33 := of_decide_eq_true hc33
            have hrd := hRT.stop (by rw [List.length_drop]; omega) (by rw [drop1_at hk1]; exact digit_no (by omega))
            refine gseq fun N12 hN12 => ?_
            refine greg ?_
            refine gop (y_loads (cs := [_, _]) Tryd.isAgg32 Tryd.sizeOf32 rfl rfl (cells_box 2 rfl)) rfl rfl rfl ?_
            refine gop_store 0 (v := .agg #[_, _]) (cs' := #[_, _]) rfl rfl Tryd.sizeOf32 rfl rfl rfl rfl (Nat.le_of_ble_eq_true rfl) rfl rfl ?_
            refine gop (y_assign (v := .int _ _) rfl) rfl rfl rfl ?_
            refine gops_nil ?_
            refine hN12 _ _ ?_
            refine gT [box b2 _, rowl _ _ _ _ _ _, box b5 _, rowl _ _ _ _ _ _] rfl ?_
            refine gfrom [(2, .pointer _), (3, .int _ _)] ⟨rfl, rfl, trivial⟩ fun σ => ?_
            refine gret fun w1 hM => ?_
            refine ⟨_, res2 rfl (rc 0 (cs := [_, _]) hM rfl rfl Tryd.isAgg32 Tryd.sizeOf32 rfl) (rt (v := .int _ _) rfl), ?_⟩
            have hl : lineR line = ⟨headW (cutB line), us⟩ := by rw [lineR, hrd]
            have hcode : lineC line = 1 := by rw [lineC, hrd]; rfl
            rw [hl, hcode]
            exact ⟨Av, cv, _, rfl, rfl, hM.dropTo 3 rfl⟩
          · 
            replace hc33 := of_decide_eq_false hc33
            refine gskip ?_
            refine hN10 _ _ ?_
            refine gfrom [(2, .pointer _), (5, .pointer _), (7, .string _), (15, .slice (some ⟨rg1, tl c9, none⟩) _ _), (16, .int _ _), (17, .int _ _)] ⟨rfl, rfl, rfl, rfl, rfl, rfl, trivial⟩ fun σ => ?_
            refine greg_e1 [9] [(3, emp)] (by kernel_rfl) ?_
            refine ge_take 0 (TK := [box b2 _, rowl _ _ _ _ _ _, box b5 _, emp]) rfl (by kernel_rfl) (by kernel_rfl) (by kernel_rfl) #[false, false, true, true, true, true, true, false, false, false] (by kernel_rfl) rfl (y_fieldAddr_box fa32_1 rfl) rfl rfl rfl (weak_emp 3 rfl) (listed' := #[true, false, false, false, false, false, false, false, false, false]) rfl ?_
            refine ge_take 1 (TK := [box b2 _, rowl _ _ _ _ _ _, box b5 _, emp]) rfl (by kernel_rfl) (by kernel_rfl) (by kernel_rfl) #[true, false, true, true, true, true, true, false, false, false] (by kernel_rfl) rfl (y_load Tryd.isAgg30 rfl (cell_box 2 rfl rfl)) rfl rfl rfl (weak_emp 3 rfl) (listed' := #[true, true, false, false, false, false, false, false, false, false]) rfl ?_
            refine ge_take 2 (TK := [box b2 _, rowl _ _ _ _ _ _, box b5 _, emp]) rfl (by kernel_rfl) (by kernel_rfl) (by kernel_rfl) #[true, true, false, false, false, false, false, false, false, false] (by kernel_rfl) rfl (y_move (v := .string _) rfl) rfl rfl rfl (weak_emp 3 rfl) (listed' := #[true, true, true, false, false, false, false, false, false, false]) rfl ?_
            refine ge_take 3 (TK := [box b2 _, rowl _ _ _ _ _ _, box b5 _, emp]) rfl (by kernel_rfl) (by kernel_rfl) (by kernel_rfl) #[true, true, true, false, false, false, false, false, false, false] (by kernel_rfl) rfl (y_stridx (m := 0) Tryd.underlying9 rfl rfl (by omega) (by omega) (by omega)) rfl rfl rfl (weak_emp 3 rfl) (listed' := #[true, true, true, true, false, false, false, false, false, false]) rfl ?_
            refine ge_take 4 (TK := [box b2 _, rowl _ _ _ _ _ _, box b5 _, emp]) rfl (by kernel_rfl) (by kernel_rfl) (by kernel_rfl) #[true, true, true, true, false, false, false, false, false, false] (by kernel_rfl) rfl (y_sub8 rfl rfl (by omega) (by have h9 := byteAt_lt (cutB line)[k + 1] 0; omega)) rfl rfl rfl (weak_emp 3 rfl) (listed' := #[true, true, true, true, true, false, false, false, false, false]) rfl ?_
            refine ge_take 5 (TK := [box b2 _, rowl _ _ _ _ _ _, box b5 _, emp]) rfl (by kernel_rfl) (by kernel_rfl) (by kernel_rfl) #[true, true, true, true, true, false, false, false, false, false] (by kernel_rfl) rfl (y_toInt (by kernel_rfl) Tryd.underlying3 rfl (by omega) (by have h9 := byteAt_lt (cutB line)[k + 1] 0; omega)) rfl rfl rfl (weak_emp 3 rfl) (listed' := #[true, true, true, true, true, true, false, false, false, false]) rfl ?_
            refine ge_one 6 (k' := 0) (listed' := #[true, true, true, true, true, true, true, false, false, false]) (by kernel_rfl) rfl rfl rfl ?_
            refine gop_lit (vs := [.int _ _]) (cells := #[_]) Tryd.underlying30 Tryd.sizeOf3 Tryd.zeroValue3 rfl (by decide) (by decide) rfl rfl rfl rfl (fun b41 hb41 => ?_)
            refine gops_nil ?_
            refine ge_fin (TK := [box b2 _, rowl _ _ _ _ _ _, box b5 _, emp]) rfl (weak_trans (weak_take (T' := [box b2 _, rowl _ _ _ _ _ _, box b5 _, rowl _ _ _ _ _ _]) rfl) (weak_emp 3 rfl)) ?_
            refine ge_one 7 (k' := 0) (listed' := #[true, true, true, true, true, true, true, true, false, false]) (by kernel_rfl) rfl rfl rfl ?_
            refine gop_append 3 (f := intCells) (l2 := [(byteAt (cutB line)[k + 1] 0 : Int) - 48]) Tryd.underlying30 el3 wide_int (v := .slice _ _ _) rfl rfl rfl rfl (fun h => by cases h) (by have h9 := hRT.len; simp [maxLen]; omega) (by have h9 := hRT.len; simp; omega) (src_box 4 rfl rfl) rfl (fun v42 => ?_)
            refine gops_fact (fun w hM => own_form (hM.own 3 rfl)) ?_
            rintro ⟨A42, c42, rfl, hc42, hm42⟩
            refine gops_nil ?_
            refine ge_fin (TK := [box b2 _, rowl _ _ _ _ _ _, box b5 _, emp]) rfl (weak_trans (weak_take (T' := [box b2 _, rowl _ _ _ _ _ _, box b5 _, rowl _ _ _ _ _ _]) rfl) (weak_emp 3 rfl)) ?_
            refine ge_take 8 (TK := [box b2 _, rowl _ _ _ _ _ _, box b5 _, emp]) rfl (by kernel_rfl) (by kernel_rfl) (by kernel_rfl) #[true, true, true, true, true, true, true, true, false, false] (by kernel_rfl) rfl (y_fieldAddr_box fa32_1 rfl) rfl rfl rfl (weak_trans (weak_take (T' := [box b2 _, rowl _ _ _ _ _ _, box b5 _, rowl _ _ _ _ _ _]) rfl) (weak_emp 3 rfl)) (listed' := #[true, true, true, true, true, true, true, true, true, false]) rfl ?_
            refine ge_one 9 (k' := 1) (listed' := #[true, true, true, true, true, true, true, true, true, true]) (by kernel_rfl) rfl rfl rfl ?_
            refine gop_store 2 (v := .slice A42 _ c42) (cs' := #[_, _]) rfl rfl Tryd.sizeOf30 rfl rfl rfl rfl (Nat.le_of_ble_eq_true rfl) rfl rfl ?_
            refine gops_nil ?_
            refine ge_fin (TK := []) rfl (weak_nil) ?_
            refine ge_done (by kernel_rfl) ?_
            refine hN8 _ _ ?_
            refine gT [box b2 _, rowl _ _ _ _ _ _, box b5 _, rowl _ _ _ _ _ _, box b41 _] rfl ?_
            refine gfrom [(2, .pointer _), (5, .pointer _), (15, .slice (some ⟨rg1, tl c9, none⟩) _ _), (16, .int _ _), (17, .int _ _)] ⟨rfl, rfl, rfl, rfl, rfl, trivial⟩ fun σ => ?_
            refine greg ?_
            refine gop (y_add rfl rfl ⟨by omega, by omega⟩) rfl rfl rfl ?_
            refine gop (y_move (v := .int _ _) rfl) rfl rfl rfl ?_
            refine gops_nil ?_
            refine gnext2 ((k + 1, A42, c42, us ++ [(byteAt (cutB line)[k + 1] 0 : Int) - 48])) (by show (cutB line).length - 1 - (k + 1) < (cutB line).length - 1 - k; omega) (⟨by show k + 1 ≤ _; omega, hRT.next (by rw [List.length_drop]; omega) (by rw [drop1_at hk1]; exact digit_yes (by omega))⟩) ⟨rfl, trivial⟩ ⟨rfl, rfl, rfl, rfl, trivial⟩ ⟨_, rfl⟩
        · 
          have hg29d := of_decide_eq_true hg29
          refine gop_off rfl rfl rfl rfl hg29 rfl rfl ?_
          refine gop_off rfl rfl rfl rfl hg29 rfl rfl ?_
          refine gop (y_pick_t (v := .bool _) rfl hg29 rfl) rfl rfl rfl ?_
          refine gops_nil ?_
          refine hN11 _ _ ?_
          refine gfrom [(2, .pointer _), (5, .pointer _), (7, .string _), (15, .slice (some ⟨rg1, tl c9, none⟩) _ _), (16, .int _ _), (17, .int _ _), (33, .bool _)] ⟨rfl, rfl, rfl, rfl, rfl, rfl, rfl, trivial⟩ fun σ => ?_
          refine gcond (b := _) rfl (fun hc33 => ?_) (fun hc33 => ?_)
          · 
            have hrd := hRT.stop (by rw [List.length_drop]; omega) (by rw [drop1_at hk1]; exact digit_no (by omega))
            refine gseq fun N13 hN13 => ?_
            refine greg ?_
            refine gop (y_loads (cs := [_, _]) Tryd.isAgg32 Tryd.sizeOf32 rfl rfl (cells_box 2 rfl)) rfl rfl rfl ?_
            refine gop_store 0 (v := .agg #[_, _]) (cs' := #[_, _]) rfl rfl Tryd.sizeOf32 rfl rfl rfl rfl (Nat.le_of_ble_eq_true rfl) rfl rfl ?_
            refine gop (y_assign (v := .int _ _) rfl) rfl rfl rfl ?_
            refine gops_nil ?_
            refine hN13 _ _ ?_
            refine gT [box b2 _, rowl _ _ _ _ _ _, box b5 _, rowl _ _ _ _ _ _] rfl ?_
            refine gfrom [(2, .pointer _), (3, .int _ _)] ⟨rfl, rfl, trivial⟩ fun σ => ?_
            refine gret fun w1 hM => ?_
            refine ⟨_, res2 rfl (rc 0 (cs := [_, _]) hM rfl rfl Tryd.isAgg32 Tryd.sizeOf32 rfl) (rt (v := .int _ _) rfl), ?_⟩
            have hl : lineR line = ⟨headW (cutB line), us⟩ := by rw [lineR, hrd]
            have hcode : lineC line = 1 := by rw [lineC, hrd]; rfl
            rw [hl, hcode]
            exact ⟨Av, cv, _, rfl, rfl, hM.dropTo 3 rfl⟩
          · 
            cases hc33
      · 
        have hg24d := of_decide_eq_true hg24
        refine gop_off rfl rfl rfl rfl hg24 rfl rfl ?_
        refine gop_off rfl rfl rfl rfl hg24 rfl rfl ?_
        refine gop (y_pick_t (v := .bool _) rfl hg24 rfl) rfl rfl rfl ?_
        refine gop (y_move (v := .bool _) rfl) rfl rfl rfl ?_
        refine gop_off rfl rfl rfl rfl rfl rfl rfl ?_
        refine gop_off rfl rfl rfl rfl rfl rfl rfl ?_
        refine gop_off rfl rfl rfl rfl rfl rfl rfl ?_
        refine gop (y_pick_t (v := .bool _) rfl rfl rfl) rfl rfl rfl ?_
        refine gops_nil ?_
        refine hN11 _ _ ?_
        refine gfrom [(2, .pointer _), (5, .pointer _), (7, .string _), (15, .slice (some ⟨rg1, tl c9, none⟩) _ _), (16, .int _ _), (17, .int _ _), (33, .bool _)] ⟨rfl, rfl, rfl, rfl, rfl, rfl, rfl, trivial⟩ fun σ => ?_
        refine gcond (b := _) rfl (fun hc33 => ?_) (fun hc33 => ?_)
        · 
          have hrd := hRT.stop (by rw [List.length_drop]; omega) (by rw [drop1_at hk1]; exact digit_no (by omega))
          refine gseq fun N14 hN14 => ?_
          refine greg ?_
          refine gop (y_loads (cs := [_, _]) Tryd.isAgg32 Tryd.sizeOf32 rfl rfl (cells_box 2 rfl)) rfl rfl rfl ?_
          refine gop_store 0 (v := .agg #[_, _]) (cs' := #[_, _]) rfl rfl Tryd.sizeOf32 rfl rfl rfl rfl (Nat.le_of_ble_eq_true rfl) rfl rfl ?_
          refine gop (y_assign (v := .int _ _) rfl) rfl rfl rfl ?_
          refine gops_nil ?_
          refine hN14 _ _ ?_
          refine gT [box b2 _, rowl _ _ _ _ _ _, box b5 _, rowl _ _ _ _ _ _] rfl ?_
          refine gfrom [(2, .pointer _), (3, .int _ _)] ⟨rfl, rfl, trivial⟩ fun σ => ?_
          refine gret fun w1 hM => ?_
          refine ⟨_, res2 rfl (rc 0 (cs := [_, _]) hM rfl rfl Tryd.isAgg32 Tryd.sizeOf32 rfl) (rt (v := .int _ _) rfl), ?_⟩
          have hl : lineR line = ⟨headW (cutB line), us⟩ := by rw [lineR, hrd]
          have hcode : lineC line = 1 := by rw [lineC, hrd]; rfl
          rw [hl, hcode]
          exact ⟨Av, cv, _, rfl, rfl, hM.dropTo 3 rfl⟩
        · 
          cases hc33
    · 
      replace hc18 := of_decide_eq_false hc18
      have hrd := hRT.done (by rw [List.length_drop]; omega)
      refine gexit ?_
      refine hN4 _ _ ?_
      refine gfrom [(2, .pointer _), (5, .pointer _)] ⟨rfl, rfl, trivial⟩ fun σ => ?_
      refine gseq fun N15 hN15 => ?_
      refine greg_e1 [] [(0, room b2 32 2)] (by kernel_rfl) ?_
      refine ge_take 0 (TK := [room b2 32 2, rowl _ _ _ _ _ _, box b5 _, rowl _ _ _ _ _ _]) rfl (by kernel_rfl) (by kernel_rfl) (by kernel_rfl) #[false, true, true, false, false] (by kernel_rfl) rfl (y_loads (cs := [_, _]) Tryd.isAgg32 Tryd.sizeOf32 rfl rfl (cells_box 2 rfl)) rfl rfl rfl (weak_room 0 rfl rfl) (listed' := #[true, false, false, false, false]) rfl ?_
      refine ge_take 1 (TK := [room b2 32 2, rowl _ _ _ _ _ _, box b5 _, rowl _ _ _ _ _ _]) rfl (by kernel_rfl) (by kernel_rfl) (by kernel_rfl) #[true, false, false, false, false] (by kernel_rfl) rfl (y_loads (cs := [_, _]) Tryd.isAgg32 Tryd.sizeOf32 rfl rfl (cells_box 2 rfl)) rfl rfl rfl (weak_room 0 rfl rfl) (listed' := #[true, true, false, false, false]) rfl ?_
      refine ge_one 2 (k' := 0) (listed' := #[true, true, true, false, false]) (by kernel_rfl) rfl rfl rfl ?_
      refine gop_pure (e_call (vs := [.agg #[_, _]]) Tryd.func57 rfl (by kernel_rfl) rfl) (fun w hM => check_any w _ us Av cv ((ruleR_row (hM.ok _ (List.mem_of_getElem? (i := 3) rfl)) (Nat.le_trans (show us.length * 8 ≤ 40000000 by have h9 := hRT.len; omega) (by decide))).mono (Nat.zero_le _))) rfl rfl rfl ?_
      refine gops_nil ?_
      refine ge_fin (TK := [room b2 32 2, rowl _ _ _ _ _ _, box b5 _, rowl _ _ _ _ _ _]) rfl (weak_room 0 rfl rfl) ?_
      refine ge_one 3 (k' := 0) (listed' := #[true, true, true, true, false]) (by kernel_rfl) rfl rfl rfl ?_
      refine gop_store 0 (v := .agg #[_, _]) (cs' := #[_, _]) rfl rfl Tryd.sizeOf32 rfl rfl rfl rfl (Nat.le_of_ble_eq_true rfl) rfl rfl ?_
      refine gops_nil ?_
      refine ge_fin (TK := [room b2 32 2, rowl _ _ _ _ _ _, box b5 _, rowl _ _ _ _ _ _]) rfl (weak_room 0 rfl rfl) ?_
      refine ge_take 4 (TK := [room b2 32 2, rowl _ _ _ _ _ _, box b5 _, rowl _ _ _ _ _ _]) rfl (by kernel_rfl) (by kernel_rfl) (by kernel_rfl) #[true, true, true, true, false] (by kernel_rfl) rfl (y_assign (v := .int _ _) rfl) rfl rfl rfl (weak_room 0 rfl rfl) (listed' := #[true, true, true, true, true]) rfl ?_
      refine ge_done (by kernel_rfl) ?_
      refine hN15 _ _ ?_
      refine gT [box b2 _, rowl _ _ _ _ _ _, box b5 _, rowl _ _ _ _ _ _] rfl ?_
      refine gfrom [(2, .pointer _), (3, .int _ _)] ⟨rfl, rfl, trivial⟩ fun σ => ?_
      refine gret fun w1 hM => ?_
      refine ⟨_, res2 rfl (rc 0 (cs := [_, _]) hM rfl rfl Tryd.isAgg32 Tryd.sizeOf32 rfl) (rt (v := .int _ _) rfl), ?_⟩
      have hl : lineR line = ⟨headW (cutB line), us⟩ := by rw [lineR, hrd]
      have hcode : lineC line = ruleCode ⟨headW (cutB line), us⟩ := by rw [lineC, hrd, hl]; rfl
      rw [hl, hcode]
      exact ⟨Av, cv, _, rfl, rfl, hM.dropTo 3 rfl⟩
end Go.Proofs.YtijpaljdclhehaaDoor
namespace Go.Proofs.YtijpaljdclhehaaDoor
open Go.RowKit Go.Cf
set_option maxRecDepth 10000
theorem el32 : Elem Tryd.prog 32 2 40 := elem_of (z := .agg #[.string .empty, .slice none 0 0]) (by kernel_rfl) rfl (by decide)
set_option maxHeartbeats 2000000 in
theorem parseFile_any (w : World) (A : Option Addr) (c : Nat) (text : List ByteArray) (ht : Rdl w 0 1 strCells A text) (hm : text.length ≤ maxLen) :
    Calls Tryd.prog 22 #[.slice A text.length c] w fun e w' => ∃ v T' rs' fr, e = .returned (.tuple #[v, fv (fileF text)]) ∧ T' = [rowl ruleCells w.heap.size 32 2 (v) (rs'), fr] ∧ rls rs' = fileV text ∧ (∀ w1, fr.ok w1 → ∀ a ∈ rs', RuleR w1 w.heap.size a) ∧ Mem w T' w' := by
  refine gcalls Tryd.func22 rfl Tryd.ntmps22 (Nat.le_of_ble_eq_true rfl) ?_
  refine gfrom [(0, .slice _ _ _)] ⟨rfl, trivial⟩ fun σ => ?_
  refine gseq fun N1 hN1 => ?_
  refine greg ?_
  refine gop (y_assign (v := .slice _ _ _) rfl) rfl rfl rfl ?_
  refine gop_alloc (cs := #[.int .i64 0, .int .i64 0]) Tryd.zeroValue23 rfl rfl (fun b3 hb3 => ?_)
  refine gops_nil ?_
  refine hN1 _ _ ?_
  refine gT [box b3 _] rfl ?_
  refine gfrom [(0, .slice _ _ _), (3, .pointer _)] ⟨rfl, rfl, trivial⟩ fun σ => ?_
  refine gseq fun N2 hN2 => ?_
  refine gseq fun N3 hN3 => ?_
  refine greg ?_
  refine gop (y_move (v := .slice _ _ _) rfl) rfl rfl rfl ?_
  refine gop_pure (e_call (vs := [.slice _ _ _]) Tryd.func29 rfl (by kernel_rfl) rfl) (fun w hM => linesValidate_any w A c text (ht.base hM) hm) rfl rfl rfl ?_
  refine gop_alloc (cs := #[.int .i64 0, .int .i64 0]) Tryd.zeroValue23 rfl rfl (fun b4 hb4 => ?_)
  refine gop_store 1 (v := .agg #[_, _]) (cs' := #[_, _]) rfl rfl Tryd.sizeOf23 rfl rfl rfl rfl (Nat.le_of_ble_eq_true rfl) rfl rfl ?_
  refine gops_nil ?_
  refine hN3 _ _ ?_
  refine gT [box b3 _, box b4 _] rfl ?_
  refine gfrom [(0, .slice _ _ _), (3, .pointer _), (4, .pointer _)] ⟨rfl, rfl, rfl, trivial⟩ fun σ => ?_
  refine gseq fun N4 hN4 => ?_
  refine greg ?_
  refine gop (y_loads (cs := [_, _]) Tryd.isAgg23 Tryd.sizeOf23 rfl rfl (cells_box 1 rfl)) rfl rfl rfl ?_
  refine gop (y_build (vs := []) (cells := #[.int .i64 0, .int .i64 0]) rfl bd23_) rfl rfl rfl ?_
  refine gop (y_bin (vx := .agg #[_, _]) (vy := .agg #[_, _]) rfl rfl (fun w => eg23 _ _ _ _ _ w) (fun w => ne23 _ _ _ _ w)) rfl rfl rfl ?_
  refine gops_nil ?_
  refine hN4 _ _ ?_
  refine gfrom [(0, .slice _ _ _), (3, .pointer _), (4, .pointer _), (14, .bool _)] ⟨rfl, rfl, rfl, rfl, trivial⟩ fun σ => ?_
  refine gcond (b := _) rfl (fun hc14 => ?_) (fun hc14 => ?_)
  · 
    replace hc14 := fault_ne.1 hc14
    have hFF : fileF text = linesF text := by rw [fileF, if_pos hc14]
    refine gseq fun N5 hN5 => ?_
    refine greg_e1 [] [(0, room b3 23 2)] (by kernel_rfl) ?_
    refine ge_take 0 (TK := [room b3 23 2, box b4 _]) rfl (by kernel_rfl) (by kernel_rfl) (by kernel_rfl) #[false, true, false] (by kernel_rfl) rfl (y_loads (cs := [_, _]) Tryd.isAgg23 Tryd.sizeOf23 rfl rfl (cells_box 1 rfl)) rfl rfl rfl (weak_room 0 rfl rfl) (listed' := #[true, false, false]) rfl ?_
    refine ge_take 1 (TK := [room b3 23 2, box b4 _]) rfl (by kernel_rfl) (by kernel_rfl) (by kernel_rfl) #[true, false, false] (by kernel_rfl) rfl (y_assign (v := .slice _ _ _) rfl) rfl rfl rfl (weak_room 0 rfl rfl) (listed' := #[true, true, false]) rfl ?_
    refine ge_one 2 (k' := 0) (listed' := #[true, true, true]) (by kernel_rfl) rfl rfl rfl ?_
    refine gop_store 0 (v := .agg #[_, _]) (cs' := #[_, _]) rfl rfl Tryd.sizeOf23 rfl rfl rfl rfl (Nat.le_of_ble_eq_true rfl) rfl rfl ?_
    refine gops_nil ?_
    refine ge_fin (TK := [room b3 23 2, box b4 _]) rfl (weak_room 0 rfl rfl) ?_
    refine ge_done (by kernel_rfl) ?_
    refine hN5 _ _ ?_
    refine gT [box b3 _, box b4 _] rfl ?_
    refine gfrom [(2, .slice _ _ _), (3, .pointer _)] ⟨rfl, rfl, trivial⟩ fun σ => ?_
    refine gret fun w1 hM => ?_
    refine ⟨_, res2 rfl (rt (v := .slice _ _ _) rfl) (rc 0 (cs := [_, _]) hM rfl rfl Tryd.isAgg23 Tryd.sizeOf23 rfl), ?_⟩
    exact ⟨_, _, [], emp, by rw [hFF], rfl, by rw [fileV, if_neg (by rw [hFF]; exact hc14)]; rfl, fun _ _ _ h => (by cases h), (mem_nilrow ruleCells 32 2 hM).emp.dropTo 2 rfl⟩
  · 
    replace hc14 := fault_eq.1 hc14
    have hls := line_size hc14
    refine gskip ?_
    refine hN2 _ _ ?_
    refine gfrom [(0, .slice _ _ _), (3, .pointer _)] ⟨rfl, rfl, trivial⟩ fun σ => ?_
    refine gseq fun N6 hN6 => ?_
    refine greg ?_
    refine gop (y_assign (v := .slice _ _ _) rfl) rfl rfl rfl ?_
    refine gops_nil ?_
    refine hN6 _ _ ?_
    refine gfrom [(0, .slice _ _ _), (3, .pointer _), (5, .slice _ _ _)] ⟨rfl, rfl, rfl, trivial⟩ fun σ => ?_
    refine gseq fun N7 hN7 => ?_
    refine gseq fun N8 hN8 => ?_
    refine greg ?_
    refine gop (y_move (v := .slice _ _ _) rfl) rfl rfl rfl ?_
    refine gop (y_len Tryd.underlying37 rfl) rfl rfl rfl ?_
    refine gop (y_move (v := .int _ _) rfl) rfl rfl rfl ?_
    refine gops_nil ?_
    refine hN8 _ _ ?_
    refine gfrom [(3, .pointer _), (5, .slice _ _ _), (16, .slice _ _ _), (17, .int _ _), (18, .int _ _)] ⟨rfl, rfl, rfl, rfl, rfl, trivial⟩ fun σ => ?_
    refine gblock ?_
    refine gnilrow ruleCells 32 2 ?_
    refine g_emp ?_
    refine gfrom2 [(5, .slice _ _ _), (18, .int _ _)] [(3, .pointer _), (16, .slice _ _ _), (17, .int _ _)] ⟨rfl, rfl, trivial⟩ ⟨rfl, rfl, rfl, trivial⟩ fun σ => ?_
    refine gloop2 (G := Nat × Option Addr × Nat × List RuleC × Reg) (fun (k, Av, cv, rn, fr) => k ≤ text.length ∧ rls rn = readL (text.take k) ∧ (∀ j (h : j < text.length), j < k → badL text[j] = 0) ∧ ∀ w1, fr.ok w1 → ∀ a ∈ rn, RuleR w1 w.heap.size a) (fun (k, Av, cv, rn, fr) => text.length - k) (fun (k, Av, cv, rn, fr) => [(5, .slice Av rn.length cv), (18, .int .i64 (k : Int))]) (fun (k, Av, cv, rn, fr) => [(2, rowl ruleCells w.heap.size 32 2 (.slice Av rn.length cv) (rn)), (3, fr)]) ((0, none, 0, [], emp)) ?h0 ⟨rfl, rfl, trivial⟩ ⟨rfl, rfl, rfl, trivial⟩ rfl ?round
    case h0 => exact ⟨Nat.zero_le _, rfl, fun _ _ h => absurd h (by omega), fun _ _ _ h => (by cases h)⟩
    case round =>
      rintro ⟨k, Av, cv, rn, fr⟩ hφ σ
      obtain ⟨hk, hrl, hz, hfr⟩ := hφ
      have hrnl : rn.length ≤ k := by have h8 := congrArg List.length hrl; have h9 := readL_len (text.take k); simp at h8 h9; omega
      refine gT [box b3 _, box b4 _, rowl _ _ _ _ _ _, fr] rfl ?_
      refine gseq fun N9 hN9 => ?_
      refine greg ?_
      refine gop (y_lss rfl rfl) rfl rfl rfl ?_
      refine gops_nil ?_
      refine hN9 _ _ ?_
      refine gfrom [(3, .pointer _), (5, .slice Av _ cv), (16, .slice _ _ _), (17, .int _ _), (18, .int _ _), (19, .bool _)] ⟨rfl, rfl, rfl, rfl, rfl, rfl, trivial⟩ fun σ => ?_
      refine gseq fun N10 hN10 => ?_
      refine gcond (b := _) rfl (fun hc19 => ?_) (fun hc19 => ?_)
      · 
        replace hc19 := of_decide_eq_true hc19
        have hk1 : k < text.length := by omega
        obtain ⟨ad, rfl, -, hca⟩ := ht.at_ hk1
        refine gskip ?_
        refine hN10 _ _ ?_
        refine gfrom [(3, .pointer _), (5, .slice Av _ cv), (16, .slice _ _ _), (17, .int _ _), (18, .int _ _)] ⟨rfl, rfl, rfl, rfl, rfl, trivial⟩ fun σ => ?_
        refine gseq fun N11 hN11 => ?_
        refine gblock ?_
        refine gseq fun N12 hN12 => ?_
        refine greg ?_
        refine gop (y_move (v := .int _ _) rfl) rfl rfl rfl ?_
        refine gop (y_indexAddr (m := k) Tryd.underlying37 Tryd.sizeOf9 rfl rfl (by omega) (by omega) (by omega)) rfl rfl rfl ?_
        refine gop (y_load Tryd.isAgg9 rfl (cell_base (hca 0 _ rfl))) rfl rfl rfl ?_
        refine gop (y_assign (v := .int _ _) rfl) rfl rfl rfl ?_
        refine gop (y_assign (v := .string _) rfl) rfl rfl rfl ?_
        refine gops_nil ?_
        refine hN12 _ _ ?_
        refine gfrom [(3, .pointer _), (5, .slice Av _ cv), (6, .int _ _), (7, .string _), (16, .slice _ _ _), (17, .int _ _), (18, .int _ _)] ⟨rfl, rfl, rfl, rfl, rfl, rfl, rfl, trivial⟩ fun σ => ?_
        refine gseq fun N13 hN13 => ?_
        refine gseq fun N14 hN14 => ?_
        refine greg ?_
        refine gop (y_move (v := .string _) rfl) rfl rfl rfl ?_
        refine gop (y_eqls rfl rfl) rfl rfl rfl ?_
        refine gop (y_move (v := .bool _) rfl) rfl rfl rfl ?_
        refine gop_if (want := false) rfl rfl rfl rfl rfl rfl (fun hg25 => ?_) (fun hg25 => ?_)
        · 
          have hg25d := hg25
          have hsz : 0 < text[k].size := str_pos hg25d
          refine gop (y_bare (y_move (v := .string _) rfl)) rfl rfl rfl ?_
          refine gop_on rfl rfl rfl rfl hg25 ?_
          refine gop (y_bare (y_stridx (m := 0) Tryd.underlying9 rfl rfl (by omega) (by omega) (by omega))) rfl rfl rfl ?_
          refine gop_on rfl rfl rfl rfl hg25 ?_
          refine gop (y_bare (y_eql rfl rfl)) rfl rfl rfl ?_
          refine gop (y_pick_f (v := .bool _) rfl hg25 rfl) rfl rfl rfl ?_
          refine gops_nil ?_
          refine hN14 _ _ ?_
          refine gfrom [(3, .pointer _), (5, .slice Av _ cv), (6, .int _ _), (7, .string _), (16, .slice _ _ _), (17, .int _ _), (18, .int _ _), (29, .bool _)] ⟨rfl, rfl, rfl, rfl, rfl, rfl, rfl, rfl, trivial⟩ fun σ => ?_
          refine gcond (b := _) rfl (fun hc29 => ?_) (fun hc29 => ?_)
          · 
            replace hc29 := of_decide_eq_true hc29
            have hsk : skipL text[k] = true := by first | (unfold skipL; rw [show strEq text[k] ⟨#[]⟩ = true from hg25d]; rfl) | (unfold skipL; rw [decide_eq_true (show byteAt text[k] 0 = 35 by omega)]; simp)
            refine gexit ?_
            refine hN11 _ _ ?_
            refine gfrom [(3, .pointer _), (5, .slice Av _ cv), (16, .slice _ _ _), (17, .int _ _), (18, .int _ _)] ⟨rfl, rfl, rfl, rfl, rfl, trivial⟩ fun σ => ?_
            refine greg ?_
            refine gop (y_add rfl rfl ⟨by omega, by omega⟩) rfl rfl rfl ?_
            refine gop (y_move (v := .int _ _) rfl) rfl rfl rfl ?_
            refine gops_nil ?_
            refine gnext2 ((k + 1, Av, cv, rn, fr)) (by show text.length - (k + 1) < text.length - k; omega) (⟨by show k + 1 ≤ _; omega, by rw [readL_take hk1, hsk]; simpa using hrl, fun j h hj => by rcases Nat.lt_succ_iff_lt_or_eq.1 hj with h1 | rfl; exact hz j h h1; rw [badL, if_pos hsk], hfr⟩) ⟨rfl, rfl, trivial⟩ ⟨rfl, rfl, rfl, trivial⟩ ⟨_, rfl⟩
            skip
          · 
            replace hc29 := of_decide_eq_false hc29
            have hsk : skipL text[k] = false := by unfold skipL; rw [show strEq text[k] ⟨#[]⟩ = false from hg25d, decide_eq_false (show ¬ byteAt text[k] 0 = 35 by omega)]; rfl
            have hbd : badL text[k] = lineC text[k] := by rw [badL, hsk]; rfl
            refine gskip ?_
            refine hN13 _ _ ?_
            refine gfrom [(3, .pointer _), (5, .slice Av _ cv), (6, .int _ _), (7, .string _), (16, .slice _ _ _), (17, .int _ _), (18, .int _ _)] ⟨rfl, rfl, rfl, rfl, rfl, rfl, rfl, trivial⟩ fun σ => ?_
            refine gseq fun N15 hN15 => ?_
            refine greg ?_
            refine gop (y_move (v := .string _) rfl) rfl rfl rfl ?_
            refine gop_got (fun v T' => ∃ A1 c1 lo, w.heap.size ≤ lo ∧ v = .tuple #[.agg #[.string (lineR text[k]).pat, .slice A1 (lineR text[k]).users.length c1], .int .i64 (lineC text[k])] ∧ T' = [rowl intCells lo 3 1 (.slice A1 (lineR text[k]).users.length c1) ((lineR text[k]).users)]) (e_call (vs := [.string _]) Tryd.func50 rfl (by kernel_rfl) rfl) (fun w hM => (parse_any w text[k] (by have h9 := (hls.2 k hk1).2; omega)).mono fun _ _ ⟨A1, c1, T1, h1, h2, h3⟩ => ⟨_, T1, h1, ⟨A1, c1, _, hM.low.size, rfl, h2⟩, h3⟩) rfl rfl rfl ?_
            rintro _ _ ⟨A32, c32, lo32, hlo32, rfl, rfl⟩
            refine gops_mem _ (weak_lower 4 rfl hlo32) ?_
            refine gop (y_move (v := .tuple #[.agg #[_, _], .int _ _]) rfl) rfl rfl rfl ?_
            refine gop (y_extract (v := .agg #[_, _]) rfl rfl) rfl rfl rfl ?_
            refine gop (y_extract (v := .int _ _) rfl rfl) rfl rfl rfl ?_
            refine gop_alloc (cs := #[.string .empty, .slice none 0 0]) Tryd.zeroValue32 rfl rfl (fun b8 hb8 => ?_)
            refine gop_store 5 (v := .agg #[_, _]) (cs' := #[_, _]) rfl rfl Tryd.sizeOf32 rfl rfl rfl rfl (Nat.le_of_ble_eq_true rfl) rfl rfl ?_
            refine gop (y_assign (v := .int _ _) rfl) rfl rfl rfl ?_
            refine gops_nil ?_
            refine hN15 _ _ ?_
            refine gT [box b3 _, box b4 _, rowl _ _ _ _ _ _, fr, rowl _ _ _ _ _ _, box b8 _] rfl ?_
            refine gfrom [(3, .pointer _), (5, .slice Av _ cv), (6, .int _ _), (8, .pointer _), (9, .int _ _), (16, .slice _ _ _), (17, .int _ _), (18, .int _ _)] ⟨rfl, rfl, rfl, rfl, rfl, rfl, rfl, rfl, trivial⟩ fun σ => ?_
            refine gseq fun N16 hN16 => ?_
            refine gseq fun N17 hN17 => ?_
            refine greg ?_
            refine gop (y_move (v := .int _ _) rfl) rfl rfl rfl ?_
            refine gop (y_neq rfl rfl) rfl rfl rfl ?_
            refine gops_nil ?_
            refine hN17 _ _ ?_
            refine gfrom [(3, .pointer _), (5, .slice Av _ cv), (6, .int _ _), (8, .pointer _), (9, .int _ _), (16, .slice _ _ _), (17, .int _ _), (18, .int _ _), (36, .bool _)] ⟨rfl, rfl, rfl, rfl, rfl, rfl, rfl, rfl, rfl, trivial⟩ fun σ => ?_
            refine gcond (b := _) rfl (fun hc36 => ?_) (fun hc36 => ?_)
            · 
              replace hc36 := of_decide_eq_true hc36
              have hsc := scan_at (f := fun _ s => badL s) hk1 hz (by rw [hbd]; exact hc36)
              have hFF : fileF text = ⟨lineC text[k], k⟩ := by rw [fileF, if_neg (fun h => h hc14), hsc, hbd, if_pos (fun h => hc36 (congrArg Fault.code h))]
              refine gseq fun N18 hN18 => ?_
              refine greg ?_
              refine gop (y_move (v := .int _ _) rfl) rfl rfl rfl ?_
              refine gop (y_move (v := .int _ _) rfl) rfl rfl rfl ?_
              refine gop (y_build (vs := [(0, .int _ _), (1, .int _ _)]) (cells := #[_, _]) rfl (bd23_0_1 _ _)) rfl rfl rfl ?_
              refine gop (y_assign (v := .slice _ _ _) rfl) rfl rfl rfl ?_
              refine gop_store 0 (v := .agg #[_, _]) (cs' := #[_, _]) rfl rfl Tryd.sizeOf23 rfl rfl rfl rfl (Nat.le_of_ble_eq_true rfl) rfl rfl ?_
              refine gops_nil ?_
              refine hN18 _ _ ?_
              refine gT [box b3 _, box b4 _, rowl _ _ _ _ _ _, fr, rowl _ _ _ _ _ _, box b8 _] rfl ?_
              refine gfrom [(2, .slice _ _ _), (3, .pointer _)] ⟨rfl, rfl, trivial⟩ fun σ => ?_
              refine gret fun w1 hM => ?_
              refine ⟨_, res2 rfl (rt (v := .slice _ _ _) rfl) (rc 0 (cs := [_, _]) hM rfl rfl Tryd.isAgg23 Tryd.sizeOf23 rfl), ?_⟩
              exact ⟨_, _, [], emp, by rw [hFF], rfl, by rw [fileV, if_neg (by rw [hFF]; exact fun h => hc36 (congrArg Fault.code h))]; rfl, fun _ _ _ h => (by cases h), (mem_nilrow ruleCells 32 2 hM).emp.dropTo 6 rfl⟩
            · 
              replace hc36 := Decidable.not_not.1 (of_decide_eq_false hc36)
              refine gskip ?_
              refine hN16 _ _ ?_
              refine gfrom [(3, .pointer _), (5, .slice Av _ cv), (8, .pointer _), (16, .slice _ _ _), (17, .int _ _), (18, .int _ _)] ⟨rfl, rfl, rfl, rfl, rfl, rfl, trivial⟩ fun σ => ?_
              refine greg ?_
              refine gop (y_move (v := .slice Av _ cv) rfl) rfl rfl rfl ?_
              refine gop (y_loads (cs := [_, _]) Tryd.isAgg32 Tryd.sizeOf32 rfl rfl (cells_box 5 rfl)) rfl rfl rfl ?_
              refine gop_lit (vs := [.agg #[_, _]]) (cells := #[_, _]) Tryd.underlying29 Tryd.sizeOf32 Tryd.zeroValue32 rfl (by decide) (by decide) rfl rfl rfl rfl (fun b42 hb42 => ?_)
              refine gop_append 2 (f := ruleCells) (l2 := [⟨lineR text[k], A32, c32⟩]) Tryd.underlying29 el32 wide_rule (v := .slice Av _ cv) rfl rfl rfl rfl (fun h => by cases h) (by simp [maxLen]; omega) (by simp; omega) (src_box 6 rfl rfl) rfl (fun v43 => ?_)
              refine gops_fact (fun w hM => own_form (hM.own 2 rfl)) ?_
              rintro ⟨A43, c43, rfl, hc43, hm43⟩
              refine gop (y_assign (v := .slice A43 _ c43) rfl) rfl rfl rfl ?_
              refine gops_nil ?_
              refine hN11 _ _ ?_
              refine gT [box b3 _, box b4 _, rowl _ _ _ _ _ _, fr, rowl _ _ _ _ _ _, box b8 _, box b42 _] rfl ?_
              refine gfrom [(3, .pointer _), (5, .slice A43 _ c43), (16, .slice _ _ _), (17, .int _ _), (18, .int _ _)] ⟨rfl, rfl, rfl, rfl, rfl, trivial⟩ fun σ => ?_
              refine greg ?_
              refine gop (y_add rfl rfl ⟨by omega, by omega⟩) rfl rfl rfl ?_
              refine gop (y_move (v := .int _ _) rfl) rfl rfl rfl ?_
              refine gops_nil ?_
              refine fin_mem _ (weak_all 4 3 rfl) ?_
              refine gnext2 ((k + 1, A43, c43, rn ++ [⟨lineR text[k], A32, c32⟩], both fr (all_ [_, _, _]))) (by show text.length - (k + 1) < text.length - k; omega) (⟨by show k + 1 ≤ _; omega, by rw [readL_take hk1, hsk]; show List.map _ _ = _; rw [List.map_append]; show rls rn ++ _ = _; rw [hrl]; rfl, fun j h hj => by rcases Nat.lt_succ_iff_lt_or_eq.1 hj with h1 | rfl; exact hz j h h1; rw [hbd]; exact hc36, fun w1 ho a ha => ?hr⟩) ⟨rfl, rfl, trivial⟩ ⟨rfl, rfl, rfl, trivial⟩ ⟨_, rfl⟩
              case hr =>
                rcases List.mem_append.1 ha with ha | ha
                · exact hfr w1 ho.1 a ha
                · obtain rfl := List.mem_singleton.1 ha
                  exact ruleR_row (ho.2.1) (Nat.le_trans (show (lineR text[k]).users.length * 8 ≤ 40000000 by have h9 := lineR_len text[k]; have h8 := (hls.2 k hk1).2; omega) (by decide))
        · 
          have hg25d := hg25
          refine gop_off rfl rfl rfl rfl hg25 rfl rfl ?_
          refine gop_off rfl rfl rfl rfl hg25 rfl rfl ?_
          refine gop (y_pick_t (v := .bool _) rfl hg25 rfl) rfl rfl rfl ?_
          refine gops_nil ?_
          refine hN14 _ _ ?_
          refine gfrom [(3, .pointer _), (5, .slice Av _ cv), (6, .int _ _), (7, .string _), (16, .slice _ _ _), (17, .int _ _), (18, .int _ _), (29, .bool _)] ⟨rfl, rfl, rfl, rfl, rfl, rfl, rfl, rfl, trivial⟩ fun σ => ?_
          refine gcond (b := _) rfl (fun hc29 => ?_) (fun hc29 => ?_)
          · 
            have hsk : skipL text[k] = true := by first | (unfold skipL; rw [show strEq text[k] ⟨#[]⟩ = true from hg25d]; rfl) | (unfold skipL; rw [decide_eq_true (show byteAt text[k] 0 = 35 by omega)]; simp)
            refine gexit ?_
            refine hN11 _ _ ?_
            refine gfrom [(3, .pointer _), (5, .slice Av _ cv), (16, .slice _ _ _), (17, .int _ _), (18, .int _ _)] ⟨rfl, rfl, rfl, rfl, rfl, trivial⟩ fun σ => ?_
            refine greg ?_
            refine gop (y_add rfl rfl ⟨by omega, by omega⟩) rfl rfl rfl ?_
            refine gop (y_move (v := .int _ _) rfl) rfl rfl rfl ?_
            refine gops_nil ?_
            refine gnext2 ((k + 1, Av, cv, rn, fr)) (by show text.length - (k + 1) < text.length - k; omega) (⟨by show k + 1 ≤ _; omega, by rw [readL_take hk1, hsk]; simpa using hrl, fun j h hj => by rcases Nat.lt_succ_iff_lt_or_eq.1 hj with h1 | rfl; exact hz j h h1; rw [badL, if_pos hsk], hfr⟩) ⟨rfl, rfl, trivial⟩ ⟨rfl, rfl, rfl, trivial⟩ ⟨_, rfl⟩
            skip
          · 
            cases hc29
      · 
        replace hc19 := of_decide_eq_false hc19
        have hsc : scan (fun _ s => badL s) text = ⟨0, 0⟩ := scan_ok fun j hj => hz j hj (by omega)
        have hrn : rls rn = readL text := by rw [hrl, List.take_of_length_le (by omega)]
        refine gexit ?_
        refine hN7 _ _ ?_
        refine gfrom [(3, .pointer _), (5, .slice Av _ cv)] ⟨rfl, rfl, trivial⟩ fun σ => ?_
        refine gseq fun N19 hN19 => ?_
        refine gseq fun N20 hN20 => ?_
        refine greg ?_
        refine gop (y_move (v := .slice Av _ cv) rfl) rfl rfl rfl ?_
        refine gop (y_len Tryd.underlying29 rfl) rfl rfl rfl ?_
        refine gop (y_gtr rfl rfl) rfl rfl rfl ?_
        refine gops_nil ?_
        refine hN20 _ _ ?_
        refine gfrom [(3, .pointer _), (5, .slice Av _ cv), (47, .bool _)] ⟨rfl, rfl, rfl, trivial⟩ fun σ => ?_
        refine gcond (b := _) rfl (fun hc47 => ?_) (fun hc47 => ?_)
        · 
          replace hc47 := of_decide_eq_true hc47
          refine gseq fun N21 hN21 => ?_
          refine greg ?_
          refine gop (y_build (vs := [(0, _), (1, _)]) (cells := #[_, _]) rfl (bd23_0_1 _ _)) rfl rfl rfl ?_
          refine gop (y_assign (v := .slice _ _ _) rfl) rfl rfl rfl ?_
          refine gop_store 0 (v := .agg #[_, _]) (cs' := #[_, _]) rfl rfl Tryd.sizeOf23 rfl rfl rfl rfl (Nat.le_of_ble_eq_true rfl) rfl rfl ?_
          refine gops_nil ?_
          refine hN21 _ _ ?_
          refine gT [box b3 _, box b4 _, rowl _ _ _ _ _ _, fr] rfl ?_
          refine gfrom [(2, .slice _ _ _), (3, .pointer _)] ⟨rfl, rfl, trivial⟩ fun σ => ?_
          refine gret fun w1 hM => ?_
          refine ⟨_, res2 rfl (rt (v := .slice _ _ _) rfl) (rc 0 (cs := [_, _]) hM rfl rfl Tryd.isAgg23 Tryd.sizeOf23 rfl), ?_⟩
          have hFF : fileF text = ⟨2, -1⟩ := by rw [fileF, if_neg (fun h => h hc14), hsc, if_neg (fun h => h rfl), ← hrn, if_pos (by simp; omega)]
          exact ⟨_, _, [], emp, by rw [hFF], rfl, by rw [fileV, if_neg (by rw [hFF]; decide)]; rfl, fun _ _ _ h => (by cases h), (mem_nilrow ruleCells 32 2 hM).emp.dropTo 4 rfl⟩
        · 
          replace hc47 := of_decide_eq_false hc47
          refine gskip ?_
          refine hN19 _ _ ?_
          refine gfrom [(3, .pointer _), (5, .slice Av _ cv)] ⟨rfl, rfl, trivial⟩ fun σ => ?_
          refine gseq fun N22 hN22 => ?_
          refine greg ?_
          refine gop (y_move (v := .slice Av _ cv) rfl) rfl rfl rfl ?_
          refine gop (y_build (vs := []) (cells := #[.int .i64 0, .int .i64 0]) rfl bd23_) rfl rfl rfl ?_
          refine gop (y_assign (v := .slice Av _ cv) rfl) rfl rfl rfl ?_
          refine gop_store 0 (v := .agg #[_, _]) (cs' := #[_, _]) rfl rfl Tryd.sizeOf23 rfl rfl rfl rfl (Nat.le_of_ble_eq_true rfl) rfl rfl ?_
          refine gops_nil ?_
          refine hN22 _ _ ?_
          refine gT [box b3 _, box b4 _, rowl _ _ _ _ _ _, fr] rfl ?_
          refine gfrom [(2, .slice Av _ cv), (3, .pointer _)] ⟨rfl, rfl, trivial⟩ fun σ => ?_
          refine gret fun w1 hM => ?_
          refine ⟨_, res2 rfl (rt (v := .slice Av _ cv) rfl) (rc 0 (cs := [_, _]) hM rfl rfl Tryd.isAgg23 Tryd.sizeOf23 rfl), ?_⟩
          have hFF : fileF text = ⟨0, 0⟩ := by rw [fileF, if_neg (fun h => h hc14), hsc, if_neg (fun h => h rfl), ← hrn, if_neg (by simp; omega)]
          exact ⟨_, _, rn, fr, by rw [hFF], rfl, by rw [fileV, if_pos hFF, hrn], hfr, hM.dropTo 2 rfl⟩
end Go.Proofs.YtijpaljdclhehaaDoor
namespace Go.Proofs.YtijpaljdclhehaaDoor
open Go.RowKit Go.Cf
set_option maxRecDepth 10000
set_option maxHeartbeats 2000000 in
theorem ownersExample_any (w : World) : Calls Tryd.prog 19 #[] w fun e w' => e = .returned (.bool true) ∧ Below w.heap.size w w' := by
  refine gcalls Tryd.func19 rfl Tryd.ntmps19 (Nat.le_of_ble_eq_true rfl) ?_
  refine gfrom [] trivial fun σ => ?_
  refine gseq fun N1 hN1 => ?_
  refine greg ?_
  refine gop (y_assign (v := .bool _) rfl) rfl rfl rfl ?_
  refine gops_nil ?_
  refine hN1 _ _ ?_
  refine gfrom [] trivial fun σ => ?_
  refine gseq fun N2 hN2 => ?_
  refine greg ?_
  refine gop_lit (vs := [.string _, .string _, .string _]) (cells := #[_, _, _]) Tryd.underlying37 Tryd.sizeOf9 Tryd.zeroValue9 rfl (by decide) (by decide) rfl rfl rfl rfl (fun b6 hb6 => ?_)
  refine gop_got (fun v T' => ∃ v1 rs' fr lo, w.heap.size ≤ lo ∧ v = .tuple #[v1, fv ⟨0, 0⟩] ∧ T' = [rowl ruleCells lo 32 2 (v1) (rs'), fr] ∧ rls rs' = fileV exT ∧ ∀ w1, fr.ok w1 → ∀ a ∈ rs', RuleR w1 0 a) (e_call (vs := [.slice (some _) _ _]) Tryd.func22 rfl (by kernel_rfl) rfl) (fun w hM => by have hc := parseFile_any w (some ⟨b6, 0, none⟩) 3 exT ((Rdl.of_box 0 (f := strCells) (fun _ => rfl) hM rfl rfl).mono (Nat.zero_le _)) (by decide); rw [oex1] at hc; exact hc.mono fun _ _ ⟨v, T1, rs', fr, h1, h2, h3, h4, h5⟩ => ⟨_, T1, h1, ⟨v, rs', fr, _, hM.low.size, rfl, h2, h3, fun w1 ho a ha => (h4 w1 ho a ha).mono (Nat.zero_le _)⟩, h5⟩) rfl rfl rfl ?_
  rintro _ _ ⟨v7, rs7, fr7, lo7, hlo7, rfl, rfl, hrs7, hfr7⟩
  have hl7 : rs7.length = 2 := by have h8 := congrArg List.length hrs7; rw [oex2] at h8; simpa using h8
  refine gops_fact (fun w hM => row_form (hM.ok _ (List.mem_of_getElem? (i := 1) rfl))) ?_
  rintro ⟨A7, c7, rfl, hc7, hm7, hn7⟩
  refine gop (y_move (v := .tuple #[.slice A7 _ c7, .agg #[_, _]]) rfl) rfl rfl rfl ?_
  refine gop (y_extract (v := .slice _ _ _) rfl rfl) rfl rfl rfl ?_
  refine gop (y_extract (v := .agg #[_, _]) rfl rfl) rfl rfl rfl ?_
  refine gop_alloc (cs := #[.int .i64 0, .int .i64 0]) Tryd.zeroValue23 rfl rfl (fun b2 hb2 => ?_)
  refine gop (y_assign (v := .slice _ _ _) rfl) rfl rfl rfl ?_
  refine gop_store 3 (v := .agg #[_, _]) (cs' := #[_, _]) rfl rfl Tryd.sizeOf23 rfl rfl rfl rfl (Nat.le_of_ble_eq_true rfl) rfl rfl ?_
  refine gops_nil ?_
  refine hN2 _ _ ?_
  refine gT [box b6 _, rowl _ _ _ _ _ _, fr7, box b2 _] rfl ?_
  refine gfrom [(1, .slice _ _ _), (2, .pointer _)] ⟨rfl, rfl, trivial⟩ fun σ => ?_
  refine gseq fun N3 hN3 => ?_
  refine greg ?_
  refine gop (y_move (v := .slice _ _ _) rfl) rfl rfl rfl ?_
  refine gop_got (fun v T' => ∃ v1 lo, w.heap.size ≤ lo ∧ v = .tuple #[v1, fv (⟨0, 0⟩)] ∧ T' = [rowl intCells lo 3 1 (v1) ([1, 3])]) (e_call (vs := [.slice _ _ _, _]) Tryd.func18 rfl (by kernel_rfl) rfl) (fun w hM => by have hc := of_any w A7 c7 (rs7) ⟨(row_rdl (f := ruleCells) (fun _ => rfl) (hM.ok _ (List.mem_of_getElem? (i := 1) rfl))).mono (Nat.zero_le _), hfr7 w (hM.ok _ (List.mem_of_getElem? (i := 2) rfl)), ⟨hc7, hm7, hn7, Nat.le_trans (show rs7.length * 40 ≤ 80 by omega) (by decide)⟩⟩ exPa; rw [hrs7, oex3, oex4] at hc; exact hc.mono fun _ _ ⟨v, T1, h1, h2, h3⟩ => ⟨_, T1, h1, ⟨v, _, hM.low.size, rfl, h2⟩, h3⟩) rfl rfl rfl ?_
  rintro _ _ ⟨v12, lo12, hlo12, rfl, rfl⟩
  refine gops_fact (fun w hM => row_form (hM.ok _ (List.mem_of_getElem? (i := 4) rfl))) ?_
  rintro ⟨A12, c12, rfl, hc12, hm12, hn12⟩
  refine gops_mem _ (weak_lower 4 rfl hlo12) ?_
  refine gop (y_move (v := .tuple #[.slice A12 _ c12, .agg #[_, _]]) rfl) rfl rfl rfl ?_
  refine gop (y_extract (v := .slice _ _ _) rfl rfl) rfl rfl rfl ?_
  refine gop (y_extract (v := .agg #[_, _]) rfl rfl) rfl rfl rfl ?_
  refine gop_alloc (cs := #[.int .i64 0, .int .i64 0]) Tryd.zeroValue23 rfl rfl (fun b4 hb4 => ?_)
  refine gop (y_assign (v := .slice _ _ _) rfl) rfl rfl rfl ?_
  refine gop_store 5 (v := .agg #[_, _]) (cs' := #[_, _]) rfl rfl Tryd.sizeOf23 rfl rfl rfl rfl (Nat.le_of_ble_eq_true rfl) rfl rfl ?_
  refine gops_nil ?_
  refine hN3 _ _ ?_
  refine gT [box b6 _, rowl _ _ _ _ _ _, fr7, box b2 _, rowl _ _ _ _ _ _, box b4 _] rfl ?_
  refine gfrom [(1, .slice _ _ _), (2, .pointer _), (3, .slice _ _ _), (4, .pointer _)] ⟨rfl, rfl, rfl, rfl, trivial⟩ fun σ => ?_
  refine gseq fun N4 hN4 => ?_
  refine greg ?_
  refine gop (y_fieldAddr_box fa23_0 rfl) rfl rfl rfl ?_
  refine gop (y_load Tryd.isAgg3 rfl (cell_box 3 rfl rfl)) rfl rfl rfl ?_
  refine gop (y_eql rfl rfl) rfl rfl rfl ?_
  refine gop (y_move (v := .bool _) rfl) rfl rfl rfl ?_
  refine gop_if (want := true) rfl rfl rfl rfl rfl rfl (fun hg18 => ?_) (fun hg18 => ?_)
  · 
    have hg18d := of_decide_eq_true hg18
    refine gop (y_bare (y_fieldAddr_box fa23_0 rfl)) rfl rfl rfl ?_
    refine gop_on rfl rfl rfl rfl hg18 ?_
    refine gop (y_bare (y_load Tryd.isAgg3 rfl (cell_box 5 rfl rfl))) rfl rfl rfl ?_
    refine gop_on rfl rfl rfl rfl hg18 ?_
    refine gop (y_bare (y_eql rfl rfl)) rfl rfl rfl ?_
    refine gop (y_pick_t (v := .bool _) rfl hg18 rfl) rfl rfl rfl ?_
    refine gop (y_move (v := .bool _) rfl) rfl rfl rfl ?_
    refine gop_if (want := true) rfl rfl rfl rfl rfl rfl (fun hg23 => ?_) (fun hg23 => ?_)
    · 
      have hg23d := of_decide_eq_true hg23
      refine gop (y_bare (y_move (v := .slice _ _ _) rfl)) rfl rfl rfl ?_
      refine gop_on rfl rfl rfl rfl hg23 ?_
      refine gop (y_bare (y_len Tryd.underlying29 rfl)) rfl rfl rfl ?_
      refine gop_on rfl rfl rfl rfl hg23 ?_
      refine gop (y_bare (y_eql rfl rfl)) rfl rfl rfl ?_
      refine gop (y_pick_t (v := .bool _) rfl hg23 rfl) rfl rfl rfl ?_
      refine gop (y_move (v := .bool _) rfl) rfl rfl rfl ?_
      refine gop_if (want := true) rfl rfl rfl rfl rfl rfl (fun hg28 => ?_) (fun hg28 => ?_)
      · 
        have hg28d := of_decide_eq_true hg28
        refine gop (y_bare (y_move (v := .slice _ _ _) rfl)) rfl rfl rfl ?_
        refine gop_on rfl rfl rfl rfl hg28 ?_
        refine gop_lit (vs := [.int _ _, .int _ _]) (cells := #[_, _]) Tryd.underlying30 Tryd.sizeOf3 Tryd.zeroValue3 rfl (by decide) (by decide) rfl rfl rfl rfl (fun b30 hb30 => ?_)
        refine gop_on rfl rfl rfl rfl hg28 ?_
        refine gop_pure (e_call (vs := [.slice _ _ _, .slice (some _) _ _]) Tryd.func20 rfl (by kernel_rfl) rfl) (fun w hM => sameInts_any w _ _ _ _ [1, 3] [1, 3] ((row_rdl (f := intCells) (fun _ => rfl) (hM.ok _ (List.mem_of_getElem? (i := 4) rfl))).mono (Nat.zero_le _)) ((Rdl.of_box 6 (f := intCells) (fun _ => rfl) hM rfl rfl).mono (Nat.zero_le _)) (by decide)) rfl rfl rfl ?_
        refine gop (y_pick_t (v := .bool _) rfl hg28 rfl) rfl rfl rfl ?_
        refine gop (y_assign (v := .bool _) rfl) rfl rfl rfl ?_
        refine gops_nil ?_
        refine hN4 _ _ ?_
        refine gT [box b6 _, rowl _ _ _ _ _ _, fr7, box b2 _, rowl _ _ _ _ _ _, box b4 _, box b30 _] rfl ?_
        refine gfrom [(0, .bool _)] ⟨rfl, trivial⟩ fun σ => ?_
        refine gret fun w1 hM => ?_
        refine ⟨_, res1 rfl (rt (v := .bool _) rfl), ?_⟩
        exact ⟨rfl, hM.low⟩
      · 
         rw [hl7] at hg28; exact absurd hg28 (by decide)
    · 
       exact absurd hg23 (by decide)
  · 
     exact absurd hg18 (by decide)
end Go.Proofs.YtijpaljdclhehaaDoor
namespace Go.Cf
open Go.RowKit
def digB (u : Int) : ByteArray := ⟨#[UInt8.ofNat (48 + u.toNat)]⟩
def lineTo (pat : ByteArray) (us : List Int) : ByteArray := us.foldl (fun s u => s ++ (⟨#[32]⟩ ++ digB u)) pat
def ruleLine (r : Rule) : ByteArray := lineTo r.pat r.users
def formatV (rs : List Rule) : List ByteArray := if rulesF rs = ⟨0, 0⟩ then rs.map ruleLine else []
theorem lineTo_next {pat : ByteArray} {us : List Int} {k : Nat} (hk : k < us.length) : lineTo pat (us.take (k + 1)) = lineTo pat (us.take k) ++ (⟨#[32]⟩ ++ digB us[k]) := by
  rw [List.take_succ_eq_append_getElem hk, lineTo, List.foldl_append]; rfl
theorem digB_size (u : Int) : (digB u).size = 1 := rfl
theorem lineTo_size : ∀ (us : List Int) (pat : ByteArray), (lineTo pat us).size = pat.size + 2 * us.length
  | [], _ => rfl
  | u :: us, pat => by
    show (lineTo (pat ++ (⟨#[32]⟩ ++ digB u)) us).size = _
    rw [lineTo_size us, ByteArray.size_append, ByteArray.size_append, digB_size, List.length_cons, show (⟨#[32]⟩ : ByteArray).size = 1 from rfl]
    omega
def readP : Bs → List Int × Bool
  | [] => ([], true)
  | [_] => ([], false)
  | a :: d :: r => if a = 32 ∧ 48 ≤ d.toNat ∧ d.toNat ≤ 57 then (((d.toNat : Int) - 48) :: (readP r).1, (readP r).2) else ([], false)
theorem digitW_one (d : UInt8) : digitW (baOf [d]) = if 48 ≤ d.toNat ∧ d.toNat ≤ 57 then some ((d.toNat : Int) - 48) else none := by
  have h1 : byteAt (baOf [d]) 0 = d.toNat := rfl
  have h2 : (baOf [d]).size = 1 := rfl
  unfold digitW
  rw [h1, h2]
  by_cases h : 48 ≤ d.toNat ∧ d.toNat ≤ 57
  · rw [if_pos ⟨rfl, h.1, h.2⟩, if_pos h]
  · rw [if_neg (fun h3 => h h3.2), if_neg h]
theorem digitW_len {p : Bs} (h : p.length ≠ 1) : digitW (baOf p) = none := by
  unfold digitW
  rw [if_neg (fun h1 => h (by rw [← h1.1, baOf_size]))]
theorem readU_bad {p : Bs} {t : List ByteArray} (h : digitW (baOf p) = none) : readU (baOf p :: t) = ([], false) := by rw [readU, h]
theorem read_eq : ∀ (n : Nat) (r : Bs), r.length ≤ n → (readU ((splitB r).map baOf)).2 = (readP (32 :: r)).2 ∧ ((readP (32 :: r)).2 = true → (readU ((splitB r).map baOf)).1 = (readP (32 :: r)).1)
  | _, [], _ => by simp [splitB, readP, readU_bad (digitW_len (p := []) (by simp))]
  | 0, _ :: _, h => by simp at h
  | n + 1, d :: r, h => by
    have hr : r.length ≤ n := by simpa using h
    by_cases hd : d = 32
    · subst hd
      have e : readP (32 :: 32 :: r) = ([], false) := by rw [readP, if_neg (by decide)]
      rw [e, splitB, if_pos rfl, List.map_cons, readU_bad (digitW_len (p := []) (by simp))]
      simp
    · rw [splitB, if_neg hd]
      cases r with
      | nil =>
        simp only [splitB, List.map_cons, List.map_nil, readU, digitW_one, readP]
        by_cases hg : 48 ≤ d.toNat ∧ d.toNat ≤ 57
        · rw [if_pos hg, if_pos ⟨trivial, hg⟩]; simp
        · rw [if_neg hg, if_neg (fun h1 => hg h1.2)]; simp
      | cons x r =>
        by_cases hx : x = 32
        · subst hx
          obtain ⟨h1, h2⟩ := read_eq n r (by simp at hr; omega)
          simp only [splitB, if_true, List.map_cons, readU, digitW_one]
          rw [readP]
          by_cases hg : 48 ≤ d.toNat ∧ d.toNat ≤ 57
          · rw [if_pos hg, if_pos ⟨rfl, hg⟩]
            exact ⟨h1, fun h3 => by rw [h2 h3]⟩
          · rw [if_neg hg, if_neg (fun h1 => hg h1.2)]; simp
        · have e1 : splitB (x :: r) = (splitB (x :: r)).headD [] :: (splitB (x :: r)).tail ∧ (splitB (x :: r)).headD [] ≠ [] := by
            rw [splitB, if_neg hx]
            split <;> simp
          obtain ⟨e1, e2⟩ := e1
          have e3 : (readP (32 :: d :: x :: r)).2 = false := by
            rw [readP]
            split
            · cases r with
              | nil => rfl
              | cons y r => simp only [readP]; rw [if_neg (fun h1 => hx h1.1)]
            · rfl
          rw [e1]
          simp only [List.map_cons]
          rw [readU_bad (digitW_len (fun h7 => e2 (List.eq_nil_of_length_eq_zero (by simpa using h7)))), e3]
          simp
theorem refR_end {s : ByteArray} {i : Nat} (h : ¬ i < s.size) : readP ((bsOf s).drop i) = ([], true) := by
  rw [List.drop_of_length_le (by rw [bsOf_len]; omega)]; rfl
theorem drop_bs {s : ByteArray} {i : Nat} (h : i < s.size) : ∃ b, (bsOf s).drop i = b :: (bsOf s).drop (i + 1) ∧ byteAt s i = b.toNat := by
  have hl : i < (bsOf s).length := by rw [bsOf_len]; exact h
  exact ⟨(bsOf s)[i], List.drop_eq_getElem_cons hl, (byte_of (s := s) (List.getElem?_eq_getElem hl)).2⟩
theorem refR_bad {s : ByteArray} {i : Nat} (hi : i < s.size) (h : ¬ (byteAt s i = 32 ∧ i + 1 < s.size ∧ 48 ≤ byteAt s (i + 1) ∧ byteAt s (i + 1) ≤ 57)) : readP ((bsOf s).drop i) = ([], false) := by
  obtain ⟨b, h1, h2⟩ := drop_bs hi
  rw [h1]
  by_cases hl : i + 1 < s.size
  · obtain ⟨d, h3, h4⟩ := drop_bs hl
    rw [h3, readP, if_neg]
    rintro ⟨rfl, h5, h6⟩
    exact h ⟨h2, hl, by omega, by omega⟩
  · rw [List.drop_of_length_le (by rw [bsOf_len]; omega)]; rfl
theorem refR_next {s : ByteArray} {i : Nat} (hi : i + 1 < s.size) (h : byteAt s i = 32) (h0 : 48 ≤ byteAt s (i + 1)) (h1 : byteAt s (i + 1) ≤ 57) : readP ((bsOf s).drop i) = (((byteAt s (i + 1) : Int) - 48) :: (readP ((bsOf s).drop (i + 2))).1, (readP ((bsOf s).drop (i + 2))).2) := by
  obtain ⟨b, h2, h3⟩ := drop_bs (show i < s.size by omega)
  obtain ⟨d, h4, h5⟩ := drop_bs hi
  rw [h2, h4, readP, if_pos ⟨UInt8.toNat_inj.1 (by rw [← h3, h]; rfl), by omega, by omega⟩, h5]
structure ReadIn (s : ByteArray) (n i : Nat) (us : List Int) : Prop where
  all : (readP ((bsOf s).drop n)).1 = us ++ (readP ((bsOf s).drop i)).1
  ok : (readP ((bsOf s).drop n)).2 = (readP ((bsOf s).drop i)).2
theorem ReadIn.zero (s : ByteArray) (n : Nat) : ReadIn s n n [] := ⟨rfl, rfl⟩
theorem ReadIn.next {s : ByteArray} {n i : Nat} {us : List Int} (h : ReadIn s n i us) (hi : i + 1 < s.size) (hb : byteAt s i = 32) (h0 : 48 ≤ byteAt s (i + 1)) (h1 : byteAt s (i + 1) ≤ 57) : ReadIn s n (i + 2) (us ++ [(byteAt s (i + 1) : Int) - 48]) := by
  have e := refR_next hi hb h0 h1
  exact ⟨by rw [h.all, e]; simp, by rw [h.ok, e]⟩
theorem head_split {s : ByteArray} {n : Nat} (hn : n ≤ s.size) (h1 : ∀ j, j < n → byteAt s j ≠ 32) (h2 : n < s.size → byteAt s n = 32) :
    (bsOf s).take n ++ (bsOf s).drop n = bsOf s ∧ (∀ c ∈ (bsOf s).take n, c ≠ 32) ∧ ((bsOf s).drop n = [] ∨ ∃ r, (bsOf s).drop n = 32 :: r) := by
  refine ⟨List.take_append_drop _ _, fun c hc => ?_, ?_⟩
  · obtain ⟨i, hi, rfl⟩ := List.getElem_of_mem hc
    rw [List.length_take] at hi
    rw [List.getElem_take]
    have hl : i < (bsOf s).length := by omega
    have h3 := (byte_of (s := s) (List.getElem?_eq_getElem hl)).2
    intro e
    exact h1 i (by omega) (by rw [h3]; exact congrArg UInt8.toNat e)
  · by_cases hl : n < s.size
    · obtain ⟨b, h3, h4⟩ := drop_bs hl
      exact .inr ⟨_, by rw [h3, show b = 32 from UInt8.toNat_inj.1 (by rw [← h4, h2 hl]; rfl)]⟩
    · exact .inl (List.drop_of_length_le (by rw [bsOf_len]; omega))
theorem read_law {s : ByteArray} {n : Nat} (hn : n ≤ s.size) (h1 : ∀ j, j < n → byteAt s j ≠ 32) (h2 : n < s.size → byteAt s n = 32) :
    headW (cutB s) = s.extract 0 n ∧ (readU ((cutB s).drop 1)).2 = (readP ((bsOf s).drop n)).2 ∧ ((readP ((bsOf s).drop n)).2 = true → (readU ((cutB s).drop 1)).1 = (readP ((bsOf s).drop n)).1) := by
  obtain ⟨e, ha, hr⟩ := head_split hn h1 h2
  have eh : baOf ((bsOf s).take n) = s.extract 0 n := bs_inj (by rw [bsOf_baOf, bsOf_extract]; simp)
  rcases hr with hr | ⟨r, hr⟩
  · have hc : cutB s = [s.extract 0 n] := by
      unfold cutB
      rw [← e, hr, List.append_nil, splitB_none _ ha, List.map_cons, eh]; rfl
    rw [hc, hr]
    exact ⟨rfl, rfl, fun _ => rfl⟩
  · have hc : cutB s = s.extract 0 n :: (splitB r).map baOf := by
      unfold cutB
      rw [← e, hr, splitB_app _ _ ha, List.map_cons, eh]
    rw [hc, hr]
    exact ⟨rfl, read_eq _ r (Nat.le_refl _)⟩
theorem read_done {s : ByteArray} {n i : Nat} {us : List Int} (hn : n ≤ s.size) (h1 : ∀ j, j < n → byteAt s j ≠ 32) (h2 : n < s.size → byteAt s n = 32) (h : ReadIn s n i us) (hi : ¬ i < s.size) :
    lineR s = ⟨s.extract 0 n, us⟩ ∧ lineC s = ruleCode ⟨s.extract 0 n, us⟩ := by
  obtain ⟨h3, h4, h5⟩ := read_law hn h1 h2
  have e := refR_end hi
  have h6 : (readP ((bsOf s).drop n)).2 = true := by rw [h.ok, e]
  have h7 : (readP ((bsOf s).drop n)).1 = us := by rw [h.all, e]; simp
  have h8 : lineR s = ⟨s.extract 0 n, us⟩ := by rw [lineR, h3, h5 h6, h7]
  exact ⟨h8, by rw [lineC, h4, h6, if_pos rfl, h8]⟩
theorem read_stop {s : ByteArray} {n i : Nat} {us : List Int} (hn : n ≤ s.size) (h1 : ∀ j, j < n → byteAt s j ≠ 32) (h2 : n < s.size → byteAt s n = 32) (h : ReadIn s n i us) (hi : i < s.size)
    (hb : ¬ (byteAt s i = 32 ∧ i + 1 < s.size ∧ 48 ≤ byteAt s (i + 1) ∧ byteAt s (i + 1) ≤ 57)) : lineC s = 1 := by
  obtain ⟨_, h4, _⟩ := read_law hn h1 h2
  have e := refR_bad hi hb
  rw [lineC, h4, h.ok, e, if_neg (by simp)]
structure GroupC where
  pl : List Int
  A : Option Addr
  c : Nat
abbrev gpCells (a : GroupC) : List Value := [.slice a.A a.pl.length a.c]
theorem wide_gp : Wide gpCells 1 := fun _ => ⟨rfl, by simp [gpCells, Value.oneCell']⟩
structure GrR (w : World) (lo : Nat) (a : GroupC) : Prop where
  rd : Rdl w lo 1 intCells a.A a.pl
  len : a.pl.length ≤ a.c
  max : a.c ≤ maxLen
abbrev gps (l : List GroupC) : List (List Int) := l.map GroupC.pl
theorem grR_row {w : World} {base n c : Nat} {e : TypeId} {A : Option Addr} {us : List Int} (h : (rowl intCells base e 1 (.slice A n c) us).ok w) : GrR w base ⟨us, A, c⟩ := by
  obtain ⟨A', c', he, h1, h2, _⟩ := row_form h
  simp only [Value.slice.injEq] at he
  obtain ⟨rfl, -, rfl⟩ := he
  exact ⟨row_rdl (fun _ => rfl) h, h1, h2⟩
theorem GrR.mono {w : World} {lo lo' : Nat} {a : GroupC} (h : GrR w lo a) (hl : lo' ≤ lo) : GrR w lo' a := ⟨h.rd.mono hl, h.len, h.max⟩
theorem rdl_take {α : Type} {w : World} {lo size : Nat} {f : α → List Value} {A : Option Addr} {l : List α} (h : Rdl w lo size f A l) (k : Nat) : Rdl w lo size f A (l.take k) := fun hn => by
  have hn' : 0 < l.length := by
    rw [List.length_take] at hn; omega
  obtain ⟨ad, h1, h2, h3⟩ := h hn'
  refine ⟨ad, h1, h2, fun j x hx => h3 j x ?_⟩
  rw [List.getElem?_take] at hx
  split at hx
  · exact hx
  · cases hx
def hasI (l : List Int) (x : Int) : Bool := l.any (fun y => decide (x = y))
def withinB (a b : List Int) : Bool := a.all (fun x => hasI b x)
def smallerL (a b : List Int) : Bool := decide (0 < a.length) && (decide (a.length < b.length) && !(a.any (fun u => !hasI b u)))
theorem hasI_mem {l : List Int} {x : Int} : hasI l x = true ↔ x ∈ l := by
  simp [hasI]
theorem withinB_iff {a b : List Int} : withinB a b = true ↔ ∀ x ∈ a, x ∈ b := by
  simp [withinB, hasI_mem]
theorem smallerL_iff {a b : List Int} : smallerL a b = true ↔ 0 < a.length ∧ a.length < b.length ∧ ∀ x ∈ a, x ∈ b := by
  simp only [smallerL, Bool.and_eq_true, decide_eq_true_iff, Bool.not_eq_true', List.any_eq_false, Bool.not_eq_true', Bool.not_eq_false, hasI_mem]
def gAt (G : List (List Int)) (i : Nat) : List Int := G[i]?.getD []
theorem gAt_at {G : List (List Int)} {i : Nat} (h : i < G.length) : gAt G i = G[i] := by rw [gAt, List.getElem?_eq_getElem h]; rfl
def needG (G : List (List Int)) (i : Nat) : Bool := decide (0 < (gAt G i).length) && (!((G.take i).any (fun x => decide (x = gAt G i))) && !(G.any (fun x => smallerL x (gAt G i))))
def reqTo (G : List (List Int)) (k : Nat) : List (List Int) := ((List.range k).filter (needG G)).map (gAt G)
theorem reqTo_next (G : List (List Int)) (k : Nat) : reqTo G (k + 1) = reqTo G k ++ (if needG G k = true then [gAt G k] else []) := by
  unfold reqTo
  rw [List.range_succ, List.filter_append, List.map_append]
  congr 1
  by_cases h : needG G k = true
  · rw [if_pos h]; simp [h]
  · rw [if_neg h]; simp [h]
def badR (G : List (List Int)) (i k : Nat) : Bool := (!(decide ((gAt G k).length = 0) || !withinB (gAt G k) (gAt G i))) && (decide ((gAt G k).length < (gAt G i).length) || decide (k < i))
def needTo (G : List (List Int)) (i m : Nat) : Bool := decide (0 < (gAt G i).length) && !((List.range m).any (badR G i))
theorem needTo_next (G : List (List Int)) (i m : Nat) : needTo G i (m + 1) = (needTo G i m && !badR G i m) := by
  unfold needTo
  rw [List.range_succ, List.any_append, List.any_cons, List.any_nil, Bool.or_false, Bool.not_or, Bool.and_assoc]
theorem sorted_nodup {a : List Int} (h : a.Pairwise (· < ·)) : a.Nodup := h.imp (fun h1 h2 => by omega)
theorem sorted_ext : ∀ {a b : List Int}, a.Pairwise (· < ·) → b.Pairwise (· < ·) → (∀ x, x ∈ a ↔ x ∈ b) → a = b
  | [], [], _, _, _ => rfl
  | [], y :: b, _, _, h => absurd ((h y).2 (by simp)) (by simp)
  | x :: a, [], _, _, h => absurd ((h x).1 (by simp)) (by simp)
  | x :: a, y :: b, ha, hb, h => by
    obtain ⟨ha1, ha2⟩ := List.pairwise_cons.1 ha
    obtain ⟨hb1, hb2⟩ := List.pairwise_cons.1 hb
    have hxy : x = y := by
      rcases List.mem_cons.1 ((h x).1 (by simp)) with h1 | h1
      · exact h1
      · rcases List.mem_cons.1 ((h y).2 (by simp)) with h2 | h2
        · exact h2.symm
        · have := hb1 x h1; have := ha1 y h2; omega
    subst hxy
    refine congrArg _ (sorted_ext ha2 hb2 fun z => ⟨fun hz => ?_, fun hz => ?_⟩)
    · rcases List.mem_cons.1 ((h z).1 (by simp [hz])) with h1 | h1
      · have := ha1 z hz; omega
      · exact h1
    · rcases List.mem_cons.1 ((h z).2 (by simp [hz])) with h1 | h1
      · have := hb1 z hz; omega
      · exact h1
theorem sub_eq {a b : List Int} (ha : a.Pairwise (· < ·)) (hb : b.Pairwise (· < ·)) (hs : ∀ x ∈ a, x ∈ b) : a.length ≤ b.length ∧ (b.length ≤ a.length → a = b) := by
  refine ⟨pigeon a b (sorted_nodup ha) hs, fun hl => sorted_ext ha hb fun x => ⟨hs x, fun hx => ?_⟩⟩
  rcases Classical.em (x ∈ a) with h | h
  · exact h
  · have := pigeon a (b.erase x) (sorted_nodup ha) (fun y hy => (List.mem_erase_of_ne (fun e => h (by rw [← e]; exact hy))).2 (hs y hy))
    rw [List.length_erase_of_mem hx] at this
    have := List.length_pos_of_mem hx
    omega
section
variable {G : List (List Int)} (hs : ∀ g ∈ G, g.Pairwise (· < ·))
theorem gAt_mem {i : Nat} (h : i < G.length) : gAt G i ∈ G := by rw [gAt_at h]; exact List.getElem_mem h
theorem needG_iff {i : Nat} : needG G i = true ↔ 0 < (gAt G i).length ∧ (∀ x ∈ G.take i, x ≠ gAt G i) ∧ ∀ x ∈ G, smallerL x (gAt G i) = false := by
  simp only [needG, Bool.and_eq_true, decide_eq_true_iff, Bool.not_eq_true', List.any_eq_false, Bool.not_eq_true]
include hs
theorem need_eq {i : Nat} (hi : i < G.length) : needTo G i G.length = needG G i := by
  rw [Bool.eq_iff_iff, needG_iff]
  have hgi := hs _ (gAt_mem hi)
  simp only [needTo, Bool.and_eq_true, decide_eq_true_iff, Bool.not_eq_true', List.any_eq_false, List.mem_range]
  constructor
  · rintro ⟨h1, h2⟩
    have key : ∀ k, k < G.length → (gAt G k).length ≠ 0 → (∀ x ∈ gAt G k, x ∈ gAt G i) → ¬ (gAt G k).length < (gAt G i).length ∧ ¬ k < i := by
      intro k hk h3 h4
      have h5 := h2 k hk
      simp only [badR, Bool.and_eq_true, Bool.not_eq_true', Bool.or_eq_false_iff, decide_eq_false_iff_not, Bool.not_eq_false', withinB_iff, Bool.or_eq_true, decide_eq_true_iff] at h5
      constructor <;> intro h6 <;> exact h5 ⟨⟨h3, by simpa [withinB_iff] using h4⟩, by simp [h6]⟩
    refine ⟨h1, fun x hx e => ?_, fun x hx => ?_⟩
    · obtain ⟨k, hk, rfl⟩ := List.getElem_of_mem hx
      rw [List.getElem_take] at e
      rw [List.length_take] at hk
      have hk1 : k < G.length := by omega
      rw [← gAt_at hk1] at e
      exact (key k hk1 (by rw [e]; omega) (fun y hy => by rw [← e]; exact hy)).2 (by omega)
    · rw [← Bool.not_eq_true, smallerL_iff]
      rintro ⟨h3, h4, h5⟩
      obtain ⟨k, hk, rfl⟩ := List.getElem_of_mem hx
      rw [← gAt_at hk] at h3 h4 h5
      exact (key k hk (by omega) h5).1 h4
  · rintro ⟨h1, h2, h3⟩
    refine ⟨h1, fun k hk hb => ?_⟩
    simp only [badR, Bool.and_eq_true, Bool.not_eq_true', Bool.or_eq_false_iff, decide_eq_false_iff_not, Bool.not_eq_false', withinB_iff, Bool.or_eq_true, decide_eq_true_iff] at hb
    obtain ⟨⟨h4, h5⟩, h6⟩ := hb
    have h5' : ∀ x ∈ gAt G k, x ∈ gAt G i := by simpa [withinB_iff] using h5
    have h7 := h3 _ (gAt_mem hk)
    have h8 : ¬ (gAt G k).length < (gAt G i).length := fun h9 => by
      rw [smallerL_iff.2 ⟨by omega, h9, h5'⟩] at h7; cases h7
    have h9 : k < i := by rcases h6 with h6 | h6; exact absurd h6 h8; exact h6
    have h10 := (sub_eq (hs _ (gAt_mem hk)) hgi h5').2 (by omega)
    exact h2 _ (List.mem_iff_getElem.2 ⟨k, by rw [List.length_take]; omega, by rw [List.getElem_take, ← gAt_at hk]⟩) h10
end
theorem req_len (G : List (List Int)) (k : Nat) : (reqTo G k).length ≤ k := by
  unfold reqTo
  rw [List.length_map]
  exact Nat.le_trans (List.length_filter_le _ _) (by simp)
def badPath (_ : Nat) (p : ByteArray) : Int := if pathOk p = true then 0 else 12
def pathsF (ps : List ByteArray) : Fault := if (scan badPath ps).code = 0 then ⟨0, 0⟩ else ⟨12, -3 - (scan badPath ps).index⟩
def reqF (rs : List Rule) (ps : List ByteArray) : Fault := if rulesF rs ≠ ⟨0, 0⟩ then rulesF rs else if 24 < ps.length then ⟨2, -2⟩ else pathsF ps
def groupsL (rs : List Rule) (ps : List ByteArray) : List (List Int) := ps.map (findU rs)
def reqV (rs : List Rule) (ps : List ByteArray) : List (List Int) := if reqF rs ps = ⟨0, 0⟩ then reqTo (groupsL rs ps) ps.length else []
theorem pathsF_ok {ps : List ByteArray} (h : ∀ j (h : j < ps.length), pathOk ps[j] = true) : pathsF ps = ⟨0, 0⟩ := by
  have h1 : scan badPath ps = ⟨0, 0⟩ := scan_ok fun j hj => by rw [badPath, if_pos (h j hj)]
  rw [pathsF, h1]; rfl
theorem pathsF_at {ps : List ByteArray} {k : Nat} (hk : k < ps.length) (h : ∀ j (h : j < ps.length), j < k → pathOk ps[j] = true) (hb : pathOk ps[k] = false) : pathsF ps = ⟨12, -3 - k⟩ := by
  have e : badPath k ps[k] = 12 := by rw [badPath, hb]; rfl
  have h1 := scan_at (f := badPath) hk (fun j hj hjk => by rw [badPath, if_pos (h j hj hjk)]) (by rw [e]; decide)
  rw [pathsF, h1, e, if_neg (show ¬ (12 : Int) = 0 by decide)]
theorem pathsF_zero {ps : List ByteArray} (h : (pathsF ps).code = 0) : ∀ p ∈ ps, pathOk p = true := by
  unfold pathsF at h
  split at h
  · rename_i h1
    have h2 := scan_code_eq h1
    intro p hp
    obtain ⟨j, hj, rfl⟩ := List.getElem_of_mem hp
    have h3 := scan_zero.1 h2 j hj
    unfold badPath at h3
    split at h3
    · assumption
    · cases h3
  · cases h
theorem reqF_code {rs : List Rule} {ps : List ByteArray} (h : (reqF rs ps).code = 0) : reqF rs ps = ⟨0, 0⟩ ∧ rulesF rs = ⟨0, 0⟩ ∧ ps.length ≤ 24 ∧ ∀ p ∈ ps, pathOk p = true := by
  unfold reqF at h ⊢
  by_cases h1 : rulesF rs = ⟨0, 0⟩
  · rw [if_neg (fun h2 => h2 h1)] at h ⊢
    by_cases h2 : 24 < ps.length
    · rw [if_pos h2] at h; cases h
    · rw [if_neg h2] at h ⊢
      have h3 := pathsF_zero h
      exact ⟨pathsF_ok fun j hj => h3 _ (List.getElem_mem hj), h1, by omega, h3⟩
  · rw [if_pos h1] at h; exact absurd (rulesF_code h) h1
theorem groups_sorted {rs : List Rule} (h : rulesF rs = ⟨0, 0⟩) (ps : List ByteArray) : ∀ g ∈ groupsL rs ps, g.Pairwise (· < ·) := by
  intro g hg
  obtain ⟨p, _, rfl⟩ := List.mem_map.1 hg
  rcases findU_mem rs p with h1 | ⟨r, hr, h1⟩
  · rw [h1]; exact .nil
  · rw [h1]; exact (uCode_zero (ruleCode_zero (rulesF_each h r hr)).2.2).2
theorem groups_len (rs : List Rule) (ps : List ByteArray) : (groupsL rs ps).length = ps.length := by simp [groupsL]
theorem gAt_groups {rs : List Rule} {ps : List ByteArray} {k : Nat} (h : k < ps.length) : gAt (groupsL rs ps) k = findU rs ps[k] := by
  rw [gAt_at (by rw [groups_len]; exact h)]; simp [groupsL]
end Go.Cf
namespace Go.Cf
open Go.RowKit
def idxP {α : Type} (p : α → Bool) (l : List α) : Int := if l.any p = true then ((l.findIdx p : Nat) : Int) else -1
theorem idxP_hit {α : Type} {p : α → Bool} {l : List α} {k : Nat} (hk : k < l.length) (h : ∀ j (hj : j < l.length), j < k → p l[j] = false) (hp : p l[k] = true) : idxP p l = (k : Int) := by
  have h1 : l.any p = true := List.any_eq_true.2 ⟨_, List.getElem_mem hk, hp⟩
  rw [idxP, if_pos h1, (List.findIdx_eq hk).2 ⟨hp, fun j hj => h j (by omega) hj⟩]
theorem idxP_none {α : Type} {p : α → Bool} {l : List α} (h : ∀ j (hj : j < l.length), p l[j] = false) : idxP p l = -1 := by
  have h1 : l.any p = false := by
    rw [List.any_eq_false]
    intro x hx
    obtain ⟨j, hj, rfl⟩ := List.getElem_of_mem hx
    simp [h j hj]
  rw [idxP, h1, if_neg (by simp)]
theorem idxP_any {α : Type} (p : α → Bool) (l : List α) : decide ((0 : Int) ≤ idxP p l) = l.any p := by
  unfold idxP
  cases l.any p with
  | true => rw [if_pos rfl]; exact decide_eq_true (by omega)
  | false => rw [if_neg (by simp)]; rfl
theorem needG_gs {gs : List GroupC} {k : Nat} (hk : k < gs.length) : needG (gps gs) k = (decide (0 < gs[k].pl.length) && (!((gs.take k).any (fun a => decide (a.pl = gs[k].pl))) && !(gs.any (fun a => smallerL a.pl gs[k].pl)))) := by
  have e : gAt (gps gs) k = gs[k].pl := by rw [gAt_at (by simpa using hk)]; simp
  unfold needG
  rw [e, List.any_map, ← List.map_take, List.any_map]
  rfl
theorem need_yes {gs : List GroupC} {k : Nat} (hk : k < gs.length) (h1 : 0 < gs[k].pl.length) (h2 : (gs.take k).any (fun a => decide (a.pl = gs[k].pl)) = false) (h3 : gs.any (fun a => smallerL a.pl gs[k].pl) = false) : needG (gps gs) k = true := by
  rw [needG_gs hk, h2, h3, decide_eq_true h1]; rfl
theorem need_no1 {gs : List GroupC} {k : Nat} (hk : k < gs.length) (h1 : ¬ 0 < gs[k].pl.length) : needG (gps gs) k = false := by
  rw [needG_gs hk, decide_eq_false h1]; rfl
theorem need_no2 {gs : List GroupC} {k : Nat} (hk : k < gs.length) (h2 : (gs.take k).any (fun a => decide (a.pl = gs[k].pl)) = true) : needG (gps gs) k = false := by
  rw [needG_gs hk, h2]; simp
theorem need_no3 {gs : List GroupC} {k : Nat} (hk : k < gs.length) (h3 : gs.any (fun a => smallerL a.pl gs[k].pl) = true) : needG (gps gs) k = false := by
  rw [needG_gs hk, h3]; simp
theorem req_gs_yes {gs og : List GroupC} {k : Nat} (hk : k < gs.length) (ho : gps og = reqTo (gps gs) k) (hn : needG (gps gs) k = true) : gps (og ++ [gs[k]]) = reqTo (gps gs) (k + 1) := by
  have e : gAt (gps gs) k = gs[k].pl := by rw [gAt_at (by simpa using hk)]; simp
  show List.map _ _ = _
  rw [List.map_append, reqTo_next, hn, if_pos rfl, ← ho, e]; rfl
theorem req_gs_no {gs og : List GroupC} {k : Nat} (ho : gps og = reqTo (gps gs) k) (hn : needG (gps gs) k = false) : gps og = reqTo (gps gs) (k + 1) := by
  rw [reqTo_next, hn, if_neg (by simp), ← ho, List.append_nil]
theorem hasI_take {b : List Int} {j : Nat} {x : Int} (h : j < b.length) : hasI (b.take (j + 1)) x = (hasI (b.take j) x || decide (x = b[j])) := by
  rw [List.take_succ_eq_append_getElem h, hasI, List.any_append]; simp [hasI]
theorem withinB_no {g U : List Int} {k : Nat} (h : k < g.length) (e : hasI U g[k] = false) : withinB g U = false := by
  unfold withinB
  rw [List.all_eq_false]
  exact ⟨_, List.getElem_mem h, by simp [e]⟩
theorem withinB_yes {g U : List Int} (h : ∀ k (hk : k < g.length), hasI U g[k] = true) : withinB g U = true := by
  unfold withinB
  rw [List.all_eq_true]
  intro x hx
  obtain ⟨j, hj, rfl⟩ := List.getElem_of_mem hx
  exact h j hj
theorem gps_ne {l m : List GroupC} {k : Nat} (h1 : k < l.length) (h2 : k < m.length) (h : ¬ l[k].pl = m[k].pl) : ¬ gps l = gps m := fun e => by
  have h3 : (gps l)[k]'(by simpa using h1) = (gps m)[k]'(by simpa using h2) := by simp only [e]
  simp only [List.getElem_map] at h3
  exact h h3
def ownV (rs : List RuleC) (path : ByteArray) : Value := match rs.reverse.find? (fun a => matchR path a.pl) with
  | some a => .slice a.A a.pl.users.length a.c
  | none => .slice none 0 0
theorem ownV_next {rs : List RuleC} {path : ByteArray} {k : Nat} (h : k < rs.length) : ownV (rs.take (k + 1)) path = if matchR path rs[k].pl = true then .slice rs[k].A rs[k].pl.users.length rs[k].c else ownV (rs.take k) path := by
  rw [List.take_succ_eq_append_getElem h, ownV, List.reverse_append, List.reverse_singleton, List.singleton_append, List.find?_cons]
  cases matchR path rs[k].pl <;> rfl
theorem ownV_read {w : World} {lo : Nat} {A : Option Addr} {c : Nat} {rs : List RuleC} (h : RulesR w lo A c rs) (path : ByteArray) :
    ∃ B d, ownV rs path = .slice B (findU (rls rs) path).length d ∧ GrR w lo ⟨findU (rls rs) path, B, d⟩ := by
  have e : findU (rls rs) path = ((rs.reverse.find? (fun a => matchR path a.pl)).map (fun a => a.pl.users)).getD [] := by
    unfold findU
    rw [← List.map_reverse, List.find?_map, Option.map_map]
    rfl
  unfold ownV
  rw [e]
  cases hf : rs.reverse.find? (fun a => matchR path a.pl) with
  | none => exact ⟨none, 0, rfl, Rdl.nil, Nat.le_refl _, Nat.zero_le _⟩
  | some a =>
    have ha : a ∈ rs := List.mem_reverse.1 (List.mem_of_find?_eq_some hf)
    have hr := h.each a ha
    exact ⟨a.A, a.c, rfl, hr.rd, hr.sb.len, hr.sb.max⟩
theorem badR_at {rs : List Rule} {ps : List ByteArray} {i k : Nat} (hi : i < ps.length) (hk : k < ps.length) :
    badR (groupsL rs ps) i k = ((!(decide ((findU rs ps[k]).length = 0) || !withinB (findU rs ps[k]) (findU rs ps[i]))) && (decide ((findU rs ps[k]).length < (findU rs ps[i]).length) || decide (k < i))) := by
  rw [badR, gAt_groups hi, gAt_groups hk]
theorem dig_ext {u : Int} (h0 : 0 ≤ u) (h1 : u ≤ 7) : (⟨#[48, 49, 50, 51, 52, 53, 54, 55]⟩ : ByteArray).extract u.toNat (u + 1).toNat = digB u := by
  have : u = 0 ∨ u = 1 ∨ u = 2 ∨ u = 3 ∨ u = 4 ∨ u = 5 ∨ u = 6 ∨ u = 7 := by omega
  rcases this with rfl | rfl | rfl | rfl | rfl | rfl | rfl | rfl <;> decide
theorem line_ext {pat : ByteArray} {us : List Int} {k : Nat} (hk : k < us.length) (h0 : 0 ≤ us[k]) (h1 : us[k] ≤ 7) : lineTo pat (us.take k) ++ ⟨#[32]⟩ ++ (⟨#[48, 49, 50, 51, 52, 53, 54, 55]⟩ : ByteArray).extract us[k].toNat (us[k] + 1).toNat = lineTo pat (us.take (k + 1)) := by
  rw [dig_ext h0 h1, lineTo_next hk, ByteArray.append_assoc]
section
variable {P : Program} {w0 : World} {T : List Reg} {ρ : Env} {dst : Option Tmp} {ty : TypeId} {pos : String} {af : Array Edge} {gd : Option (Nat × Bool)} {x y : Operand} {t yt : TypeId} {u : Int}
theorem y_digit (hx : ev ρ x = .int .u8 48) (hy : ev ρ y = .int .u8 u) (h0 : 0 ≤ u) (h1 : u ≤ 7) : Yield P w0 T ρ ⟨dst, .binOp .add t x y yt, ty, pos, af, gd⟩ (.int .u8 ((48 + u.toNat : Nat) : Int)) := by
  have h := y_add8 (P := P) (w0 := w0) (T := T) (dst := dst) (ty := ty) (pos := pos) (af := af) (gd := gd) (t := t) (yt := yt) hx hy (by omega) (by omega)
  rwa [show (48 : Int) + u = ((48 + u.toNat : Nat) : Int) by omega] at h
end
end Go.Cf
namespace Go.Cf
open Go.RowKit
theorem Mem.cell {w0 w : World} {T : List Reg} (hM : Mem w0 T w) (i : Nat) {b off : Nat} {cs : Array Value} {e : TypeId} {fz : Nat × Nat} {v : Value} (hi : T[i]? = some (box b (.cells cs e fz))) (h : cs[off]? = some v) : w.cell? ⟨b, off, none⟩ = some v := cell_box i hi h w hM
end Go.Cf
namespace Go.Cf
theorem of_ok {rs : List Rule} {p : ByteArray} (h : rulesF rs = ⟨0, 0⟩) (hp : pathOk p = true) : ofF rs p = ⟨0, 0⟩ ∧ ofV rs p = findU rs p := by
  constructor
  · rw [ofF, if_neg (fun h1 => h1 h), hp]; rfl
  · rw [ofV, if_pos ⟨h, hp⟩]
end Go.Cf
namespace Go.Cf
open Go.RowKit
def Reading (text : List ByteArray) (k : Nat) (p : Fault) (l : List Rule) : Prop :=
  (p = ⟨0, 0⟩ ∧ linesF text = ⟨0, 0⟩ ∧ (∀ j (h : j < text.length), j < k → badL text[j] = 0) ∧ l = readL (text.take k)) ∨ (p.code ≠ 0 ∧ p = fileF text)
section
variable {text : List ByteArray} {k : Nat} {p : Fault} {l : List Rule}
theorem Reading.zero (text : List ByteArray) : Reading text 0 (linesF text) [] := by
  by_cases h : linesF text = ⟨0, 0⟩
  · exact .inl ⟨h, h, fun _ _ h => absurd h (by omega), rfl⟩
  · exact .inr ⟨fun h1 => h (linesF_code h1), by rw [fileF, if_pos h]⟩
theorem Reading.good (h : Reading text k p l) (hp : p.code = 0) : p = ⟨0, 0⟩ ∧ linesF text = ⟨0, 0⟩ ∧ (∀ j (h : j < text.length), j < k → badL text[j] = 0) ∧ l = readL (text.take k) := by
  rcases h with h | h
  · exact h
  · exact absurd hp h.1
theorem Reading.skip (h : Reading text k p l) (hp : p.code = 0) (hk : k < text.length) (hs : skipL text[k] = true) : Reading text (k + 1) p l := by
  obtain ⟨h1, h2, h3, h4⟩ := h.good hp
  refine .inl ⟨h1, h2, fun j hj hjk => ?_, by rw [readL_take hk, hs]; simpa using h4⟩
  rcases Nat.lt_succ_iff_lt_or_eq.1 hjk with h5 | rfl
  · exact h3 j hj h5
  · rw [badL, if_pos hs]
theorem Reading.rule (h : Reading text k p l) (hp : p.code = 0) (hk : k < text.length) (hs : skipL text[k] = false) (hc : lineC text[k] = 0) : Reading text (k + 1) p (l ++ [lineR text[k]]) := by
  obtain ⟨h1, h2, h3, h4⟩ := h.good hp
  refine .inl ⟨h1, h2, fun j hj hjk => ?_, by rw [readL_take hk, hs, h4]; rfl⟩
  rcases Nat.lt_succ_iff_lt_or_eq.1 hjk with h5 | rfl
  · exact h3 j hj h5
  · rw [badL, hs, if_neg (by simp), hc]
theorem Reading.bad (h : Reading text k p l) (hp : p.code = 0) (hk : k < text.length) (hs : skipL text[k] = false) (hc : lineC text[k] ≠ 0) (l' : List Rule) : Reading text (k + 1) ⟨lineC text[k], k⟩ l' := by
  obtain ⟨h1, h2, h3, h4⟩ := h.good hp
  have hb : badL text[k] = lineC text[k] := by rw [badL, hs, if_neg (by simp)]
  have hsc := scan_at (f := fun _ s => badL s) hk h3 (by rw [hb]; exact hc)
  refine .inr ⟨hc, ?_⟩
  rw [fileF, if_neg (fun h5 => h5 h2), hsc, hb, if_pos (fun h5 => hc (congrArg Fault.code h5))]
theorem Reading.done1 (h : Reading text k p l) (hst : ¬ (k < text.length ∧ p.code = 0)) (hp : p.code = 0) (hl : 20 < l.length) : fileF text = ⟨2, -1⟩ := by
  obtain ⟨h1, h2, h3, h4⟩ := h.good hp
  have hk : ¬ k < text.length := fun h5 => hst ⟨h5, hp⟩
  have hsc : scan (fun _ s => badL s) text = ⟨0, 0⟩ := scan_ok fun j hj => h3 j hj (by omega)
  rw [List.take_of_length_le (by omega)] at h4
  rw [fileF, if_neg (fun h5 => h5 h2), hsc, if_neg (fun h5 => h5 rfl), if_pos (by rw [← h4]; exact hl)]
theorem Reading.done2 (h : Reading text k p l) (hst : ¬ (k < text.length ∧ p.code = 0)) (hp : p.code = 0) (hl : ¬ 20 < l.length) : fileF text = p ∧ l = fileV text := by
  obtain ⟨h1, h2, h3, h4⟩ := h.good hp
  have hk : ¬ k < text.length := fun h5 => hst ⟨h5, hp⟩
  have hsc : scan (fun _ s => badL s) text = ⟨0, 0⟩ := scan_ok fun j hj => h3 j hj (by omega)
  rw [List.take_of_length_le (by omega)] at h4
  have hF : fileF text = ⟨0, 0⟩ := by rw [fileF, if_neg (fun h5 => h5 h2), hsc, if_neg (fun h5 => h5 rfl), if_neg (by rw [← h4]; exact hl)]
  exact ⟨hF.trans h1.symm, by rw [fileV, if_pos hF, h4]⟩
theorem Reading.done3 (h : Reading text k p l) (hp : p.code ≠ 0) : fileF text = p := by
  rcases h with h | h
  · exact absurd (by rw [h.1]) hp
  · exact h.2.symm
theorem Reading.done (h : Reading text k p l) (hst : ¬ (k < text.length ∧ p.code = 0)) (hl : ¬ (p.code = 0 ∧ 20 < l.length)) : fileF text = p ∧ (p.code = 0 → l = fileV text) := by
  by_cases hp : p.code = 0
  · have := h.done2 hst hp (fun h1 => hl ⟨hp, h1⟩)
    exact ⟨this.1, fun _ => this.2⟩
  · exact ⟨h.done3 hp, fun h1 => absurd h1 hp⟩
theorem fileV_bad (h : (fileF text).code ≠ 0) : fileV text = [] := by
  rw [fileV, if_neg (fun h1 => h (by rw [h1]))]
end
def capF (ps : List ByteArray) : Fault := if 24 < ps.length then ⟨2, -2⟩ else ⟨0, 0⟩
def Checking (rs : List Rule) (ps : List ByteArray) (k : Nat) (q : Fault) : Prop :=
  (q = ⟨0, 0⟩ ∧ ps.length ≤ 24 ∧ ∀ j (h : j < ps.length), j < k → pathOk ps[j] = true) ∨ (q.code ≠ 0 ∧ q = reqF rs ps)
section
variable {rs : List Rule} {ps : List ByteArray} {k : Nat} {q : Fault}
theorem Checking.zero (h : rulesF rs = ⟨0, 0⟩) : Checking rs ps 0 (capF ps) := by
  unfold capF
  split
  · rename_i h1
    exact .inr ⟨by decide, by rw [reqF, if_neg (fun h2 => h2 h), if_pos h1]⟩
  · exact .inl ⟨rfl, by omega, fun _ _ h => absurd h (by omega)⟩
theorem Checking.good (h : Checking rs ps k q) (hq : q.code = 0) : q = ⟨0, 0⟩ ∧ ps.length ≤ 24 ∧ ∀ j (h : j < ps.length), j < k → pathOk ps[j] = true := by
  rcases h with h | h
  · exact h
  · exact absurd hq h.1
theorem Checking.ok (h : Checking rs ps k q) (hq : q.code = 0) (hk : k < ps.length) (hp : pathOk ps[k] = true) : Checking rs ps (k + 1) q := by
  obtain ⟨h1, h2, h3⟩ := h.good hq
  refine .inl ⟨h1, h2, fun j hj hjk => ?_⟩
  rcases Nat.lt_succ_iff_lt_or_eq.1 hjk with h5 | rfl
  · exact h3 j hj h5
  · exact hp
theorem Checking.bad (h : Checking rs ps k q) (hr : rulesF rs = ⟨0, 0⟩) (hq : q.code = 0) (hk : k < ps.length) (hp : pathOk ps[k] = false) : Checking rs ps (k + 1) ⟨12, -3 - k⟩ := by
  obtain ⟨h1, h2, h3⟩ := h.good hq
  exact .inr ⟨show ¬ (12 : Int) = 0 by decide, by rw [reqF, if_neg (fun h5 => h5 hr), if_neg (by omega), pathsF_at hk h3 hp]⟩
theorem Checking.stop (h : Checking rs ps k q) (hr : rulesF rs = ⟨0, 0⟩) (hst : ¬ (k < ps.length ∧ q.code = 0)) : reqF rs ps = q := by
  rcases h with h | h
  · obtain ⟨h1, h2, h3⟩ := h
    have hk : ¬ k < ps.length := fun h6 => hst ⟨h6, by rw [h1]⟩
    rw [reqF, if_neg (fun h5 => h5 hr), if_neg (by omega), pathsF_ok (fun j hj => h3 j hj (by omega)), h1]
  · exact h.2.symm
end
theorem reqV_bad {rs : List Rule} {ps : List ByteArray} (h : (reqF rs ps).code ≠ 0) : reqV rs ps = [] := by
  rw [reqV, if_neg (fun h1 => h (by rw [h1]))]
theorem gps_nil {og : List GroupC} (h : gps og = []) : og.length = 0 := by
  have := congrArg List.length h
  simpa using this
theorem grR_own {w : World} {lo : Nat} {A : Option Addr} {c : Nat} {rs : List RuleC} (h : RulesR w lo A c rs) {a : GroupC} (ha : ∃ p, ownV rs p = .slice a.A a.pl.length a.c ∧ a.pl = findU (rls rs) p) : GrR w lo a := by
  obtain ⟨p, h1, h2⟩ := ha
  obtain ⟨B, d, h3, h4⟩ := ownV_read h p
  rw [h1] at h3
  simp only [Value.slice.injEq] at h3
  obtain ⟨e1, -, e2⟩ := h3
  obtain ⟨pl, A', c'⟩ := a
  subst e1 e2 h2
  exact h4
section
variable {w0 : World} {T : List Reg}
theorem weak_rownil (i : Nat) {α β : Type} {f : α → List Value} {l : List α} (g : β → List Value) {size base : Nat} {e : TypeId} {v : Value} (hi : T[i]? = some (rowl f base e size v l)) : Weak w0 T (T.set i (rowl g w0.heap.size e size (.slice none 0 0) [])) := fun w hM =>
  hM.upd hi (Chg.of_below (Below.refl _ _)) ⟨by simp, .inl ⟨rfl, rfl⟩⟩ (fun b h => by
    have h' : (none : Option Nat) = some b := h
    cases h')
end
end Go.Cf
namespace Go.Proofs.YtijpaljdclhehaaDoor
open Go.RowKit Go.Cf
set_option maxRecDepth 10000
set_option maxHeartbeats 4000000 in
theorem format_any (w : World) (A : Option Addr) (c : Nat) (rs : List RuleC) (hR : RulesR w 0 A c rs) :
    Calls Tryd.prog 21 #[.slice A rs.length c] w fun e w' => ∃ v T', e = .returned (.tuple #[v, fv (rulesF (rls rs))]) ∧ T' = [rowl strCells w.heap.size 9 1 (v) (formatV (rls rs))] ∧ Mem w T' w' := by
  have hln := hR.sb.len
  have hmx := hR.sb.max
  unfold maxLen at hmx
  refine gcalls Tryd.func21 rfl Tryd.ntmps21 (Nat.le_of_ble_eq_true rfl) ?_
  refine gfrom [(0, .slice _ _ _)] ⟨rfl, trivial⟩ fun σ => ?_
  refine gseq fun N1 hN1 => ?_
  refine greg ?_
  refine gop (y_assign (v := .slice _ _ _) rfl) rfl rfl rfl ?_
  refine gop_alloc (cs := #[.int .i64 0, .int .i64 0]) Tryd.zeroValue23 rfl rfl (fun b3 hb3 => ?_)
  refine gops_nil ?_
  refine hN1 _ _ ?_
  refine gT [box b3 _] rfl ?_
  refine gfrom [(0, .slice _ _ _), (3, .pointer _)] ⟨rfl, rfl, trivial⟩ fun σ => ?_
  refine gseq fun N2 hN2 => ?_
  refine gseq fun N3 hN3 => ?_
  refine greg ?_
  refine gop (y_move (v := .slice _ _ _) rfl) rfl rfl rfl ?_
  refine gop_pure (e_call (vs := [.slice _ _ _]) Tryd.func28 rfl (by kernel_rfl) rfl) (fun w hM => ownValidate_any w A c rs (RulesR.lasts.base hR hM)) rfl rfl rfl ?_
  refine gop_alloc (cs := #[.int .i64 0, .int .i64 0]) Tryd.zeroValue23 rfl rfl (fun b4 hb4 => ?_)
  refine gop_store 1 (v := .agg #[_, _]) (cs' := #[_, _]) rfl rfl Tryd.sizeOf23 rfl rfl rfl rfl (Nat.le_of_ble_eq_true rfl) rfl rfl ?_
  refine gops_nil ?_
  refine hN3 _ _ ?_
  refine gT [box b3 _, box b4 _] rfl ?_
  refine gfrom [(0, .slice _ _ _), (3, .pointer _), (4, .pointer _)] ⟨rfl, rfl, rfl, trivial⟩ fun σ => ?_
  refine gseq fun N4 hN4 => ?_
  refine greg ?_
  refine gop (y_loads (cs := [_, _]) Tryd.isAgg23 Tryd.sizeOf23 rfl rfl (cells_box 1 rfl)) rfl rfl rfl ?_
  refine gop (y_build (vs := []) (cells := #[.int .i64 0, .int .i64 0]) rfl bd23_) rfl rfl rfl ?_
  refine gop (y_bin (vx := .agg #[_, _]) (vy := .agg #[_, _]) rfl rfl (fun w => eg23 _ _ _ _ _ w) (fun w => ne23 _ _ _ _ w)) rfl rfl rfl ?_
  refine gops_nil ?_
  refine hN4 _ _ ?_
  refine gfrom [(0, .slice _ _ _), (3, .pointer _), (4, .pointer _), (15, .bool _)] ⟨rfl, rfl, rfl, rfl, trivial⟩ fun σ => ?_
  refine gcond (b := _) rfl (fun hc15 => ?_) (fun hc15 => ?_)
  · 
    replace hc15 := fault_ne.1 hc15
    refine gseq fun N5 hN5 => ?_
    refine greg_e1 [] [(0, room b3 23 2)] (by kernel_rfl) ?_
    refine ge_take 0 (TK := [room b3 23 2, box b4 _]) rfl (by kernel_rfl) (by kernel_rfl) (by kernel_rfl) #[false, true, false] (by kernel_rfl) rfl (y_loads (cs := [_, _]) Tryd.isAgg23 Tryd.sizeOf23 rfl rfl (cells_box 1 rfl)) rfl rfl rfl (weak_room 0 rfl rfl) (listed' := #[true, false, false]) rfl ?_
    refine ge_take 1 (TK := [room b3 23 2, box b4 _]) rfl (by kernel_rfl) (by kernel_rfl) (by kernel_rfl) #[true, false, false] (by kernel_rfl) rfl (y_assign (v := .slice _ _ _) rfl) rfl rfl rfl (weak_room 0 rfl rfl) (listed' := #[true, true, false]) rfl ?_
    refine ge_one 2 (k' := 0) (listed' := #[true, true, true]) (by kernel_rfl) rfl rfl rfl ?_
    refine gop_store 0 (v := .agg #[_, _]) (cs' := #[_, _]) rfl rfl Tryd.sizeOf23 rfl rfl rfl rfl (Nat.le_of_ble_eq_true rfl) rfl rfl ?_
    refine gops_nil ?_
    refine ge_fin (TK := [room b3 23 2, box b4 _]) rfl (weak_room 0 rfl rfl) ?_
    refine ge_done (by kernel_rfl) ?_
    refine hN5 _ _ ?_
    refine gT [box b3 _, box b4 _] rfl ?_
    refine gfrom [(2, .slice _ _ _), (3, .pointer _)] ⟨rfl, rfl, trivial⟩ fun σ => ?_
    refine gret fun w1 hM => ?_
    refine ⟨_, res2 rfl (rt (v := .slice _ _ _) rfl) (rc 0 (cs := [_, _]) hM rfl rfl Tryd.isAgg23 Tryd.sizeOf23 rfl), ?_⟩
    exact ⟨_, _, rfl, by rw [formatV, if_neg hc15]; rfl, (mem_nilrow strCells 9 1 hM).dropTo 2 rfl⟩
  · 
    replace hc15 := fault_eq.1 hc15
    have hl20 := rulesF_len hc15
    simp only [List.length_map] at hl20
    have hez := rulesF_each hc15
    refine gskip ?_
    refine hN2 _ _ ?_
    refine gfrom [(0, .slice _ _ _), (3, .pointer _)] ⟨rfl, rfl, trivial⟩ fun σ => ?_
    refine gseq fun N6 hN6 => ?_
    refine greg ?_
    refine gop (y_assign (v := .slice _ _ _) rfl) rfl rfl rfl ?_
    refine gops_nil ?_
    refine hN6 _ _ ?_
    refine gfrom [(0, .slice _ _ _), (3, .pointer _), (5, .slice _ _ _)] ⟨rfl, rfl, rfl, trivial⟩ fun σ => ?_
    refine gseq fun N7 hN7 => ?_
    refine gseq fun N8 hN8 => ?_
    refine greg ?_
    refine gop (y_move (v := .slice _ _ _) rfl) rfl rfl rfl ?_
    refine gop (y_len Tryd.underlying29 rfl) rfl rfl rfl ?_
    refine gop (y_move (v := .int _ _) rfl) rfl rfl rfl ?_
    refine gops_nil ?_
    refine hN8 _ _ ?_
    refine gfrom [(3, .pointer _), (5, .slice _ _ _), (17, .slice _ _ _), (18, .int _ _), (19, .int _ _)] ⟨rfl, rfl, rfl, rfl, rfl, trivial⟩ fun σ => ?_
    refine gblock ?_
    refine gnilrow strCells 9 1 ?_
    refine gfrom2 [(5, .slice _ _ _), (19, .int _ _)] [(3, .pointer _), (17, .slice _ _ _), (18, .int _ _)] ⟨rfl, rfl, trivial⟩ ⟨rfl, rfl, rfl, trivial⟩ fun σ => ?_
    refine gloop2 (G := Nat × Option Addr × Nat × List ByteArray) (fun (k, Av, cv, L) => k ≤ rs.length ∧ L = ((rls rs).take k).map ruleLine) (fun (k, Av, cv, L) => rs.length - k) (fun (k, Av, cv, L) => [(5, .slice Av L.length cv), (19, .int .i64 (k : Int))]) (fun (k, Av, cv, L) => [(2, rowl strCells w.heap.size 9 1 (.slice Av L.length cv) (L))]) ((0, none, 0, [])) ?h0 ⟨rfl, rfl, trivial⟩ ⟨rfl, rfl, rfl, trivial⟩ rfl ?round
    case h0 => exact ⟨Nat.zero_le _, rfl⟩
    case round =>
      rintro ⟨k, Av, cv, L⟩ hφ σ
      obtain ⟨hk, hL⟩ := hφ
      have hLl : L.length ≤ 20 := by rw [hL]; simp; omega
      refine gT [box b3 _, box b4 _, rowl _ _ _ _ _ _] rfl ?_
      refine gseq fun N9 hN9 => ?_
      refine greg ?_
      refine gop (y_lss rfl rfl) rfl rfl rfl ?_
      refine gops_nil ?_
      refine hN9 _ _ ?_
      refine gfrom [(3, .pointer _), (5, .slice Av _ cv), (17, .slice _ _ _), (18, .int _ _), (19, .int _ _), (20, .bool _)] ⟨rfl, rfl, rfl, rfl, rfl, rfl, trivial⟩ fun σ => ?_
      refine gseq fun N10 hN10 => ?_
      refine gcond (b := _) rfl (fun hc20 => ?_) (fun hc20 => ?_)
      · 
        replace hc20 := of_decide_eq_true hc20
        have hk1 : k < rs.length := by omega
        obtain ⟨ad, rfl, -, hca⟩ := hR.rd.at_ hk1
        obtain ⟨hp0, hl4, hu0⟩ := ruleCode_zero (hez _ (List.mem_map.2 ⟨_, List.getElem_mem hk1, rfl⟩))
        have hRk := hR.each _ (List.getElem_mem hk1)
        have hp60 := patFault_size hp0
        obtain ⟨⟨⟨pat, us⟩, B, d⟩, hrk⟩ : ∃ r, rs[k] = r := ⟨_, rfl⟩
        rw [hrk] at hca hl4 hu0 hRk hp60
        replace hca : ∀ j u, ([.string pat, .slice B us.length d] : List Value)[j]? = some u → w.cell? (ad.add (k * 2 + j)) = some u := hca
        have hu7 := (uCode_zero hu0).1
        have hdm : d ≤ maxLen := hRk.sb.max
        have hrdk : Rdl w 0 1 intCells B us := hRk.rd
        have hlu : us.length ≤ 4 := hl4
        have hps : pat.size ≤ 60 := hp60
        refine gskip ?_
        refine hN10 _ _ ?_
        refine gfrom [(3, .pointer _), (5, .slice Av _ cv), (17, .slice _ _ _), (18, .int _ _), (19, .int _ _)] ⟨rfl, rfl, rfl, rfl, rfl, trivial⟩ fun σ => ?_
        refine gseq fun N11 hN11 => ?_
        refine gblock ?_
        refine gseq fun N12 hN12 => ?_
        refine greg ?_
        refine gop (y_indexAddr (m := k) Tryd.underlying29 Tryd.sizeOf32 rfl rfl (by omega) (by omega) (by omega)) rfl rfl rfl ?_
        refine gop (y_loads (cs := [_, _]) Tryd.isAgg32 Tryd.sizeOf32 rfl rfl (cells_base hca)) rfl rfl rfl ?_
        refine gop_alloc (cs := #[.string .empty, .slice none 0 0]) Tryd.zeroValue32 rfl rfl (fun b7 hb7 => ?_)
        refine gop_store 3 (v := .agg #[_, _]) (cs' := #[_, _]) rfl rfl Tryd.sizeOf32 rfl rfl rfl rfl (Nat.le_of_ble_eq_true rfl) rfl rfl ?_
        refine gops_nil ?_
        refine hN12 _ _ ?_
        refine gT [box b3 _, box b4 _, rowl _ _ _ _ _ _, box b7 _] rfl ?_
        refine gfrom [(3, .pointer _), (5, .slice Av _ cv), (7, .pointer _), (17, .slice _ _ _), (18, .int _ _), (19, .int _ _)] ⟨rfl, rfl, rfl, rfl, rfl, rfl, trivial⟩ fun σ => ?_
        refine gseq fun N13 hN13 => ?_
        refine greg ?_
        refine gop (y_fieldAddr_box fa32_0 rfl) rfl rfl rfl ?_
        refine gop (y_load Tryd.isAgg9 rfl (cell_box 3 rfl rfl)) rfl rfl rfl ?_
        refine gop (y_assign (v := .string _) rfl) rfl rfl rfl ?_
        refine gops_nil ?_
        refine hN13 _ _ ?_
        refine gfrom [(3, .pointer _), (5, .slice Av _ cv), (7, .pointer _), (8, .string _), (17, .slice _ _ _), (18, .int _ _), (19, .int _ _)] ⟨rfl, rfl, rfl, rfl, rfl, rfl, rfl, trivial⟩ fun σ => ?_
        refine gseq fun N14 hN14 => ?_
        refine gseq fun N15 hN15 => ?_
        refine greg ?_
        refine gop (y_fieldAddr_box fa32_1 rfl) rfl rfl rfl ?_
        refine gop (y_load Tryd.isAgg30 rfl (cell_box 3 rfl rfl)) rfl rfl rfl ?_
        refine gop (y_len Tryd.underlying30 rfl) rfl rfl rfl ?_
        refine gop (y_move (v := .int _ _) rfl) rfl rfl rfl ?_
        refine gops_nil ?_
        refine hN15 _ _ ?_
        refine gfrom [(3, .pointer _), (5, .slice Av _ cv), (8, .string _), (17, .slice _ _ _), (18, .int _ _), (19, .int _ _), (26, .slice _ _ _), (27, .int _ _), (28, .int _ _)] ⟨rfl, rfl, rfl, rfl, rfl, rfl, rfl, rfl, rfl, trivial⟩ fun σ => ?_
        refine gblock ?_
        refine gfrom2 [(8, .string _), (28, .int _ _)] [(3, .pointer _), (5, .slice Av _ cv), (17, .slice _ _ _), (18, .int _ _), (19, .int _ _), (26, .slice _ _ _), (27, .int _ _)] ⟨rfl, rfl, trivial⟩ ⟨rfl, rfl, rfl, rfl, rfl, rfl, rfl, trivial⟩ fun σ => ?_
        refine gloop2 (G := Nat) (fun j => j ≤ us.length) (fun j => us.length - j) (fun j => [(8, .string (lineTo pat (us.take j))), (28, .int .i64 (j : Int))]) (fun j => []) (0) ?h0 ⟨rfl, rfl, trivial⟩ ⟨rfl, rfl, rfl, rfl, rfl, rfl, rfl, trivial⟩ rfl ?round
        case h0 => exact Nat.zero_le _
        case round =>
          intro j hφ σ
          have hj : j ≤ us.length := hφ
          refine gseq fun N16 hN16 => ?_
          refine greg ?_
          refine gop (y_lss rfl rfl) rfl rfl rfl ?_
          refine gops_nil ?_
          refine hN16 _ _ ?_
          refine gfrom [(3, .pointer _), (5, .slice Av _ cv), (8, .string _), (17, .slice _ _ _), (18, .int _ _), (19, .int _ _), (26, .slice _ _ _), (27, .int _ _), (28, .int _ _), (29, .bool _)] ⟨rfl, rfl, rfl, rfl, rfl, rfl, rfl, rfl, rfl, rfl, trivial⟩ fun σ => ?_
          refine gseq fun N17 hN17 => ?_
          refine gcond (b := _) rfl (fun hc29 => ?_) (fun hc29 => ?_)
          · 
            replace hc29 := of_decide_eq_true hc29
            have hj1 : j < us.length := by omega
            obtain ⟨ad2, rfl, -, hcu⟩ := hrdk.at_ hj1
            have hu8 := hu7 us[j] (List.getElem_mem hj1)
            refine gskip ?_
            refine hN17 _ _ ?_
            refine gfrom [(3, .pointer _), (5, .slice Av _ cv), (8, .string _), (17, .slice _ _ _), (18, .int _ _), (19, .int _ _), (26, .slice _ _ _), (27, .int _ _), (28, .int _ _)] ⟨rfl, rfl, rfl, rfl, rfl, rfl, rfl, rfl, rfl, trivial⟩ fun σ => ?_
            refine gseq fun N18 hN18 => ?_
            refine gblock ?_
            refine gseq fun N19 hN19 => ?_
            refine greg ?_
            refine gop (y_indexAddr (m := j) Tryd.underlying30 Tryd.sizeOf3 rfl rfl (by omega) (by omega) (by omega)) rfl rfl rfl ?_
            refine gop (y_load Tryd.isAgg3 rfl (cell_base (hcu 0 _ rfl))) rfl rfl rfl ?_
            refine gop (y_assign (v := .int _ _) rfl) rfl rfl rfl ?_
            refine gops_nil ?_
            refine hN19 _ _ ?_
            refine gfrom [(3, .pointer _), (5, .slice Av _ cv), (8, .string _), (10, .int _ _), (17, .slice _ _ _), (18, .int _ _), (19, .int _ _), (26, .slice _ _ _), (27, .int _ _), (28, .int _ _)] ⟨rfl, rfl, rfl, rfl, rfl, rfl, rfl, rfl, rfl, rfl, trivial⟩ fun σ => ?_
            refine greg ?_
            refine gop (y_move (v := .string _) rfl) rfl rfl rfl ?_
            refine gop (y_move (v := .int _ _) rfl) rfl rfl rfl ?_
            refine gop (y_toByte (by kernel_rfl) Tryd.underlying5 rfl (by omega) (by omega)) rfl rfl rfl ?_
            refine gop (y_digit rfl rfl hu8.1 hu8.2.1) rfl rfl rfl ?_
            refine gop_lit (vs := [.int _ _]) (cells := #[_]) Tryd.underlying71 Tryd.sizeOf5 Tryd.zeroValue5 rfl (by decide) (by decide) rfl rfl rfl rfl (fun b36 hb36 => ?_)
            refine gop (y_byteStr 4 Tryd.underlying71 Tryd.underlying5 Tryd.underlying9 rfl (by omega) rfl) rfl rfl rfl ?_
            refine gop (y_cat rfl rfl (show (1 : Nat) + 1 ≤ 9223372036854775807 by decide)) rfl rfl rfl ?_
            refine gop (y_cat rfl rfl (by rw [lineTo_size, ByteArray.size_append, List.length_take]; show pat.size + 2 * min j us.length + (1 + 1) ≤ _; omega)) rfl rfl rfl ?_
            refine gop (y_assign (v := .string _) rfl) rfl rfl rfl ?_
            refine gops_nil ?_
            refine hN18 _ _ ?_
            refine gT [box b3 _, box b4 _, rowl _ _ _ _ _ _, box b7 _, box b36 _] rfl ?_
            refine gfrom [(3, .pointer _), (5, .slice Av _ cv), (8, .string _), (17, .slice _ _ _), (18, .int _ _), (19, .int _ _), (26, .slice _ _ _), (27, .int _ _), (28, .int _ _)] ⟨rfl, rfl, rfl, rfl, rfl, rfl, rfl, rfl, rfl, trivial⟩ fun σ => ?_
            refine greg ?_
            refine gop (y_add rfl rfl ⟨by omega, by omega⟩) rfl rfl rfl ?_
            refine gop (y_move (v := .int _ _) rfl) rfl rfl rfl ?_
            refine gops_nil ?_
            refine gnext2 (j + 1) (by omega) (show j + 1 ≤ _ by omega) ⟨congrArg Value.string (lineTo_next hj1).symm, rfl, trivial⟩ ⟨rfl, rfl, rfl, rfl, rfl, rfl, rfl, trivial⟩ ⟨_, rfl⟩
          · 
            replace hc29 := of_decide_eq_false hc29
            have hB : lineTo pat (us.take j) = ruleLine ⟨pat, us⟩ := by rw [List.take_of_length_le (by omega)]; rfl
            refine gexit ?_
            refine hN14 _ _ ?_
            refine gfrom [(3, .pointer _), (5, .slice Av _ cv), (8, .string _), (17, .slice _ _ _), (18, .int _ _), (19, .int _ _)] ⟨rfl, rfl, rfl, rfl, rfl, rfl, trivial⟩ fun σ => ?_
            refine greg ?_
            refine gop (y_move (v := .slice Av _ cv) rfl) rfl rfl rfl ?_
            refine gop (y_move (v := .string _) rfl) rfl rfl rfl ?_
            refine gop_lit (vs := [.string _]) (cells := #[_]) Tryd.underlying37 Tryd.sizeOf9 Tryd.zeroValue9 rfl (by decide) (by decide) rfl rfl rfl rfl (fun b43 hb43 => ?_)
            refine gop_append 2 (f := strCells) (l2 := [lineTo pat (us.take j)]) Tryd.underlying37 el9 wide_str (v := .slice Av _ cv) rfl rfl rfl rfl (fun h => by cases h) (by simp [maxLen]; omega) (by simp; omega) (src_box 4 rfl rfl) rfl (fun v44 => ?_)
            refine gops_fact (fun w hM => own_form (hM.own 2 rfl)) ?_
            rintro ⟨A44, c44, rfl, hc44, hm44⟩
            refine gop (y_assign (v := .slice A44 _ c44) rfl) rfl rfl rfl ?_
            refine gops_nil ?_
            refine hN11 _ _ ?_
            refine gT [box b3 _, box b4 _, rowl _ _ _ _ _ _, box b7 _, box b43 _] rfl ?_
            refine gfrom [(3, .pointer _), (5, .slice A44 _ c44), (17, .slice _ _ _), (18, .int _ _), (19, .int _ _)] ⟨rfl, rfl, rfl, rfl, rfl, trivial⟩ fun σ => ?_
            refine greg ?_
            refine gop (y_add rfl rfl ⟨by omega, by omega⟩) rfl rfl rfl ?_
            refine gop (y_move (v := .int _ _) rfl) rfl rfl rfl ?_
            refine gops_nil ?_
            refine gnext2 ((k + 1, A44, c44, L ++ [lineTo pat (us.take j)])) (by show rs.length - (k + 1) < rs.length - k; omega) (⟨by show k + 1 ≤ _; omega, by rw [hL, hB, List.take_succ_eq_append_getElem (show k < (rls rs).length by simpa using hk1), List.map_append]; simp [hrk]⟩) ⟨rfl, rfl, trivial⟩ ⟨rfl, rfl, rfl, trivial⟩ ⟨_, rfl⟩
      · 
        replace hc20 := of_decide_eq_false hc20
        have hfin : L = formatV (rls rs) := by rw [hL, formatV, if_pos hc15, List.take_of_length_le (by simp; omega)]
        refine gexit ?_
        refine hN7 _ _ ?_
        refine gfrom [(3, .pointer _), (5, .slice Av _ cv)] ⟨rfl, rfl, trivial⟩ fun σ => ?_
        refine gseq fun N20 hN20 => ?_
        refine greg ?_
        refine gop (y_move (v := .slice Av _ cv) rfl) rfl rfl rfl ?_
        refine gop (y_build (vs := []) (cells := #[.int .i64 0, .int .i64 0]) rfl bd23_) rfl rfl rfl ?_
        refine gop (y_assign (v := .slice Av _ cv) rfl) rfl rfl rfl ?_
        refine gop_store 0 (v := .agg #[_, _]) (cs' := #[_, _]) rfl rfl Tryd.sizeOf23 rfl rfl rfl rfl (Nat.le_of_ble_eq_true rfl) rfl rfl ?_
        refine gops_nil ?_
        refine hN20 _ _ ?_
        refine gT [box b3 _, box b4 _, rowl _ _ _ _ _ _] rfl ?_
        refine gfrom [(2, .slice Av _ cv), (3, .pointer _)] ⟨rfl, rfl, trivial⟩ fun σ => ?_
        refine gret fun w1 hM => ?_
        refine ⟨_, res2 rfl (rt (v := .slice Av _ cv) rfl) (rc 0 (cs := [_, _]) hM rfl rfl Tryd.isAgg23 Tryd.sizeOf23 rfl), ?_⟩
        exact ⟨_, _, by rw [hc15], by rw [← hfin]; rfl, hM.dropTo 2 rfl⟩
end Go.Proofs.YtijpaljdclhehaaDoor
namespace Go.Proofs.YtijpaljdclhehaaDoor
open Go.RowKit Go.Cf
set_option maxRecDepth 10000
set_option maxHeartbeats 1000000 in
theorem indexI_any (w : World) (A : Option Addr) (c : Nat) (l : List Int) (hl : Rdl w 0 1 intCells A l) (hn : l.length ≤ maxLen) (x : Int) : Calls Tryd.prog 94 #[.slice A l.length c, .int .i64 x] w fun e w' => e = .returned (.int .i64 (idxP (fun y => decide (x = y)) l)) ∧ Below w.heap.size w w' := by
  unfold maxLen at hn
  refine gcalls Tryd.func94 rfl Tryd.ntmps94 (Nat.le_of_ble_eq_true rfl) ?_
  refine gfrom [(0, .slice _ _ _), (1, .int _ _)] ⟨rfl, rfl, trivial⟩ fun σ => ?_
  refine gseq fun N1 hN1 => ?_
  refine greg ?_
  refine gop (y_assign (v := .int _ _) rfl) rfl rfl rfl ?_
  refine gops_nil ?_
  refine hN1 _ _ ?_
  refine gfrom [(0, .slice _ _ _), (1, .int _ _)] ⟨rfl, rfl, trivial⟩ fun σ => ?_
  refine gseq fun N2 hN2 => ?_
  refine gseq fun N3 hN3 => ?_
  refine greg ?_
  refine gop (y_move (v := .slice _ _ _) rfl) rfl rfl rfl ?_
  refine gop (y_len Tryd.underlying30 rfl) rfl rfl rfl ?_
  refine gop (y_move (v := .int _ _) rfl) rfl rfl rfl ?_
  refine gops_nil ?_
  refine hN3 _ _ ?_
  refine gfrom [(0, .slice _ _ _), (1, .int _ _), (7, .int _ _), (8, .int _ _)] ⟨rfl, rfl, rfl, rfl, trivial⟩ fun σ => ?_
  refine gblock ?_
  refine gfrom2 [(8, .int _ _)] [(0, .slice _ _ _), (1, .int _ _), (7, .int _ _)] ⟨rfl, trivial⟩ ⟨rfl, rfl, rfl, trivial⟩ fun σ => ?_
  refine gloop2 (G := Nat) (fun k => k ≤ l.length ∧ ∀ j (h : j < l.length), j < k → decide (x = l[j]) = false) (fun k => l.length - k) (fun k => [(8, .int .i64 (k : Int))]) (fun k => []) (0) ?h0 ⟨rfl, trivial⟩ ⟨rfl, rfl, rfl, trivial⟩ rfl ?round
  case h0 => exact ⟨Nat.zero_le _, fun _ _ h => absurd h (by omega)⟩
  case round =>
    intro k hφ σ
    obtain ⟨hk, hz⟩ := hφ
    refine gseq fun N4 hN4 => ?_
    refine greg ?_
    refine gop (y_lss rfl rfl) rfl rfl rfl ?_
    refine gops_nil ?_
    refine hN4 _ _ ?_
    refine gfrom [(0, .slice _ _ _), (1, .int _ _), (7, .int _ _), (8, .int _ _), (9, .bool _)] ⟨rfl, rfl, rfl, rfl, rfl, trivial⟩ fun σ => ?_
    refine gseq fun N5 hN5 => ?_
    refine gcond (b := _) rfl (fun hc9 => ?_) (fun hc9 => ?_)
    · 
      replace hc9 := of_decide_eq_true hc9
      have hk1 : k < l.length := by omega
      obtain ⟨ad, rfl, -, hca⟩ := hl.at_ hk1
      refine gskip ?_
      refine hN5 _ _ ?_
      refine gfrom [(0, .slice _ _ _), (1, .int _ _), (7, .int _ _), (8, .int _ _)] ⟨rfl, rfl, rfl, rfl, trivial⟩ fun σ => ?_
      refine gseq fun N6 hN6 => ?_
      refine gblock ?_
      refine gseq fun N7 hN7 => ?_
      refine greg ?_
      refine gop (y_move (v := .int _ _) rfl) rfl rfl rfl ?_
      refine gop (y_assign (v := .int _ _) rfl) rfl rfl rfl ?_
      refine gops_nil ?_
      refine hN7 _ _ ?_
      refine gfrom [(0, .slice _ _ _), (1, .int _ _), (5, .int _ _), (7, .int _ _), (8, .int _ _)] ⟨rfl, rfl, rfl, rfl, rfl, trivial⟩ fun σ => ?_
      refine gseq fun N8 hN8 => ?_
      refine greg ?_
      refine gop (y_move (v := .int _ _) rfl) rfl rfl rfl ?_
      refine gop (y_move (v := .slice _ _ _) rfl) rfl rfl rfl ?_
      refine gop (y_move (v := .int _ _) rfl) rfl rfl rfl ?_
      refine gop (y_indexAddr (m := k) Tryd.underlying30 Tryd.sizeOf3 rfl rfl (by omega) (by omega) (by omega)) rfl rfl rfl ?_
      refine gop (y_load Tryd.isAgg3 rfl (cell_base (hca 0 _ rfl))) rfl rfl rfl ?_
      refine gop (y_eql rfl rfl) rfl rfl rfl ?_
      refine gops_nil ?_
      refine hN8 _ _ ?_
      refine gfrom [(0, .slice _ _ _), (1, .int _ _), (5, .int _ _), (7, .int _ _), (8, .int _ _), (16, .bool _)] ⟨rfl, rfl, rfl, rfl, rfl, rfl, trivial⟩ fun σ => ?_
      refine gcond (b := _) rfl (fun hc16 => ?_) (fun hc16 => ?_)
      · 
        replace hc16 := of_decide_eq_true hc16
        refine gseq fun N9 hN9 => ?_
        refine greg ?_
        refine gop (y_move (v := .int _ _) rfl) rfl rfl rfl ?_
        refine gop (y_assign (v := .int _ _) rfl) rfl rfl rfl ?_
        refine gops_nil ?_
        refine hN9 _ _ ?_
        refine gfrom [(4, .int _ _)] ⟨rfl, trivial⟩ fun σ => ?_
        refine gret fun w1 hM => ?_
        refine ⟨_, res1 rfl (rt (v := .int _ _) rfl), ?_⟩
        exact ⟨by rw [idxP_hit (p := fun y => decide (x = y)) hk1 hz (decide_eq_true hc16)], hM.low⟩
      · 
        replace hc16 := of_decide_eq_false hc16
        refine gskip ?_
        refine hN6 _ _ ?_
        refine gfrom [(0, .slice _ _ _), (1, .int _ _), (7, .int _ _), (8, .int _ _)] ⟨rfl, rfl, rfl, rfl, trivial⟩ fun σ => ?_
        refine greg ?_
        refine gop (y_add rfl rfl ⟨by omega, by omega⟩) rfl rfl rfl ?_
        refine gop (y_move (v := .int _ _) rfl) rfl rfl rfl ?_
        refine gops_nil ?_
        refine gnext2 (k + 1) (by omega) (⟨by omega, fun j h hj => by rcases Nat.lt_succ_iff_lt_or_eq.1 hj with h1 | rfl; exact hz j h h1; exact decide_eq_false hc16⟩) ⟨rfl, trivial⟩ ⟨rfl, rfl, rfl, trivial⟩ ⟨_, rfl⟩
    · 
      replace hc9 := of_decide_eq_false hc9
      have hI := idxP_none (p := fun y => decide (x = y)) (l := l) (fun j hj => hz j hj (by omega))
      refine gexit ?_
      refine hN2 _ _ ?_
      refine gfrom [] trivial fun σ => ?_
      refine gseq fun N10 hN10 => ?_
      refine greg ?_
      refine gop (y_assign (v := .int _ _) rfl) rfl rfl rfl ?_
      refine gops_nil ?_
      refine hN10 _ _ ?_
      refine gfrom [(4, .int _ _)] ⟨rfl, trivial⟩ fun σ => ?_
      refine gret fun w1 hM => ?_
      refine ⟨_, res1 rfl (rt (v := .int _ _) rfl), ?_⟩
      exact ⟨by rw [hI], hM.low⟩
set_option maxHeartbeats 1000000 in
theorem containsI_any (w : World) (A : Option Addr) (c : Nat) (l : List Int) (hl : Rdl w 0 1 intCells A l) (hn : l.length ≤ maxLen) (x : Int) : Calls Tryd.prog 76 #[.slice A l.length c, .int .i64 x] w fun e w' => e = .returned (.bool (hasI l x)) ∧ Below w.heap.size w w' := by
  refine gcalls Tryd.func76 rfl Tryd.ntmps76 (Nat.le_of_ble_eq_true rfl) ?_
  refine gfrom [(0, .slice _ _ _), (1, .int _ _)] ⟨rfl, rfl, trivial⟩ fun σ => ?_
  refine gseq fun N1 hN1 => ?_
  refine greg ?_
  refine gop (y_assign (v := .bool _) rfl) rfl rfl rfl ?_
  refine gops_nil ?_
  refine hN1 _ _ ?_
  refine gfrom [(0, .slice _ _ _), (1, .int _ _)] ⟨rfl, rfl, trivial⟩ fun σ => ?_
  refine gseq fun N2 hN2 => ?_
  refine greg ?_
  refine gop (y_move (v := .slice _ _ _) rfl) rfl rfl rfl ?_
  refine gop (y_move (v := .int _ _) rfl) rfl rfl rfl ?_
  refine gop_pure (e_call (vs := [.slice _ _ _, .int _ _]) Tryd.func94 rfl (by kernel_rfl) rfl) (fun w hM => indexI_any w A c l (hl.base hM) hn x) rfl rfl rfl ?_
  refine gop (y_geq rfl rfl) rfl rfl rfl ?_
  refine gop (y_assign (v := .bool _) rfl) rfl rfl rfl ?_
  refine gops_nil ?_
  refine hN2 _ _ ?_
  refine gfrom [(4, .bool _)] ⟨rfl, trivial⟩ fun σ => ?_
  refine gret fun w1 hM => ?_
  refine ⟨_, res1 rfl (rt (v := .bool _) rfl), ?_⟩
  exact ⟨by rw [idxP_any]; rfl, hM.low⟩
set_option maxHeartbeats 1000000 in
theorem smaller1_any (w : World) (u : Int) (bg : Nat) (A : Option Addr) (c : Nat) (l : List Int) (hbox : w.cell? ⟨bg, 0, none⟩ = some (.slice A l.length c)) (hl : Rdl w 0 1 intCells A l) (hn : l.length ≤ maxLen) : Calls Tryd.prog 75 #[.int .i64 u, .pointer (some ⟨bg, 0, none⟩)] w fun e w' => e = .returned (.bool (!hasI l u)) ∧ Below w.heap.size w w' := by
  refine gcalls Tryd.func75 rfl Tryd.ntmps75 (Nat.le_of_ble_eq_true rfl) ?_
  refine gfrom [(0, .int _ _), (1, .pointer (some ⟨bg, 0, none⟩))] ⟨rfl, rfl, trivial⟩ fun σ => ?_
  refine gseq fun N1 hN1 => ?_
  refine greg ?_
  refine gop (y_assign (v := .bool _) rfl) rfl rfl rfl ?_
  refine gops_nil ?_
  refine hN1 _ _ ?_
  refine gfrom [(0, .int _ _), (1, .pointer (some ⟨bg, 0, none⟩))] ⟨rfl, rfl, trivial⟩ fun σ => ?_
  refine gseq fun N2 hN2 => ?_
  refine greg ?_
  refine gop (y_load (v := .slice A l.length c) Tryd.isAgg30 rfl (cell_base hbox)) rfl rfl rfl ?_
  refine gop (y_move (v := .int _ _) rfl) rfl rfl rfl ?_
  refine gop_pure (e_call (vs := [.slice _ _ _, .int _ _]) Tryd.func76 rfl (by kernel_rfl) rfl) (fun w hM => containsI_any w A c l (hl.base hM) hn u) rfl rfl rfl ?_
  refine gop (y_not rfl) rfl rfl rfl ?_
  refine gop (y_assign (v := .bool _) rfl) rfl rfl rfl ?_
  refine gops_nil ?_
  refine hN2 _ _ ?_
  refine gfrom [(3, .bool _)] ⟨rfl, trivial⟩ fun σ => ?_
  refine gret fun w1 hM => ?_
  refine ⟨_, res1 rfl (rt (v := .bool _) rfl), ?_⟩
  exact ⟨rfl, hM.low⟩
set_option maxHeartbeats 1000000 in
theorem idxFuncI_any (w : World) (A : Option Addr) (c : Nat) (l : List Int) (hl : Rdl w 0 1 intCells A l) (hn : l.length ≤ maxLen) (gf : FuncId) (fn : Func) (hgf : Tryd.prog.funcs[gf]? = some fn) (hgb : fn.body.isSome = true) (hgn : (fn.name == "runtime.NumGoroutine") = false) (cs : List Value) (p : Int → Bool) (hcl : ∀ k (h : k < l.length) w1, Below w.heap.size w w1 → Calls Tryd.prog gf (([.int .i64 l[k]] : List Value) ++ cs).toArray w1 (fun e w2 => e = .returned (.bool (p l[k])) ∧ Below w1.heap.size w1 w2)) : Calls Tryd.prog 93 #[.slice A l.length c, .func (.func gf) #[] cs.toArray] w fun e w' => e = .returned (.int .i64 (idxP p l)) ∧ Below w.heap.size w w' := by
  unfold maxLen at hn
  refine gcalls Tryd.func93 rfl Tryd.ntmps93 (Nat.le_of_ble_eq_true rfl) ?_
  refine gfrom [(0, .slice _ _ _), (1, .func (.func gf) #[] cs.toArray)] ⟨rfl, rfl, trivial⟩ fun σ => ?_
  refine gseq fun N1 hN1 => ?_
  refine greg ?_
  refine gop (y_assign (v := .int _ _) rfl) rfl rfl rfl ?_
  refine gops_nil ?_
  refine hN1 _ _ ?_
  refine gfrom [(0, .slice _ _ _), (1, .func (.func gf) #[] cs.toArray)] ⟨rfl, rfl, trivial⟩ fun σ => ?_
  refine gseq fun N2 hN2 => ?_
  refine gseq fun N3 hN3 => ?_
  refine greg ?_
  refine gop (y_move (v := .slice _ _ _) rfl) rfl rfl rfl ?_
  refine gop (y_len Tryd.underlying30 rfl) rfl rfl rfl ?_
  refine gop (y_move (v := .int _ _) rfl) rfl rfl rfl ?_
  refine gops_nil ?_
  refine hN3 _ _ ?_
  refine gfrom [(0, .slice _ _ _), (1, .func (.func gf) #[] cs.toArray), (7, .int _ _), (8, .int _ _)] ⟨rfl, rfl, rfl, rfl, trivial⟩ fun σ => ?_
  refine gblock ?_
  refine gfrom2 [(8, .int _ _)] [(0, .slice _ _ _), (1, .func (.func gf) #[] cs.toArray), (7, .int _ _)] ⟨rfl, trivial⟩ ⟨rfl, rfl, rfl, trivial⟩ fun σ => ?_
  refine gloop2 (G := Nat) (fun k => k ≤ l.length ∧ ∀ j (h : j < l.length), j < k → p l[j] = false) (fun k => l.length - k) (fun k => [(8, .int .i64 (k : Int))]) (fun k => []) (0) ?h0 ⟨rfl, trivial⟩ ⟨rfl, rfl, rfl, trivial⟩ rfl ?round
  case h0 => exact ⟨Nat.zero_le _, fun _ _ h => absurd h (by omega)⟩
  case round =>
    intro k hφ σ
    obtain ⟨hk, hz⟩ := hφ
    refine gseq fun N4 hN4 => ?_
    refine greg ?_
    refine gop (y_lss rfl rfl) rfl rfl rfl ?_
    refine gops_nil ?_
    refine hN4 _ _ ?_
    refine gfrom [(0, .slice _ _ _), (1, .func (.func gf) #[] cs.toArray), (7, .int _ _), (8, .int _ _), (9, .bool _)] ⟨rfl, rfl, rfl, rfl, rfl, trivial⟩ fun σ => ?_
    refine gseq fun N5 hN5 => ?_
    refine gcond (b := _) rfl (fun hc9 => ?_) (fun hc9 => ?_)
    · 
      replace hc9 := of_decide_eq_true hc9
      have hk1 : k < l.length := by omega
      obtain ⟨ad, rfl, -, hca⟩ := hl.at_ hk1
      refine gskip ?_
      refine hN5 _ _ ?_
      refine gfrom [(0, .slice _ _ _), (1, .func (.func gf) #[] cs.toArray), (7, .int _ _), (8, .int _ _)] ⟨rfl, rfl, rfl, rfl, trivial⟩ fun σ => ?_
      refine gseq fun N6 hN6 => ?_
      refine gblock ?_
      refine gseq fun N7 hN7 => ?_
      refine greg ?_
      refine gop (y_move (v := .int _ _) rfl) rfl rfl rfl ?_
      refine gop (y_assign (v := .int _ _) rfl) rfl rfl rfl ?_
      refine gops_nil ?_
      refine hN7 _ _ ?_
      refine gfrom [(0, .slice _ _ _), (1, .func (.func gf) #[] cs.toArray), (5, .int _ _), (7, .int _ _), (8, .int _ _)] ⟨rfl, rfl, rfl, rfl, rfl, trivial⟩ fun σ => ?_
      refine gseq fun N8 hN8 => ?_
      refine greg ?_
      refine gop (y_move (v := .func (.func gf) #[] cs.toArray) rfl) rfl rfl rfl ?_
      refine gop (y_move (v := .slice _ _ _) rfl) rfl rfl rfl ?_
      refine gop (y_move (v := .int _ _) rfl) rfl rfl rfl ?_
      refine gop (y_indexAddr (m := k) Tryd.underlying30 Tryd.sizeOf3 rfl rfl (by omega) (by omega) (by omega)) rfl rfl rfl ?_
      refine gop (y_load Tryd.isAgg3 rfl (cell_base (hca 0 _ rfl))) rfl rfl rfl ?_
      refine gop_pure (e_callv (vs := [.int _ _]) (cs := cs) rfl hgf hgb hgn rfl) (fun w hM => hcl k hk1 w hM.low) rfl rfl rfl ?_
      refine gops_nil ?_
      refine hN8 _ _ ?_
      refine gfrom [(0, .slice _ _ _), (1, .func (.func gf) #[] cs.toArray), (5, .int _ _), (7, .int _ _), (8, .int _ _), (16, .bool _)] ⟨rfl, rfl, rfl, rfl, rfl, rfl, trivial⟩ fun σ => ?_
      refine gcond (b := _) rfl (fun hc16 => ?_) (fun hc16 => ?_)
      · 
        refine gseq fun N9 hN9 => ?_
        refine greg ?_
        refine gop (y_move (v := .int _ _) rfl) rfl rfl rfl ?_
        refine gop (y_assign (v := .int _ _) rfl) rfl rfl rfl ?_
        refine gops_nil ?_
        refine hN9 _ _ ?_
        refine gfrom [(4, .int _ _)] ⟨rfl, trivial⟩ fun σ => ?_
        refine gret fun w1 hM => ?_
        refine ⟨_, res1 rfl (rt (v := .int _ _) rfl), ?_⟩
        exact ⟨by rw [idxP_hit (p := p) hk1 hz hc16], hM.low⟩
      · 
        refine gskip ?_
        refine hN6 _ _ ?_
        refine gfrom [(0, .slice _ _ _), (1, .func (.func gf) #[] cs.toArray), (7, .int _ _), (8, .int _ _)] ⟨rfl, rfl, rfl, rfl, trivial⟩ fun σ => ?_
        refine greg ?_
        refine gop (y_add rfl rfl ⟨by omega, by omega⟩) rfl rfl rfl ?_
        refine gop (y_move (v := .int _ _) rfl) rfl rfl rfl ?_
        refine gops_nil ?_
        refine gnext2 (k + 1) (by omega) (⟨by omega, fun j h hj => by rcases Nat.lt_succ_iff_lt_or_eq.1 hj with h1 | rfl; exact hz j h h1; exact hc16⟩) ⟨rfl, trivial⟩ ⟨rfl, rfl, rfl, trivial⟩ ⟨_, rfl⟩
    · 
      replace hc9 := of_decide_eq_false hc9
      have hI := idxP_none (p := p) (l := l) (fun j hj => hz j hj (by omega))
      refine gexit ?_
      refine hN2 _ _ ?_
      refine gfrom [] trivial fun σ => ?_
      refine gseq fun N10 hN10 => ?_
      refine greg ?_
      refine gop (y_assign (v := .int _ _) rfl) rfl rfl rfl ?_
      refine gops_nil ?_
      refine hN10 _ _ ?_
      refine gfrom [(4, .int _ _)] ⟨rfl, trivial⟩ fun σ => ?_
      refine gret fun w1 hM => ?_
      refine ⟨_, res1 rfl (rt (v := .int _ _) rfl), ?_⟩
      exact ⟨by rw [hI], hM.low⟩
set_option maxHeartbeats 1000000 in
theorem contFuncI_any (w : World) (A : Option Addr) (c : Nat) (l : List Int) (hl : Rdl w 0 1 intCells A l) (hn : l.length ≤ maxLen) (gf : FuncId) (fn : Func) (hgf : Tryd.prog.funcs[gf]? = some fn) (hgb : fn.body.isSome = true) (hgn : (fn.name == "runtime.NumGoroutine") = false) (cs : List Value) (p : Int → Bool) (hcl : ∀ k (h : k < l.length) w1, Below w.heap.size w w1 → Calls Tryd.prog gf (([.int .i64 l[k]] : List Value) ++ cs).toArray w1 (fun e w2 => e = .returned (.bool (p l[k])) ∧ Below w1.heap.size w1 w2)) : Calls Tryd.prog 74 #[.slice A l.length c, .func (.func gf) #[] cs.toArray] w fun e w' => e = .returned (.bool (l.any p)) ∧ Below w.heap.size w w' := by
  refine gcalls Tryd.func74 rfl Tryd.ntmps74 (Nat.le_of_ble_eq_true rfl) ?_
  refine gfrom [(0, .slice _ _ _), (1, .func (.func gf) #[] cs.toArray)] ⟨rfl, rfl, trivial⟩ fun σ => ?_
  refine gseq fun N1 hN1 => ?_
  refine greg ?_
  refine gop (y_assign (v := .bool _) rfl) rfl rfl rfl ?_
  refine gops_nil ?_
  refine hN1 _ _ ?_
  refine gfrom [(0, .slice _ _ _), (1, .func (.func gf) #[] cs.toArray)] ⟨rfl, rfl, trivial⟩ fun σ => ?_
  refine gseq fun N2 hN2 => ?_
  refine greg ?_
  refine gop (y_move (v := .slice _ _ _) rfl) rfl rfl rfl ?_
  refine gop (y_move (v := .func (.func gf) #[] cs.toArray) rfl) rfl rfl rfl ?_
  refine gop_pure (e_call (vs := [.slice _ _ _, .func (.func gf) #[] cs.toArray]) Tryd.func93 rfl (by kernel_rfl) rfl) (fun w hM => idxFuncI_any w A c l (hl.base hM) hn gf fn hgf hgb hgn cs p (fun k hk w1 hb => hcl k hk w1 (hM.call hb).low)) rfl rfl rfl ?_
  refine gop (y_geq rfl rfl) rfl rfl rfl ?_
  refine gop (y_assign (v := .bool _) rfl) rfl rfl rfl ?_
  refine gops_nil ?_
  refine hN2 _ _ ?_
  refine gfrom [(4, .bool _)] ⟨rfl, trivial⟩ fun σ => ?_
  refine gret fun w1 hM => ?_
  refine ⟨_, res1 rfl (rt (v := .bool _) rfl), ?_⟩
  exact ⟨by rw [idxP_any], hM.low⟩
set_option maxHeartbeats 1000000 in
theorem equalI_any (w : World) (A : Option Addr) (c : Nat) (a : List Int) (ha : Rdl w 0 1 intCells A a) (han : a.length ≤ maxLen) (B : Option Addr) (d : Nat) (b : List Int) (hb : Rdl w 0 1 intCells B b) (hbn : b.length ≤ maxLen) : Calls Tryd.prog 52 #[.slice A a.length c, .slice B b.length d] w fun e w' => e = .returned (.bool (decide (a = b))) ∧ Below w.heap.size w w' := by
  unfold maxLen at han hbn
  refine gcalls Tryd.func52 rfl Tryd.ntmps52 (Nat.le_of_ble_eq_true rfl) ?_
  refine gfrom [(0, .slice _ _ _), (1, .slice _ _ _)] ⟨rfl, rfl, trivial⟩ fun σ => ?_
  refine gseq fun N1 hN1 => ?_
  refine greg ?_
  refine gop (y_assign (v := .bool _) rfl) rfl rfl rfl ?_
  refine gops_nil ?_
  refine hN1 _ _ ?_
  refine gfrom [(0, .slice _ _ _), (1, .slice _ _ _)] ⟨rfl, rfl, trivial⟩ fun σ => ?_
  refine gseq fun N2 hN2 => ?_
  refine gseq fun N3 hN3 => ?_
  refine greg ?_
  refine gop (y_move (v := .slice _ _ _) rfl) rfl rfl rfl ?_
  refine gop (y_len Tryd.underlying30 rfl) rfl rfl rfl ?_
  refine gop (y_move (v := .slice _ _ _) rfl) rfl rfl rfl ?_
  refine gop (y_len Tryd.underlying30 rfl) rfl rfl rfl ?_
  refine gop (y_neq rfl rfl) rfl rfl rfl ?_
  refine gops_nil ?_
  refine hN3 _ _ ?_
  refine gfrom [(0, .slice _ _ _), (1, .slice _ _ _), (10, .bool _)] ⟨rfl, rfl, rfl, trivial⟩ fun σ => ?_
  refine gcond (b := _) rfl (fun hc10 => ?_) (fun hc10 => ?_)
  · 
    replace hc10 := of_decide_eq_true hc10
    refine gseq fun N4 hN4 => ?_
    refine greg ?_
    refine gop (y_assign (v := .bool _) rfl) rfl rfl rfl ?_
    refine gops_nil ?_
    refine hN4 _ _ ?_
    refine gfrom [(4, .bool _)] ⟨rfl, trivial⟩ fun σ => ?_
    refine gret fun w1 hM => ?_
    refine ⟨_, res1 rfl (rt (v := .bool _) rfl), ?_⟩
    exact ⟨by rw [decide_eq_false (fun e => by subst e; omega)], hM.low⟩
  · 
    replace hc10 := Decidable.not_not.1 (of_decide_eq_false hc10)
    refine gskip ?_
    refine hN2 _ _ ?_
    refine gfrom [(0, .slice _ _ _), (1, .slice _ _ _)] ⟨rfl, rfl, trivial⟩ fun σ => ?_
    refine gseq fun N5 hN5 => ?_
    refine gseq fun N6 hN6 => ?_
    refine greg ?_
    refine gop (y_move (v := .slice _ _ _) rfl) rfl rfl rfl ?_
    refine gop (y_len Tryd.underlying30 rfl) rfl rfl rfl ?_
    refine gop (y_move (v := .int _ _) rfl) rfl rfl rfl ?_
    refine gops_nil ?_
    refine hN6 _ _ ?_
    refine gfrom [(0, .slice _ _ _), (1, .slice _ _ _), (12, .int _ _), (13, .int _ _)] ⟨rfl, rfl, rfl, rfl, trivial⟩ fun σ => ?_
    refine gblock ?_
    refine gfrom2 [(13, .int _ _)] [(0, .slice _ _ _), (1, .slice _ _ _), (12, .int _ _)] ⟨rfl, trivial⟩ ⟨rfl, rfl, rfl, trivial⟩ fun σ => ?_
    refine gloop2 (G := Nat) (fun k => k ≤ a.length ∧ a.length = b.length ∧ a.take k = b.take k) (fun k => a.length - k) (fun k => [(13, .int .i64 (k : Int))]) (fun k => []) (0) ?h0 ⟨rfl, trivial⟩ ⟨rfl, rfl, rfl, trivial⟩ rfl ?round
    case h0 => exact ⟨Nat.zero_le _, by omega, by simp⟩
    case round =>
      intro k hφ σ
      obtain ⟨hk, hlm, htk⟩ := hφ
      refine gseq fun N7 hN7 => ?_
      refine greg ?_
      refine gop (y_lss rfl rfl) rfl rfl rfl ?_
      refine gops_nil ?_
      refine hN7 _ _ ?_
      refine gfrom [(0, .slice _ _ _), (1, .slice _ _ _), (12, .int _ _), (13, .int _ _), (14, .bool _)] ⟨rfl, rfl, rfl, rfl, rfl, trivial⟩ fun σ => ?_
      refine gseq fun N8 hN8 => ?_
      refine gcond (b := _) rfl (fun hc14 => ?_) (fun hc14 => ?_)
      · 
        replace hc14 := of_decide_eq_true hc14
        have hk1 : k < a.length := by omega
        have hk2 : k < b.length := by omega
        obtain ⟨ad, rfl, -, hca⟩ := ha.at_ hk1
        obtain ⟨ad', rfl, -, hcb⟩ := hb.at_ hk2
        refine gskip ?_
        refine hN8 _ _ ?_
        refine gfrom [(0, .slice _ _ _), (1, .slice _ _ _), (12, .int _ _), (13, .int _ _)] ⟨rfl, rfl, rfl, rfl, trivial⟩ fun σ => ?_
        refine gseq fun N9 hN9 => ?_
        refine gblock ?_
        refine gseq fun N10 hN10 => ?_
        refine greg ?_
        refine gop (y_move (v := .int _ _) rfl) rfl rfl rfl ?_
        refine gop (y_assign (v := .int _ _) rfl) rfl rfl rfl ?_
        refine gops_nil ?_
        refine hN10 _ _ ?_
        refine gfrom [(0, .slice _ _ _), (1, .slice _ _ _), (5, .int _ _), (12, .int _ _), (13, .int _ _)] ⟨rfl, rfl, rfl, rfl, rfl, trivial⟩ fun σ => ?_
        refine gseq fun N11 hN11 => ?_
        refine greg_q (by kernel_rfl) (by kernel_rfl) ?_
        refine gq (y_move (v := .slice _ _ _) rfl) rfl rfl rfl ?_
        refine gq (y_move (v := .int _ _) rfl) rfl rfl rfl ?_
        refine gq (y_indexAddr (m := k) Tryd.underlying30 Tryd.sizeOf3 rfl rfl (by omega) (by omega) (by omega)) rfl rfl rfl ?_
        refine gq (y_load Tryd.isAgg3 rfl (cell_base (hca 0 _ rfl))) rfl rfl rfl ?_
        refine gq (y_move (v := .slice _ _ _) rfl) rfl rfl rfl ?_
        refine gq (y_move (v := .int _ _) rfl) rfl rfl rfl ?_
        refine gq (y_indexAddr (m := k) Tryd.underlying30 Tryd.sizeOf3 rfl rfl (by omega) (by omega) (by omega)) rfl rfl rfl ?_
        refine gq (y_load Tryd.isAgg3 rfl (cell_base (hcb 0 _ rfl))) rfl rfl rfl ?_
        refine gq (y_neq rfl rfl) rfl rfl rfl ?_
        refine gqs_nil ?_
        refine hN11 _ _ ?_
        refine gfrom [(0, .slice _ _ _), (1, .slice _ _ _), (12, .int _ _), (13, .int _ _), (24, .bool _)] ⟨rfl, rfl, rfl, rfl, rfl, trivial⟩ fun σ => ?_
        refine gcond (b := _) rfl (fun hc24 => ?_) (fun hc24 => ?_)
        · 
          replace hc24 := of_decide_eq_true hc24
          refine gseq fun N12 hN12 => ?_
          refine greg ?_
          refine gop (y_assign (v := .bool _) rfl) rfl rfl rfl ?_
          refine gops_nil ?_
          refine hN12 _ _ ?_
          refine gfrom [(4, .bool _)] ⟨rfl, trivial⟩ fun σ => ?_
          refine gret fun w1 hM => ?_
          refine ⟨_, res1 rfl (rt (v := .bool _) rfl), ?_⟩
          exact ⟨by rw [decide_eq_false (ne_of_at hk1 hk2 hc24)], hM.low⟩
        · 
          replace hc24 := Decidable.not_not.1 (of_decide_eq_false hc24)
          refine gskip ?_
          refine hN9 _ _ ?_
          refine gfrom [(0, .slice _ _ _), (1, .slice _ _ _), (12, .int _ _), (13, .int _ _)] ⟨rfl, rfl, rfl, rfl, trivial⟩ fun σ => ?_
          refine greg ?_
          refine gop (y_add rfl rfl ⟨by omega, by omega⟩) rfl rfl rfl ?_
          refine gop (y_move (v := .int _ _) rfl) rfl rfl rfl ?_
          refine gops_nil ?_
          refine gnext2 (k + 1) (by omega) (⟨by omega, hlm, take_next a b k (by omega) (by omega) htk hc24⟩) ⟨rfl, trivial⟩ ⟨rfl, rfl, rfl, trivial⟩ ⟨_, rfl⟩
      · 
        replace hc14 := of_decide_eq_false hc14
        refine gexit ?_
        refine hN5 _ _ ?_
        refine gfrom [] trivial fun σ => ?_
        refine gseq fun N13 hN13 => ?_
        refine greg ?_
        refine gop (y_assign (v := .bool _) rfl) rfl rfl rfl ?_
        refine gops_nil ?_
        refine hN13 _ _ ?_
        refine gfrom [(4, .bool _)] ⟨rfl, trivial⟩ fun σ => ?_
        refine gret fun w1 hM => ?_
        refine ⟨_, res1 rfl (rt (v := .bool _) rfl), ?_⟩
        exact ⟨by rw [decide_eq_true (eq_of_takes hlm (by omega) htk)], hM.low⟩
set_option maxHeartbeats 1000000 in
theorem idxFuncG_any (w : World) (A : Option Addr) (c : Nat) (l : List GroupC) (hl : Rdl w 0 1 gpCells A l) (hn : l.length ≤ maxLen) (gf : FuncId) (fn : Func) (hgf : Tryd.prog.funcs[gf]? = some fn) (hgb : fn.body.isSome = true) (hgn : (fn.name == "runtime.NumGoroutine") = false) (cs : List Value) (p : List Int → Bool) (hcl : ∀ k (h : k < l.length) w1, Below w.heap.size w w1 → Calls Tryd.prog gf (([.slice l[k].A l[k].pl.length l[k].c] : List Value) ++ cs).toArray w1 (fun e w2 => e = .returned (.bool (p l[k].pl)) ∧ Below w1.heap.size w1 w2)) : Calls Tryd.prog 77 #[.slice A l.length c, .func (.func gf) #[] cs.toArray] w fun e w' => e = .returned (.int .i64 (idxP (fun a => p a.pl) l)) ∧ Below w.heap.size w w' := by
  unfold maxLen at hn
  refine gcalls Tryd.func77 rfl Tryd.ntmps77 (Nat.le_of_ble_eq_true rfl) ?_
  refine gfrom [(0, .slice _ _ _), (1, .func (.func gf) #[] cs.toArray)] ⟨rfl, rfl, trivial⟩ fun σ => ?_
  refine gseq fun N1 hN1 => ?_
  refine greg ?_
  refine gop (y_assign (v := .int _ _) rfl) rfl rfl rfl ?_
  refine gops_nil ?_
  refine hN1 _ _ ?_
  refine gfrom [(0, .slice _ _ _), (1, .func (.func gf) #[] cs.toArray)] ⟨rfl, rfl, trivial⟩ fun σ => ?_
  refine gseq fun N2 hN2 => ?_
  refine gseq fun N3 hN3 => ?_
  refine greg ?_
  refine gop (y_move (v := .slice _ _ _) rfl) rfl rfl rfl ?_
  refine gop (y_len Tryd.underlying44 rfl) rfl rfl rfl ?_
  refine gop (y_move (v := .int _ _) rfl) rfl rfl rfl ?_
  refine gops_nil ?_
  refine hN3 _ _ ?_
  refine gfrom [(0, .slice _ _ _), (1, .func (.func gf) #[] cs.toArray), (7, .int _ _), (8, .int _ _)] ⟨rfl, rfl, rfl, rfl, trivial⟩ fun σ => ?_
  refine gblock ?_
  refine gfrom2 [(8, .int _ _)] [(0, .slice _ _ _), (1, .func (.func gf) #[] cs.toArray), (7, .int _ _)] ⟨rfl, trivial⟩ ⟨rfl, rfl, rfl, trivial⟩ fun σ => ?_
  refine gloop2 (G := Nat) (fun k => k ≤ l.length ∧ ∀ j (h : j < l.length), j < k → p l[j].pl = false) (fun k => l.length - k) (fun k => [(8, .int .i64 (k : Int))]) (fun k => []) (0) ?h0 ⟨rfl, trivial⟩ ⟨rfl, rfl, rfl, trivial⟩ rfl ?round
  case h0 => exact ⟨Nat.zero_le _, fun _ _ h => absurd h (by omega)⟩
  case round =>
    intro k hφ σ
    obtain ⟨hk, hz⟩ := hφ
    refine gseq fun N4 hN4 => ?_
    refine greg ?_
    refine gop (y_lss rfl rfl) rfl rfl rfl ?_
    refine gops_nil ?_
    refine hN4 _ _ ?_
    refine gfrom [(0, .slice _ _ _), (1, .func (.func gf) #[] cs.toArray), (7, .int _ _), (8, .int _ _), (9, .bool _)] ⟨rfl, rfl, rfl, rfl, rfl, trivial⟩ fun σ => ?_
    refine gseq fun N5 hN5 => ?_
    refine gcond (b := _) rfl (fun hc9 => ?_) (fun hc9 => ?_)
    · 
      replace hc9 := of_decide_eq_true hc9
      have hk1 : k < l.length := by omega
      obtain ⟨ad, rfl, -, hca⟩ := hl.at_ hk1
      refine gskip ?_
      refine hN5 _ _ ?_
      refine gfrom [(0, .slice _ _ _), (1, .func (.func gf) #[] cs.toArray), (7, .int _ _), (8, .int _ _)] ⟨rfl, rfl, rfl, rfl, trivial⟩ fun σ => ?_
      refine gseq fun N6 hN6 => ?_
      refine gblock ?_
      refine gseq fun N7 hN7 => ?_
      refine greg ?_
      refine gop (y_move (v := .int _ _) rfl) rfl rfl rfl ?_
      refine gop (y_assign (v := .int _ _) rfl) rfl rfl rfl ?_
      refine gops_nil ?_
      refine hN7 _ _ ?_
      refine gfrom [(0, .slice _ _ _), (1, .func (.func gf) #[] cs.toArray), (5, .int _ _), (7, .int _ _), (8, .int _ _)] ⟨rfl, rfl, rfl, rfl, rfl, trivial⟩ fun σ => ?_
      refine gseq fun N8 hN8 => ?_
      refine greg ?_
      refine gop (y_move (v := .func (.func gf) #[] cs.toArray) rfl) rfl rfl rfl ?_
      refine gop (y_move (v := .slice _ _ _) rfl) rfl rfl rfl ?_
      refine gop (y_move (v := .int _ _) rfl) rfl rfl rfl ?_
      refine gop (y_indexAddr (m := k) Tryd.underlying44 Tryd.sizeOf30 rfl rfl (by omega) (by omega) (by omega)) rfl rfl rfl ?_
      refine gop (y_load Tryd.isAgg30 rfl (cell_base (hca 0 _ rfl))) rfl rfl rfl ?_
      refine gop_pure (e_callv (vs := [.slice _ _ _]) (cs := cs) rfl hgf hgb hgn rfl) (fun w hM => hcl k hk1 w hM.low) rfl rfl rfl ?_
      refine gops_nil ?_
      refine hN8 _ _ ?_
      refine gfrom [(0, .slice _ _ _), (1, .func (.func gf) #[] cs.toArray), (5, .int _ _), (7, .int _ _), (8, .int _ _), (16, .bool _)] ⟨rfl, rfl, rfl, rfl, rfl, rfl, trivial⟩ fun σ => ?_
      refine gcond (b := _) rfl (fun hc16 => ?_) (fun hc16 => ?_)
      · 
        refine gseq fun N9 hN9 => ?_
        refine greg ?_
        refine gop (y_move (v := .int _ _) rfl) rfl rfl rfl ?_
        refine gop (y_assign (v := .int _ _) rfl) rfl rfl rfl ?_
        refine gops_nil ?_
        refine hN9 _ _ ?_
        refine gfrom [(4, .int _ _)] ⟨rfl, trivial⟩ fun σ => ?_
        refine gret fun w1 hM => ?_
        refine ⟨_, res1 rfl (rt (v := .int _ _) rfl), ?_⟩
        exact ⟨by rw [idxP_hit (p := (fun a => p a.pl)) hk1 hz hc16], hM.low⟩
      · 
        refine gskip ?_
        refine hN6 _ _ ?_
        refine gfrom [(0, .slice _ _ _), (1, .func (.func gf) #[] cs.toArray), (7, .int _ _), (8, .int _ _)] ⟨rfl, rfl, rfl, rfl, trivial⟩ fun σ => ?_
        refine greg ?_
        refine gop (y_add rfl rfl ⟨by omega, by omega⟩) rfl rfl rfl ?_
        refine gop (y_move (v := .int _ _) rfl) rfl rfl rfl ?_
        refine gops_nil ?_
        refine gnext2 (k + 1) (by omega) (⟨by omega, fun j h hj => by rcases Nat.lt_succ_iff_lt_or_eq.1 hj with h1 | rfl; exact hz j h h1; exact hc16⟩) ⟨rfl, trivial⟩ ⟨rfl, rfl, rfl, trivial⟩ ⟨_, rfl⟩
    · 
      replace hc9 := of_decide_eq_false hc9
      have hI := idxP_none (p := (fun a => p a.pl)) (l := l) (fun j hj => hz j hj (by omega))
      refine gexit ?_
      refine hN2 _ _ ?_
      refine gfrom [] trivial fun σ => ?_
      refine gseq fun N10 hN10 => ?_
      refine greg ?_
      refine gop (y_assign (v := .int _ _) rfl) rfl rfl rfl ?_
      refine gops_nil ?_
      refine hN10 _ _ ?_
      refine gfrom [(4, .int _ _)] ⟨rfl, trivial⟩ fun σ => ?_
      refine gret fun w1 hM => ?_
      refine ⟨_, res1 rfl (rt (v := .int _ _) rfl), ?_⟩
      exact ⟨by rw [hI], hM.low⟩
set_option maxHeartbeats 1000000 in
theorem contFuncG_any (w : World) (A : Option Addr) (c : Nat) (l : List GroupC) (hl : Rdl w 0 1 gpCells A l) (hn : l.length ≤ maxLen) (n : Nat) (hnl : n = l.length) (gf : FuncId) (fn : Func) (hgf : Tryd.prog.funcs[gf]? = some fn) (hgb : fn.body.isSome = true) (hgn : (fn.name == "runtime.NumGoroutine") = false) (cs : List Value) (p : List Int → Bool) (hcl : ∀ k (h : k < l.length) w1, Below w.heap.size w w1 → Calls Tryd.prog gf (([.slice l[k].A l[k].pl.length l[k].c] : List Value) ++ cs).toArray w1 (fun e w2 => e = .returned (.bool (p l[k].pl)) ∧ Below w1.heap.size w1 w2)) : Calls Tryd.prog 55 #[.slice A n c, .func (.func gf) #[] cs.toArray] w fun e w' => e = .returned (.bool (l.any (fun a => p a.pl))) ∧ Below w.heap.size w w' := by
  subst hnl
  refine gcalls Tryd.func55 rfl Tryd.ntmps55 (Nat.le_of_ble_eq_true rfl) ?_
  refine gfrom [(0, .slice _ _ _), (1, .func (.func gf) #[] cs.toArray)] ⟨rfl, rfl, trivial⟩ fun σ => ?_
  refine gseq fun N1 hN1 => ?_
  refine greg ?_
  refine gop (y_assign (v := .bool _) rfl) rfl rfl rfl ?_
  refine gops_nil ?_
  refine hN1 _ _ ?_
  refine gfrom [(0, .slice _ _ _), (1, .func (.func gf) #[] cs.toArray)] ⟨rfl, rfl, trivial⟩ fun σ => ?_
  refine gseq fun N2 hN2 => ?_
  refine greg ?_
  refine gop (y_move (v := .slice _ _ _) rfl) rfl rfl rfl ?_
  refine gop (y_move (v := .func (.func gf) #[] cs.toArray) rfl) rfl rfl rfl ?_
  refine gop_pure (e_call (vs := [.slice _ _ _, .func (.func gf) #[] cs.toArray]) Tryd.func77 rfl (by kernel_rfl) rfl) (fun w hM => idxFuncG_any w A c l (hl.base hM) hn gf fn hgf hgb hgn cs p (fun k hk w1 hb => hcl k hk w1 (hM.call hb).low)) rfl rfl rfl ?_
  refine gop (y_geq rfl rfl) rfl rfl rfl ?_
  refine gop (y_assign (v := .bool _) rfl) rfl rfl rfl ?_
  refine gops_nil ?_
  refine hN2 _ _ ?_
  refine gfrom [(4, .bool _)] ⟨rfl, trivial⟩ fun σ => ?_
  refine gret fun w1 hM => ?_
  refine ⟨_, res1 rfl (rt (v := .bool _) rfl), ?_⟩
  exact ⟨by rw [idxP_any], hM.low⟩
set_option maxHeartbeats 1000000 in
theorem req1_any (w : World) (A : Option Addr) (c : Nat) (a : List Int) (ha : Rdl w 0 1 intCells A a) (han : a.length ≤ maxLen) (bg : Nat) (B : Option Addr) (d : Nat) (b : List Int) (hbox : w.cell? ⟨bg, 0, none⟩ = some (.slice B b.length d)) (hb : Rdl w 0 1 intCells B b) (hbn : b.length ≤ maxLen) : Calls Tryd.prog 51 #[.slice A a.length c, .pointer (some ⟨bg, 0, none⟩)] w fun e w' => e = .returned (.bool (decide (a = b))) ∧ Below w.heap.size w w' := by
  refine gcalls Tryd.func51 rfl Tryd.ntmps51 (Nat.le_of_ble_eq_true rfl) ?_
  refine gfrom [(0, .slice _ _ _), (1, .pointer (some ⟨bg, 0, none⟩))] ⟨rfl, rfl, trivial⟩ fun σ => ?_
  refine gseq fun N1 hN1 => ?_
  refine greg ?_
  refine gop (y_assign (v := .bool _) rfl) rfl rfl rfl ?_
  refine gops_nil ?_
  refine hN1 _ _ ?_
  refine gfrom [(0, .slice _ _ _), (1, .pointer (some ⟨bg, 0, none⟩))] ⟨rfl, rfl, trivial⟩ fun σ => ?_
  refine gseq fun N2 hN2 => ?_
  refine greg ?_
  refine gop (y_move (v := .slice _ _ _) rfl) rfl rfl rfl ?_
  refine gop (y_load (v := .slice B b.length d) Tryd.isAgg30 rfl (cell_base hbox)) rfl rfl rfl ?_
  refine gop_pure (e_call (vs := [.slice _ _ _, .slice _ _ _]) Tryd.func52 rfl (by kernel_rfl) rfl) (fun w hM => equalI_any w A c a (ha.base hM) han B d b (hb.base hM) hbn) rfl rfl rfl ?_
  refine gop (y_assign (v := .bool _) rfl) rfl rfl rfl ?_
  refine gops_nil ?_
  refine hN2 _ _ ?_
  refine gfrom [(3, .bool _)] ⟨rfl, trivial⟩ fun σ => ?_
  refine gret fun w1 hM => ?_
  refine ⟨_, res1 rfl (rt (v := .bool _) rfl), ?_⟩
  exact ⟨rfl, hM.low⟩
end Go.Proofs.YtijpaljdclhehaaDoor
namespace Go.Proofs.YtijpaljdclhehaaDoor
open Go.RowKit Go.Cf
set_option maxRecDepth 10000
set_option maxHeartbeats 2000000 in
theorem smaller_any (w : World) (A : Option Addr) (c : Nat) (a : List Int) (ha : Rdl w 0 1 intCells A a) (han : a.length ≤ maxLen) (B : Option Addr) (d : Nat) (b : List Int) (hb : Rdl w 0 1 intCells B b) (hbn : b.length ≤ maxLen) : Calls Tryd.prog 54 #[.slice A a.length c, .slice B b.length d] w fun e w' => e = .returned (.bool (smallerL a b)) ∧ Below w.heap.size w w' := by
  refine gcalls Tryd.func54 rfl Tryd.ntmps54 (Nat.le_of_ble_eq_true rfl) ?_
  refine gfrom [(0, .slice _ _ _), (1, .slice B _ d)] ⟨rfl, rfl, trivial⟩ fun σ => ?_
  refine gseq fun N1 hN1 => ?_
  refine greg ?_
  refine gop_box (v := .slice B _ d) (cs := #[_]) rfl rfl rfl (fun b3 hb3 => ?_)
  refine gop (y_assign (v := .bool _) rfl) rfl rfl rfl ?_
  refine gops_nil ?_
  refine hN1 _ _ ?_
  refine gT [box b3 _] rfl ?_
  refine gfrom [(0, .slice _ _ _), (3, .pointer _)] ⟨rfl, rfl, trivial⟩ fun σ => ?_
  refine gseq fun N2 hN2 => ?_
  refine greg ?_
  refine gop (y_move (v := .slice _ _ _) rfl) rfl rfl rfl ?_
  refine gop (y_len Tryd.underlying30 rfl) rfl rfl rfl ?_
  refine gop (y_gtr rfl rfl) rfl rfl rfl ?_
  refine gop (y_move (v := .bool _) rfl) rfl rfl rfl ?_
  refine gop_if (want := true) rfl rfl rfl rfl rfl rfl (fun hg8 => ?_) (fun hg8 => ?_)
  · 
    have hg8d := of_decide_eq_true hg8
    refine gop (y_bare (y_move (v := .slice _ _ _) rfl)) rfl rfl rfl ?_
    refine gop_on rfl rfl rfl rfl hg8 ?_
    refine gop (y_bare (y_len Tryd.underlying30 rfl)) rfl rfl rfl ?_
    refine gop_on rfl rfl rfl rfl hg8 ?_
    refine gop (y_bare (y_load Tryd.isAgg30 rfl (cell_box 0 rfl rfl))) rfl rfl rfl ?_
    refine gop_on rfl rfl rfl rfl hg8 ?_
    refine gop (y_bare (y_len Tryd.underlying30 rfl)) rfl rfl rfl ?_
    refine gop_on rfl rfl rfl rfl hg8 ?_
    refine gop (y_bare (y_lss rfl rfl)) rfl rfl rfl ?_
    refine gop (y_pick_t (v := .bool _) rfl hg8 rfl) rfl rfl rfl ?_
    refine gop (y_move (v := .bool _) rfl) rfl rfl rfl ?_
    refine gop_if (want := true) rfl rfl rfl rfl rfl rfl (fun hg15 => ?_) (fun hg15 => ?_)
    · 
      have hg15d := of_decide_eq_true hg15
      refine gop (y_bare (y_move (v := .slice _ _ _) rfl)) rfl rfl rfl ?_
      refine gop_on rfl rfl rfl rfl hg15 ?_
      refine gop (y_bare (y_makeFunc (vs := [.pointer (some ⟨b3, 0, none⟩)]) rfl)) rfl rfl rfl ?_
      refine gop_on rfl rfl rfl rfl hg15 ?_
      refine gop_pure (e_call (vs := [.slice _ _ _, .func (.func 75) #[] #[.pointer (some ⟨b3, 0, none⟩)]]) Tryd.func74 rfl (by kernel_rfl) rfl) (fun w hM => by have h1 : ∀ k (h : k < a.length) w1, Below w.heap.size w w1 → Calls Tryd.prog 75 (([.int .i64 a[k]] : List Value) ++ [Value.pointer (some ⟨b3, 0, none⟩)]).toArray w1 (fun e w2 => e = .returned (.bool (!hasI b a[k])) ∧ Below w1.heap.size w1 w2) := (fun k hk w1 hb1 => smaller1_any w1 a[k] b3 B d b ((hM.call hb1).cell 0 rfl rfl) (hb.base (hM.call hb1)) hbn); have hc := contFuncI_any w A c a (ha.base hM) han 75 _ Tryd.func75 (by kernel_rfl) (by kernel_rfl) [.pointer (some ⟨b3, 0, none⟩)] (fun u => !hasI b u) h1; exact hc) rfl rfl rfl ?_
      refine gop_on rfl rfl rfl rfl hg15 ?_
      refine gop (y_bare (y_not rfl)) rfl rfl rfl ?_
      refine gop (y_pick_t (v := .bool _) rfl hg15 rfl) rfl rfl rfl ?_
      refine gop (y_assign (v := .bool _) rfl) rfl rfl rfl ?_
      refine gops_nil ?_
      refine hN2 _ _ ?_
      refine gfrom [(4, .bool _)] ⟨rfl, trivial⟩ fun σ => ?_
      refine gret fun w1 hM => ?_
      refine ⟨_, res1 rfl (rt (v := .bool _) rfl), ?_⟩
      first | exact ⟨by rw [smallerL, decide_eq_true (show 0 < a.length by omega), decide_eq_true (show a.length < b.length by omega)]; rfl, hM.low⟩ | exact ⟨by rw [smallerL, decide_eq_false (show ¬ 0 < a.length by omega)]; rfl, hM.low⟩ | exact ⟨by rw [smallerL, decide_eq_false (show ¬ a.length < b.length by omega)]; simp, hM.low⟩
    · 
      have hg15d := of_decide_eq_false hg15
      refine gop_off rfl rfl rfl rfl hg15 rfl rfl ?_
      refine gop_off rfl rfl rfl rfl hg15 rfl rfl ?_
      refine gop_off rfl rfl rfl rfl hg15 rfl rfl ?_
      refine gop (y_pick_f (v := .bool _) rfl hg15 rfl) rfl rfl rfl ?_
      refine gop (y_assign (v := .bool _) rfl) rfl rfl rfl ?_
      refine gops_nil ?_
      refine hN2 _ _ ?_
      refine gfrom [(4, .bool _)] ⟨rfl, trivial⟩ fun σ => ?_
      refine gret fun w1 hM => ?_
      refine ⟨_, res1 rfl (rt (v := .bool _) rfl), ?_⟩
      first | exact ⟨by rw [smallerL, decide_eq_true (show 0 < a.length by omega), decide_eq_true (show a.length < b.length by omega)]; rfl, hM.low⟩ | exact ⟨by rw [smallerL, decide_eq_false (show ¬ 0 < a.length by omega)]; rfl, hM.low⟩ | exact ⟨by rw [smallerL, decide_eq_false (show ¬ a.length < b.length by omega)]; simp, hM.low⟩
  · 
    have hg8d := of_decide_eq_false hg8
    refine gop_off rfl rfl rfl rfl hg8 rfl rfl ?_
    refine gop_off rfl rfl rfl rfl hg8 rfl rfl ?_
    refine gop_off rfl rfl rfl rfl hg8 rfl rfl ?_
    refine gop_off rfl rfl rfl rfl hg8 rfl rfl ?_
    refine gop (y_pick_f (v := .bool _) rfl hg8 rfl) rfl rfl rfl ?_
    refine gop (y_move (v := .bool _) rfl) rfl rfl rfl ?_
    refine gop_off rfl rfl rfl rfl rfl rfl rfl ?_
    refine gop_off rfl rfl rfl rfl rfl rfl rfl ?_
    refine gop_off rfl rfl rfl rfl rfl rfl rfl ?_
    refine gop_off rfl rfl rfl rfl rfl rfl rfl ?_
    refine gop (y_pick_f (v := .bool _) rfl rfl rfl) rfl rfl rfl ?_
    refine gop (y_assign (v := .bool _) rfl) rfl rfl rfl ?_
    refine gops_nil ?_
    refine hN2 _ _ ?_
    refine gfrom [(4, .bool _)] ⟨rfl, trivial⟩ fun σ => ?_
    refine gret fun w1 hM => ?_
    refine ⟨_, res1 rfl (rt (v := .bool _) rfl), ?_⟩
    first | exact ⟨by rw [smallerL, decide_eq_true (show 0 < a.length by omega), decide_eq_true (show a.length < b.length by omega)]; rfl, hM.low⟩ | exact ⟨by rw [smallerL, decide_eq_false (show ¬ 0 < a.length by omega)]; rfl, hM.low⟩ | exact ⟨by rw [smallerL, decide_eq_false (show ¬ a.length < b.length by omega)]; simp, hM.low⟩
set_option maxHeartbeats 1000000 in
theorem req2_any (w : World) (A : Option Addr) (c : Nat) (a : List Int) (ha : Rdl w 0 1 intCells A a) (han : a.length ≤ maxLen) (bg : Nat) (B : Option Addr) (d : Nat) (b : List Int) (hbox : w.cell? ⟨bg, 0, none⟩ = some (.slice B b.length d)) (hb : Rdl w 0 1 intCells B b) (hbn : b.length ≤ maxLen) : Calls Tryd.prog 53 #[.slice A a.length c, .pointer (some ⟨bg, 0, none⟩)] w fun e w' => e = .returned (.bool (smallerL a b)) ∧ Below w.heap.size w w' := by
  refine gcalls Tryd.func53 rfl Tryd.ntmps53 (Nat.le_of_ble_eq_true rfl) ?_
  refine gfrom [(0, .slice _ _ _), (1, .pointer (some ⟨bg, 0, none⟩))] ⟨rfl, rfl, trivial⟩ fun σ => ?_
  refine gseq fun N1 hN1 => ?_
  refine greg ?_
  refine gop (y_assign (v := .bool _) rfl) rfl rfl rfl ?_
  refine gops_nil ?_
  refine hN1 _ _ ?_
  refine gfrom [(0, .slice _ _ _), (1, .pointer (some ⟨bg, 0, none⟩))] ⟨rfl, rfl, trivial⟩ fun σ => ?_
  refine gseq fun N2 hN2 => ?_
  refine greg ?_
  refine gop (y_move (v := .slice _ _ _) rfl) rfl rfl rfl ?_
  refine gop (y_load (v := .slice B b.length d) Tryd.isAgg30 rfl (cell_base hbox)) rfl rfl rfl ?_
  refine gop_pure (e_call (vs := [.slice _ _ _, .slice _ _ _]) Tryd.func54 rfl (by kernel_rfl) rfl) (fun w hM => smaller_any w A c a (ha.base hM) han B d b (hb.base hM) hbn) rfl rfl rfl ?_
  refine gop (y_assign (v := .bool _) rfl) rfl rfl rfl ?_
  refine gops_nil ?_
  refine hN2 _ _ ?_
  refine gfrom [(3, .bool _)] ⟨rfl, trivial⟩ fun σ => ?_
  refine gret fun w1 hM => ?_
  refine ⟨_, res1 rfl (rt (v := .bool _) rfl), ?_⟩
  exact ⟨rfl, hM.low⟩
end Go.Proofs.YtijpaljdclhehaaDoor
