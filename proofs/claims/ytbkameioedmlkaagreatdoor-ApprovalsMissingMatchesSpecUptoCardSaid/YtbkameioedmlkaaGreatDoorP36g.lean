/- Own frame, plain models and walks, part 7 (texts of this claim put together). -/
import Derived.Test.YtbkameioedmlkaaGreatDoorP36f
import Derived.Deep.DeepHandedRow
import Derived.Lib.LaidTab
import Derived.Test.YtbkameioedmlkaaGreatDoorProg
namespace Go.Proofs.YtbkameioedmlkaaGreatDoor
open Go.RowKit Go.Cf
set_option maxRecDepth 10000
set_option maxHeartbeats 4000000 in
theorem refAppr_any (w : World) (LA : Option Addr) (lc : Nat) (l : List Appr) (hl : Rdl w 0 3 apprCells LA l) (hll : l.length ≤ lc) (hlm : lc ≤ maxLen) (hpz : ∀ a ∈ l, a.path.size ≤ 4000000) : Calls Tryz.prog 14 #[.slice LA l.length lc] w fun e w' => e = .returned (fv (apprF l)) ∧ Below w.heap.size w w' := by
  have hdm : dMod = 2305843009213693951 := rfl
  have hmx : maxLen = 9223372036854775807 := rfl
  refine gcalls Tryz.func14 rfl Tryz.ntmps14 (Nat.le_of_ble_eq_true rfl) ?_
  refine gfrom [(0, .slice _ _ _)] ⟨rfl, trivial⟩ fun σ => ?_
  refine gseq fun N1 hN1 => ?_
  refine greg ?_
  refine gop_alloc (cs := #[.int .i64 0, .int .i64 0]) Tryz.zeroValue33 rfl rfl (fun b2 hb2 => ?_)
  refine gops_nil ?_
  refine hN1 _ _ ?_
  refine gT [box b2 _] rfl ?_
  refine gfrom [(0, .slice _ _ _), (2, .pointer _)] ⟨rfl, rfl, trivial⟩ fun σ => ?_
  refine gseq fun N2 hN2 => ?_
  refine gseq fun N3 hN3 => ?_
  refine greg ?_
  refine gop (y_move (v := .slice _ _ _) rfl) rfl rfl rfl ?_
  refine gop (y_len Tryz.underlying58 rfl) rfl rfl rfl ?_
  refine gop (y_gtr rfl rfl) rfl rfl rfl ?_
  refine gops_nil ?_
  refine hN3 _ _ ?_
  refine gfrom [(0, .slice _ _ _), (2, .pointer _), (6, .bool _)] ⟨rfl, rfl, rfl, trivial⟩ fun σ => ?_
  refine gcond (b := _) rfl (fun hc6 => ?_) (fun hc6 => ?_)
  · 
    replace hc6 := of_decide_eq_true hc6
    have hF : apprF l = ⟨2, -1⟩ := by rw [apprF, if_pos (by omega)]
    refine gseq fun N4 hN4 => ?_
    refine greg ?_
    refine gop_pure (e_call (vs := [_, _]) Tryz.func20 rfl (by kernel_rfl) rfl) (fun w hM => fault_any w _ _) rfl rfl rfl ?_
    refine gop_store 0 (v := .agg #[_, _]) (cs' := #[_, _]) rfl rfl Tryz.sizeOf33 rfl rfl rfl rfl (Nat.le_of_ble_eq_true rfl) rfl rfl ?_
    refine gops_nil ?_
    refine hN4 _ _ ?_
    refine gT [box b2 _] rfl ?_
    refine gfrom [(2, .pointer _)] ⟨rfl, trivial⟩ fun σ => ?_
    refine gret fun w1 hM => ?_
    refine ⟨_, res1 rfl (rc 0 (cs := [_, _]) hM rfl rfl Tryz.isAgg33 Tryz.sizeOf33 rfl), ?_⟩
    exact ⟨by rw [hF], hM.low⟩
  · 
    replace hc6 := of_decide_eq_false hc6
    have hF : apprF l = scan (fun _ a => apprCode a) l := by rw [apprF, if_neg (by omega)]
    refine gskip ?_
    refine hN2 _ _ ?_
    refine gfrom [(0, .slice _ _ _), (2, .pointer _)] ⟨rfl, rfl, trivial⟩ fun σ => ?_
    refine gseq fun N5 hN5 => ?_
    refine gseq fun N6 hN6 => ?_
    refine greg ?_
    refine gop (y_assign (v := .int _ _) rfl) rfl rfl rfl ?_
    refine gops_nil ?_
    refine hN6 _ _ ?_
    refine gfrom [(0, .slice _ _ _), (2, .pointer _), (3, .int _ _)] ⟨rfl, rfl, rfl, trivial⟩ fun σ => ?_
    refine gblock ?_
    refine gfrom2 [(3, .int _ _)] [(0, .slice _ _ _), (2, .pointer _)] ⟨rfl, trivial⟩ ⟨rfl, rfl, trivial⟩ fun σ => ?_
    refine gloop2 (G := Nat) (fun k => k ≤ l.length ∧ ∀ j (h : j < l.length), j < k → apprCode l[j] = 0) (fun k => l.length - k) (fun k => [(3, .int .i64 (k : Int))]) (fun k => []) (0) ?h0 ⟨rfl, trivial⟩ ⟨rfl, rfl, trivial⟩ rfl ?round
    case h0 => exact ⟨Nat.zero_le _, fun _ _ h => absurd h (Nat.not_lt_zero _)⟩
    case round =>
      intro k hφ σ
      obtain ⟨hk, hz⟩ := hφ
      refine gseq fun N7 hN7 => ?_
      refine gseq fun N8 hN8 => ?_
      refine greg ?_
      refine gop (y_move (v := .int _ _) rfl) rfl rfl rfl ?_
      refine gop (y_move (v := .slice _ _ _) rfl) rfl rfl rfl ?_
      refine gop (y_len Tryz.underlying58 rfl) rfl rfl rfl ?_
      refine gop (y_lss rfl rfl) rfl rfl rfl ?_
      refine gops_nil ?_
      refine hN8 _ _ ?_
      refine gfrom [(0, .slice _ _ _), (2, .pointer _), (3, .int _ _), (11, .bool _)] ⟨rfl, rfl, rfl, rfl, trivial⟩ fun σ => ?_
      refine gcond (b := _) rfl (fun hc11 => ?_) (fun hc11 => ?_)
      · 
        replace hc11 := of_decide_eq_true hc11
        have hk1 : k < l.length := by omega
        obtain ⟨ad, rfl, -, hca⟩ := hl.at_ hk1
        refine gskip ?_
        refine hN7 _ _ ?_
        refine gfrom [(0, .slice _ _ _), (2, .pointer _), (3, .int _ _)] ⟨rfl, rfl, rfl, trivial⟩ fun σ => ?_
        refine gseq fun N9 hN9 => ?_
        refine gblock ?_
        refine gseq fun N10 hN10 => ?_
        refine gseq fun N11 hN11 => ?_
        refine greg ?_
        refine gop (y_move (v := .slice _ _ _) rfl) rfl rfl rfl ?_
        refine gop (y_move (v := .int _ _) rfl) rfl rfl rfl ?_
        refine gop (y_indexAddr (m := k) Tryz.underlying58 Tryz.sizeOf70 rfl rfl (by omega) (by omega) (by omega)) rfl rfl rfl ?_
        refine gop (y_fieldAddr_add fa70_0 rfl) rfl rfl rfl ?_
        refine gop (y_load Tryz.isAgg3 rfl (cell_base (hca 0 _ rfl))) rfl rfl rfl ?_
        refine gop (y_lss rfl rfl) rfl rfl rfl ?_
        refine gop (y_move (v := .bool _) rfl) rfl rfl rfl ?_
        refine gop_if (want := false) rfl rfl rfl rfl rfl rfl (fun hg20 => ?_) (fun hg20 => ?_)
        · 
          have hg20d := of_decide_eq_false hg20
          refine gop (y_bare (y_move (v := .slice _ _ _) rfl)) rfl rfl rfl ?_
          refine gop_on rfl rfl rfl rfl hg20 ?_
          refine gop (y_bare (y_move (v := .int _ _) rfl)) rfl rfl rfl ?_
          refine gop_on rfl rfl rfl rfl hg20 ?_
          refine gop (y_bare (y_indexAddr (m := k) Tryz.underlying58 Tryz.sizeOf70 rfl rfl (by omega) (by omega) (by omega))) rfl rfl rfl ?_
          refine gop_on rfl rfl rfl rfl hg20 ?_
          refine gop (y_bare (y_fieldAddr_add fa70_0 rfl)) rfl rfl rfl ?_
          refine gop_on rfl rfl rfl rfl hg20 ?_
          refine gop (y_bare (y_load Tryz.isAgg3 rfl (cell_base (hca 0 _ rfl)))) rfl rfl rfl ?_
          refine gop_on rfl rfl rfl rfl hg20 ?_
          refine gop (y_bare (y_gtr rfl rfl)) rfl rfl rfl ?_
          refine gop (y_pick_f (v := .bool _) rfl hg20 rfl) rfl rfl rfl ?_
          refine gop (y_move (v := .bool _) rfl) rfl rfl rfl ?_
          refine gop_if (want := false) rfl rfl rfl rfl rfl rfl (fun hg28 => ?_) (fun hg28 => ?_)
          · 
            have hg28d := of_decide_eq_false hg28
            refine gop (y_bare (y_move (v := .slice _ _ _) rfl)) rfl rfl rfl ?_
            refine gop_on rfl rfl rfl rfl hg28 ?_
            refine gop (y_bare (y_move (v := .int _ _) rfl)) rfl rfl rfl ?_
            refine gop_on rfl rfl rfl rfl hg28 ?_
            refine gop (y_bare (y_indexAddr (m := k) Tryz.underlying58 Tryz.sizeOf70 rfl rfl (by omega) (by omega) (by omega))) rfl rfl rfl ?_
            refine gop_on rfl rfl rfl rfl hg28 ?_
            refine gop (y_bare (y_fieldAddr_add fa70_2 rfl)) rfl rfl rfl ?_
            refine gop_on rfl rfl rfl rfl hg28 ?_
            refine gop (y_bare (y_load Tryz.isAgg3 rfl (cell_base (hca 2 _ rfl)))) rfl rfl rfl ?_
            refine gop_on rfl rfl rfl rfl hg28 ?_
            refine gop (y_bare (y_lss rfl rfl)) rfl rfl rfl ?_
            refine gop (y_pick_f (v := .bool _) rfl hg28 rfl) rfl rfl rfl ?_
            refine gop (y_move (v := .bool _) rfl) rfl rfl rfl ?_
            refine gop_if (want := false) rfl rfl rfl rfl rfl rfl (fun hg36 => ?_) (fun hg36 => ?_)
            · 
              have hg36d := of_decide_eq_false hg36
              refine gop (y_bare (y_move (v := .slice _ _ _) rfl)) rfl rfl rfl ?_
              refine gop_on rfl rfl rfl rfl hg36 ?_
              refine gop (y_bare (y_move (v := .int _ _) rfl)) rfl rfl rfl ?_
              refine gop_on rfl rfl rfl rfl hg36 ?_
              refine gop (y_bare (y_indexAddr (m := k) Tryz.underlying58 Tryz.sizeOf70 rfl rfl (by omega) (by omega) (by omega))) rfl rfl rfl ?_
              refine gop_on rfl rfl rfl rfl hg36 ?_
              refine gop (y_bare (y_fieldAddr_add fa70_2 rfl)) rfl rfl rfl ?_
              refine gop_on rfl rfl rfl rfl hg36 ?_
              refine gop (y_bare (y_load Tryz.isAgg3 rfl (cell_base (hca 2 _ rfl)))) rfl rfl rfl ?_
              refine gop_on rfl rfl rfl rfl hg36 ?_
              refine gop (y_bare (y_gtr rfl rfl)) rfl rfl rfl ?_
              refine gop (y_pick_f (v := .bool _) rfl hg36 rfl) rfl rfl rfl ?_
              refine gops_nil ?_
              refine hN11 _ _ ?_
              refine gfrom [(0, .slice _ _ _), (2, .pointer _), (3, .int _ _), (43, .bool _)] ⟨rfl, rfl, rfl, rfl, trivial⟩ fun σ => ?_
              refine gcond (b := _) rfl (fun hc43 => ?_) (fun hc43 => ?_)
              · 
                replace hc43 := of_decide_eq_true hc43
                have hC : apprCode l[k] = 3 := by rw [apprCode, if_pos (by omega)]
                refine gseq fun N12 hN12 => ?_
                refine greg ?_
                refine gop (y_move (v := .int _ _) rfl) rfl rfl rfl ?_
                refine gop_pure (e_call (vs := [_, .int _ _]) Tryz.func20 rfl (by kernel_rfl) rfl) (fun w hM => fault_any w _ _) rfl rfl rfl ?_
                refine gop_store 0 (v := .agg #[_, _]) (cs' := #[_, _]) rfl rfl Tryz.sizeOf33 rfl rfl rfl rfl (Nat.le_of_ble_eq_true rfl) rfl rfl ?_
                refine gops_nil ?_
                refine hN12 _ _ ?_
                refine gT [box b2 _] rfl ?_
                refine gfrom [(2, .pointer _)] ⟨rfl, trivial⟩ fun σ => ?_
                refine gret fun w1 hM => ?_
                refine ⟨_, res1 rfl (rc 0 (cs := [_, _]) hM rfl rfl Tryz.isAgg33 Tryz.sizeOf33 rfl), ?_⟩
                exact ⟨by rw [hF, scan_at (f := fun _ a => apprCode a) hk1 hz (by show apprCode l[k] ≠ 0; rw [hC]; decide)]; show _ = Ending.returned (fv ⟨apprCode l[k], k⟩); rw [hC], hM.low⟩
              · 
                replace hc43 := of_decide_eq_false hc43
                have hg0 : ¬ (l[k].user < 0 ∨ 7 < l[k].user ∨ l[k].dig < -1 ∨ dMod ≤ l[k].dig) := by omega
                refine gskip ?_
                refine hN10 _ _ ?_
                refine gfrom [(0, .slice _ _ _), (2, .pointer _), (3, .int _ _)] ⟨rfl, rfl, rfl, trivial⟩ fun σ => ?_
                refine gseq fun N13 hN13 => ?_
                refine greg ?_
                refine gop (y_move (v := .slice _ _ _) rfl) rfl rfl rfl ?_
                refine gop (y_move (v := .int _ _) rfl) rfl rfl rfl ?_
                refine gop (y_indexAddr (m := k) Tryz.underlying58 Tryz.sizeOf70 rfl rfl (by omega) (by omega) (by omega)) rfl rfl rfl ?_
                refine gop (y_fieldAddr_add fa70_1 rfl) rfl rfl rfl ?_
                refine gop (y_load Tryz.isAgg9 rfl (cell_base (hca 1 _ rfl))) rfl rfl rfl ?_
                refine gop_pure (e_call (vs := [.string _]) Tryz.func42 rfl (by kernel_rfl) rfl) (fun w hM => isPath_any w _ (hpz _ (List.getElem_mem hk1))) rfl rfl rfl ?_
                refine gop (y_not rfl) rfl rfl rfl ?_
                refine gops_nil ?_
                refine hN13 _ _ ?_
                refine gfrom [(0, .slice _ _ _), (2, .pointer _), (3, .int _ _), (52, .bool _)] ⟨rfl, rfl, rfl, rfl, trivial⟩ fun σ => ?_
                refine gcond (b := _) rfl (fun hc52 => ?_) (fun hc52 => ?_)
                · 
                  have hC : apprCode l[k] = 12 := by rw [apprCode, if_neg hg0, if_neg (by simpa using hc52)]
                  refine gseq fun N14 hN14 => ?_
                  refine greg ?_
                  refine gop (y_move (v := .int _ _) rfl) rfl rfl rfl ?_
                  refine gop_pure (e_call (vs := [_, .int _ _]) Tryz.func20 rfl (by kernel_rfl) rfl) (fun w hM => fault_any w _ _) rfl rfl rfl ?_
                  refine gop_store 0 (v := .agg #[_, _]) (cs' := #[_, _]) rfl rfl Tryz.sizeOf33 rfl rfl rfl rfl (Nat.le_of_ble_eq_true rfl) rfl rfl ?_
                  refine gops_nil ?_
                  refine hN14 _ _ ?_
                  refine gT [box b2 _] rfl ?_
                  refine gfrom [(2, .pointer _)] ⟨rfl, trivial⟩ fun σ => ?_
                  refine gret fun w1 hM => ?_
                  refine ⟨_, res1 rfl (rc 0 (cs := [_, _]) hM rfl rfl Tryz.isAgg33 Tryz.sizeOf33 rfl), ?_⟩
                  exact ⟨by rw [hF, scan_at (f := fun _ a => apprCode a) hk1 hz (by show apprCode l[k] ≠ 0; rw [hC]; decide)]; show _ = Ending.returned (fv ⟨apprCode l[k], k⟩); rw [hC], hM.low⟩
                · 
                  have hC0 : apprCode l[k] = 0 := by rw [apprCode, if_neg hg0, if_pos (by simpa using hc52)]
                  refine gskip ?_
                  refine hN9 _ _ ?_
                  refine gfrom [(0, .slice _ _ _), (2, .pointer _), (3, .int _ _)] ⟨rfl, rfl, rfl, trivial⟩ fun σ => ?_
                  refine greg ?_
                  refine gop (y_move (v := .int _ _) rfl) rfl rfl rfl ?_
                  refine gop (y_add rfl rfl ⟨by omega, by omega⟩) rfl rfl rfl ?_
                  refine gop (y_assign (v := .int _ _) rfl) rfl rfl rfl ?_
                  refine gops_nil ?_
                  refine gnext2 (k + 1) (by omega) (⟨by omega, fun j h hj => by rcases Nat.lt_succ_iff_lt_or_eq.1 hj with h1 | rfl; exact hz j h h1; exact hC0⟩) ⟨rfl, trivial⟩ ⟨rfl, rfl, trivial⟩ ⟨_, rfl⟩
            · 
              have hg36d := of_decide_eq_true hg36
              refine gop_off rfl rfl rfl rfl hg36 rfl rfl ?_
              refine gop_off rfl rfl rfl rfl hg36 rfl rfl ?_
              refine gop_off rfl rfl rfl rfl hg36 rfl rfl ?_
              refine gop_off rfl rfl rfl rfl hg36 rfl rfl ?_
              refine gop_off rfl rfl rfl rfl hg36 rfl rfl ?_
              refine gop (y_pick_t (v := .bool _) rfl hg36 rfl) rfl rfl rfl ?_
              refine gops_nil ?_
              refine hN11 _ _ ?_
              refine gfrom [(0, .slice _ _ _), (2, .pointer _), (3, .int _ _), (43, .bool _)] ⟨rfl, rfl, rfl, rfl, trivial⟩ fun σ => ?_
              refine gcond (b := _) rfl (fun hc43 => ?_) (fun hc43 => ?_)
              · 
                have hC : apprCode l[k] = 3 := by rw [apprCode, if_pos (by omega)]
                refine gseq fun N15 hN15 => ?_
                refine greg ?_
                refine gop (y_move (v := .int _ _) rfl) rfl rfl rfl ?_
                refine gop_pure (e_call (vs := [_, .int _ _]) Tryz.func20 rfl (by kernel_rfl) rfl) (fun w hM => fault_any w _ _) rfl rfl rfl ?_
                refine gop_store 0 (v := .agg #[_, _]) (cs' := #[_, _]) rfl rfl Tryz.sizeOf33 rfl rfl rfl rfl (Nat.le_of_ble_eq_true rfl) rfl rfl ?_
                refine gops_nil ?_
                refine hN15 _ _ ?_
                refine gT [box b2 _] rfl ?_
                refine gfrom [(2, .pointer _)] ⟨rfl, trivial⟩ fun σ => ?_
                refine gret fun w1 hM => ?_
                refine ⟨_, res1 rfl (rc 0 (cs := [_, _]) hM rfl rfl Tryz.isAgg33 Tryz.sizeOf33 rfl), ?_⟩
                exact ⟨by rw [hF, scan_at (f := fun _ a => apprCode a) hk1 hz (by show apprCode l[k] ≠ 0; rw [hC]; decide)]; show _ = Ending.returned (fv ⟨apprCode l[k], k⟩); rw [hC], hM.low⟩
              · 
                cases hc43
          · 
            have hg28d := of_decide_eq_true hg28
            refine gop_off rfl rfl rfl rfl hg28 rfl rfl ?_
            refine gop_off rfl rfl rfl rfl hg28 rfl rfl ?_
            refine gop_off rfl rfl rfl rfl hg28 rfl rfl ?_
            refine gop_off rfl rfl rfl rfl hg28 rfl rfl ?_
            refine gop_off rfl rfl rfl rfl hg28 rfl rfl ?_
            refine gop (y_pick_t (v := .bool _) rfl hg28 rfl) rfl rfl rfl ?_
            refine gop (y_move (v := .bool _) rfl) rfl rfl rfl ?_
            refine gop_off rfl rfl rfl rfl rfl rfl rfl ?_
            refine gop_off rfl rfl rfl rfl rfl rfl rfl ?_
            refine gop_off rfl rfl rfl rfl rfl rfl rfl ?_
            refine gop_off rfl rfl rfl rfl rfl rfl rfl ?_
            refine gop_off rfl rfl rfl rfl rfl rfl rfl ?_
            refine gop_off rfl rfl rfl rfl rfl rfl rfl ?_
            refine gop (y_pick_t (v := .bool _) rfl rfl rfl) rfl rfl rfl ?_
            refine gops_nil ?_
            refine hN11 _ _ ?_
            refine gfrom [(0, .slice _ _ _), (2, .pointer _), (3, .int _ _), (43, .bool _)] ⟨rfl, rfl, rfl, rfl, trivial⟩ fun σ => ?_
            refine gcond (b := _) rfl (fun hc43 => ?_) (fun hc43 => ?_)
            · 
              have hC : apprCode l[k] = 3 := by rw [apprCode, if_pos (by omega)]
              refine gseq fun N16 hN16 => ?_
              refine greg ?_
              refine gop (y_move (v := .int _ _) rfl) rfl rfl rfl ?_
              refine gop_pure (e_call (vs := [_, .int _ _]) Tryz.func20 rfl (by kernel_rfl) rfl) (fun w hM => fault_any w _ _) rfl rfl rfl ?_
              refine gop_store 0 (v := .agg #[_, _]) (cs' := #[_, _]) rfl rfl Tryz.sizeOf33 rfl rfl rfl rfl (Nat.le_of_ble_eq_true rfl) rfl rfl ?_
              refine gops_nil ?_
              refine hN16 _ _ ?_
              refine gT [box b2 _] rfl ?_
              refine gfrom [(2, .pointer _)] ⟨rfl, trivial⟩ fun σ => ?_
              refine gret fun w1 hM => ?_
              refine ⟨_, res1 rfl (rc 0 (cs := [_, _]) hM rfl rfl Tryz.isAgg33 Tryz.sizeOf33 rfl), ?_⟩
              exact ⟨by rw [hF, scan_at (f := fun _ a => apprCode a) hk1 hz (by show apprCode l[k] ≠ 0; rw [hC]; decide)]; show _ = Ending.returned (fv ⟨apprCode l[k], k⟩); rw [hC], hM.low⟩
            · 
              cases hc43
        · 
          have hg20d := of_decide_eq_true hg20
          refine gop_off rfl rfl rfl rfl hg20 rfl rfl ?_
          refine gop_off rfl rfl rfl rfl hg20 rfl rfl ?_
          refine gop_off rfl rfl rfl rfl hg20 rfl rfl ?_
          refine gop_off rfl rfl rfl rfl hg20 rfl rfl ?_
          refine gop_off rfl rfl rfl rfl hg20 rfl rfl ?_
          refine gop (y_pick_t (v := .bool _) rfl hg20 rfl) rfl rfl rfl ?_
          refine gop (y_move (v := .bool _) rfl) rfl rfl rfl ?_
          refine gop_off rfl rfl rfl rfl rfl rfl rfl ?_
          refine gop_off rfl rfl rfl rfl rfl rfl rfl ?_
          refine gop_off rfl rfl rfl rfl rfl rfl rfl ?_
          refine gop_off rfl rfl rfl rfl rfl rfl rfl ?_
          refine gop_off rfl rfl rfl rfl rfl rfl rfl ?_
          refine gop_off rfl rfl rfl rfl rfl rfl rfl ?_
          refine gop (y_pick_t (v := .bool _) rfl rfl rfl) rfl rfl rfl ?_
          refine gop (y_move (v := .bool _) rfl) rfl rfl rfl ?_
          refine gop_off rfl rfl rfl rfl rfl rfl rfl ?_
          refine gop_off rfl rfl rfl rfl rfl rfl rfl ?_
          refine gop_off rfl rfl rfl rfl rfl rfl rfl ?_
          refine gop_off rfl rfl rfl rfl rfl rfl rfl ?_
          refine gop_off rfl rfl rfl rfl rfl rfl rfl ?_
          refine gop_off rfl rfl rfl rfl rfl rfl rfl ?_
          refine gop (y_pick_t (v := .bool _) rfl rfl rfl) rfl rfl rfl ?_
          refine gops_nil ?_
          refine hN11 _ _ ?_
          refine gfrom [(0, .slice _ _ _), (2, .pointer _), (3, .int _ _), (43, .bool _)] ⟨rfl, rfl, rfl, rfl, trivial⟩ fun σ => ?_
          refine gcond (b := _) rfl (fun hc43 => ?_) (fun hc43 => ?_)
          · 
            have hC : apprCode l[k] = 3 := by rw [apprCode, if_pos (by omega)]
            refine gseq fun N17 hN17 => ?_
            refine greg ?_
            refine gop (y_move (v := .int _ _) rfl) rfl rfl rfl ?_
            refine gop_pure (e_call (vs := [_, .int _ _]) Tryz.func20 rfl (by kernel_rfl) rfl) (fun w hM => fault_any w _ _) rfl rfl rfl ?_
            refine gop_store 0 (v := .agg #[_, _]) (cs' := #[_, _]) rfl rfl Tryz.sizeOf33 rfl rfl rfl rfl (Nat.le_of_ble_eq_true rfl) rfl rfl ?_
            refine gops_nil ?_
            refine hN17 _ _ ?_
            refine gT [box b2 _] rfl ?_
            refine gfrom [(2, .pointer _)] ⟨rfl, trivial⟩ fun σ => ?_
            refine gret fun w1 hM => ?_
            refine ⟨_, res1 rfl (rc 0 (cs := [_, _]) hM rfl rfl Tryz.isAgg33 Tryz.sizeOf33 rfl), ?_⟩
            exact ⟨by rw [hF, scan_at (f := fun _ a => apprCode a) hk1 hz (by show apprCode l[k] ≠ 0; rw [hC]; decide)]; show _ = Ending.returned (fv ⟨apprCode l[k], k⟩); rw [hC], hM.low⟩
          · 
            cases hc43
      · 
        replace hc11 := of_decide_eq_false hc11
        have hF2 : apprF l = ⟨0, 0⟩ := by rw [hF]; exact scan_ok fun j hj => hz j hj (by omega)
        refine gexit ?_
        refine hN5 _ _ ?_
        refine gfrom [(2, .pointer _)] ⟨rfl, trivial⟩ fun σ => ?_
        refine gseq fun N18 hN18 => ?_
        refine greg ?_
        refine gop_pure (e_call (vs := [_, _]) Tryz.func20 rfl (by kernel_rfl) rfl) (fun w hM => fault_any w _ _) rfl rfl rfl ?_
        refine gop_store 0 (v := .agg #[_, _]) (cs' := #[_, _]) rfl rfl Tryz.sizeOf33 rfl rfl rfl rfl (Nat.le_of_ble_eq_true rfl) rfl rfl ?_
        refine gops_nil ?_
        refine hN18 _ _ ?_
        refine gT [box b2 _] rfl ?_
        refine gfrom [(2, .pointer _)] ⟨rfl, trivial⟩ fun σ => ?_
        refine gret fun w1 hM => ?_
        refine ⟨_, res1 rfl (rc 0 (cs := [_, _]) hM rfl rfl Tryz.isAgg33 Tryz.sizeOf33 rfl), ?_⟩
        exact ⟨by rw [hF2], hM.low⟩
set_option maxHeartbeats 4000000 in
theorem refDiffers_any (w : World) (A : Option Addr) (c : Nat) (fs : List FileC) (hR : TreeR w 0 A c fs) (v : VTree (fpl fs)) (B : Option Addr) (d : Nat) (gs : List FileC) (hS : TreeR w 0 B d gs) (v2 : VTree (fpl gs)) (path : ByteArray) : Calls Tryz.prog 49 #[.agg #[.slice A fs.length c], .agg #[.slice B gs.length d], .string path] w fun e w' => e = .returned (.bool (differsR (fpl fs) (fpl gs) path)) ∧ Below w.heap.size w w' := by
  have hsl := hR.sb.len
  have hsm := hR.sb.max
  have hmx : maxLen = 9223372036854775807 := rfl
  refine gcalls Tryz.func49 rfl Tryz.ntmps49 (Nat.le_of_ble_eq_true rfl) ?_
  refine gfrom [(0, .agg #[_]), (1, .agg #[_]), (2, .string _)] ⟨rfl, rfl, rfl, trivial⟩ fun σ => ?_
  refine gseq fun N1 hN1 => ?_
  refine greg ?_
  refine gop_box (v := .agg #[_]) (cs := #[_]) rfl rfl rfl (fun b3 hb3 => ?_)
  refine gop_box (v := .agg #[_]) (cs := #[_]) rfl rfl rfl (fun b4 hb4 => ?_)
  refine gop (y_assign (v := .bool _) rfl) rfl rfl rfl ?_
  refine gops_nil ?_
  refine hN1 _ _ ?_
  refine gT [box b3 _, box b4 _] rfl ?_
  refine gfrom [(2, .string _), (3, .pointer _), (4, .pointer _)] ⟨rfl, rfl, rfl, trivial⟩ fun σ => ?_
  refine gseq fun N2 hN2 => ?_
  refine greg ?_
  refine gop (y_loads (cs := [_]) Tryz.isAgg61 Tryz.sizeOf61 rfl rfl (cells_box 0 rfl)) rfl rfl rfl ?_
  refine gop (y_move (v := .string _) rfl) rfl rfl rfl ?_
  refine gop_pure (e_call (vs := [.agg #[_], .string _]) Tryz.func46 rfl (by kernel_rfl) rfl) (fun w hM => fileIndex_any w A c fs (hR.base hM) path) rfl rfl rfl ?_
  refine gop (y_assign (v := .int _ _) rfl) rfl rfl rfl ?_
  refine gops_nil ?_
  refine hN2 _ _ ?_
  refine gfrom [(2, .string _), (3, .pointer _), (4, .pointer _), (7, .int _ _)] ⟨rfl, rfl, rfl, rfl, trivial⟩ fun σ => ?_
  refine gseq fun N3 hN3 => ?_
  refine greg ?_
  refine gop (y_loads (cs := [_]) Tryz.isAgg61 Tryz.sizeOf61 rfl rfl (cells_box 1 rfl)) rfl rfl rfl ?_
  refine gop (y_move (v := .string _) rfl) rfl rfl rfl ?_
  refine gop_pure (e_call (vs := [.agg #[_], .string _]) Tryz.func46 rfl (by kernel_rfl) rfl) (fun w hM => fileIndex_any w B d gs (hS.base hM) path) rfl rfl rfl ?_
  refine gop (y_assign (v := .int _ _) rfl) rfl rfl rfl ?_
  refine gops_nil ?_
  refine hN3 _ _ ?_
  refine gfrom [(3, .pointer _), (4, .pointer _), (7, .int _ _), (8, .int _ _)] ⟨rfl, rfl, rfl, rfl, trivial⟩ fun σ => ?_
  refine gseq fun N4 hN4 => ?_
  refine gseq fun N5 hN5 => ?_
  refine greg ?_
  refine gop (y_move (v := .int _ _) rfl) rfl rfl rfl ?_
  refine gop (y_lss rfl rfl) rfl rfl rfl ?_
  refine gop (y_move (v := .bool _) rfl) rfl rfl rfl ?_
  refine gop_if (want := false) rfl rfl rfl rfl rfl rfl (fun hg17 => ?_) (fun hg17 => ?_)
  · 
    have hg17d := of_decide_eq_false hg17
    refine gop (y_bare (y_move (v := .int _ _) rfl)) rfl rfl rfl ?_
    refine gop_on rfl rfl rfl rfl hg17 ?_
    refine gop (y_bare (y_lss rfl rfl)) rfl rfl rfl ?_
    refine gop (y_pick_f (v := .bool _) rfl hg17 rfl) rfl rfl rfl ?_
    refine gops_nil ?_
    refine hN5 _ _ ?_
    refine gfrom [(3, .pointer _), (4, .pointer _), (7, .int _ _), (8, .int _ _), (20, .bool _)] ⟨rfl, rfl, rfl, rfl, rfl, trivial⟩ fun σ => ?_
    refine gcond (b := _) rfl (fun hc20 => ?_) (fun hc20 => ?_)
    · 
      replace hc20 := of_decide_eq_true hc20
      refine gseq fun N6 hN6 => ?_
      refine greg ?_
      refine gop (y_move (v := .int _ _) rfl) rfl rfl rfl ?_
      refine gop (y_geq rfl rfl) rfl rfl rfl ?_
      refine gop (y_move (v := .bool _) rfl) rfl rfl rfl ?_
      refine gop_if (want := false) rfl rfl rfl rfl rfl rfl (fun hg23 => ?_) (fun hg23 => ?_)
      · 
        have hg23d := of_decide_eq_false hg23
        exfalso; omega
      · 
        have hg23d := of_decide_eq_true hg23
        refine gop_off rfl rfl rfl rfl hg23 rfl rfl ?_
        refine gop (y_pick_t (v := .bool _) rfl hg23 rfl) rfl rfl rfl ?_
        refine gop (y_assign (v := .bool _) rfl) rfl rfl rfl ?_
        refine gops_nil ?_
        refine hN6 _ _ ?_
        refine gfrom [(6, .bool _)] ⟨rfl, trivial⟩ fun σ => ?_
        refine gret fun w1 hM => ?_
        refine ⟨_, res1 rfl (rt (v := .bool _) rfl), ?_⟩
        first | exact ⟨by rw [differs_1 v2 hg17d], hM.low⟩ | exact ⟨by rw [differs_2 v hg17d hc20], hM.low⟩
    · 
      replace hc20 := of_decide_eq_false hc20
      obtain ⟨i, hi1, hie, hp1⟩ := fidx_pos hg17d
      obtain ⟨j, hj1, hje, hp2⟩ := fidx_pos hc20
      have hD := differs_3 v v2 hi1 hp1 hj1 hp2
      have hRi := hR.each _ (List.getElem_mem hi1)
      have hSj := hS.each _ (List.getElem_mem hj1)
      obtain ⟨ad, rfl, -, hcx⟩ := hR.rd.at_ hi1
      obtain ⟨ad2, rfl, -, hcy⟩ := hS.rd.at_ hj1
      refine gskip ?_
      refine hN4 _ _ ?_
      refine gfrom [(3, .pointer _), (4, .pointer _), (7, .int _ _), (8, .int _ _)] ⟨rfl, rfl, rfl, rfl, trivial⟩ fun σ => ?_
      refine gseq fun N7 hN7 => ?_
      refine greg_q (by kernel_rfl) (by kernel_rfl) ?_
      refine gq (y_fieldAddr_box fa61_0 rfl) rfl rfl rfl ?_
      refine gq (y_load Tryz.isAgg59 rfl (cell_box 0 rfl rfl)) rfl rfl rfl ?_
      refine gq (y_move (v := .int _ _) rfl) rfl rfl rfl ?_
      refine gq (y_indexAddr (m := i) Tryz.underlying59 Tryz.sizeOf85 rfl rfl (by omega) (by omega) (by omega)) rfl rfl rfl ?_
      refine gq (y_fieldAddr_add fa85_1 rfl) rfl rfl rfl ?_
      refine gq (y_load Tryz.isAgg22 rfl (cell_base (hcx 1 _ rfl))) rfl rfl rfl ?_
      refine gq (y_fieldAddr_box fa61_0 rfl) rfl rfl rfl ?_
      refine gq (y_load Tryz.isAgg59 rfl (cell_box 1 rfl rfl)) rfl rfl rfl ?_
      refine gq (y_move (v := .int _ _) rfl) rfl rfl rfl ?_
      refine gq (y_indexAddr (m := j) Tryz.underlying59 Tryz.sizeOf85 rfl rfl (by omega) (by omega) (by omega)) rfl rfl rfl ?_
      refine gq (y_fieldAddr_add fa85_1 rfl) rfl rfl rfl ?_
      refine gq (y_load Tryz.isAgg22 rfl (cell_base (hcy 1 _ rfl))) rfl rfl rfl ?_
      refine gq_pure (e_call (vs := [.slice _ _ _, .slice _ _ _]) Tryz.func24 rfl (by kernel_rfl) rfl) (fun w hM => by have hc := equalStrings_any w fs[i].A gs[j].A fs[i].c gs[j].c fs[i].pl.lines gs[j].pl.lines (hRi.rd.base hM) (hSj.rd.base hM) (Nat.le_trans hRi.sb.len hRi.sb.max); exact hc) rfl rfl rfl ?_
      refine gq (y_not rfl) rfl rfl rfl ?_
      refine gq (y_assign (v := .bool _) rfl) rfl rfl rfl ?_
      refine gqs_nil ?_
      refine hN7 _ _ ?_
      refine gfrom [(6, .bool _)] ⟨rfl, trivial⟩ fun σ => ?_
      refine gret fun w1 hM => ?_
      refine ⟨_, res1 rfl (rt (v := .bool _) rfl), ?_⟩
      exact ⟨by rw [hD], hM.low⟩
  · 
    have hg17d := of_decide_eq_true hg17
    refine gop_off rfl rfl rfl rfl hg17 rfl rfl ?_
    refine gop (y_pick_t (v := .bool _) rfl hg17 rfl) rfl rfl rfl ?_
    refine gops_nil ?_
    refine hN5 _ _ ?_
    refine gfrom [(3, .pointer _), (4, .pointer _), (7, .int _ _), (8, .int _ _), (20, .bool _)] ⟨rfl, rfl, rfl, rfl, rfl, trivial⟩ fun σ => ?_
    refine gcond (b := _) rfl (fun hc20 => ?_) (fun hc20 => ?_)
    · 
      refine gseq fun N8 hN8 => ?_
      refine greg ?_
      refine gop (y_move (v := .int _ _) rfl) rfl rfl rfl ?_
      refine gop (y_geq rfl rfl) rfl rfl rfl ?_
      refine gop (y_move (v := .bool _) rfl) rfl rfl rfl ?_
      refine gop_if (want := false) rfl rfl rfl rfl rfl rfl (fun hg23 => ?_) (fun hg23 => ?_)
      · 
        have hg23d := of_decide_eq_false hg23
        refine gop (y_bare (y_move (v := .int _ _) rfl)) rfl rfl rfl ?_
        refine gop_on rfl rfl rfl rfl hg23 ?_
        refine gop (y_bare (y_geq rfl rfl)) rfl rfl rfl ?_
        refine gop (y_pick_f (v := .bool _) rfl hg23 rfl) rfl rfl rfl ?_
        refine gop (y_assign (v := .bool _) rfl) rfl rfl rfl ?_
        refine gops_nil ?_
        refine hN8 _ _ ?_
        refine gfrom [(6, .bool _)] ⟨rfl, trivial⟩ fun σ => ?_
        refine gret fun w1 hM => ?_
        refine ⟨_, res1 rfl (rt (v := .bool _) rfl), ?_⟩
        first | exact ⟨by rw [differs_1 v2 hg17d], hM.low⟩ | exact ⟨by rw [differs_2 v hg17d hc20], hM.low⟩
      · 
        have hg23d := of_decide_eq_true hg23
        exfalso; omega
    · 
      cases hc20
set_option maxHeartbeats 16000000 in
theorem refChanged_any (w : World) (A : Option Addr) (c : Nat) (fs : List FileC) (hR : TreeR w 0 A c fs) (v : VTree (fpl fs)) (B : Option Addr) (d : Nat) (gs : List FileC) (hS : TreeR w 0 B d gs) (v2 : VTree (fpl gs)) :
    Calls Tryz.prog 21 #[.agg #[.slice A fs.length c], .agg #[.slice B gs.length d]] w fun e w' => ∃ v T', e = .returned v ∧ T' = [rowl strCells w.heap.size 9 1 (v) (chgL (fpl fs) (fpl gs))] ∧ Mem w T' w' := by
  have hsl := hR.sb.len
  have hsm := hR.sb.max
  have hmx : maxLen = 9223372036854775807 := rfl
  have hA24 : fs.length ≤ 24 := by have h9 := v.len; simpa using h9
  have hB24 : gs.length ≤ 24 := by have h9 := v2.len; simpa using h9
  refine gcalls Tryz.func21 rfl Tryz.ntmps21 (Nat.le_of_ble_eq_true rfl) ?_
  refine gfrom [(0, .agg #[_]), (1, .agg #[_])] ⟨rfl, rfl, trivial⟩ fun σ => ?_
  refine gseq fun N1 hN1 => ?_
  refine greg ?_
  refine gop_box (v := .agg #[_]) (cs := #[_]) rfl rfl rfl (fun b2 hb2 => ?_)
  refine gop_box (v := .agg #[_]) (cs := #[_]) rfl rfl rfl (fun b3 hb3 => ?_)
  refine gop (y_assign (v := .slice _ _ _) rfl) rfl rfl rfl ?_
  refine gops_nil ?_
  refine hN1 _ _ ?_
  refine gT [box b2 _, box b3 _] rfl ?_
  refine gfrom [(2, .pointer _), (3, .pointer _)] ⟨rfl, rfl, trivial⟩ fun σ => ?_
  refine gseq fun N2 hN2 => ?_
  refine greg ?_
  refine gop (y_assign (v := .slice _ _ _) rfl) rfl rfl rfl ?_
  refine gops_nil ?_
  refine hN2 _ _ ?_
  refine gfrom [(2, .pointer _), (3, .pointer _), (5, .slice _ _ _)] ⟨rfl, rfl, rfl, trivial⟩ fun σ => ?_
  refine gseq fun N3 hN3 => ?_
  refine greg ?_
  refine gop (y_assign (v := .int _ _) rfl) rfl rfl rfl ?_
  refine gops_nil ?_
  refine hN3 _ _ ?_
  refine gfrom [(2, .pointer _), (3, .pointer _), (5, .slice _ _ _), (6, .int _ _)] ⟨rfl, rfl, rfl, rfl, trivial⟩ fun σ => ?_
  refine gseq fun N4 hN4 => ?_
  refine greg ?_
  refine gop (y_assign (v := .int _ _) rfl) rfl rfl rfl ?_
  refine gops_nil ?_
  refine hN4 _ _ ?_
  refine gfrom [(2, .pointer _), (3, .pointer _), (5, .slice _ _ _), (6, .int _ _), (7, .int _ _)] ⟨rfl, rfl, rfl, rfl, rfl, trivial⟩ fun σ => ?_
  refine gseq fun N5 hN5 => ?_
  refine gblock ?_
  refine gnilrow strCells 9 1 ?_
  refine gfrom2 [(5, .slice _ _ _), (6, .int _ _), (7, .int _ _)] [(2, .pointer _), (3, .pointer _)] ⟨rfl, rfl, rfl, trivial⟩ ⟨rfl, rfl, trivial⟩ fun σ => ?_
  refine gloop2 (G := Nat × Nat × List ByteArray × Option Addr × Nat) (fun (i, k, out, Ov, ov) => Merge (fpl fs) (fpl gs) i k out) (fun (i, k, out, Ov, ov) => fs.length - i + (gs.length - k)) (fun (i, k, out, Ov, ov) => [(5, .slice Ov out.length ov), (6, .int .i64 (i : Int)), (7, .int .i64 (k : Int))]) (fun (i, k, out, Ov, ov) => [(2, rowl strCells w.heap.size 9 1 (.slice Ov out.length ov) (out))]) ((0, 0, [], none, 0)) ?h0 ⟨rfl, rfl, rfl, trivial⟩ ⟨rfl, rfl, trivial⟩ rfl ?round
  case h0 => exact Merge.start _ _
  case round =>
    rintro ⟨i, k, out, Ov, ov⟩ hφ σ
    have hm : Merge (fpl fs) (fpl gs) i k out := hφ
    have hmi : i ≤ fs.length := by have h9 := hm.hi; simpa using h9
    have hmk : k ≤ gs.length := by have h9 := hm.hk; simpa using h9
    have hml := hm.len
    refine gT [box b2 _, box b3 _, rowl _ _ _ _ _ _] rfl ?_
    refine gseq fun N6 hN6 => ?_
    refine gfrom [(2, .pointer _), (3, .pointer _), (5, .slice Ov _ ov), (6, .int _ _), (7, .int _ _)] ⟨rfl, rfl, rfl, rfl, rfl, trivial⟩ fun σ => ?_
    refine gcut3 (Lf := [(2, .pointer _), (3, .pointer _), (5, .slice Ov _ ov), (6, .int _ _), (7, .int _ _)]) (G := Unit) (fun g => (i < fs.length ∨ k < gs.length)) (fun g => []) (fun g => []) ⟨rfl, rfl, rfl, rfl, rfl, trivial⟩ ?_ ?_
    ·
      refine gseq fun N7 hN7 => ?_
      refine greg ?_
      refine gop (y_move (v := .int _ _) rfl) rfl rfl rfl ?_
      refine gop (y_fieldAddr_box fa61_0 rfl) rfl rfl rfl ?_
      refine gop (y_load Tryz.isAgg59 rfl (cell_box 0 rfl rfl)) rfl rfl rfl ?_
      refine gop (y_len Tryz.underlying59 rfl) rfl rfl rfl ?_
      refine gop (y_lss rfl rfl) rfl rfl rfl ?_
      refine gop (y_move (v := .bool _) rfl) rfl rfl rfl ?_
      refine gop_if (want := false) rfl rfl rfl rfl rfl rfl (fun hg14 => ?_) (fun hg14 => ?_)
      · 
        have hg14d := of_decide_eq_false hg14
        refine gop (y_bare (y_move (v := .int _ _) rfl)) rfl rfl rfl ?_
        refine gop_on rfl rfl rfl rfl hg14 ?_
        refine gop (y_bare (y_fieldAddr_box fa61_0 rfl)) rfl rfl rfl ?_
        refine gop_on rfl rfl rfl rfl hg14 ?_
        refine gop (y_bare (y_load Tryz.isAgg59 rfl (cell_box 1 rfl rfl))) rfl rfl rfl ?_
        refine gop_on rfl rfl rfl rfl hg14 ?_
        refine gop (y_bare (y_len Tryz.underlying59 rfl)) rfl rfl rfl ?_
        refine gop_on rfl rfl rfl rfl hg14 ?_
        refine gop (y_bare (y_lss rfl rfl)) rfl rfl rfl ?_
        refine gop (y_pick_f (v := .bool _) rfl hg14 rfl) rfl rfl rfl ?_
        refine gops_nil ?_
        refine hN7 _ _ ?_
        refine gfrom [(2, .pointer _), (3, .pointer _), (5, .slice Ov _ ov), (6, .int _ _), (7, .int _ _), (20, .bool _)] ⟨rfl, rfl, rfl, rfl, rfl, rfl, trivial⟩ fun σ => ?_
        refine gcond (b := _) rfl (fun hc20 => ?_) (fun hc20 => ?_)
        · 
          replace hc20 := of_decide_eq_true hc20
          have hcont : i < fs.length ∨ k < gs.length := by omega
          refine gskip ?_
          refine gcut3_end (()) (hcont) trivial ⟨rfl, rfl, rfl, rfl, rfl, trivial⟩ ⟨_, rfl⟩
        · 
          replace hc20 := of_decide_eq_false hc20
          obtain rfl := hm.done (by simp; omega) (by simp; omega)
          refine gexit ?_
          refine hN5 _ _ ?_
          refine gfrom [(5, .slice Ov _ ov)] ⟨rfl, trivial⟩ fun σ => ?_
          refine gseq fun N8 hN8 => ?_
          refine greg ?_
          refine gop (y_move (v := .slice Ov _ ov) rfl) rfl rfl rfl ?_
          refine gop (y_assign (v := .slice Ov _ ov) rfl) rfl rfl rfl ?_
          refine gops_nil ?_
          refine hN8 _ _ ?_
          refine gfrom [(4, .slice Ov _ ov)] ⟨rfl, trivial⟩ fun σ => ?_
          refine gret fun w1 hM => ?_
          refine ⟨_, res1 rfl (rt (v := .slice Ov _ ov) rfl), ?_⟩
          exact ⟨_, _, rfl, rfl, hM.dropTo 2 rfl⟩
      · 
        have hg14d := of_decide_eq_true hg14
        refine gop_off rfl rfl rfl rfl hg14 rfl rfl ?_
        refine gop_off rfl rfl rfl rfl hg14 rfl rfl ?_
        refine gop_off rfl rfl rfl rfl hg14 rfl rfl ?_
        refine gop_off rfl rfl rfl rfl hg14 rfl rfl ?_
        refine gop (y_pick_t (v := .bool _) rfl hg14 rfl) rfl rfl rfl ?_
        refine gops_nil ?_
        refine hN7 _ _ ?_
        refine gfrom [(2, .pointer _), (3, .pointer _), (5, .slice Ov _ ov), (6, .int _ _), (7, .int _ _), (20, .bool _)] ⟨rfl, rfl, rfl, rfl, rfl, rfl, trivial⟩ fun σ => ?_
        refine gcond (b := _) rfl (fun hc20 => ?_) (fun hc20 => ?_)
        · 
          have hcont : i < fs.length ∨ k < gs.length := by omega
          refine gskip ?_
          refine gcut3_end (()) (hcont) trivial ⟨rfl, rfl, rfl, rfl, rfl, trivial⟩ ⟨_, rfl⟩
        · 
          cases hc20
    ·
      intro g hcut σ
      refine hN6 _ _ ?_
      have hcont := hcut
      refine gblock ?_
      refine gseq fun N9 hN9 => ?_
      refine greg ?_
      refine gop (y_assign (v := .string _) rfl) rfl rfl rfl ?_
      refine gops_nil ?_
      refine hN9 _ _ ?_
      refine gT [box b2 _, box b3 _, rowl _ _ _ _ _ _] rfl ?_
      refine gfrom [(2, .pointer _), (3, .pointer _), (5, .slice Ov _ ov), (6, .int _ _), (7, .int _ _)] ⟨rfl, rfl, rfl, rfl, rfl, trivial⟩ fun σ => ?_
      refine gseq fun N10 hN10 => ?_
      refine gfrom [(2, .pointer _), (3, .pointer _), (5, .slice Ov _ ov), (6, .int _ _), (7, .int _ _)] ⟨rfl, rfl, rfl, rfl, rfl, trivial⟩ fun σ => ?_
      refine gcut3 (Lf := [(2, .pointer _), (3, .pointer _), (5, .slice Ov _ ov), (6, .int _ _), (7, .int _ _)]) (G := ByteArray) (fun p => Pick (fpl fs) (fpl gs) i k p) (fun p => [(8, .string p)]) (fun p => []) ⟨rfl, rfl, rfl, rfl, rfl, trivial⟩ ?_ ?_
      ·
        refine gseq fun N11 hN11 => ?_
        refine greg_q (by kernel_rfl) (by kernel_rfl) ?_
        refine gq (y_move (v := .int _ _) rfl) rfl rfl rfl ?_
        refine gq (y_fieldAddr_box fa61_0 rfl) rfl rfl rfl ?_
        refine gq (y_load Tryz.isAgg59 rfl (cell_box 1 rfl rfl)) rfl rfl rfl ?_
        refine gq (y_len Tryz.underlying59 rfl) rfl rfl rfl ?_
        refine gq (y_eql rfl rfl) rfl rfl rfl ?_
        refine gq (y_move (v := .bool _) rfl) rfl rfl rfl ?_
        refine gq_if (want := false) rfl rfl rfl rfl rfl rfl (fun hg26 => ?_) (fun hg26 => ?_)
        · 
          have hg26d := of_decide_eq_false hg26
          refine gq (y_bare (y_move (v := .int _ _) rfl)) rfl rfl rfl ?_
          refine gq_on rfl rfl rfl rfl hg26 ?_
          refine gq (y_bare (y_fieldAddr_box fa61_0 rfl)) rfl rfl rfl ?_
          refine gq_on rfl rfl rfl rfl hg26 ?_
          refine gq (y_bare (y_load Tryz.isAgg59 rfl (cell_box 0 rfl rfl))) rfl rfl rfl ?_
          refine gq_on rfl rfl rfl rfl hg26 ?_
          refine gq (y_bare (y_len Tryz.underlying59 rfl)) rfl rfl rfl ?_
          refine gq_on rfl rfl rfl rfl hg26 ?_
          refine gq (y_bare (y_lss rfl rfl)) rfl rfl rfl ?_
          refine gq_on rfl rfl rfl rfl hg26 ?_
          refine gq (y_bare (y_move (v := .bool _) rfl)) rfl rfl rfl ?_
          refine gq_if (want := true) rfl rfl rfl rfl rfl rfl (fun hg32 => ?_) (fun hg32 => ?_)
          · 
            have hg32d := of_decide_eq_true hg32
            have hi0 : i < fs.length := by omega
            have hk0 : k < gs.length := by omega
            obtain ⟨ad, rfl, -, hcx⟩ := hR.rd.at_ hi0
            obtain ⟨ad2, rfl, -, hcy⟩ := hS.rd.at_ hk0
            refine gq (y_bare (y_fieldAddr_box fa61_0 rfl)) rfl rfl rfl ?_
            refine gq_on rfl rfl rfl rfl hg32 ?_
            refine gq (y_bare (y_load Tryz.isAgg59 rfl (cell_box 0 rfl rfl))) rfl rfl rfl ?_
            refine gq_on rfl rfl rfl rfl hg32 ?_
            refine gq (y_bare (y_move (v := .int _ _) rfl)) rfl rfl rfl ?_
            refine gq_on rfl rfl rfl rfl hg32 ?_
            refine gq (y_bare (y_indexAddr (m := i) Tryz.underlying59 Tryz.sizeOf85 rfl rfl (by omega) (by omega) (by omega))) rfl rfl rfl ?_
            refine gq_on rfl rfl rfl rfl hg32 ?_
            refine gq (y_bare (y_fieldAddr_add fa85_0 rfl)) rfl rfl rfl ?_
            refine gq_on rfl rfl rfl rfl hg32 ?_
            refine gq (y_bare (y_load Tryz.isAgg9 rfl (cell_base (hcx 0 _ rfl)))) rfl rfl rfl ?_
            refine gq_on rfl rfl rfl rfl hg32 ?_
            refine gq (y_bare (y_fieldAddr_box fa61_0 rfl)) rfl rfl rfl ?_
            refine gq_on rfl rfl rfl rfl hg32 ?_
            refine gq (y_bare (y_load Tryz.isAgg59 rfl (cell_box 1 rfl rfl))) rfl rfl rfl ?_
            refine gq_on rfl rfl rfl rfl hg32 ?_
            refine gq (y_bare (y_move (v := .int _ _) rfl)) rfl rfl rfl ?_
            refine gq_on rfl rfl rfl rfl hg32 ?_
            refine gq (y_bare (y_indexAddr (m := k) Tryz.underlying59 Tryz.sizeOf85 rfl rfl (by omega) (by omega) (by omega))) rfl rfl rfl ?_
            refine gq_on rfl rfl rfl rfl hg32 ?_
            refine gq (y_bare (y_fieldAddr_add fa85_0 rfl)) rfl rfl rfl ?_
            refine gq_on rfl rfl rfl rfl hg32 ?_
            refine gq (y_bare (y_load Tryz.isAgg9 rfl (cell_base (hcy 0 _ rfl)))) rfl rfl rfl ?_
            refine gq_on rfl rfl rfl rfl hg32 ?_
            refine gq (y_bare (y_leqs rfl rfl)) rfl rfl rfl ?_
            refine gq_on rfl rfl rfl rfl hg26 ?_
            refine gq (y_bare (y_pick_t (v := .bool _) rfl hg32 rfl)) rfl rfl rfl ?_
            refine gq (y_pick_f (v := .bool _) rfl hg26 rfl) rfl rfl rfl ?_
            refine gqs_nil ?_
            refine hN11 _ _ ?_
            refine gfrom [(2, .pointer _), (3, .pointer _), (5, .slice Ov _ ov), (6, .int _ _), (7, .int _ _), (47, .bool _)] ⟨rfl, rfl, rfl, rfl, rfl, rfl, trivial⟩ fun σ => ?_
            refine gcond (b := _) rfl (fun hc47 => ?_) (fun hc47 => ?_)
            · 
              have hi1 : i < fs.length := by omega
              obtain ⟨ad3, hq3, -, hca⟩ := hR.rd.at_ hi1
              first | cases hq3 | subst hq3
              have hpick := pick_a (gs := gs) (k := k) hi1 (fun hk9 => by first | exact le_nlt hc47 | (exfalso; omega))
              refine greg ?_
              refine gop (y_fieldAddr_box fa61_0 rfl) rfl rfl rfl ?_
              refine gop (y_load Tryz.isAgg59 rfl (cell_box 0 rfl rfl)) rfl rfl rfl ?_
              refine gop (y_move (v := .int _ _) rfl) rfl rfl rfl ?_
              refine gop (y_indexAddr (m := i) Tryz.underlying59 Tryz.sizeOf85 rfl rfl (by omega) (by omega) (by omega)) rfl rfl rfl ?_
              refine gop (y_fieldAddr_add fa85_0 rfl) rfl rfl rfl ?_
              refine gop (y_load Tryz.isAgg9 rfl (cell_base (hca 0 _ rfl))) rfl rfl rfl ?_
              refine gop (y_assign (v := .string _) rfl) rfl rfl rfl ?_
              refine gops_nil ?_
              refine gcut3_end (fs[i].pl.path) (hpick) ⟨rfl, trivial⟩ ⟨rfl, rfl, rfl, rfl, rfl, trivial⟩ ⟨_, rfl⟩
            · 
              have hk1 : k < gs.length := by omega
              obtain ⟨ad4, hq4, -, hcb⟩ := hS.rd.at_ hk1
              first | cases hq4 | subst hq4
              have hpick := pick_b (fs := fs) (i := i) hk1 (fun hi9 => by first | exact nle_nlt hc47 | (exfalso; omega))
              refine greg ?_
              refine gop (y_fieldAddr_box fa61_0 rfl) rfl rfl rfl ?_
              refine gop (y_load Tryz.isAgg59 rfl (cell_box 1 rfl rfl)) rfl rfl rfl ?_
              refine gop (y_move (v := .int _ _) rfl) rfl rfl rfl ?_
              refine gop (y_indexAddr (m := k) Tryz.underlying59 Tryz.sizeOf85 rfl rfl (by omega) (by omega) (by omega)) rfl rfl rfl ?_
              refine gop (y_fieldAddr_add fa85_0 rfl) rfl rfl rfl ?_
              refine gop (y_load Tryz.isAgg9 rfl (cell_base (hcb 0 _ rfl))) rfl rfl rfl ?_
              refine gop (y_assign (v := .string _) rfl) rfl rfl rfl ?_
              refine gops_nil ?_
              refine gcut3_end (gs[k].pl.path) (hpick) ⟨rfl, trivial⟩ ⟨rfl, rfl, rfl, rfl, rfl, trivial⟩ ⟨_, rfl⟩
          · 
            have hg32d := of_decide_eq_false hg32
            refine gq_off rfl rfl rfl rfl hg32 rfl rfl ?_
            refine gq_off rfl rfl rfl rfl hg32 rfl rfl ?_
            refine gq_off rfl rfl rfl rfl hg32 rfl rfl ?_
            refine gq_off rfl rfl rfl rfl hg32 rfl rfl ?_
            refine gq_off rfl rfl rfl rfl hg32 rfl rfl ?_
            refine gq_off rfl rfl rfl rfl hg32 rfl rfl ?_
            refine gq_off rfl rfl rfl rfl hg32 rfl rfl ?_
            refine gq_off rfl rfl rfl rfl hg32 rfl rfl ?_
            refine gq_off rfl rfl rfl rfl hg32 rfl rfl ?_
            refine gq_off rfl rfl rfl rfl hg32 rfl rfl ?_
            refine gq_off rfl rfl rfl rfl hg32 rfl rfl ?_
            refine gq_off rfl rfl rfl rfl hg32 rfl rfl ?_
            refine gq_on rfl rfl rfl rfl hg26 ?_
            refine gq (y_bare (y_pick_f (v := .bool _) rfl hg32 rfl)) rfl rfl rfl ?_
            refine gq (y_pick_f (v := .bool _) rfl hg26 rfl) rfl rfl rfl ?_
            refine gqs_nil ?_
            refine hN11 _ _ ?_
            refine gfrom [(2, .pointer _), (3, .pointer _), (5, .slice Ov _ ov), (6, .int _ _), (7, .int _ _), (47, .bool _)] ⟨rfl, rfl, rfl, rfl, rfl, rfl, trivial⟩ fun σ => ?_
            refine gcond (b := _) rfl (fun hc47 => ?_) (fun hc47 => ?_)
            · 
              cases hc47
            · 
              have hk1 : k < gs.length := by omega
              obtain ⟨ad4, hq4, -, hcb⟩ := hS.rd.at_ hk1
              first | cases hq4 | subst hq4
              have hpick := pick_b (fs := fs) (i := i) hk1 (fun hi9 => by first | exact nle_nlt hc47 | (exfalso; omega))
              refine greg ?_
              refine gop (y_fieldAddr_box fa61_0 rfl) rfl rfl rfl ?_
              refine gop (y_load Tryz.isAgg59 rfl (cell_box 1 rfl rfl)) rfl rfl rfl ?_
              refine gop (y_move (v := .int _ _) rfl) rfl rfl rfl ?_
              refine gop (y_indexAddr (m := k) Tryz.underlying59 Tryz.sizeOf85 rfl rfl (by omega) (by omega) (by omega)) rfl rfl rfl ?_
              refine gop (y_fieldAddr_add fa85_0 rfl) rfl rfl rfl ?_
              refine gop (y_load Tryz.isAgg9 rfl (cell_base (hcb 0 _ rfl))) rfl rfl rfl ?_
              refine gop (y_assign (v := .string _) rfl) rfl rfl rfl ?_
              refine gops_nil ?_
              refine gcut3_end (gs[k].pl.path) (hpick) ⟨rfl, trivial⟩ ⟨rfl, rfl, rfl, rfl, rfl, trivial⟩ ⟨_, rfl⟩
        · 
          have hg26d := of_decide_eq_true hg26
          refine gq_off rfl rfl rfl rfl hg26 rfl rfl ?_
          refine gq_off rfl rfl rfl rfl hg26 rfl rfl ?_
          refine gq_off rfl rfl rfl rfl hg26 rfl rfl ?_
          refine gq_off rfl rfl rfl rfl hg26 rfl rfl ?_
          refine gq_off rfl rfl rfl rfl hg26 rfl rfl ?_
          refine gq_offu rfl rfl rfl rfl rfl rfl ?_
          refine gq_offu rfl rfl rfl rfl rfl rfl ?_
          refine gq_offu rfl rfl rfl rfl rfl rfl ?_
          refine gq_offu rfl rfl rfl rfl rfl rfl ?_
          refine gq_offu rfl rfl rfl rfl rfl rfl ?_
          refine gq_offu rfl rfl rfl rfl rfl rfl ?_
          refine gq_offu rfl rfl rfl rfl rfl rfl ?_
          refine gq_offu rfl rfl rfl rfl rfl rfl ?_
          refine gq_offu rfl rfl rfl rfl rfl rfl ?_
          refine gq_offu rfl rfl rfl rfl rfl rfl ?_
          refine gq_offu rfl rfl rfl rfl rfl rfl ?_
          refine gq_offu rfl rfl rfl rfl rfl rfl ?_
          refine gq_offu rfl rfl rfl rfl rfl rfl ?_
          refine gq_off rfl rfl rfl rfl hg26 rfl rfl ?_
          refine gq (y_pick_t (v := .bool _) rfl hg26 rfl) rfl rfl rfl ?_
          refine gqs_nil ?_
          refine hN11 _ _ ?_
          refine gfrom [(2, .pointer _), (3, .pointer _), (5, .slice Ov _ ov), (6, .int _ _), (7, .int _ _), (47, .bool _)] ⟨rfl, rfl, rfl, rfl, rfl, rfl, trivial⟩ fun σ => ?_
          refine gcond (b := _) rfl (fun hc47 => ?_) (fun hc47 => ?_)
          · 
            have hi1 : i < fs.length := by omega
            obtain ⟨ad3, hq3, -, hca⟩ := hR.rd.at_ hi1
            first | cases hq3 | subst hq3
            have hpick := pick_a (gs := gs) (k := k) hi1 (fun hk9 => by first | exact le_nlt hc47 | (exfalso; omega))
            refine greg ?_
            refine gop (y_fieldAddr_box fa61_0 rfl) rfl rfl rfl ?_
            refine gop (y_load Tryz.isAgg59 rfl (cell_box 0 rfl rfl)) rfl rfl rfl ?_
            refine gop (y_move (v := .int _ _) rfl) rfl rfl rfl ?_
            refine gop (y_indexAddr (m := i) Tryz.underlying59 Tryz.sizeOf85 rfl rfl (by omega) (by omega) (by omega)) rfl rfl rfl ?_
            refine gop (y_fieldAddr_add fa85_0 rfl) rfl rfl rfl ?_
            refine gop (y_load Tryz.isAgg9 rfl (cell_base (hca 0 _ rfl))) rfl rfl rfl ?_
            refine gop (y_assign (v := .string _) rfl) rfl rfl rfl ?_
            refine gops_nil ?_
            refine gcut3_end (fs[i].pl.path) (hpick) ⟨rfl, trivial⟩ ⟨rfl, rfl, rfl, rfl, rfl, trivial⟩ ⟨_, rfl⟩
          · 
            cases hc47
      ·
        intro p hcut σ
        refine hN10 _ _ ?_
        have hpick := hcut
        refine gseq fun N12 hN12 => ?_
        refine gT [box b2 _, box b3 _, rowl _ _ _ _ _ _] rfl ?_
        refine gfrom [(2, .pointer _), (3, .pointer _), (5, .slice Ov _ ov), (6, .int _ _), (7, .int _ _), (8, .string _)] ⟨rfl, rfl, rfl, rfl, rfl, rfl, trivial⟩ fun σ => ?_
        refine gcut3 (Lf := [(2, .pointer _), (3, .pointer _), (6, .int _ _), (7, .int _ _), (8, .string _)]) (G := Option Addr × Nat × List ByteArray) (fun (Ov, ov, ot) => ot = withD (fpl fs) (fpl gs) out p) (fun (Ov, ov, ot) => [(5, .slice Ov ot.length ov)]) (fun (Ov, ov, ot) => [(2, rowl strCells w.heap.size 9 1 (.slice Ov ot.length ov) (ot))]) ⟨rfl, rfl, rfl, rfl, rfl, trivial⟩ ?_ ?_
        ·
          refine gseq fun N13 hN13 => ?_
          refine greg ?_
          refine gop (y_loads (cs := [_]) Tryz.isAgg61 Tryz.sizeOf61 rfl rfl (cells_box 0 rfl)) rfl rfl rfl ?_
          refine gop (y_loads (cs := [_]) Tryz.isAgg61 Tryz.sizeOf61 rfl rfl (cells_box 1 rfl)) rfl rfl rfl ?_
          refine gop (y_move (v := .string _) rfl) rfl rfl rfl ?_
          refine gop_pure (e_call (vs := [.agg #[_], .agg #[_], .string _]) Tryz.func49 rfl (by kernel_rfl) rfl) (fun w hM => refDiffers_any w A c fs (hR.base hM) v B d gs (hS.base hM) v2 p) rfl rfl rfl ?_
          refine gops_nil ?_
          refine hN13 _ _ ?_
          refine gfrom [(2, .pointer _), (3, .pointer _), (5, .slice Ov _ ov), (6, .int _ _), (7, .int _ _), (8, .string _), (63, .bool _)] ⟨rfl, rfl, rfl, rfl, rfl, rfl, rfl, trivial⟩ fun σ => ?_
          refine gcond (b := _) rfl (fun hc63 => ?_) (fun hc63 => ?_)
          · 
            have hd : diffAt (fpl fs) (fpl gs) p = true := hpick.diff.symm.trans hc63
            refine greg ?_
            refine gop (y_move (v := .slice Ov _ ov) rfl) rfl rfl rfl ?_
            refine gop (y_move (v := .string _) rfl) rfl rfl rfl ?_
            refine gop_lit (vs := [.string _]) (cells := #[_]) Tryz.underlying22 Tryz.sizeOf9 Tryz.zeroValue9 rfl (by decide) (by decide) rfl rfl rfl rfl (fun b66 hb66 => ?_)
            refine gop_append 2 (f := strCells) (l2 := [p]) Tryz.underlying22 el9 wide_str (v := .slice Ov _ ov) rfl rfl rfl rfl (fun h => by cases h) (by simp [maxLen]; omega) (by simp; omega) (src_box 3 rfl rfl) rfl (fun v67 => ?_)
            refine gops_fact (fun w hM => own_form (hM.own 2 rfl)) ?_
            rintro ⟨A67, c67, rfl, hc67, hm67⟩
            refine gop (y_assign (v := .slice A67 _ c67) rfl) rfl rfl rfl ?_
            refine gops_nil ?_
            refine gcut3_end ((A67, c67, out ++ [p])) (by rw [withD, if_pos hd]) ⟨rfl, trivial⟩ ⟨rfl, rfl, rfl, rfl, rfl, trivial⟩ ⟨_, rfl⟩
          · 
            have hd : diffAt (fpl fs) (fpl gs) p = false := hpick.diff.symm.trans hc63
            refine gskip ?_
            refine gcut3_end ((Ov, ov, out)) (by rw [withD, if_neg (by rw [hd]; decide)]) ⟨rfl, trivial⟩ ⟨rfl, rfl, rfl, rfl, rfl, trivial⟩ ⟨_, rfl⟩
        ·
          rintro ⟨Ov, ov, ot⟩ hcut σ
          refine hN12 _ _ ?_
          have hN := hcut
          refine gseq fun N14 hN14 => ?_
          refine gT [box b2 _, box b3 _, rowl _ _ _ _ _ _] rfl ?_
          refine gfrom [(2, .pointer _), (3, .pointer _), (5, .slice Ov _ ov), (6, .int _ _), (7, .int _ _), (8, .string _)] ⟨rfl, rfl, rfl, rfl, rfl, rfl, trivial⟩ fun σ => ?_
          refine gcut3 (Lf := [(2, .pointer _), (3, .pointer _), (5, .slice Ov _ ov), (7, .int _ _), (8, .string _)]) (G := Nat) (fun i2 => i2 = nxt (fpl fs) i p) (fun i2 => [(6, .int .i64 (i2 : Int))]) (fun i2 => []) ⟨rfl, rfl, rfl, rfl, rfl, trivial⟩ ?_ ?_
          ·
            refine gseq fun N15 hN15 => ?_
            refine greg ?_
            refine gop (y_move (v := .int _ _) rfl) rfl rfl rfl ?_
            refine gop (y_fieldAddr_box fa61_0 rfl) rfl rfl rfl ?_
            refine gop (y_load Tryz.isAgg59 rfl (cell_box 0 rfl rfl)) rfl rfl rfl ?_
            refine gop (y_len Tryz.underlying59 rfl) rfl rfl rfl ?_
            refine gop (y_lss rfl rfl) rfl rfl rfl ?_
            refine gop (y_move (v := .bool _) rfl) rfl rfl rfl ?_
            refine gop_if (want := true) rfl rfl rfl rfl rfl rfl (fun hg73 => ?_) (fun hg73 => ?_)
            · 
              have hg73d := of_decide_eq_true hg73
              have hi5 : i < fs.length := by omega
              obtain ⟨ad5, rfl, -, hcx5⟩ := hR.rd.at_ hi5
              refine gop (y_bare (y_fieldAddr_box fa61_0 rfl)) rfl rfl rfl ?_
              refine gop_on rfl rfl rfl rfl hg73 ?_
              refine gop (y_bare (y_load Tryz.isAgg59 rfl (cell_box 0 rfl rfl))) rfl rfl rfl ?_
              refine gop_on rfl rfl rfl rfl hg73 ?_
              refine gop (y_bare (y_move (v := .int _ _) rfl)) rfl rfl rfl ?_
              refine gop_on rfl rfl rfl rfl hg73 ?_
              refine gop (y_bare (y_indexAddr (m := i) Tryz.underlying59 Tryz.sizeOf85 rfl rfl (by omega) (by omega) (by omega))) rfl rfl rfl ?_
              refine gop_on rfl rfl rfl rfl hg73 ?_
              refine gop (y_bare (y_fieldAddr_add fa85_0 rfl)) rfl rfl rfl ?_
              refine gop_on rfl rfl rfl rfl hg73 ?_
              refine gop (y_bare (y_load Tryz.isAgg9 rfl (cell_base (hcx5 0 _ rfl)))) rfl rfl rfl ?_
              refine gop_on rfl rfl rfl rfl hg73 ?_
              refine gop (y_bare (y_move (v := .string _) rfl)) rfl rfl rfl ?_
              refine gop_on rfl rfl rfl rfl hg73 ?_
              refine gop (y_bare (y_eqls rfl rfl)) rfl rfl rfl ?_
              refine gop (y_pick_t (v := .bool _) rfl hg73 rfl) rfl rfl rfl ?_
              refine gops_nil ?_
              refine hN15 _ _ ?_
              refine gfrom [(2, .pointer _), (3, .pointer _), (5, .slice Ov _ ov), (6, .int _ _), (7, .int _ _), (8, .string _), (82, .bool _)] ⟨rfl, rfl, rfl, rfl, rfl, rfl, rfl, trivial⟩ fun σ => ?_
              refine gcond (b := _) rfl (fun hc82 => ?_) (fun hc82 => ?_)
              · 
                replace hc82 := sb_eq_t hc82
                refine greg ?_
                refine gop (y_move (v := .int _ _) rfl) rfl rfl rfl ?_
                refine gop (y_add rfl rfl ⟨by omega, by omega⟩) rfl rfl rfl ?_
                refine gop (y_assign (v := .int _ _) rfl) rfl rfl rfl ?_
                refine gops_nil ?_
                refine gcut3_end (i + 1) (nxt_yes hi5 hc82) ⟨rfl, trivial⟩ ⟨rfl, rfl, rfl, rfl, rfl, trivial⟩ ⟨_, rfl⟩
              · 
                first | replace hc82 := sb_ne_f hc82 | skip
                refine gskip ?_
                refine gcut3_end (i) (nxt_no1 hi5 hc82) ⟨rfl, trivial⟩ ⟨rfl, rfl, rfl, rfl, rfl, trivial⟩ ⟨_, rfl⟩
            · 
              have hg73d := of_decide_eq_false hg73
              refine gop_off rfl rfl rfl rfl hg73 rfl rfl ?_
              refine gop_off rfl rfl rfl rfl hg73 rfl rfl ?_
              refine gop_off rfl rfl rfl rfl hg73 rfl rfl ?_
              refine gop_off rfl rfl rfl rfl hg73 rfl rfl ?_
              refine gop_off rfl rfl rfl rfl hg73 rfl rfl ?_
              refine gop_off rfl rfl rfl rfl hg73 rfl rfl ?_
              refine gop_off rfl rfl rfl rfl hg73 rfl rfl ?_
              refine gop (y_pick_f (v := .bool _) rfl hg73 rfl) rfl rfl rfl ?_
              refine gops_nil ?_
              refine hN15 _ _ ?_
              refine gfrom [(2, .pointer _), (3, .pointer _), (5, .slice Ov _ ov), (6, .int _ _), (7, .int _ _), (8, .string _), (82, .bool _)] ⟨rfl, rfl, rfl, rfl, rfl, rfl, rfl, trivial⟩ fun σ => ?_
              refine gcond (b := _) rfl (fun hc82 => ?_) (fun hc82 => ?_)
              · 
                cases hc82
              · 
                first | replace hc82 := sb_ne_f hc82 | skip
                refine gskip ?_
                refine gcut3_end (i) (nxt_no2 (by omega)) ⟨rfl, trivial⟩ ⟨rfl, rfl, rfl, rfl, rfl, trivial⟩ ⟨_, rfl⟩
          ·
            intro i2 hcut σ
            refine hN14 _ _ ?_
            have hi2 := hcut
            refine gseq fun N16 hN16 => ?_
            refine greg ?_
            refine gop (y_move (v := .int _ _) rfl) rfl rfl rfl ?_
            refine gop (y_fieldAddr_box fa61_0 rfl) rfl rfl rfl ?_
            refine gop (y_load Tryz.isAgg59 rfl (cell_box 1 rfl rfl)) rfl rfl rfl ?_
            refine gop (y_len Tryz.underlying59 rfl) rfl rfl rfl ?_
            refine gop (y_lss rfl rfl) rfl rfl rfl ?_
            refine gop (y_move (v := .bool _) rfl) rfl rfl rfl ?_
            refine gop_if (want := true) rfl rfl rfl rfl rfl rfl (fun hg90 => ?_) (fun hg90 => ?_)
            · 
              have hg90d := of_decide_eq_true hg90
              have hk6 : k < gs.length := by omega
              obtain ⟨ad6, rfl, -, hcy6⟩ := hS.rd.at_ hk6
              refine gop (y_bare (y_fieldAddr_box fa61_0 rfl)) rfl rfl rfl ?_
              refine gop_on rfl rfl rfl rfl hg90 ?_
              refine gop (y_bare (y_load Tryz.isAgg59 rfl (cell_box 1 rfl rfl))) rfl rfl rfl ?_
              refine gop_on rfl rfl rfl rfl hg90 ?_
              refine gop (y_bare (y_move (v := .int _ _) rfl)) rfl rfl rfl ?_
              refine gop_on rfl rfl rfl rfl hg90 ?_
              refine gop (y_bare (y_indexAddr (m := k) Tryz.underlying59 Tryz.sizeOf85 rfl rfl (by omega) (by omega) (by omega))) rfl rfl rfl ?_
              refine gop_on rfl rfl rfl rfl hg90 ?_
              refine gop (y_bare (y_fieldAddr_add fa85_0 rfl)) rfl rfl rfl ?_
              refine gop_on rfl rfl rfl rfl hg90 ?_
              refine gop (y_bare (y_load Tryz.isAgg9 rfl (cell_base (hcy6 0 _ rfl)))) rfl rfl rfl ?_
              refine gop_on rfl rfl rfl rfl hg90 ?_
              refine gop (y_bare (y_move (v := .string _) rfl)) rfl rfl rfl ?_
              refine gop_on rfl rfl rfl rfl hg90 ?_
              refine gop (y_bare (y_eqls rfl rfl)) rfl rfl rfl ?_
              refine gop (y_pick_t (v := .bool _) rfl hg90 rfl) rfl rfl rfl ?_
              refine gops_nil ?_
              refine hN16 _ _ ?_
              refine gT [box b2 _, box b3 _, rowl _ _ _ _ _ _] rfl ?_
              refine gfrom [(2, .pointer _), (3, .pointer _), (5, .slice Ov _ ov), (6, .int _ _), (7, .int _ _), (99, .bool _)] ⟨rfl, rfl, rfl, rfl, rfl, rfl, trivial⟩ fun σ => ?_
              refine gcond (b := _) rfl (fun hc99 => ?_) (fun hc99 => ?_)
              · 
                replace hc99 := sb_eq_t hc99
                refine greg ?_
                refine gop (y_move (v := .int _ _) rfl) rfl rfl rfl ?_
                refine gop (y_add rfl rfl ⟨by omega, by omega⟩) rfl rfl rfl ?_
                refine gop (y_assign (v := .int _ _) rfl) rfl rfl rfl ?_
                refine gops_nil ?_
                refine gnext2 ((i2, k + 1, ot, Ov, ov)) (by have h9 := hpick.more; have h8 := nxt_le (p := p) hm.hi; have h7 := nxt_le (p := p) hm.hk; simp only [List.length_map] at h8 h7; show fs.length - i2 + (gs.length - (k + 1)) < fs.length - i + (gs.length - k); rw [← hi2, ← nxt_yes hk6 hc99] at h9; rw [← hi2] at h8; rw [← nxt_yes hk6 hc99] at h7; omega) (by have h9 := hm.step v v2 hpick.one hpick.ha hpick.hb; rw [← hi2, ← nxt_yes hk6 hc99, ← hN] at h9; exact h9) ⟨rfl, rfl, rfl, trivial⟩ ⟨rfl, rfl, trivial⟩ ⟨_, rfl⟩
              · 
                first | replace hc99 := sb_ne_f hc99 | skip
                refine gskip ?_
                refine gnext2 ((i2, k, ot, Ov, ov)) (by have h9 := hpick.more; have h8 := nxt_le (p := p) hm.hi; have h7 := nxt_le (p := p) hm.hk; simp only [List.length_map] at h8 h7; show fs.length - i2 + (gs.length - k) < fs.length - i + (gs.length - k); rw [← hi2, ← nxt_no1 hk6 hc99] at h9; rw [← hi2] at h8; rw [← nxt_no1 hk6 hc99] at h7; omega) (by have h9 := hm.step v v2 hpick.one hpick.ha hpick.hb; rw [← hi2, ← nxt_no1 hk6 hc99, ← hN] at h9; exact h9) ⟨rfl, rfl, rfl, trivial⟩ ⟨rfl, rfl, trivial⟩ ⟨_, rfl⟩
            · 
              have hg90d := of_decide_eq_false hg90
              refine gop_off rfl rfl rfl rfl hg90 rfl rfl ?_
              refine gop_off rfl rfl rfl rfl hg90 rfl rfl ?_
              refine gop_off rfl rfl rfl rfl hg90 rfl rfl ?_
              refine gop_off rfl rfl rfl rfl hg90 rfl rfl ?_
              refine gop_off rfl rfl rfl rfl hg90 rfl rfl ?_
              refine gop_off rfl rfl rfl rfl hg90 rfl rfl ?_
              refine gop_off rfl rfl rfl rfl hg90 rfl rfl ?_
              refine gop (y_pick_f (v := .bool _) rfl hg90 rfl) rfl rfl rfl ?_
              refine gops_nil ?_
              refine hN16 _ _ ?_
              refine gT [box b2 _, box b3 _, rowl _ _ _ _ _ _] rfl ?_
              refine gfrom [(2, .pointer _), (3, .pointer _), (5, .slice Ov _ ov), (6, .int _ _), (7, .int _ _), (99, .bool _)] ⟨rfl, rfl, rfl, rfl, rfl, rfl, trivial⟩ fun σ => ?_
              refine gcond (b := _) rfl (fun hc99 => ?_) (fun hc99 => ?_)
              · 
                cases hc99
              · 
                first | replace hc99 := sb_ne_f hc99 | skip
                refine gskip ?_
                refine gnext2 ((i2, k, ot, Ov, ov)) (by have h9 := hpick.more; have h8 := nxt_le (p := p) hm.hi; have h7 := nxt_le (p := p) hm.hk; simp only [List.length_map] at h8 h7; show fs.length - i2 + (gs.length - k) < fs.length - i + (gs.length - k); rw [← hi2, ← nxt_no2 (fs := gs) (i := k) (p := p) (by omega)] at h9; rw [← hi2] at h8; rw [← nxt_no2 (fs := gs) (i := k) (p := p) (by omega)] at h7; omega) (by have h9 := hm.step v v2 hpick.one hpick.ha hpick.hb; rw [← hi2, ← nxt_no2 (fs := gs) (i := k) (p := p) (by omega), ← hN] at h9; exact h9) ⟨rfl, rfl, rfl, trivial⟩ ⟨rfl, rfl, trivial⟩ ⟨_, rfl⟩
end Go.Proofs.YtbkameioedmlkaaGreatDoor
namespace Go.Proofs.YtbkameioedmlkaaGreatDoor
open Go.RowKit Go.Cf
set_option maxRecDepth 10000
theorem bd85_0_1 (x1 : ByteArray) (x2 : Option Addr) (x2l x2c : Nat) : Tryz.prog.built 85 [(0, .string x1), (1, .slice x2 x2l x2c)] = some #[.string x1, .slice x2 x2l x2c] := by kernel_rfl
theorem bd61_0 (x1 : Option Addr) (x1l x1c : Nat) : Tryz.prog.built 61 [(0, .slice x1 x1l x1c)] = some #[.slice x1 x1l x1c] := by kernel_rfl
theorem bd89_0_1 (x1 : ByteArray) (x2 : Option Addr) (x2l x2c : Nat) : Tryz.prog.built 89 [(0, .string x1), (1, .slice x2 x2l x2c)] = some #[.string x1, .slice x2 x2l x2c] := by kernel_rfl
theorem bd61_  : Tryz.prog.built 61 [] = some #[.slice none 0 0] := by kernel_rfl
set_option maxHeartbeats 8000000 in
theorem approvalsExample_any (w : World) : Calls Tryz.prog 15 #[] w fun e w' => e = .returned (.bool true) ∧ Below w.heap.size w w' := by
  refine gcalls Tryz.func15 rfl Tryz.ntmps15 (Nat.le_of_ble_eq_true rfl) ?_
  refine gfrom [] trivial fun σ => ?_
  refine gseq fun N1 hN1 => ?_
  refine greg ?_
  refine gop (y_assign (v := .bool _) rfl) rfl rfl rfl ?_
  refine gops_nil ?_
  refine hN1 _ _ ?_
  refine gfrom [] trivial fun σ => ?_
  refine gseq fun N2 hN2 => ?_
  refine greg ?_
  refine gop_lit (vs := [.string _]) (cells := #[_]) Tryz.underlying22 Tryz.sizeOf9 Tryz.zeroValue9 rfl (by decide) (by decide) rfl rfl rfl rfl (fun b11 hb11 => ?_)
  refine gop (y_build (vs := [(0, _), (1, .slice (some _) _ _)]) (cells := #[_, _]) rfl (bd85_0_1 _ _ _ _)) rfl rfl rfl ?_
  refine gop_lit (vs := [.agg #[_, _]]) (cells := #[_, _]) Tryz.underlying59 Tryz.sizeOf85 Tryz.zeroValue85 rfl (by decide) (by decide) rfl rfl rfl rfl (fun b13 hb13 => ?_)
  refine gop (y_build (vs := [(0, .slice (some _) _ _)]) (cells := #[_]) rfl (bd61_0 _ _ _)) rfl rfl rfl ?_
  refine gop_alloc (cs := #[.slice none 0 0]) Tryz.zeroValue61 rfl rfl (fun b1 hb1 => ?_)
  refine gop_store 2 (v := .agg #[_]) (cs' := #[_]) rfl rfl Tryz.sizeOf61 rfl rfl rfl rfl (Nat.le_of_ble_eq_true rfl) rfl rfl ?_
  refine gops_nil ?_
  refine hN2 _ _ ?_
  refine gT [box b11 _, box b13 _, box b1 _] rfl ?_
  refine gfrom [(1, .pointer _)] ⟨rfl, trivial⟩ fun σ => ?_
  refine gseq fun N3 hN3 => ?_
  refine greg ?_
  refine gop_lit (vs := [.int _ _]) (cells := #[_]) Tryz.underlying74 Tryz.sizeOf3 Tryz.zeroValue3 rfl (by decide) (by decide) rfl rfl rfl rfl (fun b15 hb15 => ?_)
  refine gop (y_build (vs := [(0, _), (1, .slice (some _) _ _)]) (cells := #[_, _]) rfl (bd89_0_1 _ _ _ _)) rfl rfl rfl ?_
  refine gop_lit (vs := [.agg #[_, _]]) (cells := #[_, _]) Tryz.underlying57 Tryz.sizeOf89 Tryz.zeroValue89 rfl (by decide) (by decide) rfl rfl rfl rfl (fun b17 hb17 => ?_)
  refine gop (y_assign (v := .slice (some _) _ _) rfl) rfl rfl rfl ?_
  refine gops_nil ?_
  refine hN3 _ _ ?_
  refine gT [box b11 _, box b13 _, box b1 _, box b15 _, box b17 _] rfl ?_
  refine gfrom [(1, .pointer _), (2, .slice (some _) _ _)] ⟨rfl, rfl, trivial⟩ fun σ => ?_
  refine gseq fun N4 hN4 => ?_
  refine greg ?_
  refine gop (y_move (v := .slice (some _) _ _) rfl) rfl rfl rfl ?_
  refine gop (y_build (vs := []) (cells := #[.slice none 0 0]) rfl bd61_) rfl rfl rfl ?_
  refine gop (y_loads (cs := [_]) Tryz.isAgg61 Tryz.sizeOf61 rfl rfl (cells_box 2 rfl)) rfl rfl rfl ?_
  refine gop_got (fun v T' => ∃ lo u, v = .tuple #[u, fv ⟨0, 0⟩] ∧ w.heap.size ≤ lo ∧ T' = [rowl strCells lo 9 1 (u) ([xA])]) (e_call (vs := [.slice (some _) _ _, _, .agg #[_], .agg #[_]]) Tryz.func13 rfl (by kernel_rfl) rfl) (fun w hM => by have ht : TreeR w 0 (some ⟨b13, 0, none⟩) 1 [⟨⟨xA, [⟨#[120]⟩]⟩, some ⟨b11, 0, none⟩, 1⟩] := ⟨(Rdl.of_box 1 (f := fileCells) (fun _ => rfl) hM rfl rfl).mono (Nat.zero_le _), fun f hf => (by obtain rfl := List.mem_singleton.1 hf; exact ⟨(Rdl.of_box 0 (f := strCells) (fun _ => rfl) hM rfl rfl).mono (Nat.zero_le _), ⟨Nat.le_refl _, by simp [maxLen], fun h => (by cases h), (by first | (show 1 * 40 ≤ reachBytes; decide) | (show 1 * 16 ≤ reachBytes; decide) | (show 1 * 8 ≤ reachBytes; decide))⟩⟩), ⟨Nat.le_refl _, by simp [maxLen], fun h => (by cases h), (by first | (show 1 * 40 ≤ reachBytes; decide) | (show 1 * 16 ≤ reachBytes; decide) | (show 1 * 8 ≤ reachBytes; decide))⟩⟩; have hr : RulesR w 0 (some ⟨b17, 0, none⟩) 1 [⟨⟨⟨#[42, 42]⟩, [1]⟩, some ⟨b15, 0, none⟩, 1⟩] := ⟨(Rdl.of_box 4 (f := ruleCells) (fun _ => rfl) hM rfl rfl).mono (Nat.zero_le _), fun f hf => (by obtain rfl := List.mem_singleton.1 hf; exact ⟨(Rdl.of_box 3 (f := intCells) (fun _ => rfl) hM rfl rfl).mono (Nat.zero_le _), ⟨Nat.le_refl _, by simp [maxLen], fun h => (by cases h), (by first | (show 1 * 40 ≤ reachBytes; decide) | (show 1 * 16 ≤ reachBytes; decide) | (show 1 * 8 ≤ reachBytes; decide))⟩⟩), ⟨Nat.le_refl _, by simp [maxLen], fun h => (by cases h), (by first | (show 1 * 40 ≤ reachBytes; decide) | (show 1 * 16 ≤ reachBytes; decide) | (show 1 * 8 ≤ reachBytes; decide))⟩⟩; have h0 : TreeR w 0 none 0 [] := ⟨Rdl.nil, fun _ h => (by cases h), ⟨Nat.le_refl _, Nat.zero_le _, fun _ => rfl, by decide⟩⟩; have hc : Calls Tryz.prog 13 #[.slice (some ⟨b17, 0, none⟩) 1 1, .slice none [].length 0, .agg #[.slice none 0 0], .agg #[.slice (some ⟨b13, 0, none⟩) 1 1]] w fun e w' => ∃ v T', e = .returned (.tuple #[v, fv (missF xRules [] [] xTree)]) ∧ T' = [rowl strCells w.heap.size 9 1 (v) (missV xRules [] [] xTree)] ∧ Mem w T' w' := missing_any w _ 1 [⟨⟨⟨#[42, 42]⟩, [1]⟩, some ⟨b15, 0, none⟩, 1⟩] hr none 0 [] Rdl.nil (Nat.le_refl _) (Nat.zero_le _) none 0 [] h0 _ 1 [⟨⟨xA, [⟨#[120]⟩]⟩, some ⟨b11, 0, none⟩, 1⟩] ht; rw [aex_f1, aex_m1] at hc; exact hc.mono fun _ _ ⟨v, T1, h1, h2, h3⟩ => ⟨_, T1, h1, ⟨_, v, rfl, hM.low.size, h2⟩, h3⟩) rfl rfl rfl ?_
  rintro _ _ ⟨lo22, u22, rfl, hlo22, rfl⟩
  refine gops_fact (fun w hM => row_form (hM.ok _ (List.mem_of_getElem? (i := 5) rfl))) ?_
  rintro ⟨A22, c22, rfl, hc22, hm22, hn22⟩
  refine gop (y_move (v := .tuple #[.slice A22 _ c22, .agg #[_, _]]) rfl) rfl rfl rfl ?_
  refine gop (y_extract (v := .slice _ _ _) rfl rfl) rfl rfl rfl ?_
  refine gop (y_extract (v := .agg #[_, _]) rfl rfl) rfl rfl rfl ?_
  refine gop_alloc (cs := #[.int .i64 0, .int .i64 0]) Tryz.zeroValue33 rfl rfl (fun b4 hb4 => ?_)
  refine gop (y_assign (v := .slice _ _ _) rfl) rfl rfl rfl ?_
  refine gop_store 6 (v := .agg #[_, _]) (cs' := #[_, _]) rfl rfl Tryz.sizeOf33 rfl rfl rfl rfl (Nat.le_of_ble_eq_true rfl) rfl rfl ?_
  refine gops_nil ?_
  refine hN4 _ _ ?_
  refine gT [box b11 _, box b13 _, box b1 _, box b15 _, box b17 _, rowl _ _ _ _ _ _, box b4 _] rfl ?_
  refine gfrom [(1, .pointer _), (2, .slice (some _) _ _), (3, .slice _ _ _), (4, .pointer _)] ⟨rfl, rfl, rfl, rfl, trivial⟩ fun σ => ?_
  refine gseq fun N5 hN5 => ?_
  refine greg ?_
  refine gop (y_loads (cs := [_]) Tryz.isAgg61 Tryz.sizeOf61 rfl rfl (cells_box 2 rfl)) rfl rfl rfl ?_
  refine gop_lit (vs := [.string _, .string _]) (cells := #[_, _]) Tryz.underlying22 Tryz.sizeOf9 Tryz.zeroValue9 rfl (by decide) (by decide) rfl rfl rfl rfl (fun b27 hb27 => ?_)
  refine gop_got (fun v T' => ∃ lo u, v = .tuple #[u, fv ⟨0, 0⟩] ∧ w.heap.size ≤ lo ∧ T' = [rowl apprCells lo 70 3 (u) (([⟨1, xA, descP xTree xA⟩, ⟨1, xB, -1⟩] : List Appr))]) (e_call (vs := [.agg #[_], _, .slice (some _) _ _]) Tryz.func26 rfl (by kernel_rfl) rfl) (fun w hM => by have ht : TreeR w 0 (some ⟨b13, 0, none⟩) 1 [⟨⟨xA, [⟨#[120]⟩]⟩, some ⟨b11, 0, none⟩, 1⟩] := ⟨(Rdl.of_box 1 (f := fileCells) (fun _ => rfl) hM rfl rfl).mono (Nat.zero_le _), fun f hf => (by obtain rfl := List.mem_singleton.1 hf; exact ⟨(Rdl.of_box 0 (f := strCells) (fun _ => rfl) hM rfl rfl).mono (Nat.zero_le _), ⟨Nat.le_refl _, by simp [maxLen], fun h => (by cases h), (by first | (show 1 * 40 ≤ reachBytes; decide) | (show 1 * 16 ≤ reachBytes; decide) | (show 1 * 8 ≤ reachBytes; decide))⟩⟩), ⟨Nat.le_refl _, by simp [maxLen], fun h => (by cases h), (by first | (show 1 * 40 ≤ reachBytes; decide) | (show 1 * 16 ≤ reachBytes; decide) | (show 1 * 8 ≤ reachBytes; decide))⟩⟩; have hp : Rdl w 0 1 strCells (some ⟨b27, 0, none⟩) [xA, xB] := (Rdl.of_box 7 (f := strCells) (fun _ => rfl) hM rfl rfl).mono (Nat.zero_le _); have hc : Calls Tryz.prog 26 #[.agg #[.slice (some ⟨b13, 0, none⟩) 1 1], .int .i64 1, .slice (some ⟨b27, 0, none⟩) 2 2] w fun e w' => ∃ v T', e = .returned (.tuple #[v, fv (approveF xTree 1 [xA, xB])]) ∧ T' = [rowl apprCells w.heap.size 70 3 (v) (approveV xTree 1 [xA, xB])] ∧ Mem w T' w' := approve_any w _ 1 [⟨⟨xA, [⟨#[120]⟩]⟩, some ⟨b11, 0, none⟩, 1⟩] ht 1 _ 2 [xA, xB] hp (Nat.le_refl _) (by simp [maxLen]); rw [aex_app, aex_l] at hc; exact hc.mono fun _ _ ⟨v, T1, h1, h2, h3⟩ => ⟨_, T1, h1, ⟨_, v, rfl, hM.low.size, h2⟩, h3⟩) rfl rfl rfl ?_
  rintro _ _ ⟨lo28, u28, rfl, hlo28, rfl⟩
  refine gops_fact (fun w hM => row_form (hM.ok _ (List.mem_of_getElem? (i := 8) rfl))) ?_
  rintro ⟨A28, c28, rfl, hc28, hm28, hn28⟩
  refine gops_fact (fun w hM => row_g2 (hM.ok _ (List.mem_of_getElem? (i := 8) rfl)) (by simp)) ?_
  rintro ⟨g28, rfl⟩
  refine gop (y_move (v := .tuple #[.slice (some ⟨g28, 0, none⟩) _ c28, .agg #[_, _]]) rfl) rfl rfl rfl ?_
  refine gop (y_extract (v := .slice _ _ _) rfl rfl) rfl rfl rfl ?_
  refine gop (y_extract (v := .agg #[_, _]) rfl rfl) rfl rfl rfl ?_
  refine gop_alloc (cs := #[.int .i64 0, .int .i64 0]) Tryz.zeroValue33 rfl rfl (fun b6 hb6 => ?_)
  refine gop (y_assign (v := .slice _ _ _) rfl) rfl rfl rfl ?_
  refine gop_store 9 (v := .agg #[_, _]) (cs' := #[_, _]) rfl rfl Tryz.sizeOf33 rfl rfl rfl rfl (Nat.le_of_ble_eq_true rfl) rfl rfl ?_
  refine gops_nil ?_
  refine hN5 _ _ ?_
  refine gT [box b11 _, box b13 _, box b1 _, box b15 _, box b17 _, rowl _ _ _ _ _ _, box b4 _, box b27 _, rowl _ _ _ _ _ _, box b6 _] rfl ?_
  refine gfrom [(1, .pointer _), (2, .slice (some _) _ _), (3, .slice _ _ _), (4, .pointer _), (5, .slice _ _ _), (6, .pointer _)] ⟨rfl, rfl, rfl, rfl, rfl, rfl, trivial⟩ fun σ => ?_
  refine gseq fun N6 hN6 => ?_
  refine greg ?_
  refine gop (y_move (v := .slice _ _ _) rfl) rfl rfl rfl ?_
  refine gop (y_loads (cs := [_]) Tryz.isAgg61 Tryz.sizeOf61 rfl rfl (cells_box 2 rfl)) rfl rfl rfl ?_
  refine gop_got (fun v T' => ∃ lo u, v = .tuple #[u, fv ⟨0, 0⟩] ∧ w.heap.size ≤ lo ∧ T' = [rowl boolCells lo 4 1 (u) ([true, true])]) (e_call (vs := [.slice _ _ _, .agg #[_]]) Tryz.func12 rfl (by kernel_rfl) rfl) (fun w hM => by have ht : TreeR w 0 (some ⟨b13, 0, none⟩) 1 [⟨⟨xA, [⟨#[120]⟩]⟩, some ⟨b11, 0, none⟩, 1⟩] := ⟨(Rdl.of_box 1 (f := fileCells) (fun _ => rfl) hM rfl rfl).mono (Nat.zero_le _), fun f hf => (by obtain rfl := List.mem_singleton.1 hf; exact ⟨(Rdl.of_box 0 (f := strCells) (fun _ => rfl) hM rfl rfl).mono (Nat.zero_le _), ⟨Nat.le_refl _, by simp [maxLen], fun h => (by cases h), (by first | (show 1 * 40 ≤ reachBytes; decide) | (show 1 * 16 ≤ reachBytes; decide) | (show 1 * 8 ≤ reachBytes; decide))⟩⟩), ⟨Nat.le_refl _, by simp [maxLen], fun h => (by cases h), (by first | (show 1 * 40 ≤ reachBytes; decide) | (show 1 * 16 ≤ reachBytes; decide) | (show 1 * 8 ≤ reachBytes; decide))⟩⟩; have hc : Calls Tryz.prog 12 #[.slice (some ⟨g28, 0, none⟩) ([⟨1, xA, descP xTree xA⟩, ⟨1, xB, -1⟩] : List Appr).length c28, .agg #[.slice (some ⟨b13, 0, none⟩) 1 1]] w fun e w' => ∃ v T', e = .returned (.tuple #[v, fv (validF ([⟨1, xA, descP xTree xA⟩, ⟨1, xB, -1⟩] : List Appr) xTree)]) ∧ T' = [rowl boolCells w.heap.size 4 1 (v) (validV ([⟨1, xA, descP xTree xA⟩, ⟨1, xB, -1⟩] : List Appr) xTree)] ∧ Mem w T' w' := valid_any w _ c28 ([⟨1, xA, descP xTree xA⟩, ⟨1, xB, -1⟩] : List Appr) ((row_rdl (f := apprCells) (fun _ => rfl) (hM.ok _ (List.mem_of_getElem? (i := 8) rfl))).mono (Nat.zero_le _)) hc28 hm28 _ 1 [⟨⟨xA, [⟨#[120]⟩]⟩, some ⟨b11, 0, none⟩, 1⟩] ht; rw [aex_vf, aex_v] at hc; exact hc.mono fun _ _ ⟨v, T1, h1, h2, h3⟩ => ⟨_, T1, h1, ⟨_, v, rfl, hM.low.size, h2⟩, h3⟩) rfl rfl rfl ?_
  rintro _ _ ⟨lo34, u34, rfl, hlo34, rfl⟩
  refine gops_fact (fun w hM => row_form (hM.ok _ (List.mem_of_getElem? (i := 10) rfl))) ?_
  rintro ⟨A34, c34, rfl, hc34, hm34, hn34⟩
  refine gops_fact (fun w hM => row_g2 (hM.ok _ (List.mem_of_getElem? (i := 10) rfl)) (by simp)) ?_
  rintro ⟨g34, rfl⟩
  refine gop (y_move (v := .tuple #[.slice (some ⟨g34, 0, none⟩) _ c34, .agg #[_, _]]) rfl) rfl rfl rfl ?_
  refine gop (y_extract (v := .slice _ _ _) rfl rfl) rfl rfl rfl ?_
  refine gop (y_extract (v := .agg #[_, _]) rfl rfl) rfl rfl rfl ?_
  refine gop_alloc (cs := #[.int .i64 0, .int .i64 0]) Tryz.zeroValue33 rfl rfl (fun b8 hb8 => ?_)
  refine gop (y_assign (v := .slice _ _ _) rfl) rfl rfl rfl ?_
  refine gop_store 11 (v := .agg #[_, _]) (cs' := #[_, _]) rfl rfl Tryz.sizeOf33 rfl rfl rfl rfl (Nat.le_of_ble_eq_true rfl) rfl rfl ?_
  refine gops_nil ?_
  refine hN6 _ _ ?_
  refine gT [box b11 _, box b13 _, box b1 _, box b15 _, box b17 _, rowl _ _ _ _ _ _, box b4 _, box b27 _, rowl _ _ _ _ _ _, box b6 _, rowl _ _ _ _ _ _, box b8 _] rfl ?_
  refine gfrom [(1, .pointer _), (2, .slice (some _) _ _), (3, .slice _ _ _), (4, .pointer _), (5, .slice _ _ _), (6, .pointer _), (7, .slice _ _ _), (8, .pointer _)] ⟨rfl, rfl, rfl, rfl, rfl, rfl, rfl, rfl, trivial⟩ fun σ => ?_
  refine gseq fun N7 hN7 => ?_
  refine greg ?_
  refine gop (y_move (v := .slice (some _) _ _) rfl) rfl rfl rfl ?_
  refine gop (y_move (v := .slice _ _ _) rfl) rfl rfl rfl ?_
  refine gop (y_build (vs := []) (cells := #[.slice none 0 0]) rfl bd61_) rfl rfl rfl ?_
  refine gop (y_loads (cs := [_]) Tryz.isAgg61 Tryz.sizeOf61 rfl rfl (cells_box 2 rfl)) rfl rfl rfl ?_
  refine gop_got (fun v T' => ∃ lo u, v = .tuple #[u, fv ⟨0, 0⟩] ∧ w.heap.size ≤ lo ∧ T' = [rowl strCells lo 9 1 (u) ([])]) (e_call (vs := [.slice (some _) _ _, .slice _ _ _, .agg #[_], .agg #[_]]) Tryz.func13 rfl (by kernel_rfl) rfl) (fun w hM => by have ht : TreeR w 0 (some ⟨b13, 0, none⟩) 1 [⟨⟨xA, [⟨#[120]⟩]⟩, some ⟨b11, 0, none⟩, 1⟩] := ⟨(Rdl.of_box 1 (f := fileCells) (fun _ => rfl) hM rfl rfl).mono (Nat.zero_le _), fun f hf => (by obtain rfl := List.mem_singleton.1 hf; exact ⟨(Rdl.of_box 0 (f := strCells) (fun _ => rfl) hM rfl rfl).mono (Nat.zero_le _), ⟨Nat.le_refl _, by simp [maxLen], fun h => (by cases h), (by first | (show 1 * 40 ≤ reachBytes; decide) | (show 1 * 16 ≤ reachBytes; decide) | (show 1 * 8 ≤ reachBytes; decide))⟩⟩), ⟨Nat.le_refl _, by simp [maxLen], fun h => (by cases h), (by first | (show 1 * 40 ≤ reachBytes; decide) | (show 1 * 16 ≤ reachBytes; decide) | (show 1 * 8 ≤ reachBytes; decide))⟩⟩; have hr : RulesR w 0 (some ⟨b17, 0, none⟩) 1 [⟨⟨⟨#[42, 42]⟩, [1]⟩, some ⟨b15, 0, none⟩, 1⟩] := ⟨(Rdl.of_box 4 (f := ruleCells) (fun _ => rfl) hM rfl rfl).mono (Nat.zero_le _), fun f hf => (by obtain rfl := List.mem_singleton.1 hf; exact ⟨(Rdl.of_box 3 (f := intCells) (fun _ => rfl) hM rfl rfl).mono (Nat.zero_le _), ⟨Nat.le_refl _, by simp [maxLen], fun h => (by cases h), (by first | (show 1 * 40 ≤ reachBytes; decide) | (show 1 * 16 ≤ reachBytes; decide) | (show 1 * 8 ≤ reachBytes; decide))⟩⟩), ⟨Nat.le_refl _, by simp [maxLen], fun h => (by cases h), (by first | (show 1 * 40 ≤ reachBytes; decide) | (show 1 * 16 ≤ reachBytes; decide) | (show 1 * 8 ≤ reachBytes; decide))⟩⟩; have h0 : TreeR w 0 none 0 [] := ⟨Rdl.nil, fun _ h => (by cases h), ⟨Nat.le_refl _, Nat.zero_le _, fun _ => rfl, by decide⟩⟩; have hc : Calls Tryz.prog 13 #[.slice (some ⟨b17, 0, none⟩) 1 1, .slice (some ⟨g28, 0, none⟩) ([⟨1, xA, descP xTree xA⟩, ⟨1, xB, -1⟩] : List Appr).length c28, .agg #[.slice none 0 0], .agg #[.slice (some ⟨b13, 0, none⟩) 1 1]] w fun e w' => ∃ v T', e = .returned (.tuple #[v, fv (missF xRules ([⟨1, xA, descP xTree xA⟩, ⟨1, xB, -1⟩] : List Appr) [] xTree)]) ∧ T' = [rowl strCells w.heap.size 9 1 (v) (missV xRules ([⟨1, xA, descP xTree xA⟩, ⟨1, xB, -1⟩] : List Appr) [] xTree)] ∧ Mem w T' w' := missing_any w _ 1 [⟨⟨⟨#[42, 42]⟩, [1]⟩, some ⟨b15, 0, none⟩, 1⟩] hr (some ⟨g28, 0, none⟩) c28 ([⟨1, xA, descP xTree xA⟩, ⟨1, xB, -1⟩] : List Appr) ((row_rdl (f := apprCells) (fun _ => rfl) (hM.ok _ (List.mem_of_getElem? (i := 8) rfl))).mono (Nat.zero_le _)) hc28 hm28 none 0 [] h0 _ 1 [⟨⟨xA, [⟨#[120]⟩]⟩, some ⟨b11, 0, none⟩, 1⟩] ht; rw [aex_f2, aex_m2] at hc; exact hc.mono fun _ _ ⟨v, T1, h1, h2, h3⟩ => ⟨_, T1, h1, ⟨_, v, rfl, hM.low.size, h2⟩, h3⟩) rfl rfl rfl ?_
  rintro _ _ ⟨lo42, u42, rfl, hlo42, rfl⟩
  refine gops_fact (fun w hM => row_form (hM.ok _ (List.mem_of_getElem? (i := 12) rfl))) ?_
  rintro ⟨A42, c42, rfl, hc42, hm42, hn42⟩
  refine gop (y_move (v := .tuple #[.slice A42 _ c42, .agg #[_, _]]) rfl) rfl rfl rfl ?_
  refine gop (y_extract (v := .slice _ _ _) rfl rfl) rfl rfl rfl ?_
  refine gop (y_extract (v := .agg #[_, _]) rfl rfl) rfl rfl rfl ?_
  refine gop_alloc (cs := #[.int .i64 0, .int .i64 0]) Tryz.zeroValue33 rfl rfl (fun b10 hb10 => ?_)
  refine gop (y_assign (v := .slice _ _ _) rfl) rfl rfl rfl ?_
  refine gop_store 13 (v := .agg #[_, _]) (cs' := #[_, _]) rfl rfl Tryz.sizeOf33 rfl rfl rfl rfl (Nat.le_of_ble_eq_true rfl) rfl rfl ?_
  refine gops_nil ?_
  refine hN7 _ _ ?_
  refine gT [box b11 _, box b13 _, box b1 _, box b15 _, box b17 _, rowl _ _ _ _ _ _, box b4 _, box b27 _, rowl _ _ _ _ _ _, box b6 _, rowl _ _ _ _ _ _, box b8 _, rowl _ _ _ _ _ _, box b10 _] rfl ?_
  refine gfrom [(3, .slice _ _ _), (4, .pointer _), (5, .slice _ _ _), (6, .pointer _), (7, .slice _ _ _), (8, .pointer _), (9, .slice _ _ _), (10, .pointer _)] ⟨rfl, rfl, rfl, rfl, rfl, rfl, rfl, rfl, trivial⟩ fun σ => ?_
  refine gseq fun N8 hN8 => ?_
  refine greg ?_
  refine gop (y_fieldAddr_box fa33_0 rfl) rfl rfl rfl ?_
  refine gop (y_load Tryz.isAgg3 rfl (cell_box 6 rfl rfl)) rfl rfl rfl ?_
  refine gop (y_eql rfl rfl) rfl rfl rfl ?_
  refine gop (y_move (v := .bool _) rfl) rfl rfl rfl ?_
  refine gop_if (want := true) rfl rfl rfl rfl rfl rfl (fun hg48 => ?_) (fun hg48 => ?_)
  · 
    have hg48d := of_decide_eq_true hg48
    refine gop (y_bare (y_fieldAddr_box fa33_0 rfl)) rfl rfl rfl ?_
    refine gop_on rfl rfl rfl rfl hg48 ?_
    refine gop (y_bare (y_load Tryz.isAgg3 rfl (cell_box 9 rfl rfl))) rfl rfl rfl ?_
    refine gop_on rfl rfl rfl rfl hg48 ?_
    refine gop (y_bare (y_eql rfl rfl)) rfl rfl rfl ?_
    refine gop (y_pick_t (v := .bool _) rfl hg48 rfl) rfl rfl rfl ?_
    refine gop (y_move (v := .bool _) rfl) rfl rfl rfl ?_
    refine gop_if (want := true) rfl rfl rfl rfl rfl rfl (fun hg53 => ?_) (fun hg53 => ?_)
    · 
      have hg53d := of_decide_eq_true hg53
      refine gop (y_bare (y_fieldAddr_box fa33_0 rfl)) rfl rfl rfl ?_
      refine gop_on rfl rfl rfl rfl hg53 ?_
      refine gop (y_bare (y_load Tryz.isAgg3 rfl (cell_box 11 rfl rfl))) rfl rfl rfl ?_
      refine gop_on rfl rfl rfl rfl hg53 ?_
      refine gop (y_bare (y_eql rfl rfl)) rfl rfl rfl ?_
      refine gop (y_pick_t (v := .bool _) rfl hg53 rfl) rfl rfl rfl ?_
      refine gop (y_move (v := .bool _) rfl) rfl rfl rfl ?_
      refine gop_if (want := true) rfl rfl rfl rfl rfl rfl (fun hg58 => ?_) (fun hg58 => ?_)
      · 
        have hg58d := of_decide_eq_true hg58
        refine gop (y_bare (y_fieldAddr_box fa33_0 rfl)) rfl rfl rfl ?_
        refine gop_on rfl rfl rfl rfl hg58 ?_
        refine gop (y_bare (y_load Tryz.isAgg3 rfl (cell_box 13 rfl rfl))) rfl rfl rfl ?_
        refine gop_on rfl rfl rfl rfl hg58 ?_
        refine gop (y_bare (y_eql rfl rfl)) rfl rfl rfl ?_
        refine gop (y_pick_t (v := .bool _) rfl hg58 rfl) rfl rfl rfl ?_
        refine gop (y_move (v := .bool _) rfl) rfl rfl rfl ?_
        refine gop_if (want := true) rfl rfl rfl rfl rfl rfl (fun hg63 => ?_) (fun hg63 => ?_)
        · 
          have hg63d := of_decide_eq_true hg63
          refine gop (y_bare (y_move (v := .slice _ _ _) rfl)) rfl rfl rfl ?_
          refine gop_on rfl rfl rfl rfl hg63 ?_
          refine gop_lit (vs := [.string _]) (cells := #[_]) Tryz.underlying22 Tryz.sizeOf9 Tryz.zeroValue9 rfl (by decide) (by decide) rfl rfl rfl rfl (fun b65 hb65 => ?_)
          refine gop_on rfl rfl rfl rfl hg63 ?_
          refine gop_pure (e_call (vs := [.slice _ _ _, .slice (some _) _ _]) Tryz.func24 rfl (by kernel_rfl) rfl) (fun w hM => by have h1 : Rdl w 0 1 strCells A22 [xA] := ((row_rdl (f := strCells) (fun _ => rfl) (hM.ok _ (List.mem_of_getElem? (i := 5) rfl))).mono (Nat.zero_le _)); have h2 : Rdl w 0 1 strCells (some ⟨b65, 0, none⟩) [xA] := ((Rdl.of_box 14 (f := strCells) (fun _ => rfl) hM rfl rfl).mono (Nat.zero_le _)); have hc := equalStrings_any w A22 (some ⟨b65, 0, none⟩) c22 1 [xA] [xA] h1 h2 (by simp [maxLen]); exact hc) rfl rfl rfl ?_
          refine gop (y_pick_t (v := .bool _) rfl hg63 rfl) rfl rfl rfl ?_
          refine gop (y_move (v := .bool _) rfl) rfl rfl rfl ?_
          refine gop_if (want := true) rfl rfl rfl rfl rfl rfl (fun hg68 => ?_) (fun hg68 => ?_)
          · 
            have hg68d := hg68
            refine gop (y_bare (y_move (v := .slice _ _ _) rfl)) rfl rfl rfl ?_
            refine gop_on rfl rfl rfl rfl hg68 ?_
            refine gop (y_bare (y_len Tryz.underlying58 rfl)) rfl rfl rfl ?_
            refine gop_on rfl rfl rfl rfl hg68 ?_
            refine gop (y_bare (y_eql rfl rfl)) rfl rfl rfl ?_
            refine gop (y_pick_t (v := .bool _) rfl hg68 rfl) rfl rfl rfl ?_
            refine gop (y_move (v := .bool _) rfl) rfl rfl rfl ?_
            refine gop_if (want := true) rfl rfl rfl rfl rfl rfl (fun hg73 => ?_) (fun hg73 => ?_)
            · 
              have hg73d := of_decide_eq_true hg73
              refine gop (y_bare (y_move (v := .slice _ _ _) rfl)) rfl rfl rfl ?_
              refine gop_on rfl rfl rfl rfl hg73 ?_
              refine gop (y_bare (y_indexAddr (m := 1) Tryz.underlying58 Tryz.sizeOf70 rfl rfl (by omega) (by decide) (by decide))) rfl rfl rfl ?_
              refine gop_on rfl rfl rfl rfl hg73 ?_
              refine gop (y_bare (y_fieldAddr_add fa70_2 rfl)) rfl rfl rfl ?_
              refine gop_on rfl rfl rfl rfl hg73 ?_
              refine gop (y_bare (y_load Tryz.isAgg3 rfl (cells_rowl 8 (f := apprCells) (l := ([⟨1, xA, descP xTree xA⟩, ⟨1, xB, -1⟩] : List Appr)) rfl rfl (fun _ => rfl) (k := 1) (a := ⟨1, xB, -1⟩) rfl 2 _ rfl))) rfl rfl rfl ?_
              refine gop_on rfl rfl rfl rfl hg73 ?_
              refine gop (y_bare (y_eql rfl rfl)) rfl rfl rfl ?_
              refine gop (y_pick_t (v := .bool _) rfl hg73 rfl) rfl rfl rfl ?_
              refine gop (y_move (v := .bool _) rfl) rfl rfl rfl ?_
              refine gop_if (want := true) rfl rfl rfl rfl rfl rfl (fun hg80 => ?_) (fun hg80 => ?_)
              · 
                have hg80d := of_decide_eq_true hg80
                refine gop (y_bare (y_move (v := .slice _ _ _) rfl)) rfl rfl rfl ?_
                refine gop_on rfl rfl rfl rfl hg80 ?_
                refine gop (y_bare (y_len Tryz.underlying46 rfl)) rfl rfl rfl ?_
                refine gop_on rfl rfl rfl rfl hg80 ?_
                refine gop (y_bare (y_eql rfl rfl)) rfl rfl rfl ?_
                refine gop (y_pick_t (v := .bool _) rfl hg80 rfl) rfl rfl rfl ?_
                refine gop (y_move (v := .bool _) rfl) rfl rfl rfl ?_
                refine gop_if (want := true) rfl rfl rfl rfl rfl rfl (fun hg85 => ?_) (fun hg85 => ?_)
                · 
                  have hg85d := of_decide_eq_true hg85
                  refine gop (y_bare (y_move (v := .slice _ _ _) rfl)) rfl rfl rfl ?_
                  refine gop_on rfl rfl rfl rfl hg85 ?_
                  refine gop (y_bare (y_indexAddr (m := 0) Tryz.underlying46 Tryz.sizeOf4 rfl rfl (by omega) (by decide) (by decide))) rfl rfl rfl ?_
                  refine gop_on rfl rfl rfl rfl hg85 ?_
                  refine gop (y_bare (y_load Tryz.isAgg4 rfl (cells_rowl 10 (f := boolCells) (l := [true, true]) rfl rfl (fun _ => rfl) (k := 0) (a := true) rfl 0 _ rfl))) rfl rfl rfl ?_
                  refine gop (y_pick_t (v := .bool _) rfl hg85 rfl) rfl rfl rfl ?_
                  refine gop (y_move (v := .bool _) rfl) rfl rfl rfl ?_
                  refine gop_if (want := true) rfl rfl rfl rfl rfl rfl (fun hg90 => ?_) (fun hg90 => ?_)
                  · 
                    have hg90d := hg90
                    refine gop (y_bare (y_move (v := .slice _ _ _) rfl)) rfl rfl rfl ?_
                    refine gop_on rfl rfl rfl rfl hg90 ?_
                    refine gop (y_bare (y_indexAddr (m := 1) Tryz.underlying46 Tryz.sizeOf4 rfl rfl (by omega) (by decide) (by decide))) rfl rfl rfl ?_
                    refine gop_on rfl rfl rfl rfl hg90 ?_
                    refine gop (y_bare (y_load Tryz.isAgg4 rfl (cells_rowl 10 (f := boolCells) (l := [true, true]) rfl rfl (fun _ => rfl) (k := 1) (a := true) rfl 0 _ rfl))) rfl rfl rfl ?_
                    refine gop (y_pick_t (v := .bool _) rfl hg90 rfl) rfl rfl rfl ?_
                    refine gop (y_move (v := .bool _) rfl) rfl rfl rfl ?_
                    refine gop_if (want := true) rfl rfl rfl rfl rfl rfl (fun hg95 => ?_) (fun hg95 => ?_)
                    · 
                      have hg95d := hg95
                      refine gop (y_bare (y_move (v := .slice _ _ _) rfl)) rfl rfl rfl ?_
                      refine gop_on rfl rfl rfl rfl hg95 ?_
                      refine gop (y_bare (y_len Tryz.underlying22 rfl)) rfl rfl rfl ?_
                      refine gop_on rfl rfl rfl rfl hg95 ?_
                      refine gop (y_bare (y_eql rfl rfl)) rfl rfl rfl ?_
                      refine gop (y_pick_t (v := .bool _) rfl hg95 rfl) rfl rfl rfl ?_
                      refine gop (y_assign (v := .bool _) rfl) rfl rfl rfl ?_
                      refine gops_nil ?_
                      refine hN8 _ _ ?_
                      refine gT [box b11 _, box b13 _, box b1 _, box b15 _, box b17 _, rowl _ _ _ _ _ _, box b4 _, box b27 _, rowl _ _ _ _ _ _, box b6 _, rowl _ _ _ _ _ _, box b8 _, rowl _ _ _ _ _ _, box b10 _, box b65 _] rfl ?_
                      refine gfrom [(0, .bool _)] ⟨rfl, trivial⟩ fun σ => ?_
                      refine gret fun w1 hM => ?_
                      refine ⟨_, res1 rfl (rt (v := .bool _) rfl), ?_⟩
                      exact ⟨rfl, hM.low⟩
                    · 
                       exact absurd hg95 (by first | decide | simp)
                  · 
                     exact absurd hg90 (by first | decide | simp)
                · 
                   exact absurd hg85 (by first | decide | simp)
              · 
                 exact absurd hg80 (by first | decide | simp)
            · 
               exact absurd hg73 (by first | decide | simp)
          · 
             exact absurd hg68 (by first | decide | simp)
        · 
           exact absurd hg63 (by first | decide | simp)
      · 
         exact absurd hg58 (by first | decide | simp)
    · 
       exact absurd hg53 (by first | decide | simp)
  · 
     exact absurd hg48 (by first | decide | simp)
end Go.Proofs.YtbkameioedmlkaaGreatDoor
namespace Go.Proofs.YtbkameioedmlkaaGreatDoor
open Go.RowKit Go.Cf
set_option maxRecDepth 10000
theorem eq33 (a0 b0 : Int) (a1 b1 : Int) (w : World) : (binOp .eql 33 (.agg #[.int .i64 a0, .int .i64 a1]) (.agg #[.int .i64 b0, .int .i64 b1])).run Tryz.prog w = .ok (.bool ((decide (a0 = b0) && decide (a1 = b1)))) w := by
  simp [run_eql_struct, run_equalIn_agg, Tryz.underlying33, Tryz.stoodInHeld33, Program.fieldsOf, go_sem]
  (repeat' split) <;> simp_all
set_option maxHeartbeats 32000000 in
theorem law36_any (w : World) (RA : Option Addr) (rcp : Nat) (rs : List RuleC) (hRS : RulesR w 0 RA rcp rs) (LA : Option Addr) (lc : Nat) (l : List Appr) (hl : Rdl w 0 3 apprCells LA l) (hll : l.length ≤ lc) (hlm : lc ≤ maxLen) (A : Option Addr) (c : Nat) (fs : List FileC) (hR : TreeR w 0 A c fs) (B : Option Addr) (d : Nat) (gs : List FileC) (hS : TreeR w 0 B d gs) (hpz : ∀ a ∈ l, a.path.size ≤ 4000000) : Calls Tryz.prog 5 #[.slice RA rs.length rcp, .slice LA l.length lc, .agg #[.slice A fs.length c], .agg #[.slice B gs.length d]] w fun e w' => e = .returned (.bool true) ∧ Below w.heap.size w w' := by
  have hsl := hR.sb.len
  have hsm := hR.sb.max
  have hmx : maxLen = 9223372036854775807 := rfl
  refine gcalls Tryz.func5 rfl Tryz.ntmps5 (Nat.le_of_ble_eq_true rfl) ?_
  refine gfrom [(0, .slice _ _ _), (1, .slice _ _ _), (2, .agg #[_]), (3, .agg #[_])] ⟨rfl, rfl, rfl, rfl, trivial⟩ fun σ => ?_
  refine gseq fun N1 hN1 => ?_
  refine greg ?_
  refine gop_box (v := .agg #[_]) (cs := #[_]) rfl rfl rfl (fun b6 hb6 => ?_)
  refine gop_box (v := .agg #[_]) (cs := #[_]) rfl rfl rfl (fun b7 hb7 => ?_)
  refine gop (y_assign (v := .bool _) rfl) rfl rfl rfl ?_
  refine gops_nil ?_
  refine hN1 _ _ ?_
  refine gT [box b6 _, box b7 _] rfl ?_
  refine gfrom [(0, .slice _ _ _), (1, .slice _ _ _), (6, .pointer _), (7, .pointer _)] ⟨rfl, rfl, rfl, rfl, trivial⟩ fun σ => ?_
  refine gseq fun N2 hN2 => ?_
  refine greg ?_
  refine gop (y_move (v := .slice _ _ _) rfl) rfl rfl rfl ?_
  refine gop (y_loads (cs := [_]) Tryz.isAgg61 Tryz.sizeOf61 rfl rfl (cells_box 1 rfl)) rfl rfl rfl ?_
  refine gop_got (fun v T' => ∃ lo u, v = .tuple #[u, fv (validF l (fpl gs))] ∧ w.heap.size ≤ lo ∧ T' = [rowl boolCells lo 4 1 (u) (validV l (fpl gs))]) (e_call (vs := [.slice _ _ _, .agg #[_]]) Tryz.func12 rfl (by kernel_rfl) rfl) (fun w hM => by have hc := valid_any w LA lc l (hl.base hM) hll hlm B d gs (hS.base hM); exact hc.mono fun _ _ ⟨v, T1, h1, h2, h3⟩ => ⟨_, T1, h1, ⟨_, v, rfl, hM.low.size, h2⟩, h3⟩) rfl rfl rfl ?_
  rintro _ _ ⟨lo24, u24, rfl, hlo24, rfl⟩
  refine gops_fact (fun w hM => row_form (hM.ok _ (List.mem_of_getElem? (i := 2) rfl))) ?_
  rintro ⟨A24, c24, rfl, hc24, hm24, hn24⟩
  refine gops_fact (Φ := 0 < (validV l (fpl gs)).length → ∃ g, A24 = some ⟨g, 0, none⟩) (fun w hM h9 => row_g2 (hM.ok _ (List.mem_of_getElem? (i := 2) rfl)) h9) ?_
  intro hg24
  refine gop (y_move (v := .tuple #[.slice A24 _ c24, .agg #[_, _]]) rfl) rfl rfl rfl ?_
  refine gop (y_extract (v := .slice _ _ _) rfl rfl) rfl rfl rfl ?_
  refine gop (y_extract (v := .agg #[_, _]) rfl rfl) rfl rfl rfl ?_
  refine gop_alloc (cs := #[.int .i64 0, .int .i64 0]) Tryz.zeroValue33 rfl rfl (fun b10 hb10 => ?_)
  refine gop (y_assign (v := .slice _ _ _) rfl) rfl rfl rfl ?_
  refine gop_store 3 (v := .agg #[_, _]) (cs' := #[_, _]) rfl rfl Tryz.sizeOf33 rfl rfl rfl rfl (Nat.le_of_ble_eq_true rfl) rfl rfl ?_
  refine gops_nil ?_
  refine hN2 _ _ ?_
  refine gT [box b6 _, box b7 _, rowl _ _ _ _ _ _, box b10 _] rfl ?_
  refine gfrom [(0, .slice _ _ _), (1, .slice _ _ _), (6, .pointer _), (7, .pointer _), (9, .slice _ _ _), (10, .pointer _)] ⟨rfl, rfl, rfl, rfl, rfl, rfl, trivial⟩ fun σ => ?_
  refine gseq fun N3 hN3 => ?_
  refine greg ?_
  refine gop (y_move (v := .slice _ _ _) rfl) rfl rfl rfl ?_
  refine gop (y_move (v := .slice _ _ _) rfl) rfl rfl rfl ?_
  refine gop (y_loads (cs := [_]) Tryz.isAgg61 Tryz.sizeOf61 rfl rfl (cells_box 0 rfl)) rfl rfl rfl ?_
  refine gop (y_loads (cs := [_]) Tryz.isAgg61 Tryz.sizeOf61 rfl rfl (cells_box 1 rfl)) rfl rfl rfl ?_
  refine gop_got (fun v T' => ∃ lo u, v = .tuple #[u, fv (missF (rls rs) l (fpl fs) (fpl gs))] ∧ w.heap.size ≤ lo ∧ T' = [rowl strCells lo 9 1 (u) (missV (rls rs) l (fpl fs) (fpl gs))]) (e_call (vs := [.slice _ _ _, .slice _ _ _, .agg #[_], .agg #[_]]) Tryz.func13 rfl (by kernel_rfl) rfl) (fun w hM => by have hc := missing_any w RA rcp rs (RulesR.lasts.base hRS hM) LA lc l (hl.base hM) hll hlm A c fs (hR.base hM) B d gs (hS.base hM); exact hc.mono fun _ _ ⟨v, T1, h1, h2, h3⟩ => ⟨_, T1, h1, ⟨_, v, rfl, hM.low.size, h2⟩, h3⟩) rfl rfl rfl ?_
  rintro _ _ ⟨lo32, u32, rfl, hlo32, rfl⟩
  refine gops_fact (fun w hM => row_form (hM.ok _ (List.mem_of_getElem? (i := 4) rfl))) ?_
  rintro ⟨A32, c32, rfl, hc32, hm32, hn32⟩
  refine gops_fact (Φ := 0 < (missV (rls rs) l (fpl fs) (fpl gs)).length → ∃ g, A32 = some ⟨g, 0, none⟩) (fun w hM h9 => row_g2 (hM.ok _ (List.mem_of_getElem? (i := 4) rfl)) h9) ?_
  intro hg32
  refine gop (y_move (v := .tuple #[.slice A32 _ c32, .agg #[_, _]]) rfl) rfl rfl rfl ?_
  refine gop (y_extract (v := .slice _ _ _) rfl rfl) rfl rfl rfl ?_
  refine gop (y_extract (v := .agg #[_, _]) rfl rfl) rfl rfl rfl ?_
  refine gop_alloc (cs := #[.int .i64 0, .int .i64 0]) Tryz.zeroValue33 rfl rfl (fun b12 hb12 => ?_)
  refine gop (y_assign (v := .slice _ _ _) rfl) rfl rfl rfl ?_
  refine gop_store 5 (v := .agg #[_, _]) (cs' := #[_, _]) rfl rfl Tryz.sizeOf33 rfl rfl rfl rfl (Nat.le_of_ble_eq_true rfl) rfl rfl ?_
  refine gops_nil ?_
  refine hN3 _ _ ?_
  refine gT [box b6 _, box b7 _, rowl _ _ _ _ _ _, box b10 _, rowl _ _ _ _ _ _, box b12 _] rfl ?_
  refine gfrom [(0, .slice _ _ _), (1, .slice _ _ _), (6, .pointer _), (7, .pointer _), (9, .slice _ _ _), (10, .pointer _), (11, .slice _ _ _), (12, .pointer _)] ⟨rfl, rfl, rfl, rfl, rfl, rfl, rfl, rfl, trivial⟩ fun σ => ?_
  refine gseq fun N4 hN4 => ?_
  refine greg ?_
  refine gop (y_move (v := .slice _ _ _) rfl) rfl rfl rfl ?_
  refine gop_pure (e_call (vs := [.slice _ _ _]) Tryz.func14 rfl (by kernel_rfl) rfl) (fun w hM => refAppr_any w LA lc l (hl.base hM) hll hlm hpz) rfl rfl rfl ?_
  refine gop_alloc (cs := #[.int .i64 0, .int .i64 0]) Tryz.zeroValue33 rfl rfl (fun b13 hb13 => ?_)
  refine gop_store 6 (v := .agg #[_, _]) (cs' := #[_, _]) rfl rfl Tryz.sizeOf33 rfl rfl rfl rfl (Nat.le_of_ble_eq_true rfl) rfl rfl ?_
  refine gops_nil ?_
  refine hN4 _ _ ?_
  refine gT [box b6 _, box b7 _, rowl _ _ _ _ _ _, box b10 _, rowl _ _ _ _ _ _, box b12 _, box b13 _] rfl ?_
  refine gfrom [(0, .slice _ _ _), (1, .slice _ _ _), (6, .pointer _), (7, .pointer _), (9, .slice _ _ _), (10, .pointer _), (11, .slice _ _ _), (12, .pointer _), (13, .pointer _)] ⟨rfl, rfl, rfl, rfl, rfl, rfl, rfl, rfl, rfl, trivial⟩ fun σ => ?_
  refine gseq fun N5 hN5 => ?_
  refine gseq fun N6 hN6 => ?_
  refine greg_q (by kernel_rfl) (by kernel_rfl) ?_
  refine gq_pure (e_call (vs := []) Tryz.func15 rfl (by kernel_rfl) rfl) (fun w hM => approvalsExample_any w) rfl rfl rfl ?_
  refine gq (y_not rfl) rfl rfl rfl ?_
  refine gq (y_move (v := .bool _) rfl) rfl rfl rfl ?_
  refine gq_if (want := false) rfl rfl rfl rfl rfl rfl (fun hg39 => ?_) (fun hg39 => ?_)
  · 
    have hg39d := not_f hg39
    refine gq (y_bare (y_move (v := .slice _ _ _) rfl)) rfl rfl rfl ?_
    refine gq_on rfl rfl rfl rfl hg39 ?_
    refine gq_pure (e_call (vs := [.slice _ _ _]) Tryz.func16 rfl (by kernel_rfl) rfl) (fun w hM => apprValidate_any w LA lc l (hl.base hM) hll hlm) rfl rfl rfl ?_
    refine gq_on rfl rfl rfl rfl hg39 ?_
    refine gq (y_bare (y_loads (cs := [_, _]) Tryz.isAgg33 Tryz.sizeOf33 rfl rfl (cells_box 6 rfl))) rfl rfl rfl ?_
    refine gq_on rfl rfl rfl rfl hg39 ?_
    refine gq (y_bare (y_bin (vx := .agg #[_, _]) (vy := .agg #[_, _]) rfl rfl (fun w => eg33 _ _ _ _ _ w) (fun w => ne33 _ _ _ _ w))) rfl rfl rfl ?_
    refine gq (y_pick_f (v := .bool _) rfl hg39 rfl) rfl rfl rfl ?_
    refine gqs_nil ?_
    refine hN6 _ _ ?_
    refine gfrom [(0, .slice _ _ _), (1, .slice _ _ _), (6, .pointer _), (7, .pointer _), (9, .slice _ _ _), (10, .pointer _), (11, .slice _ _ _), (12, .pointer _), (13, .pointer _), (44, .bool _)] ⟨rfl, rfl, rfl, rfl, rfl, rfl, rfl, rfl, rfl, rfl, trivial⟩ fun σ => ?_
    refine gcond (b := _) rfl (fun hc44 => ?_) (fun hc44 => ?_)
    · 
       exact absurd hc44 (by simp)
    · 
      refine gskip ?_
      refine hN5 _ _ ?_
      refine gfrom [(0, .slice _ _ _), (1, .slice _ _ _), (6, .pointer _), (7, .pointer _), (9, .slice _ _ _), (10, .pointer _), (11, .slice _ _ _), (12, .pointer _), (13, .pointer _)] ⟨rfl, rfl, rfl, rfl, rfl, rfl, rfl, rfl, rfl, trivial⟩ fun σ => ?_
      refine gseq fun N7 hN7 => ?_
      refine gfrom [(0, .slice _ _ _), (1, .slice _ _ _), (6, .pointer _), (7, .pointer _), (9, .slice _ _ _), (10, .pointer _), (11, .slice _ _ _), (12, .pointer _), (13, .pointer _)] ⟨rfl, rfl, rfl, rfl, rfl, rfl, rfl, rfl, rfl, trivial⟩ fun σ => ?_
      refine gcut3 (Lf := [(0, .slice _ _ _), (1, .slice _ _ _), (6, .pointer _), (7, .pointer _), (9, .slice _ _ _), (10, .pointer _), (11, .slice _ _ _), (12, .pointer _), (13, .pointer _)]) (G := Fault) (fun q => q = validF l (fpl gs)) (fun q => []) (fun q => [(6, box b13 (.cells #[.int .i64 q.code, .int .i64 q.index] 33))]) ⟨rfl, rfl, rfl, rfl, rfl, rfl, rfl, rfl, rfl, trivial⟩ ?_ ?_
      ·
        refine gseq fun N8 hN8 => ?_
        refine greg ?_
        refine gop (y_fieldAddr_box fa33_0 rfl) rfl rfl rfl ?_
        refine gop (y_load Tryz.isAgg3 rfl (cell_box 6 rfl rfl)) rfl rfl rfl ?_
        refine gop (y_eql rfl rfl) rfl rfl rfl ?_
        refine gops_nil ?_
        refine hN8 _ _ ?_
        refine gfrom [(0, .slice _ _ _), (1, .slice _ _ _), (6, .pointer _), (7, .pointer _), (9, .slice _ _ _), (10, .pointer _), (11, .slice _ _ _), (12, .pointer _), (13, .pointer _), (47, .bool _)] ⟨rfl, rfl, rfl, rfl, rfl, rfl, rfl, rfl, rfl, rfl, trivial⟩ fun σ => ?_
        refine gcond (b := _) rfl (fun hc47 => ?_) (fun hc47 => ?_)
        · 
          replace hc47 := of_decide_eq_true hc47
          have hq1 := vf_1 (l := l) (b := fpl gs) hc47
          refine greg ?_
          refine gop (y_loads (cs := [_]) Tryz.isAgg61 Tryz.sizeOf61 rfl rfl (cells_box 1 rfl)) rfl rfl rfl ?_
          refine gop_pure (e_call (vs := [.agg #[_], _]) Tryz.func17 rfl (by kernel_rfl) rfl) (fun w hM => treeCode_any w B d gs (hS.base hM) (-2)) rfl rfl rfl ?_
          refine gop_store 6 (v := .agg #[_, _]) (cs' := #[_, _]) rfl rfl Tryz.sizeOf33 rfl rfl rfl rfl (Nat.le_of_ble_eq_true rfl) rfl rfl ?_
          refine gops_nil ?_
          refine gcut3_end (secondF (treeF (fpl gs)) (-2)) (hq1) trivial ⟨rfl, rfl, rfl, rfl, rfl, rfl, rfl, rfl, rfl, trivial⟩ ⟨_, rfl⟩
        · 
          replace hc47 := of_decide_eq_false hc47
          have hq1 := vf_2 (l := l) (b := fpl gs) hc47
          refine gskip ?_
          refine gcut3_end (apprF l) (hq1) trivial ⟨rfl, rfl, rfl, rfl, rfl, rfl, rfl, rfl, rfl, trivial⟩ ⟨_, rfl⟩
      ·
        intro q hcut σ
        refine hN7 _ _ ?_
        subst hcut
        refine gseq fun N9 hN9 => ?_
        refine gseq fun N10 hN10 => ?_
        refine greg ?_
        refine gop (y_fieldAddr_box fa33_0 rfl) rfl rfl rfl ?_
        refine gop (y_load Tryz.isAgg3 rfl (cell_box 6 rfl rfl)) rfl rfl rfl ?_
        refine gop (y_neq rfl rfl) rfl rfl rfl ?_
        refine gops_nil ?_
        refine hN10 _ _ ?_
        refine gT [box b6 _, box b7 _, rowl _ _ _ _ _ _, box b10 _, rowl _ _ _ _ _ _, box b12 _, box b13 _] rfl ?_
        refine gfrom [(0, .slice _ _ _), (1, .slice _ _ _), (6, .pointer _), (7, .pointer _), (9, .slice _ _ _), (10, .pointer _), (11, .slice _ _ _), (12, .pointer _), (13, .pointer _), (52, .bool _)] ⟨rfl, rfl, rfl, rfl, rfl, rfl, rfl, rfl, rfl, rfl, trivial⟩ fun σ => ?_
        refine gcond (b := _) rfl (fun hc52 => ?_) (fun hc52 => ?_)
        · 
          replace hc52 := of_decide_eq_true hc52
          have hne : validF l (fpl gs) ≠ ⟨0, 0⟩ := fun h9 => hc52 (by rw [h9])
          have hmF : missF (rls rs) l (fpl fs) (fpl gs) = validF l (fpl gs) := missF_1 rfl hne
          have hvn : validV l (fpl gs) = [] := if_neg hne
          have hmn : missV (rls rs) l (fpl fs) (fpl gs) = [] := if_neg (by rw [hmF]; exact hne)
          refine gseq fun N11 hN11 => ?_
          refine greg ?_
          refine gop (y_loads (cs := [_, _]) Tryz.isAgg33 Tryz.sizeOf33 rfl rfl (cells_box 3 rfl)) rfl rfl rfl ?_
          refine gop (y_loads (cs := [_, _]) Tryz.isAgg33 Tryz.sizeOf33 rfl rfl (cells_box 6 rfl)) rfl rfl rfl ?_
          refine gop (y_bin (vx := .agg #[_, _]) (vy := .agg #[_, _]) rfl rfl (fun w => eg33 _ _ _ _ _ w) (fun w => eq33 _ _ _ _ w)) rfl rfl rfl ?_
          refine gop (y_move (v := .bool _) rfl) rfl rfl rfl ?_
          refine gop_if (want := true) rfl rfl rfl rfl rfl rfl (fun hg56 => ?_) (fun hg56 => ?_)
          · 
            have hg56d := hg56
            refine gop (y_bare (y_loads (cs := [_, _]) Tryz.isAgg33 Tryz.sizeOf33 rfl rfl (cells_box 5 rfl))) rfl rfl rfl ?_
            refine gop_on rfl rfl rfl rfl hg56 ?_
            refine gop (y_bare (y_loads (cs := [_, _]) Tryz.isAgg33 Tryz.sizeOf33 rfl rfl (cells_box 6 rfl))) rfl rfl rfl ?_
            refine gop_on rfl rfl rfl rfl hg56 ?_
            refine gop (y_bare (y_bin (vx := .agg #[_, _]) (vy := .agg #[_, _]) rfl rfl (fun w => eg33 _ _ _ _ _ w) (fun w => eq33 _ _ _ _ w))) rfl rfl rfl ?_
            refine gop (y_pick_t (v := .bool _) rfl hg56 rfl) rfl rfl rfl ?_
            refine gop (y_move (v := .bool _) rfl) rfl rfl rfl ?_
            refine gop_if (want := true) rfl rfl rfl rfl rfl rfl (fun hg61 => ?_) (fun hg61 => ?_)
            · 
              have hg61d := hg61
              refine gop (y_bare (y_move (v := .slice _ _ _) rfl)) rfl rfl rfl ?_
              refine gop_on rfl rfl rfl rfl hg61 ?_
              refine gop (y_bare (y_len Tryz.underlying46 rfl)) rfl rfl rfl ?_
              refine gop_on rfl rfl rfl rfl hg61 ?_
              refine gop (y_bare (y_eql rfl rfl)) rfl rfl rfl ?_
              refine gop (y_pick_t (v := .bool _) rfl hg61 rfl) rfl rfl rfl ?_
              refine gop (y_move (v := .bool _) rfl) rfl rfl rfl ?_
              refine gop_if (want := true) rfl rfl rfl rfl rfl rfl (fun hg66 => ?_) (fun hg66 => ?_)
              · 
                have hg66d := of_decide_eq_true hg66
                refine gop (y_bare (y_move (v := .slice _ _ _) rfl)) rfl rfl rfl ?_
                refine gop_on rfl rfl rfl rfl hg66 ?_
                refine gop (y_bare (y_len Tryz.underlying22 rfl)) rfl rfl rfl ?_
                refine gop_on rfl rfl rfl rfl hg66 ?_
                refine gop (y_bare (y_eql rfl rfl)) rfl rfl rfl ?_
                refine gop (y_pick_t (v := .bool _) rfl hg66 rfl) rfl rfl rfl ?_
                refine gop (y_assign (v := .bool _) rfl) rfl rfl rfl ?_
                refine gops_nil ?_
                refine hN11 _ _ ?_
                refine gfrom [(8, .bool _)] ⟨rfl, trivial⟩ fun σ => ?_
                refine gret fun w1 hM => ?_
                refine ⟨_, res1 rfl (rt (v := .bool _) rfl), ?_⟩
                exact ⟨by rw [hmn]; rfl, hM.low⟩
              · 
                 rw [hvn] at hg66; exact absurd hg66 (by decide)
            · 
               rw [hmF] at hg61; exact absurd hg61 (by simp)
          · 
             exact absurd hg56 (by simp)
        · 
          replace hc52 := Decidable.not_not.1 (of_decide_eq_false hc52)
          obtain ⟨hvz, haz, htz⟩ := validF_code (l := l) (fs := fpl gs) (by omega)
          have hvl := validV_len hvz
          have h40 := apprF_len haz
          have v2 := treeF_valid htz
          refine gskip ?_
          refine hN9 _ _ ?_
          refine gfrom [(0, .slice _ _ _), (1, .slice _ _ _), (6, .pointer _), (7, .pointer _), (9, .slice _ _ _), (10, .pointer _), (11, .slice _ _ _), (12, .pointer _), (13, .pointer _)] ⟨rfl, rfl, rfl, rfl, rfl, rfl, rfl, rfl, rfl, trivial⟩ fun σ => ?_
          refine gseq fun N12 hN12 => ?_
          refine gseq fun N13 hN13 => ?_
          refine greg ?_
          refine gop (y_fieldAddr_box fa33_0 rfl) rfl rfl rfl ?_
          refine gop (y_load Tryz.isAgg3 rfl (cell_box 3 rfl rfl)) rfl rfl rfl ?_
          refine gop (y_neq rfl rfl) rfl rfl rfl ?_
          refine gop (y_move (v := .bool _) rfl) rfl rfl rfl ?_
          refine gop_if (want := false) rfl rfl rfl rfl rfl rfl (fun hg74 => ?_) (fun hg74 => ?_)
          · 
            have hg74d := Decidable.not_not.1 (of_decide_eq_false hg74)
            refine gop (y_bare (y_move (v := .slice _ _ _) rfl)) rfl rfl rfl ?_
            refine gop_on rfl rfl rfl rfl hg74 ?_
            refine gop (y_bare (y_len Tryz.underlying46 rfl)) rfl rfl rfl ?_
            refine gop_on rfl rfl rfl rfl hg74 ?_
            refine gop (y_bare (y_move (v := .slice _ _ _) rfl)) rfl rfl rfl ?_
            refine gop_on rfl rfl rfl rfl hg74 ?_
            refine gop (y_bare (y_len Tryz.underlying58 rfl)) rfl rfl rfl ?_
            refine gop_on rfl rfl rfl rfl hg74 ?_
            refine gop (y_bare (y_neq rfl rfl)) rfl rfl rfl ?_
            refine gop (y_pick_f (v := .bool _) rfl hg74 rfl) rfl rfl rfl ?_
            refine gops_nil ?_
            refine hN13 _ _ ?_
            refine gfrom [(0, .slice _ _ _), (1, .slice _ _ _), (6, .pointer _), (7, .pointer _), (9, .slice _ _ _), (11, .slice _ _ _), (12, .pointer _), (13, .pointer _), (80, .bool _)] ⟨rfl, rfl, rfl, rfl, rfl, rfl, rfl, rfl, rfl, trivial⟩ fun σ => ?_
            refine gcond (b := _) rfl (fun hc80 => ?_) (fun hc80 => ?_)
            · 
               first | exact absurd (of_decide_eq_true hc80) (by rw [hvl]; simp) | (rw [hvl] at hc80; simp at hc80)
            · 
              replace hc80 := Decidable.not_not.1 (of_decide_eq_false hc80)
              refine gskip ?_
              refine hN12 _ _ ?_
              refine gfrom [(0, .slice _ _ _), (1, .slice _ _ _), (6, .pointer _), (7, .pointer _), (9, .slice _ _ _), (11, .slice _ _ _), (12, .pointer _), (13, .pointer _)] ⟨rfl, rfl, rfl, rfl, rfl, rfl, rfl, rfl, trivial⟩ fun σ => ?_
              refine gseq fun N14 hN14 => ?_
              refine gseq fun N15 hN15 => ?_
              refine greg ?_
              refine gop (y_assign (v := .int _ _) rfl) rfl rfl rfl ?_
              refine gops_nil ?_
              refine hN15 _ _ ?_
              refine gfrom [(0, .slice _ _ _), (1, .slice _ _ _), (6, .pointer _), (7, .pointer _), (9, .slice _ _ _), (11, .slice _ _ _), (12, .pointer _), (13, .pointer _), (14, .int _ _)] ⟨rfl, rfl, rfl, rfl, rfl, rfl, rfl, rfl, rfl, trivial⟩ fun σ => ?_
              refine gblock ?_
              refine gfrom2 [(14, .int _ _)] [(0, .slice _ _ _), (1, .slice _ _ _), (6, .pointer _), (7, .pointer _), (9, .slice _ _ _), (11, .slice _ _ _), (12, .pointer _), (13, .pointer _)] ⟨rfl, trivial⟩ ⟨rfl, rfl, rfl, rfl, rfl, rfl, rfl, rfl, trivial⟩ fun σ => ?_
              refine gloop2 (G := Nat) (fun k => k ≤ l.length) (fun k => l.length - k) (fun k => [(14, .int .i64 (k : Int))]) (fun k => []) (0) ?h0 ⟨rfl, trivial⟩ ⟨rfl, rfl, rfl, rfl, rfl, rfl, rfl, rfl, trivial⟩ rfl ?round
              case h0 => exact Nat.zero_le _
              case round =>
                intro k hφ σ
                have hk : k ≤ l.length := hφ
                refine gseq fun N16 hN16 => ?_
                refine gseq fun N17 hN17 => ?_
                refine greg ?_
                refine gop (y_move (v := .int _ _) rfl) rfl rfl rfl ?_
                refine gop (y_move (v := .slice _ _ _) rfl) rfl rfl rfl ?_
                refine gop (y_len Tryz.underlying58 rfl) rfl rfl rfl ?_
                refine gop (y_lss rfl rfl) rfl rfl rfl ?_
                refine gops_nil ?_
                refine hN17 _ _ ?_
                refine gfrom [(0, .slice _ _ _), (1, .slice _ _ _), (6, .pointer _), (7, .pointer _), (9, .slice _ _ _), (11, .slice _ _ _), (12, .pointer _), (13, .pointer _), (14, .int _ _), (84, .bool _)] ⟨rfl, rfl, rfl, rfl, rfl, rfl, rfl, rfl, rfl, rfl, trivial⟩ fun σ => ?_
                refine gcond (b := _) rfl (fun hc84 => ?_) (fun hc84 => ?_)
                · 
                  replace hc84 := of_decide_eq_true hc84
                  have hk1 : k < l.length := by omega
                  obtain ⟨ad, rfl, -, hca⟩ := hl.at_ hk1
                  obtain ⟨g24, rfl⟩ := hg24 (by omega)
                  have hget := validV_get2 hvz hk1
                  refine gskip ?_
                  refine hN16 _ _ ?_
                  refine gfrom [(0, .slice _ _ _), (1, .slice _ _ _), (6, .pointer _), (7, .pointer _), (9, .slice _ _ _), (11, .slice _ _ _), (12, .pointer _), (13, .pointer _), (14, .int _ _)] ⟨rfl, rfl, rfl, rfl, rfl, rfl, rfl, rfl, rfl, trivial⟩ fun σ => ?_
                  refine gseq fun N18 hN18 => ?_
                  refine gblock ?_
                  refine gseq fun N19 hN19 => ?_
                  refine greg_q (by kernel_rfl) (by kernel_rfl) ?_
                  refine gq (y_move (v := .slice _ _ _) rfl) rfl rfl rfl ?_
                  refine gq (y_move (v := .int _ _) rfl) rfl rfl rfl ?_
                  refine gq (y_indexAddr (m := k) Tryz.underlying46 Tryz.sizeOf4 rfl rfl (by omega) (by omega) (by omega)) rfl rfl rfl ?_
                  refine gq (y_load Tryz.isAgg4 rfl (cells_rowl 2 (f := boolCells) (l := validV l (fpl gs)) rfl rfl (fun _ => rfl) hget 0 _ rfl)) rfl rfl rfl ?_
                  refine gq (y_loads (cs := [_]) Tryz.isAgg61 Tryz.sizeOf61 rfl rfl (cells_box 1 rfl)) rfl rfl rfl ?_
                  refine gq (y_move (v := .slice _ _ _) rfl) rfl rfl rfl ?_
                  refine gq (y_move (v := .int _ _) rfl) rfl rfl rfl ?_
                  refine gq (y_indexAddr (m := k) Tryz.underlying58 Tryz.sizeOf70 rfl rfl (by omega) (by omega) (by omega)) rfl rfl rfl ?_
                  refine gq (y_fieldAddr_add fa70_1 rfl) rfl rfl rfl ?_
                  refine gq (y_load Tryz.isAgg9 rfl (cell_base (hca 1 _ rfl))) rfl rfl rfl ?_
                  refine gq_pure (e_call (vs := [.agg #[_], .string _]) Tryz.func18 rfl (by kernel_rfl) rfl) (fun w hM => seen_any w B d gs (hS.base hM) v2 l[k].path) rfl rfl rfl ?_
                  refine gq (y_move (v := .slice _ _ _) rfl) rfl rfl rfl ?_
                  refine gq (y_move (v := .int _ _) rfl) rfl rfl rfl ?_
                  refine gq (y_indexAddr (m := k) Tryz.underlying58 Tryz.sizeOf70 rfl rfl (by omega) (by omega) (by omega)) rfl rfl rfl ?_
                  refine gq (y_fieldAddr_add fa70_2 rfl) rfl rfl rfl ?_
                  refine gq (y_load Tryz.isAgg3 rfl (cell_base (hca 2 _ rfl))) rfl rfl rfl ?_
                  refine gq (y_eql rfl rfl) rfl rfl rfl ?_
                  refine gq (y_neqb rfl rfl Tryz.underlying4) rfl rfl rfl ?_
                  refine gqs_nil ?_
                  refine hN19 _ _ ?_
                  refine gfrom [(0, .slice _ _ _), (1, .slice _ _ _), (6, .pointer _), (7, .pointer _), (9, .slice _ _ _), (11, .slice _ _ _), (12, .pointer _), (13, .pointer _), (14, .int _ _), (104, .bool _)] ⟨rfl, rfl, rfl, rfl, rfl, rfl, rfl, rfl, rfl, rfl, trivial⟩ fun σ => ?_
                  refine gcond (b := _) rfl (fun hc104 => ?_) (fun hc104 => ?_)
                  · 
                     exact absurd hc104 (by simp)
                  · 
                    refine gskip ?_
                    refine hN18 _ _ ?_
                    refine gfrom [(0, .slice _ _ _), (1, .slice _ _ _), (6, .pointer _), (7, .pointer _), (9, .slice _ _ _), (11, .slice _ _ _), (12, .pointer _), (13, .pointer _), (14, .int _ _)] ⟨rfl, rfl, rfl, rfl, rfl, rfl, rfl, rfl, rfl, trivial⟩ fun σ => ?_
                    refine greg ?_
                    refine gop (y_move (v := .int _ _) rfl) rfl rfl rfl ?_
                    refine gop (y_add rfl rfl ⟨by omega, by omega⟩) rfl rfl rfl ?_
                    refine gop (y_assign (v := .int _ _) rfl) rfl rfl rfl ?_
                    refine gops_nil ?_
                    refine gnext2 (k + 1) (by omega) (show k + 1 ≤ _ by omega) ⟨rfl, trivial⟩ ⟨rfl, rfl, rfl, rfl, rfl, rfl, rfl, rfl, trivial⟩ ⟨_, rfl⟩
                · 
                  replace hc84 := of_decide_eq_false hc84
                  refine gexit ?_
                  refine hN14 _ _ ?_
                  refine gfrom [(0, .slice _ _ _), (1, .slice _ _ _), (6, .pointer _), (7, .pointer _), (9, .slice _ _ _), (11, .slice _ _ _), (12, .pointer _), (13, .pointer _)] ⟨rfl, rfl, rfl, rfl, rfl, rfl, rfl, rfl, trivial⟩ fun σ => ?_
                  refine gseq fun N20 hN20 => ?_
                  refine greg ?_
                  refine gop (y_loads (cs := [_]) Tryz.isAgg61 Tryz.sizeOf61 rfl rfl (cells_box 0 rfl)) rfl rfl rfl ?_
                  refine gop_pure (e_call (vs := [.agg #[_], _]) Tryz.func17 rfl (by kernel_rfl) rfl) (fun w hM => treeCode_any w A c fs (hR.base hM) (-3)) rfl rfl rfl ?_
                  refine gop_store 6 (v := .agg #[_, _]) (cs' := #[_, _]) rfl rfl Tryz.sizeOf33 rfl rfl rfl rfl (Nat.le_of_ble_eq_true rfl) rfl rfl ?_
                  refine gops_nil ?_
                  refine hN20 _ _ ?_
                  refine gT [box b6 _, box b7 _, rowl _ _ _ _ _ _, box b10 _, rowl _ _ _ _ _ _, box b12 _, box b13 _] rfl ?_
                  refine gfrom [(0, .slice _ _ _), (1, .slice _ _ _), (6, .pointer _), (7, .pointer _), (9, .slice _ _ _), (11, .slice _ _ _), (12, .pointer _), (13, .pointer _)] ⟨rfl, rfl, rfl, rfl, rfl, rfl, rfl, rfl, trivial⟩ fun σ => ?_
                  refine gseq fun N21 hN21 => ?_
                  refine gfrom [(0, .slice _ _ _), (1, .slice _ _ _), (6, .pointer _), (7, .pointer _), (9, .slice _ _ _), (11, .slice _ _ _), (12, .pointer _), (13, .pointer _)] ⟨rfl, rfl, rfl, rfl, rfl, rfl, rfl, rfl, trivial⟩ fun σ => ?_
                  refine gcut3 (Lf := [(0, .slice _ _ _), (1, .slice _ _ _), (6, .pointer _), (7, .pointer _), (9, .slice _ _ _), (11, .slice _ _ _), (12, .pointer _), (13, .pointer _)]) (G := Fault) (fun q => q = missF (rls rs) l (fpl fs) (fpl gs)) (fun q => []) (fun q => [(6, box b13 (.cells #[.int .i64 q.code, .int .i64 q.index] 33))]) ⟨rfl, rfl, rfl, rfl, rfl, rfl, rfl, rfl, trivial⟩ ?_ ?_
                  ·
                    refine gseq fun N22 hN22 => ?_
                    refine greg ?_
                    refine gop (y_fieldAddr_box fa33_0 rfl) rfl rfl rfl ?_
                    refine gop (y_load Tryz.isAgg3 rfl (cell_box 6 rfl rfl)) rfl rfl rfl ?_
                    refine gop (y_eql rfl rfl) rfl rfl rfl ?_
                    refine gop (y_move (v := .bool _) rfl) rfl rfl rfl ?_
                    refine gop_if (want := true) rfl rfl rfl rfl rfl rfl (fun hg110 => ?_) (fun hg110 => ?_)
                    · 
                      have hg110d := of_decide_eq_true hg110
                      refine gop (y_bare (y_move (v := .slice _ _ _) rfl)) rfl rfl rfl ?_
                      refine gop_on rfl rfl rfl rfl hg110 ?_
                      refine gop_pure (e_call (vs := [.slice _ _ _]) Tryz.func19 rfl (by kernel_rfl) rfl) (fun w hM => refRulesFault_any w RA rcp rs (RulesR.lasts.base hRS hM)) rfl rfl rfl ?_
                      refine gop_on rfl rfl rfl rfl hg110 ?_
                      refine gop (y_bare (y_field (cs := #[_, _]) rfl (fd33_0 _ _))) rfl rfl rfl ?_
                      refine gop_on rfl rfl rfl rfl hg110 ?_
                      refine gop (y_bare (y_neq rfl rfl)) rfl rfl rfl ?_
                      refine gop (y_pick_t (v := .bool _) rfl hg110 rfl) rfl rfl rfl ?_
                      refine gops_nil ?_
                      refine hN22 _ _ ?_
                      refine gfrom [(0, .slice _ _ _), (1, .slice _ _ _), (6, .pointer _), (7, .pointer _), (9, .slice _ _ _), (11, .slice _ _ _), (12, .pointer _), (13, .pointer _), (115, .bool _)] ⟨rfl, rfl, rfl, rfl, rfl, rfl, rfl, rfl, rfl, trivial⟩ fun σ => ?_
                      refine gcond (b := _) rfl (fun hc115 => ?_) (fun hc115 => ?_)
                      · 
                        replace hc115 := of_decide_eq_true hc115
                        refine greg ?_
                        refine gop (y_move (v := .slice _ _ _) rfl) rfl rfl rfl ?_
                        refine gop_pure (e_call (vs := [.slice _ _ _]) Tryz.func19 rfl (by kernel_rfl) rfl) (fun w hM => refRulesFault_any w RA rcp rs (RulesR.lasts.base hRS hM)) rfl rfl rfl ?_
                        refine gop (y_field (cs := #[_, _]) rfl (fd33_0 _ _)) rfl rfl rfl ?_
                        refine gop_pure (e_call (vs := [.int _ _, _]) Tryz.func20 rfl (by kernel_rfl) rfl) (fun w hM => fault_any w _ _) rfl rfl rfl ?_
                        refine gop_store 6 (v := .agg #[_, _]) (cs' := #[_, _]) rfl rfl Tryz.sizeOf33 rfl rfl rfl rfl (Nat.le_of_ble_eq_true rfl) rfl rfl ?_
                        refine gops_nil ?_
                        refine gcut3_end (⟨(rulesF (rls rs)).code, -4⟩) (mf_t hvz hg110d (by omega)) trivial ⟨rfl, rfl, rfl, rfl, rfl, rfl, rfl, rfl, trivial⟩ ⟨_, rfl⟩
                      · 
                        replace hc115 := Decidable.not_not.1 (of_decide_eq_false hc115)
                        refine gskip ?_
                        refine gcut3_end (secondF (treeF (fpl fs)) (-3)) (mf_f hvz hg110d (by omega)) trivial ⟨rfl, rfl, rfl, rfl, rfl, rfl, rfl, rfl, trivial⟩ ⟨_, rfl⟩
                    · 
                      have hg110d := of_decide_eq_false hg110
                      refine gop_off rfl rfl rfl rfl hg110 rfl rfl ?_
                      refine gop_off rfl rfl rfl rfl hg110 rfl rfl ?_
                      refine gop_off rfl rfl rfl rfl hg110 rfl rfl ?_
                      refine gop (y_pick_f (v := .bool _) rfl hg110 rfl) rfl rfl rfl ?_
                      refine gops_nil ?_
                      refine hN22 _ _ ?_
                      refine gfrom [(0, .slice _ _ _), (1, .slice _ _ _), (6, .pointer _), (7, .pointer _), (9, .slice _ _ _), (11, .slice _ _ _), (12, .pointer _), (13, .pointer _), (115, .bool _)] ⟨rfl, rfl, rfl, rfl, rfl, rfl, rfl, rfl, rfl, trivial⟩ fun σ => ?_
                      refine gcond (b := _) rfl (fun hc115 => ?_) (fun hc115 => ?_)
                      · 
                        cases hc115
                      · 
                        refine gskip ?_
                        refine gcut3_end (secondF (treeF (fpl fs)) (-3)) (mf_n hvz hg110d) trivial ⟨rfl, rfl, rfl, rfl, rfl, rfl, rfl, rfl, trivial⟩ ⟨_, rfl⟩
                  ·
                    intro q hcut σ
                    refine hN21 _ _ ?_
                    subst hcut
                    refine gseq fun N23 hN23 => ?_
                    refine gseq fun N24 hN24 => ?_
                    refine greg ?_
                    refine gop (y_fieldAddr_box fa33_0 rfl) rfl rfl rfl ?_
                    refine gop (y_load Tryz.isAgg3 rfl (cell_box 6 rfl rfl)) rfl rfl rfl ?_
                    refine gop (y_neq rfl rfl) rfl rfl rfl ?_
                    refine gops_nil ?_
                    refine hN24 _ _ ?_
                    refine gT [box b6 _, box b7 _, rowl _ _ _ _ _ _, box b10 _, rowl _ _ _ _ _ _, box b12 _, box b13 _] rfl ?_
                    refine gfrom [(0, .slice _ _ _), (1, .slice _ _ _), (6, .pointer _), (7, .pointer _), (9, .slice _ _ _), (11, .slice _ _ _), (12, .pointer _), (13, .pointer _), (122, .bool _)] ⟨rfl, rfl, rfl, rfl, rfl, rfl, rfl, rfl, rfl, trivial⟩ fun σ => ?_
                    refine gcond (b := _) rfl (fun hc122 => ?_) (fun hc122 => ?_)
                    · 
                      replace hc122 := of_decide_eq_true hc122
                      have hmn : missV (rls rs) l (fpl fs) (fpl gs) = [] := if_neg (fun h9 => hc122 (by rw [h9]))
                      refine gseq fun N25 hN25 => ?_
                      refine greg ?_
                      refine gop (y_loads (cs := [_, _]) Tryz.isAgg33 Tryz.sizeOf33 rfl rfl (cells_box 5 rfl)) rfl rfl rfl ?_
                      refine gop (y_loads (cs := [_, _]) Tryz.isAgg33 Tryz.sizeOf33 rfl rfl (cells_box 6 rfl)) rfl rfl rfl ?_
                      refine gop (y_bin (vx := .agg #[_, _]) (vy := .agg #[_, _]) rfl rfl (fun w => eg33 _ _ _ _ _ w) (fun w => eq33 _ _ _ _ w)) rfl rfl rfl ?_
                      refine gop (y_move (v := .bool _) rfl) rfl rfl rfl ?_
                      refine gop_if (want := true) rfl rfl rfl rfl rfl rfl (fun hg126 => ?_) (fun hg126 => ?_)
                      · 
                        have hg126d := hg126
                        refine gop (y_bare (y_move (v := .slice _ _ _) rfl)) rfl rfl rfl ?_
                        refine gop_on rfl rfl rfl rfl hg126 ?_
                        refine gop (y_bare (y_len Tryz.underlying22 rfl)) rfl rfl rfl ?_
                        refine gop_on rfl rfl rfl rfl hg126 ?_
                        refine gop (y_bare (y_eql rfl rfl)) rfl rfl rfl ?_
                        refine gop (y_pick_t (v := .bool _) rfl hg126 rfl) rfl rfl rfl ?_
                        refine gop (y_assign (v := .bool _) rfl) rfl rfl rfl ?_
                        refine gops_nil ?_
                        refine hN25 _ _ ?_
                        refine gfrom [(8, .bool _)] ⟨rfl, trivial⟩ fun σ => ?_
                        refine gret fun w1 hM => ?_
                        refine ⟨_, res1 rfl (rt (v := .bool _) rfl), ?_⟩
                        exact ⟨by rw [hmn]; rfl, hM.low⟩
                      · 
                         exact absurd hg126 (by simp)
                    · 
                      replace hc122 := Decidable.not_not.1 (of_decide_eq_false hc122)
                      obtain ⟨hF, -, -, hbz, hrz⟩ := missF_code (rs := rls rs) (l := l) (base := fpl fs) (tree := fpl gs) (by omega)
                      have v1 := treeF_valid hbz
                      have hcn : (chgL (fpl fs) (fpl gs)).length ≤ 48 := by have h8 := chg_len (a := fpl fs) (b := fpl gs); have h7 := v1.len; have h6 := v2.len; omega
                      refine gskip ?_
                      refine hN23 _ _ ?_
                      refine gfrom [(0, .slice _ _ _), (1, .slice _ _ _), (6, .pointer _), (7, .pointer _), (9, .slice _ _ _), (11, .slice _ _ _), (12, .pointer _)] ⟨rfl, rfl, rfl, rfl, rfl, rfl, rfl, trivial⟩ fun σ => ?_
                      refine gseq fun N26 hN26 => ?_
                      refine greg ?_
                      refine gop (y_assign (v := .slice _ _ _) rfl) rfl rfl rfl ?_
                      refine gops_nil ?_
                      refine hN26 _ _ ?_
                      refine gfrom [(0, .slice _ _ _), (1, .slice _ _ _), (6, .pointer _), (7, .pointer _), (9, .slice _ _ _), (11, .slice _ _ _), (12, .pointer _), (15, .slice _ _ _)] ⟨rfl, rfl, rfl, rfl, rfl, rfl, rfl, rfl, trivial⟩ fun σ => ?_
                      refine gseq fun N27 hN27 => ?_
                      refine greg ?_
                      refine gop (y_loads (cs := [_]) Tryz.isAgg61 Tryz.sizeOf61 rfl rfl (cells_box 0 rfl)) rfl rfl rfl ?_
                      refine gop (y_loads (cs := [_]) Tryz.isAgg61 Tryz.sizeOf61 rfl rfl (cells_box 1 rfl)) rfl rfl rfl ?_
                      refine gop_got (fun v T' => ∃ lo, w.heap.size ≤ lo ∧ T' = [rowl strCells lo 9 1 (v) (chgL (fpl fs) (fpl gs))]) (e_call (vs := [.agg #[_], .agg #[_]]) Tryz.func21 rfl (by kernel_rfl) rfl) (fun w hM => by have hc := refChanged_any w A c fs (hR.base hM) v1 B d gs (hS.base hM) v2; exact hc.mono fun _ _ ⟨v, T1, h1, h2, h3⟩ => ⟨v, T1, h1, ⟨_, hM.low.size, h2⟩, h3⟩) rfl rfl rfl ?_
                      rintro v133 _ ⟨lo133, hlo133, rfl⟩
                      refine gops_fact (fun w hM => row_form (hM.ok _ (List.mem_of_getElem? (i := 7) rfl))) ?_
                      rintro ⟨A133, c133, rfl, hc133, hm133, hn133⟩
                      refine gops_fact (Φ := 0 < (chgL (fpl fs) (fpl gs)).length → ∃ g, A133 = some ⟨g, 0, none⟩) (fun w hM h9 => row_g2 (hM.ok _ (List.mem_of_getElem? (i := 7) rfl)) h9) ?_
                      intro hg133
                      refine gop (y_assign (v := .slice A133 _ c133) rfl) rfl rfl rfl ?_
                      refine gops_nil ?_
                      refine hN27 _ _ ?_
                      refine gT [box b6 _, box b7 _, rowl _ _ _ _ _ _, box b10 _, rowl _ _ _ _ _ _, box b12 _, box b13 _, rowl _ _ _ _ _ _] rfl ?_
                      refine gfrom [(0, .slice _ _ _), (1, .slice _ _ _), (9, .slice _ _ _), (11, .slice _ _ _), (12, .pointer _), (15, .slice _ _ _), (16, .slice A133 _ c133)] ⟨rfl, rfl, rfl, rfl, rfl, rfl, rfl, trivial⟩ fun σ => ?_
                      refine gseq fun N28 hN28 => ?_
                      refine gseq fun N29 hN29 => ?_
                      refine greg ?_
                      refine gop (y_assign (v := .int _ _) rfl) rfl rfl rfl ?_
                      refine gops_nil ?_
                      refine hN29 _ _ ?_
                      refine gfrom [(0, .slice _ _ _), (1, .slice _ _ _), (9, .slice _ _ _), (11, .slice _ _ _), (12, .pointer _), (15, .slice _ _ _), (16, .slice A133 _ c133), (17, .int _ _)] ⟨rfl, rfl, rfl, rfl, rfl, rfl, rfl, rfl, trivial⟩ fun σ => ?_
                      refine gblock ?_
                      refine gnilrow strCells 9 1 ?_
                      refine gfrom2 [(15, .slice _ _ _), (17, .int _ _)] [(0, .slice _ _ _), (1, .slice _ _ _), (9, .slice _ _ _), (11, .slice _ _ _), (12, .pointer _), (16, .slice A133 _ c133)] ⟨rfl, rfl, trivial⟩ ⟨rfl, rfl, rfl, rfl, rfl, rfl, trivial⟩ fun σ => ?_
                      refine gloop2 (G := Nat × Option Addr × Nat) (fun (k, Ov, ov) => k ≤ (chgL (fpl fs) (fpl gs)).length) (fun (k, Ov, ov) => (chgL (fpl fs) (fpl gs)).length - k) (fun (k, Ov, ov) => [(15, .slice Ov (missTo (rls rs) l (fpl fs) (fpl gs) k).length ov), (17, .int .i64 (k : Int))]) (fun (k, Ov, ov) => [(8, rowl strCells w.heap.size 9 1 (.slice Ov (missTo (rls rs) l (fpl fs) (fpl gs) k).length ov) (missTo (rls rs) l (fpl fs) (fpl gs) k))]) ((0, none, 0)) ?h0 ⟨rfl, rfl, trivial⟩ ⟨rfl, rfl, rfl, rfl, rfl, rfl, trivial⟩ rfl ?round
                      case h0 => exact Nat.zero_le _
                      case round =>
                        rintro ⟨k, Ov, ov⟩ hφ σ
                        have hk : k ≤ (chgL (fpl fs) (fpl gs)).length := hφ
                        have hml := missTo_len (rls rs) l (fpl fs) (fpl gs) k
                        refine gT [box b6 _, box b7 _, rowl _ _ _ _ _ _, box b10 _, rowl _ _ _ _ _ _, box b12 _, box b13 _, rowl _ _ _ _ _ _, rowl _ _ _ _ _ _] rfl ?_
                        refine gseq fun N30 hN30 => ?_
                        refine gseq fun N31 hN31 => ?_
                        refine greg ?_
                        refine gop (y_move (v := .int _ _) rfl) rfl rfl rfl ?_
                        refine gop (y_move (v := .slice A133 _ c133) rfl) rfl rfl rfl ?_
                        refine gop (y_len Tryz.underlying22 rfl) rfl rfl rfl ?_
                        refine gop (y_lss rfl rfl) rfl rfl rfl ?_
                        refine gops_nil ?_
                        refine hN31 _ _ ?_
                        refine gfrom [(0, .slice _ _ _), (1, .slice _ _ _), (9, .slice _ _ _), (11, .slice _ _ _), (12, .pointer _), (15, .slice Ov _ ov), (16, .slice A133 _ c133), (17, .int _ _), (137, .bool _)] ⟨rfl, rfl, rfl, rfl, rfl, rfl, rfl, rfl, rfl, trivial⟩ fun σ => ?_
                        refine gcond (b := _) rfl (fun hc137 => ?_) (fun hc137 => ?_)
                        · 
                          replace hc137 := of_decide_eq_true hc137
                          have hk1 : k < (chgL (fpl fs) (fpl gs)).length := by omega
                          obtain ⟨g133, rfl⟩ := hg133 (by omega)
                          have hpk : pathOk (chgL (fpl fs) (fpl gs))[k] = true := chg_ok hbz htz (List.getElem_mem hk1)
                          obtain ⟨Bo, dq, hov, hgr⟩ := ownV_read hRS ((chgL (fpl fs) (fpl gs))[k])
                          refine gskip ?_
                          refine hN30 _ _ ?_
                          refine gfrom [(0, .slice _ _ _), (1, .slice _ _ _), (9, .slice _ _ _), (11, .slice _ _ _), (12, .pointer _), (15, .slice Ov _ ov), (16, .slice (some ⟨g133, 0, none⟩) _ c133), (17, .int _ _)] ⟨rfl, rfl, rfl, rfl, rfl, rfl, rfl, rfl, trivial⟩ fun σ => ?_
                          refine gseq fun N32 hN32 => ?_
                          refine gblock ?_
                          refine gseq fun N33 hN33 => ?_
                          refine greg ?_
                          refine gop (y_move (v := .slice _ _ _) rfl) rfl rfl rfl ?_
                          refine gop (y_move (v := .slice (some ⟨g133, 0, none⟩) _ c133) rfl) rfl rfl rfl ?_
                          refine gop (y_move (v := .int _ _) rfl) rfl rfl rfl ?_
                          refine gop (y_indexAddr (m := k) Tryz.underlying22 Tryz.sizeOf9 rfl rfl (by omega) (by omega) (by omega)) rfl rfl rfl ?_
                          refine gop (y_load Tryz.isAgg9 rfl (cells_rowl 7 (f := strCells) (l := chgL (fpl fs) (fpl gs)) rfl rfl (fun _ => rfl) (List.getElem?_eq_getElem hk1) 0 _ rfl)) rfl rfl rfl ?_
                          refine gop_pure (e_call (vs := [.slice _ _ _, .string _]) Tryz.func22 rfl (by kernel_rfl) rfl) (fun w hM => by have hc := refOwners_any w RA rcp rs (RulesR.lasts.base hRS hM) (chgL (fpl fs) (fpl gs))[k] (fun a ha => (Nat.le_trans (patFault_size (ruleCode_zero (rulesF_each hrz a.pl (List.mem_map.2 ⟨a, ha, rfl⟩))).1) (by decide))) (Nat.le_trans (pathOk_size hpk) (by decide)); rw [hov] at hc; exact hc) rfl rfl rfl ?_
                          refine gop (y_assign (v := .slice _ _ _) rfl) rfl rfl rfl ?_
                          refine gops_nil ?_
                          refine hN33 _ _ ?_
                          refine gfrom [(0, .slice _ _ _), (1, .slice _ _ _), (9, .slice _ _ _), (11, .slice _ _ _), (12, .pointer _), (15, .slice Ov _ ov), (16, .slice (some ⟨g133, 0, none⟩) _ c133), (17, .int _ _), (18, .slice _ _ _)] ⟨rfl, rfl, rfl, rfl, rfl, rfl, rfl, rfl, rfl, trivial⟩ fun σ => ?_
                          refine gseq fun N34 hN34 => ?_
                          refine greg ?_
                          refine gop (y_move (v := .slice _ _ _) rfl) rfl rfl rfl ?_
                          refine gop (y_len Tryz.underlying74 rfl) rfl rfl rfl ?_
                          refine gop (y_eql rfl rfl) rfl rfl rfl ?_
                          refine gop (y_assign (v := .bool _) rfl) rfl rfl rfl ?_
                          refine gops_nil ?_
                          refine hN34 _ _ ?_
                          refine gfrom [(0, .slice _ _ _), (1, .slice _ _ _), (9, .slice _ _ _), (11, .slice _ _ _), (12, .pointer _), (15, .slice Ov _ ov), (16, .slice (some ⟨g133, 0, none⟩) _ c133), (17, .int _ _), (18, .slice _ _ _), (19, .bool _)] ⟨rfl, rfl, rfl, rfl, rfl, rfl, rfl, rfl, rfl, rfl, trivial⟩ fun σ => ?_
                          refine gseq fun N35 hN35 => ?_
                          refine gseq fun N36 hN36 => ?_
                          refine greg ?_
                          refine gop (y_assign (v := .int _ _) rfl) rfl rfl rfl ?_
                          refine gops_nil ?_
                          refine hN36 _ _ ?_
                          refine gfrom [(0, .slice _ _ _), (1, .slice _ _ _), (9, .slice _ _ _), (11, .slice _ _ _), (12, .pointer _), (15, .slice Ov _ ov), (16, .slice (some ⟨g133, 0, none⟩) _ c133), (17, .int _ _), (18, .slice _ _ _), (19, .bool _), (20, .int _ _)] ⟨rfl, rfl, rfl, rfl, rfl, rfl, rfl, rfl, rfl, rfl, rfl, trivial⟩ fun σ => ?_
                          refine gblock ?_
                          refine gfrom2 [(19, .bool _), (20, .int _ _)] [(0, .slice _ _ _), (1, .slice _ _ _), (9, .slice _ _ _), (11, .slice _ _ _), (12, .pointer _), (15, .slice Ov _ ov), (16, .slice (some ⟨g133, 0, none⟩) _ c133), (17, .int _ _), (18, .slice _ _ _)] ⟨rfl, rfl, trivial⟩ ⟨rfl, rfl, rfl, rfl, rfl, rfl, rfl, rfl, rfl, trivial⟩ fun σ => ?_
                          refine gloop2 (G := Nat) (fun j => j ≤ l.length) (fun j => l.length - j) (fun j => [(19, .bool (doneTo (rls rs) l (fpl gs) (chgL (fpl fs) (fpl gs))[k] j)), (20, .int .i64 (j : Int))]) (fun j => []) (0) ?h0 ⟨(congrArg Value.bool doneTo_zero), rfl, trivial⟩ ⟨rfl, rfl, rfl, rfl, rfl, rfl, rfl, rfl, rfl, trivial⟩ rfl ?round
                          case h0 => exact Nat.zero_le _
                          case round =>
                            intro j hφ σ
                            have hj : j ≤ l.length := hφ
                            refine gseq fun N37 hN37 => ?_
                            refine gseq fun N38 hN38 => ?_
                            refine greg ?_
                            refine gop (y_move (v := .int _ _) rfl) rfl rfl rfl ?_
                            refine gop (y_move (v := .slice _ _ _) rfl) rfl rfl rfl ?_
                            refine gop (y_len Tryz.underlying58 rfl) rfl rfl rfl ?_
                            refine gop (y_lss rfl rfl) rfl rfl rfl ?_
                            refine gops_nil ?_
                            refine hN38 _ _ ?_
                            refine gfrom [(0, .slice _ _ _), (1, .slice _ _ _), (9, .slice _ _ _), (11, .slice _ _ _), (12, .pointer _), (15, .slice Ov _ ov), (16, .slice (some ⟨g133, 0, none⟩) _ c133), (17, .int _ _), (18, .slice _ _ _), (19, .bool _), (20, .int _ _), (152, .bool _)] ⟨rfl, rfl, rfl, rfl, rfl, rfl, rfl, rfl, rfl, rfl, rfl, rfl, trivial⟩ fun σ => ?_
                            refine gcond (b := _) rfl (fun hc152 => ?_) (fun hc152 => ?_)
                            · 
                              replace hc152 := of_decide_eq_true hc152
                              have hj1 : j < l.length := by omega
                              obtain ⟨ad, rfl, -, hca⟩ := hl.at_ hj1
                              obtain ⟨g24, rfl⟩ := hg24 (by omega)
                              refine gskip ?_
                              refine hN37 _ _ ?_
                              refine gfrom [(0, .slice _ _ _), (1, .slice _ _ _), (9, .slice _ _ _), (11, .slice _ _ _), (12, .pointer _), (15, .slice Ov _ ov), (16, .slice (some ⟨g133, 0, none⟩) _ c133), (17, .int _ _), (18, .slice _ _ _), (19, .bool _), (20, .int _ _)] ⟨rfl, rfl, rfl, rfl, rfl, rfl, rfl, rfl, rfl, rfl, rfl, trivial⟩ fun σ => ?_
                              refine gseq fun N39 hN39 => ?_
                              refine gblock ?_
                              refine greg_e0 [] (by kernel_rfl) ?_
                              refine ge_take 0 (TK := [box b6 _, box b7 _, rowl _ _ _ _ _ _, box b10 _, rowl _ _ _ _ _ _, box b12 _, box b13 _, rowl _ _ _ _ _ _, rowl _ _ _ _ _ _]) rfl (by kernel_rfl) (by kernel_rfl) (by kernel_rfl) #[false, false, false, false, false, false, false, false, false, false, false, false, false, false, false, false, false, false, false, false, false, false, false, false, false, false, false, false, false, false] (by kernel_rfl) rfl (y_move (v := .bool _) rfl) rfl rfl rfl (weak_refl) (listed' := #[true, false, false, false, false, false, false, false, false, false, false, false, false, false, false, false, false, false, false, false, false, false, false, false, false, false, false, false, false, false]) rfl ?_
                              refine ge_take 1 (TK := [box b6 _, box b7 _, rowl _ _ _ _ _ _, box b10 _, rowl _ _ _ _ _ _, box b12 _, box b13 _, rowl _ _ _ _ _ _, rowl _ _ _ _ _ _]) rfl (by kernel_rfl) (by kernel_rfl) (by kernel_rfl) #[true, false, false, false, false, false, false, false, false, false, false, false, false, false, false, false, false, false, false, false, false, false, false, false, false, false, false, false, false, false] (by kernel_rfl) rfl (y_move (v := .bool _) rfl) rfl rfl rfl (weak_refl) (listed' := #[true, true, false, false, false, false, false, false, false, false, false, false, false, false, false, false, false, false, false, false, false, false, false, false, false, false, false, false, false, false]) rfl ?_
                              refine ge_dec 156 false rfl (fun hg156 => ?_) (fun hg156 => ?_)
                              · 
                                have hd0 : doneTo (rls rs) l (fpl gs) (chgL (fpl fs) (fpl gs))[k] j = false := hg156
                                refine ge_take_on 2 (TK := [box b6 _, box b7 _, rowl _ _ _ _ _ _, box b10 _, rowl _ _ _ _ _ _, box b12 _, box b13 _, rowl _ _ _ _ _ _, rowl _ _ _ _ _ _]) rfl (by kernel_rfl) (by kernel_rfl) (by kernel_rfl) #[true, true, false, true, false, false, false, true, true, true, true, false, false, false, false, false, false, false, false, false, false, false, false, false, false, false, false, false, false, false] (by kernel_rfl) rfl rfl rfl rfl rfl hg156 (y_bare (y_move (v := .slice _ _ _) rfl)) rfl rfl (weak_refl) (listed' := #[true, true, true, false, false, false, false, false, false, false, false, false, false, false, false, false, false, false, false, false, false, false, false, false, false, false, false, false, false, false]) rfl ?_
                                refine ge_take_on 3 (TK := [box b6 _, box b7 _, rowl _ _ _ _ _ _, box b10 _, rowl _ _ _ _ _ _, box b12 _, box b13 _, rowl _ _ _ _ _ _, rowl _ _ _ _ _ _]) rfl (by kernel_rfl) (by kernel_rfl) (by kernel_rfl) #[true, true, true, false, false, false, false, true, true, true, true, false, false, false, false, false, false, false, false, false, false, false, false, false, false, false, false, false, false, false] (by kernel_rfl) rfl rfl rfl rfl rfl hg156 (y_bare (y_move (v := .int _ _) rfl)) rfl rfl (weak_refl) (listed' := #[true, true, true, true, false, false, false, false, false, false, false, false, false, false, false, false, false, false, false, false, false, false, false, false, false, false, false, false, false, false]) rfl ?_
                                refine ge_take_on 4 (TK := [box b6 _, box b7 _, rowl _ _ _ _ _ _, box b10 _, rowl _ _ _ _ _ _, box b12 _, box b13 _, rowl _ _ _ _ _ _, rowl _ _ _ _ _ _]) rfl (by kernel_rfl) (by kernel_rfl) (by kernel_rfl) #[true, true, true, true, false, false, false, true, true, true, true, false, false, false, false, false, false, false, false, false, false, false, false, false, false, false, false, false, false, false] (by kernel_rfl) rfl rfl rfl rfl rfl hg156 (y_bare (y_indexAddr (m := j) Tryz.underlying58 Tryz.sizeOf70 rfl rfl (by omega) (by omega) (by omega))) rfl rfl (weak_refl) (listed' := #[true, true, true, true, true, false, false, false, false, false, false, false, false, false, false, false, false, false, false, false, false, false, false, false, false, false, false, false, false, false]) rfl ?_
                                refine ge_take_on 5 (TK := [box b6 _, box b7 _, rowl _ _ _ _ _ _, box b10 _, rowl _ _ _ _ _ _, box b12 _, box b13 _, rowl _ _ _ _ _ _, rowl _ _ _ _ _ _]) rfl (by kernel_rfl) (by kernel_rfl) (by kernel_rfl) #[true, true, true, true, true, false, false, true, true, true, true, false, false, false, false, false, false, false, false, false, false, false, false, false, false, false, false, false, false, false] (by kernel_rfl) rfl rfl rfl rfl rfl hg156 (y_bare (y_fieldAddr_add fa70_1 rfl)) rfl rfl (weak_refl) (listed' := #[true, true, true, true, true, true, false, false, false, false, false, false, false, false, false, false, false, false, false, false, false, false, false, false, false, false, false, false, false, false]) rfl ?_
                                refine ge_take_on 6 (TK := [box b6 _, box b7 _, rowl _ _ _ _ _ _, box b10 _, rowl _ _ _ _ _ _, box b12 _, box b13 _, rowl _ _ _ _ _ _, rowl _ _ _ _ _ _]) rfl (by kernel_rfl) (by kernel_rfl) (by kernel_rfl) #[true, true, true, true, true, true, false, true, true, true, true, false, false, false, false, false, false, false, false, false, false, false, false, false, false, false, false, false, false, false] (by kernel_rfl) rfl rfl rfl rfl rfl hg156 (y_bare (y_load Tryz.isAgg9 rfl (cell_base (hca 1 _ rfl)))) rfl rfl (weak_refl) (listed' := #[true, true, true, true, true, true, true, false, false, false, false, false, false, false, false, false, false, false, false, false, false, false, false, false, false, false, false, false, false, false]) rfl ?_
                                refine ge_take_on 7 (TK := [box b6 _, box b7 _, rowl _ _ _ _ _ _, box b10 _, rowl _ _ _ _ _ _, box b12 _, box b13 _, rowl _ _ _ _ _ _, rowl _ _ _ _ _ _]) rfl (by kernel_rfl) (by kernel_rfl) (by kernel_rfl) #[true, true, true, true, true, true, true, false, true, false, false, false, false, false, false, false, false, false, false, false, false, false, false, false, false, false, false, false, false, false] (by kernel_rfl) rfl rfl rfl rfl rfl hg156 (y_bare (y_move (v := .slice (some ⟨g133, 0, none⟩) _ c133) rfl)) rfl rfl (weak_refl) (listed' := #[true, true, true, true, true, true, true, true, false, false, false, false, false, false, false, false, false, false, false, false, false, false, false, false, false, false, false, false, false, false]) rfl ?_
                                refine ge_take_on 8 (TK := [box b6 _, box b7 _, rowl _ _ _ _ _ _, box b10 _, rowl _ _ _ _ _ _, box b12 _, box b13 _, rowl _ _ _ _ _ _, rowl _ _ _ _ _ _]) rfl (by kernel_rfl) (by kernel_rfl) (by kernel_rfl) #[true, true, true, true, true, true, true, true, false, false, false, false, false, false, false, false, false, false, false, false, false, false, false, false, false, false, false, false, false, false] (by kernel_rfl) rfl rfl rfl rfl rfl hg156 (y_bare (y_move (v := .int _ _) rfl)) rfl rfl (weak_refl) (listed' := #[true, true, true, true, true, true, true, true, true, false, false, false, false, false, false, false, false, false, false, false, false, false, false, false, false, false, false, false, false, false]) rfl ?_
                                refine ge_take_on 9 (TK := [box b6 _, box b7 _, rowl _ _ _ _ _ _, box b10 _, rowl _ _ _ _ _ _, box b12 _, box b13 _, rowl _ _ _ _ _ _, rowl _ _ _ _ _ _]) rfl (by kernel_rfl) (by kernel_rfl) (by kernel_rfl) #[true, true, true, true, true, true, true, true, true, false, false, false, false, false, false, false, false, false, false, false, false, false, false, false, false, false, false, false, false, false] (by kernel_rfl) rfl rfl rfl rfl rfl hg156 (y_bare (y_indexAddr (m := k) Tryz.underlying22 Tryz.sizeOf9 rfl rfl (by omega) (by omega) (by omega))) rfl rfl (weak_refl) (listed' := #[true, true, true, true, true, true, true, true, true, true, false, false, false, false, false, false, false, false, false, false, false, false, false, false, false, false, false, false, false, false]) rfl ?_
                                refine ge_take_on 10 (TK := [box b6 _, box b7 _, rowl _ _ _ _ _ _, box b10 _, rowl _ _ _ _ _ _, box b12 _, box b13 _, rowl _ _ _ _ _ _, rowl _ _ _ _ _ _]) rfl (by kernel_rfl) (by kernel_rfl) (by kernel_rfl) #[true, true, true, true, true, true, true, true, true, true, false, false, false, false, false, false, false, false, false, false, false, false, false, false, false, false, false, false, false, false] (by kernel_rfl) rfl rfl rfl rfl rfl hg156 (y_bare (y_load Tryz.isAgg9 rfl (cells_rowl 7 (f := strCells) (l := chgL (fpl fs) (fpl gs)) rfl rfl (fun _ => rfl) (List.getElem?_eq_getElem hk1) 0 _ rfl))) rfl rfl (weak_refl) (listed' := #[true, true, true, true, true, true, true, true, true, true, true, false, false, false, false, false, false, false, false, false, false, false, false, false, false, false, false, false, false, false]) rfl ?_
                                refine ge_take_on 11 (TK := [box b6 _, box b7 _, rowl _ _ _ _ _ _, box b10 _, rowl _ _ _ _ _ _, box b12 _, box b13 _, rowl _ _ _ _ _ _, rowl _ _ _ _ _ _]) rfl (by kernel_rfl) (by kernel_rfl) (by kernel_rfl) #[true, true, true, true, true, true, true, true, true, true, true, false, false, false, false, false, false, false, false, false, false, false, false, false, false, false, false, false, false, false] (by kernel_rfl) rfl rfl rfl rfl rfl hg156 (y_bare (y_eqls rfl rfl)) rfl rfl (weak_refl) (listed' := #[true, true, true, true, true, true, true, true, true, true, true, true, false, false, false, false, false, false, false, false, false, false, false, false, false, false, false, false, false, false]) rfl ?_
                                refine ge_take_on 12 (TK := [box b6 _, box b7 _, rowl _ _ _ _ _ _, box b10 _, rowl _ _ _ _ _ _, box b12 _, box b13 _, rowl _ _ _ _ _ _, rowl _ _ _ _ _ _]) rfl (by kernel_rfl) (by kernel_rfl) (by kernel_rfl) #[true, true, true, true, true, true, true, true, true, true, true, true, false, false, false, false, false, false, false, false, false, false, false, false, false, false, false, false, false, false] (by kernel_rfl) rfl rfl rfl rfl rfl hg156 (y_bare (y_move (v := .bool _) rfl)) rfl rfl (weak_refl) (listed' := #[true, true, true, true, true, true, true, true, true, true, true, true, true, false, false, false, false, false, false, false, false, false, false, false, false, false, false, false, false, false]) rfl ?_
                                refine ge_dec 167 true rfl (fun hg167 => ?_) (fun hg167 => ?_)
                                · 
                                  have hk78 : (l[j].path.toList == ((chgL (fpl fs) (fpl gs))[k]).toList) = true := hg167
                                  refine ge_take_on 13 (TK := [box b6 _, box b7 _, rowl _ _ _ _ _ _, box b10 _, rowl _ _ _ _ _ _, box b12 _, box b13 _, rowl _ _ _ _ _ _, rowl _ _ _ _ _ _]) rfl (by kernel_rfl) (by kernel_rfl) (by kernel_rfl) #[true, true, true, true, true, true, true, true, true, true, true, true, true, false, true, false, false, false, false, false, false, false, false, false, false, false, false, false, false, false] (by kernel_rfl) rfl rfl rfl rfl rfl hg167 (y_bare (y_move (v := .slice _ _ _) rfl)) rfl rfl (weak_refl) (listed' := #[true, true, true, true, true, true, true, true, true, true, true, true, true, true, false, false, false, false, false, false, false, false, false, false, false, false, false, false, false, false]) rfl ?_
                                  refine ge_take_on 14 (TK := [box b6 _, box b7 _, rowl _ _ _ _ _ _, box b10 _, rowl _ _ _ _ _ _, box b12 _, box b13 _, rowl _ _ _ _ _ _, rowl _ _ _ _ _ _]) rfl (by kernel_rfl) (by kernel_rfl) (by kernel_rfl) #[true, true, true, true, true, true, true, true, true, true, true, true, true, true, false, false, false, false, false, false, false, false, false, false, false, false, false, false, false, false] (by kernel_rfl) rfl rfl rfl rfl rfl hg167 (y_bare (y_move (v := .int _ _) rfl)) rfl rfl (weak_refl) (listed' := #[true, true, true, true, true, true, true, true, true, true, true, true, true, true, true, false, false, false, false, false, false, false, false, false, false, false, false, false, false, false]) rfl ?_
                                  refine ge_take_on 15 (TK := [box b6 _, box b7 _, rowl _ _ _ _ _ _, box b10 _, rowl _ _ _ _ _ _, box b12 _, box b13 _, rowl _ _ _ _ _ _, rowl _ _ _ _ _ _]) rfl (by kernel_rfl) (by kernel_rfl) (by kernel_rfl) #[true, true, true, true, true, true, true, true, true, true, true, true, true, true, true, false, false, false, false, false, false, false, false, false, false, false, false, false, false, false] (by kernel_rfl) rfl rfl rfl rfl rfl hg167 (y_bare (y_indexAddr (m := j) Tryz.underlying46 Tryz.sizeOf4 rfl rfl (by omega) (by omega) (by omega))) rfl rfl (weak_refl) (listed' := #[true, true, true, true, true, true, true, true, true, true, true, true, true, true, true, true, false, false, false, false, false, false, false, false, false, false, false, false, false, false]) rfl ?_
                                  refine ge_take_on 16 (TK := [box b6 _, box b7 _, rowl _ _ _ _ _ _, box b10 _, rowl _ _ _ _ _ _, box b12 _, box b13 _, rowl _ _ _ _ _ _, rowl _ _ _ _ _ _]) rfl (by kernel_rfl) (by kernel_rfl) (by kernel_rfl) #[true, true, true, true, true, true, true, true, true, true, true, true, true, true, true, true, false, false, false, false, false, false, false, false, false, false, false, false, false, false] (by kernel_rfl) rfl rfl rfl rfl rfl hg167 (y_bare (y_load Tryz.isAgg4 rfl (cells_rowl 2 (f := boolCells) (l := validV l (fpl gs)) rfl rfl (fun _ => rfl) (validV_get hvz hj1) 0 _ rfl))) rfl rfl (weak_refl) (listed' := #[true, true, true, true, true, true, true, true, true, true, true, true, true, true, true, true, true, false, false, false, false, false, false, false, false, false, false, false, false, false]) rfl ?_
                                  refine ge_take_on 17 (TK := [box b6 _, box b7 _, rowl _ _ _ _ _ _, box b10 _, rowl _ _ _ _ _ _, box b12 _, box b13 _, rowl _ _ _ _ _ _, rowl _ _ _ _ _ _]) rfl (by kernel_rfl) (by kernel_rfl) (by kernel_rfl) #[true, true, true, true, true, true, true, true, true, true, true, true, true, true, true, true, true, false, false, false, false, false, false, false, false, false, false, false, false, false] (by kernel_rfl) rfl rfl rfl rfl rfl hg156 (y_bare (y_pick_t (v := .bool _) rfl hg167 rfl)) rfl rfl (weak_refl) (listed' := #[true, true, true, true, true, true, true, true, true, true, true, true, true, true, true, true, true, true, false, false, false, false, false, false, false, false, false, false, false, false]) rfl ?_
                                  refine ge_take_on 18 (TK := [box b6 _, box b7 _, rowl _ _ _ _ _ _, box b10 _, rowl _ _ _ _ _ _, box b12 _, box b13 _, rowl _ _ _ _ _ _, rowl _ _ _ _ _ _]) rfl (by kernel_rfl) (by kernel_rfl) (by kernel_rfl) #[true, true, true, true, true, true, true, true, true, true, true, true, true, true, true, true, true, true, false, false, false, false, false, false, false, false, false, false, false, false] (by kernel_rfl) rfl rfl rfl rfl rfl hg156 (y_bare (y_move (v := .bool _) rfl)) rfl rfl (weak_refl) (listed' := #[true, true, true, true, true, true, true, true, true, true, true, true, true, true, true, true, true, true, true, false, false, false, false, false, false, false, false, false, false, false]) rfl ?_
                                  refine ge_dec 173 true rfl (fun hg173 => ?_) (fun hg173 => ?_)
                                  · 
                                    have hk72 : decide (l[j].dig = descP (fpl gs) l[j].path) = true := hg173
                                    refine ge_take_on 19 (TK := [box b6 _, box b7 _, rowl _ _ _ _ _ _, box b10 _, rowl _ _ _ _ _ _, box b12 _, box b13 _, rowl _ _ _ _ _ _, rowl _ _ _ _ _ _]) rfl (by kernel_rfl) (by kernel_rfl) (by kernel_rfl) #[true, true, true, true, true, true, true, true, true, true, true, true, true, true, true, true, true, true, true, false, true, true, true, true, true, true, false, false, false, false] (by kernel_rfl) rfl rfl rfl rfl rfl hg173 (y_bare (y_move (v := .slice _ _ _) rfl)) rfl rfl (weak_refl) (listed' := #[true, true, true, true, true, true, true, true, true, true, true, true, true, true, true, true, true, true, true, true, false, false, false, false, false, false, false, false, false, false]) rfl ?_
                                    refine ge_take_on 20 (TK := [box b6 _, box b7 _, rowl _ _ _ _ _ _, box b10 _, rowl _ _ _ _ _ _, box b12 _, box b13 _, rowl _ _ _ _ _ _, rowl _ _ _ _ _ _]) rfl (by kernel_rfl) (by kernel_rfl) (by kernel_rfl) #[true, true, true, true, true, true, true, true, true, true, true, true, true, true, true, true, true, true, true, true, false, true, false, false, false, false, false, false, false, false] (by kernel_rfl) rfl rfl rfl rfl rfl hg173 (y_bare (y_move (v := .slice _ _ _) rfl)) rfl rfl (weak_refl) (listed' := #[true, true, true, true, true, true, true, true, true, true, true, true, true, true, true, true, true, true, true, true, true, false, false, false, false, false, false, false, false, false]) rfl ?_
                                    refine ge_take_on 21 (TK := [box b6 _, box b7 _, rowl _ _ _ _ _ _, box b10 _, rowl _ _ _ _ _ _, box b12 _, box b13 _, rowl _ _ _ _ _ _, rowl _ _ _ _ _ _]) rfl (by kernel_rfl) (by kernel_rfl) (by kernel_rfl) #[true, true, true, true, true, true, true, true, true, true, true, true, true, true, true, true, true, true, true, true, true, false, false, false, false, false, false, false, false, false] (by kernel_rfl) rfl rfl rfl rfl rfl hg173 (y_bare (y_move (v := .int _ _) rfl)) rfl rfl (weak_refl) (listed' := #[true, true, true, true, true, true, true, true, true, true, true, true, true, true, true, true, true, true, true, true, true, true, false, false, false, false, false, false, false, false]) rfl ?_
                                    refine ge_take_on 22 (TK := [box b6 _, box b7 _, rowl _ _ _ _ _ _, box b10 _, rowl _ _ _ _ _ _, box b12 _, box b13 _, rowl _ _ _ _ _ _, rowl _ _ _ _ _ _]) rfl (by kernel_rfl) (by kernel_rfl) (by kernel_rfl) #[true, true, true, true, true, true, true, true, true, true, true, true, true, true, true, true, true, true, true, true, true, true, false, false, false, false, false, false, false, false] (by kernel_rfl) rfl rfl rfl rfl rfl hg173 (y_bare (y_indexAddr (m := j) Tryz.underlying58 Tryz.sizeOf70 rfl rfl (by omega) (by omega) (by omega))) rfl rfl (weak_refl) (listed' := #[true, true, true, true, true, true, true, true, true, true, true, true, true, true, true, true, true, true, true, true, true, true, true, false, false, false, false, false, false, false]) rfl ?_
                                    refine ge_take_on 23 (TK := [box b6 _, box b7 _, rowl _ _ _ _ _ _, box b10 _, rowl _ _ _ _ _ _, box b12 _, box b13 _, rowl _ _ _ _ _ _, rowl _ _ _ _ _ _]) rfl (by kernel_rfl) (by kernel_rfl) (by kernel_rfl) #[true, true, true, true, true, true, true, true, true, true, true, true, true, true, true, true, true, true, true, true, true, true, true, false, false, false, false, false, false, false] (by kernel_rfl) rfl rfl rfl rfl rfl hg173 (y_bare (y_fieldAddr_add fa70_0 rfl)) rfl rfl (weak_refl) (listed' := #[true, true, true, true, true, true, true, true, true, true, true, true, true, true, true, true, true, true, true, true, true, true, true, true, false, false, false, false, false, false]) rfl ?_
                                    refine ge_take_on 24 (TK := [box b6 _, box b7 _, rowl _ _ _ _ _ _, box b10 _, rowl _ _ _ _ _ _, box b12 _, box b13 _, rowl _ _ _ _ _ _, rowl _ _ _ _ _ _]) rfl (by kernel_rfl) (by kernel_rfl) (by kernel_rfl) #[true, true, true, true, true, true, true, true, true, true, true, true, true, true, true, true, true, true, true, true, true, true, true, true, false, false, false, false, false, false] (by kernel_rfl) rfl rfl rfl rfl rfl hg173 (y_bare (y_load Tryz.isAgg3 rfl (cell_base (hca 0 _ rfl)))) rfl rfl (weak_refl) (listed' := #[true, true, true, true, true, true, true, true, true, true, true, true, true, true, true, true, true, true, true, true, true, true, true, true, true, false, false, false, false, false]) rfl ?_
                                    refine ge_one 25 (k' := 0) (listed' := #[true, true, true, true, true, true, true, true, true, true, true, true, true, true, true, true, true, true, true, true, true, true, true, true, true, true, false, false, false, false]) (by kernel_rfl) rfl rfl rfl ?_
                                    refine gop_on rfl rfl rfl rfl hg173 ?_
                                    refine gop_lit (vs := [.int _ _]) (cells := #[_]) Tryz.underlying74 Tryz.sizeOf3 Tryz.zeroValue3 rfl (by decide) (by decide) rfl rfl rfl rfl (fun b180 hb180 => ?_)
                                    refine gops_nil ?_
                                    refine ge_fin (TK := [box b6 _, box b7 _, rowl _ _ _ _ _ _, box b10 _, rowl _ _ _ _ _ _, box b12 _, box b13 _, rowl _ _ _ _ _ _, rowl _ _ _ _ _ _]) rfl (weak_take (T' := [box b6 _, box b7 _, rowl _ _ _ _ _ _, box b10 _, rowl _ _ _ _ _ _, box b12 _, box b13 _, rowl _ _ _ _ _ _, rowl _ _ _ _ _ _]) rfl) ?_
                                    refine ge_one 26 (k' := 0) (listed' := #[true, true, true, true, true, true, true, true, true, true, true, true, true, true, true, true, true, true, true, true, true, true, true, true, true, true, true, false, false, false]) (by kernel_rfl) rfl rfl rfl ?_
                                    refine gop_on rfl rfl rfl rfl hg173 ?_
                                    refine gop_pure (e_call (vs := [.slice _ _ _, .slice (some _) _ _]) Tryz.func23 rfl (by kernel_rfl) rfl) (fun w hM => by have h1 : Rdl w 0 1 intCells Bo (findU (rls rs) (chgL (fpl fs) (fpl gs))[k]) := hgr.rd.base hM; have h2 : Rdl w 0 1 intCells (some ⟨b180, 0, none⟩) [l[j].user] := (Rdl.of_box 9 (f := intCells) (fun _ => rfl) hM rfl rfl).mono (Nat.zero_le _); have hc := meets_any w Bo dq (findU (rls rs) (chgL (fpl fs) (fpl gs))[k]) h1 (Nat.le_trans hgr.len hgr.max) (some ⟨b180, 0, none⟩) 1 [l[j].user] h2 (by simp [maxLen]); exact hc) rfl rfl rfl ?_
                                    refine gops_nil ?_
                                    refine ge_fin (TK := [box b6 _, box b7 _, rowl _ _ _ _ _ _, box b10 _, rowl _ _ _ _ _ _, box b12 _, box b13 _, rowl _ _ _ _ _ _, rowl _ _ _ _ _ _]) rfl (weak_take (T' := [box b6 _, box b7 _, rowl _ _ _ _ _ _, box b10 _, rowl _ _ _ _ _ _, box b12 _, box b13 _, rowl _ _ _ _ _ _, rowl _ _ _ _ _ _]) rfl) ?_
                                    refine ge_take_on 27 (TK := [box b6 _, box b7 _, rowl _ _ _ _ _ _, box b10 _, rowl _ _ _ _ _ _, box b12 _, box b13 _, rowl _ _ _ _ _ _, rowl _ _ _ _ _ _]) rfl (by kernel_rfl) (by kernel_rfl) (by kernel_rfl) #[true, true, true, true, true, true, true, true, true, true, true, true, true, true, true, true, true, true, true, true, true, true, true, true, true, true, true, false, false, false] (by kernel_rfl) rfl rfl rfl rfl rfl hg156 (y_bare (y_pick_t (v := .bool _) rfl hg173 rfl)) rfl rfl (weak_take (T' := [box b6 _, box b7 _, rowl _ _ _ _ _ _, box b10 _, rowl _ _ _ _ _ _, box b12 _, box b13 _, rowl _ _ _ _ _ _, rowl _ _ _ _ _ _]) rfl) (listed' := #[true, true, true, true, true, true, true, true, true, true, true, true, true, true, true, true, true, true, true, true, true, true, true, true, true, true, true, true, false, false]) rfl ?_
                                    refine ge_take 28 (TK := [box b6 _, box b7 _, rowl _ _ _ _ _ _, box b10 _, rowl _ _ _ _ _ _, box b12 _, box b13 _, rowl _ _ _ _ _ _, rowl _ _ _ _ _ _]) rfl (by kernel_rfl) (by kernel_rfl) (by kernel_rfl) #[true, true, true, true, true, true, true, true, true, true, true, true, true, true, true, true, true, true, true, true, true, true, true, true, true, true, true, true, false, false] (by kernel_rfl) rfl (y_pick_f (v := .bool _) rfl hg156 rfl) rfl rfl rfl (weak_take (T' := [box b6 _, box b7 _, rowl _ _ _ _ _ _, box b10 _, rowl _ _ _ _ _ _, box b12 _, box b13 _, rowl _ _ _ _ _ _, rowl _ _ _ _ _ _]) rfl) (listed' := #[true, true, true, true, true, true, true, true, true, true, true, true, true, true, true, true, true, true, true, true, true, true, true, true, true, true, true, true, true, false]) rfl ?_
                                    refine ge_take 29 (TK := [box b6 _, box b7 _, rowl _ _ _ _ _ _, box b10 _, rowl _ _ _ _ _ _, box b12 _, box b13 _, rowl _ _ _ _ _ _, rowl _ _ _ _ _ _]) rfl (by kernel_rfl) (by kernel_rfl) (by kernel_rfl) #[true, true, true, true, true, true, true, true, true, true, true, true, true, true, true, true, true, true, true, true, true, true, true, true, true, true, true, true, true, false] (by kernel_rfl) rfl (y_assign (v := .bool _) rfl) rfl rfl rfl (weak_take (T' := [box b6 _, box b7 _, rowl _ _ _ _ _ _, box b10 _, rowl _ _ _ _ _ _, box b12 _, box b13 _, rowl _ _ _ _ _ _, rowl _ _ _ _ _ _]) rfl) (listed' := #[true, true, true, true, true, true, true, true, true, true, true, true, true, true, true, true, true, true, true, true, true, true, true, true, true, true, true, true, true, true]) rfl ?_
                                    refine ge_done (by kernel_rfl) ?_
                                    refine hN39 _ _ ?_
                                    refine gT [box b6 _, box b7 _, rowl _ _ _ _ _ _, box b10 _, rowl _ _ _ _ _ _, box b12 _, box b13 _, rowl _ _ _ _ _ _, rowl _ _ _ _ _ _, box b180 _] rfl ?_
                                    refine gfrom [(0, .slice _ _ _), (1, .slice _ _ _), (9, .slice _ _ _), (11, .slice _ _ _), (12, .pointer _), (15, .slice Ov _ ov), (16, .slice (some ⟨g133, 0, none⟩) _ c133), (17, .int _ _), (18, .slice _ _ _), (19, .bool _), (20, .int _ _)] ⟨rfl, rfl, rfl, rfl, rfl, rfl, rfl, rfl, rfl, rfl, rfl, trivial⟩ fun σ => ?_
                                    refine greg ?_
                                    refine gop (y_move (v := .int _ _) rfl) rfl rfl rfl ?_
                                    refine gop (y_add rfl rfl ⟨by omega, by omega⟩) rfl rfl rfl ?_
                                    refine gop (y_assign (v := .int _ _) rfl) rfl rfl rfl ?_
                                    refine gops_nil ?_
                                    refine gnext2 (j + 1) (by omega) (show j + 1 ≤ _ by omega) ⟨(congrArg Value.bool ((meets_one _ _).trans (done_yes hj1 hd0 hk72 hk78))), rfl, trivial⟩ ⟨rfl, rfl, rfl, rfl, rfl, rfl, rfl, rfl, rfl, trivial⟩ ⟨_, rfl⟩
                                  · 
                                    have hk72 : decide (l[j].dig = descP (fpl gs) l[j].path) = false := hg173
                                    refine ge_take_off 19 (TK := [box b6 _, box b7 _, rowl _ _ _ _ _ _, box b10 _, rowl _ _ _ _ _ _, box b12 _, box b13 _, rowl _ _ _ _ _ _, rowl _ _ _ _ _ _]) rfl (by kernel_rfl) (by kernel_rfl) (by kernel_rfl) #[true, true, true, true, true, true, true, true, true, true, true, true, true, true, true, true, true, true, true, false, true, true, true, true, true, true, false, false, false, false] (by kernel_rfl) rfl rfl rfl rfl rfl (off_of hg173) rfl rfl (weak_refl) (listed' := #[true, true, true, true, true, true, true, true, true, true, true, true, true, true, true, true, true, true, true, true, false, false, false, false, false, false, false, false, false, false]) rfl ?_
                                    refine ge_take_off 20 (TK := [box b6 _, box b7 _, rowl _ _ _ _ _ _, box b10 _, rowl _ _ _ _ _ _, box b12 _, box b13 _, rowl _ _ _ _ _ _, rowl _ _ _ _ _ _]) rfl (by kernel_rfl) (by kernel_rfl) (by kernel_rfl) #[true, true, true, true, true, true, true, true, true, true, true, true, true, true, true, true, true, true, true, true, false, true, false, false, false, false, false, false, false, false] (by kernel_rfl) rfl rfl rfl rfl rfl (off_of hg173) rfl rfl (weak_refl) (listed' := #[true, true, true, true, true, true, true, true, true, true, true, true, true, true, true, true, true, true, true, true, true, false, false, false, false, false, false, false, false, false]) rfl ?_
                                    refine ge_take_off 21 (TK := [box b6 _, box b7 _, rowl _ _ _ _ _ _, box b10 _, rowl _ _ _ _ _ _, box b12 _, box b13 _, rowl _ _ _ _ _ _, rowl _ _ _ _ _ _]) rfl (by kernel_rfl) (by kernel_rfl) (by kernel_rfl) #[true, true, true, true, true, true, true, true, true, true, true, true, true, true, true, true, true, true, true, true, true, false, false, false, false, false, false, false, false, false] (by kernel_rfl) rfl rfl rfl rfl rfl (off_of hg173) rfl rfl (weak_refl) (listed' := #[true, true, true, true, true, true, true, true, true, true, true, true, true, true, true, true, true, true, true, true, true, true, false, false, false, false, false, false, false, false]) rfl ?_
                                    refine ge_take_off 22 (TK := [box b6 _, box b7 _, rowl _ _ _ _ _ _, box b10 _, rowl _ _ _ _ _ _, box b12 _, box b13 _, rowl _ _ _ _ _ _, rowl _ _ _ _ _ _]) rfl (by kernel_rfl) (by kernel_rfl) (by kernel_rfl) #[true, true, true, true, true, true, true, true, true, true, true, true, true, true, true, true, true, true, true, true, true, true, false, false, false, false, false, false, false, false] (by kernel_rfl) rfl rfl rfl rfl rfl (off_of hg173) rfl rfl (weak_refl) (listed' := #[true, true, true, true, true, true, true, true, true, true, true, true, true, true, true, true, true, true, true, true, true, true, true, false, false, false, false, false, false, false]) rfl ?_
                                    refine ge_take_off 23 (TK := [box b6 _, box b7 _, rowl _ _ _ _ _ _, box b10 _, rowl _ _ _ _ _ _, box b12 _, box b13 _, rowl _ _ _ _ _ _, rowl _ _ _ _ _ _]) rfl (by kernel_rfl) (by kernel_rfl) (by kernel_rfl) #[true, true, true, true, true, true, true, true, true, true, true, true, true, true, true, true, true, true, true, true, true, true, true, false, false, false, false, false, false, false] (by kernel_rfl) rfl rfl rfl rfl rfl (off_of hg173) rfl rfl (weak_refl) (listed' := #[true, true, true, true, true, true, true, true, true, true, true, true, true, true, true, true, true, true, true, true, true, true, true, true, false, false, false, false, false, false]) rfl ?_
                                    refine ge_take_off 24 (TK := [box b6 _, box b7 _, rowl _ _ _ _ _ _, box b10 _, rowl _ _ _ _ _ _, box b12 _, box b13 _, rowl _ _ _ _ _ _, rowl _ _ _ _ _ _]) rfl (by kernel_rfl) (by kernel_rfl) (by kernel_rfl) #[true, true, true, true, true, true, true, true, true, true, true, true, true, true, true, true, true, true, true, true, true, true, true, true, false, false, false, false, false, false] (by kernel_rfl) rfl rfl rfl rfl rfl (off_of hg173) rfl rfl (weak_refl) (listed' := #[true, true, true, true, true, true, true, true, true, true, true, true, true, true, true, true, true, true, true, true, true, true, true, true, true, false, false, false, false, false]) rfl ?_
                                    refine ge_one 25 (k' := 0) (listed' := #[true, true, true, true, true, true, true, true, true, true, true, true, true, true, true, true, true, true, true, true, true, true, true, true, true, true, false, false, false, false]) (by kernel_rfl) rfl rfl rfl ?_
                                    refine gop_off rfl rfl rfl rfl hg173 rfl rfl ?_
                                    refine gops_nil ?_
                                    refine ge_fin (TK := [box b6 _, box b7 _, rowl _ _ _ _ _ _, box b10 _, rowl _ _ _ _ _ _, box b12 _, box b13 _, rowl _ _ _ _ _ _, rowl _ _ _ _ _ _]) rfl (weak_refl) ?_
                                    refine ge_one 26 (k' := 0) (listed' := #[true, true, true, true, true, true, true, true, true, true, true, true, true, true, true, true, true, true, true, true, true, true, true, true, true, true, true, false, false, false]) (by kernel_rfl) rfl rfl rfl ?_
                                    refine gop_off rfl rfl rfl rfl hg173 rfl rfl ?_
                                    refine gops_nil ?_
                                    refine ge_fin (TK := [box b6 _, box b7 _, rowl _ _ _ _ _ _, box b10 _, rowl _ _ _ _ _ _, box b12 _, box b13 _, rowl _ _ _ _ _ _, rowl _ _ _ _ _ _]) rfl (weak_refl) ?_
                                    refine ge_take_on 27 (TK := [box b6 _, box b7 _, rowl _ _ _ _ _ _, box b10 _, rowl _ _ _ _ _ _, box b12 _, box b13 _, rowl _ _ _ _ _ _, rowl _ _ _ _ _ _]) rfl (by kernel_rfl) (by kernel_rfl) (by kernel_rfl) #[true, true, true, true, true, true, true, true, true, true, true, true, true, true, true, true, true, true, true, true, true, true, true, true, true, true, true, false, false, false] (by kernel_rfl) rfl rfl rfl rfl rfl hg156 (y_bare (y_pick_f (v := .bool _) rfl hg173 rfl)) rfl rfl (weak_refl) (listed' := #[true, true, true, true, true, true, true, true, true, true, true, true, true, true, true, true, true, true, true, true, true, true, true, true, true, true, true, true, false, false]) rfl ?_
                                    refine ge_take 28 (TK := [box b6 _, box b7 _, rowl _ _ _ _ _ _, box b10 _, rowl _ _ _ _ _ _, box b12 _, box b13 _, rowl _ _ _ _ _ _, rowl _ _ _ _ _ _]) rfl (by kernel_rfl) (by kernel_rfl) (by kernel_rfl) #[true, true, true, true, true, true, true, true, true, true, true, true, true, true, true, true, true, true, true, true, true, true, true, true, true, true, true, true, false, false] (by kernel_rfl) rfl (y_pick_f (v := .bool _) rfl hg156 rfl) rfl rfl rfl (weak_refl) (listed' := #[true, true, true, true, true, true, true, true, true, true, true, true, true, true, true, true, true, true, true, true, true, true, true, true, true, true, true, true, true, false]) rfl ?_
                                    refine ge_take 29 (TK := [box b6 _, box b7 _, rowl _ _ _ _ _ _, box b10 _, rowl _ _ _ _ _ _, box b12 _, box b13 _, rowl _ _ _ _ _ _, rowl _ _ _ _ _ _]) rfl (by kernel_rfl) (by kernel_rfl) (by kernel_rfl) #[true, true, true, true, true, true, true, true, true, true, true, true, true, true, true, true, true, true, true, true, true, true, true, true, true, true, true, true, true, false] (by kernel_rfl) rfl (y_assign (v := .bool _) rfl) rfl rfl rfl (weak_refl) (listed' := #[true, true, true, true, true, true, true, true, true, true, true, true, true, true, true, true, true, true, true, true, true, true, true, true, true, true, true, true, true, true]) rfl ?_
                                    refine ge_done (by kernel_rfl) ?_
                                    refine hN39 _ _ ?_
                                    refine gfrom [(0, .slice _ _ _), (1, .slice _ _ _), (9, .slice _ _ _), (11, .slice _ _ _), (12, .pointer _), (15, .slice Ov _ ov), (16, .slice (some ⟨g133, 0, none⟩) _ c133), (17, .int _ _), (18, .slice _ _ _), (19, .bool _), (20, .int _ _)] ⟨rfl, rfl, rfl, rfl, rfl, rfl, rfl, rfl, rfl, rfl, rfl, trivial⟩ fun σ => ?_
                                    refine greg ?_
                                    refine gop (y_move (v := .int _ _) rfl) rfl rfl rfl ?_
                                    refine gop (y_add rfl rfl ⟨by omega, by omega⟩) rfl rfl rfl ?_
                                    refine gop (y_assign (v := .int _ _) rfl) rfl rfl rfl ?_
                                    refine gops_nil ?_
                                    refine gnext2 (j + 1) (by omega) (show j + 1 ≤ _ by omega) ⟨(congrArg Value.bool (done_no1 hj1 hd0 hk72)), rfl, trivial⟩ ⟨rfl, rfl, rfl, rfl, rfl, rfl, rfl, rfl, rfl, trivial⟩ ⟨_, rfl⟩
                                · 
                                  have hk78 : (l[j].path.toList == ((chgL (fpl fs) (fpl gs))[k]).toList) = false := hg167
                                  refine ge_take_off 13 (TK := [box b6 _, box b7 _, rowl _ _ _ _ _ _, box b10 _, rowl _ _ _ _ _ _, box b12 _, box b13 _, rowl _ _ _ _ _ _, rowl _ _ _ _ _ _]) rfl (by kernel_rfl) (by kernel_rfl) (by kernel_rfl) #[true, true, true, true, true, true, true, true, true, true, true, true, true, false, true, false, false, false, false, false, false, false, false, false, false, false, false, false, false, false] (by kernel_rfl) rfl rfl rfl rfl rfl (off_of hg167) rfl rfl (weak_refl) (listed' := #[true, true, true, true, true, true, true, true, true, true, true, true, true, true, false, false, false, false, false, false, false, false, false, false, false, false, false, false, false, false]) rfl ?_
                                  refine ge_take_off 14 (TK := [box b6 _, box b7 _, rowl _ _ _ _ _ _, box b10 _, rowl _ _ _ _ _ _, box b12 _, box b13 _, rowl _ _ _ _ _ _, rowl _ _ _ _ _ _]) rfl (by kernel_rfl) (by kernel_rfl) (by kernel_rfl) #[true, true, true, true, true, true, true, true, true, true, true, true, true, true, false, false, false, false, false, false, false, false, false, false, false, false, false, false, false, false] (by kernel_rfl) rfl rfl rfl rfl rfl (off_of hg167) rfl rfl (weak_refl) (listed' := #[true, true, true, true, true, true, true, true, true, true, true, true, true, true, true, false, false, false, false, false, false, false, false, false, false, false, false, false, false, false]) rfl ?_
                                  refine ge_take_off 15 (TK := [box b6 _, box b7 _, rowl _ _ _ _ _ _, box b10 _, rowl _ _ _ _ _ _, box b12 _, box b13 _, rowl _ _ _ _ _ _, rowl _ _ _ _ _ _]) rfl (by kernel_rfl) (by kernel_rfl) (by kernel_rfl) #[true, true, true, true, true, true, true, true, true, true, true, true, true, true, true, false, false, false, false, false, false, false, false, false, false, false, false, false, false, false] (by kernel_rfl) rfl rfl rfl rfl rfl (off_of hg167) rfl rfl (weak_refl) (listed' := #[true, true, true, true, true, true, true, true, true, true, true, true, true, true, true, true, false, false, false, false, false, false, false, false, false, false, false, false, false, false]) rfl ?_
                                  refine ge_take_off 16 (TK := [box b6 _, box b7 _, rowl _ _ _ _ _ _, box b10 _, rowl _ _ _ _ _ _, box b12 _, box b13 _, rowl _ _ _ _ _ _, rowl _ _ _ _ _ _]) rfl (by kernel_rfl) (by kernel_rfl) (by kernel_rfl) #[true, true, true, true, true, true, true, true, true, true, true, true, true, true, true, true, false, false, false, false, false, false, false, false, false, false, false, false, false, false] (by kernel_rfl) rfl rfl rfl rfl rfl (off_of hg167) rfl rfl (weak_refl) (listed' := #[true, true, true, true, true, true, true, true, true, true, true, true, true, true, true, true, true, false, false, false, false, false, false, false, false, false, false, false, false, false]) rfl ?_
                                  refine ge_take_on 17 (TK := [box b6 _, box b7 _, rowl _ _ _ _ _ _, box b10 _, rowl _ _ _ _ _ _, box b12 _, box b13 _, rowl _ _ _ _ _ _, rowl _ _ _ _ _ _]) rfl (by kernel_rfl) (by kernel_rfl) (by kernel_rfl) #[true, true, true, true, true, true, true, true, true, true, true, true, true, true, true, true, true, false, false, false, false, false, false, false, false, false, false, false, false, false] (by kernel_rfl) rfl rfl rfl rfl rfl hg156 (y_bare (y_pick_f (v := .bool _) rfl hg167 rfl)) rfl rfl (weak_refl) (listed' := #[true, true, true, true, true, true, true, true, true, true, true, true, true, true, true, true, true, true, false, false, false, false, false, false, false, false, false, false, false, false]) rfl ?_
                                  refine ge_take_on 18 (TK := [box b6 _, box b7 _, rowl _ _ _ _ _ _, box b10 _, rowl _ _ _ _ _ _, box b12 _, box b13 _, rowl _ _ _ _ _ _, rowl _ _ _ _ _ _]) rfl (by kernel_rfl) (by kernel_rfl) (by kernel_rfl) #[true, true, true, true, true, true, true, true, true, true, true, true, true, true, true, true, true, true, false, false, false, false, false, false, false, false, false, false, false, false] (by kernel_rfl) rfl rfl rfl rfl rfl hg156 (y_bare (y_move (v := .bool _) rfl)) rfl rfl (weak_refl) (listed' := #[true, true, true, true, true, true, true, true, true, true, true, true, true, true, true, true, true, true, true, false, false, false, false, false, false, false, false, false, false, false]) rfl ?_
                                  refine ge_take_off 19 (TK := [box b6 _, box b7 _, rowl _ _ _ _ _ _, box b10 _, rowl _ _ _ _ _ _, box b12 _, box b13 _, rowl _ _ _ _ _ _, rowl _ _ _ _ _ _]) rfl (by kernel_rfl) (by kernel_rfl) (by kernel_rfl) #[true, true, true, true, true, true, true, true, true, true, true, true, true, true, true, true, true, true, true, false, true, true, true, true, true, true, false, false, false, false] (by kernel_rfl) rfl rfl rfl rfl rfl (off_of rfl) rfl rfl (weak_refl) (listed' := #[true, true, true, true, true, true, true, true, true, true, true, true, true, true, true, true, true, true, true, true, false, false, false, false, false, false, false, false, false, false]) rfl ?_
                                  refine ge_take_off 20 (TK := [box b6 _, box b7 _, rowl _ _ _ _ _ _, box b10 _, rowl _ _ _ _ _ _, box b12 _, box b13 _, rowl _ _ _ _ _ _, rowl _ _ _ _ _ _]) rfl (by kernel_rfl) (by kernel_rfl) (by kernel_rfl) #[true, true, true, true, true, true, true, true, true, true, true, true, true, true, true, true, true, true, true, true, false, true, false, false, false, false, false, false, false, false] (by kernel_rfl) rfl rfl rfl rfl rfl (off_of rfl) rfl rfl (weak_refl) (listed' := #[true, true, true, true, true, true, true, true, true, true, true, true, true, true, true, true, true, true, true, true, true, false, false, false, false, false, false, false, false, false]) rfl ?_
                                  refine ge_take_off 21 (TK := [box b6 _, box b7 _, rowl _ _ _ _ _ _, box b10 _, rowl _ _ _ _ _ _, box b12 _, box b13 _, rowl _ _ _ _ _ _, rowl _ _ _ _ _ _]) rfl (by kernel_rfl) (by kernel_rfl) (by kernel_rfl) #[true, true, true, true, true, true, true, true, true, true, true, true, true, true, true, true, true, true, true, true, true, false, false, false, false, false, false, false, false, false] (by kernel_rfl) rfl rfl rfl rfl rfl (off_of rfl) rfl rfl (weak_refl) (listed' := #[true, true, true, true, true, true, true, true, true, true, true, true, true, true, true, true, true, true, true, true, true, true, false, false, false, false, false, false, false, false]) rfl ?_
                                  refine ge_take_off 22 (TK := [box b6 _, box b7 _, rowl _ _ _ _ _ _, box b10 _, rowl _ _ _ _ _ _, box b12 _, box b13 _, rowl _ _ _ _ _ _, rowl _ _ _ _ _ _]) rfl (by kernel_rfl) (by kernel_rfl) (by kernel_rfl) #[true, true, true, true, true, true, true, true, true, true, true, true, true, true, true, true, true, true, true, true, true, true, false, false, false, false, false, false, false, false] (by kernel_rfl) rfl rfl rfl rfl rfl (off_of rfl) rfl rfl (weak_refl) (listed' := #[true, true, true, true, true, true, true, true, true, true, true, true, true, true, true, true, true, true, true, true, true, true, true, false, false, false, false, false, false, false]) rfl ?_
                                  refine ge_take_off 23 (TK := [box b6 _, box b7 _, rowl _ _ _ _ _ _, box b10 _, rowl _ _ _ _ _ _, box b12 _, box b13 _, rowl _ _ _ _ _ _, rowl _ _ _ _ _ _]) rfl (by kernel_rfl) (by kernel_rfl) (by kernel_rfl) #[true, true, true, true, true, true, true, true, true, true, true, true, true, true, true, true, true, true, true, true, true, true, true, false, false, false, false, false, false, false] (by kernel_rfl) rfl rfl rfl rfl rfl (off_of rfl) rfl rfl (weak_refl) (listed' := #[true, true, true, true, true, true, true, true, true, true, true, true, true, true, true, true, true, true, true, true, true, true, true, true, false, false, false, false, false, false]) rfl ?_
                                  refine ge_take_off 24 (TK := [box b6 _, box b7 _, rowl _ _ _ _ _ _, box b10 _, rowl _ _ _ _ _ _, box b12 _, box b13 _, rowl _ _ _ _ _ _, rowl _ _ _ _ _ _]) rfl (by kernel_rfl) (by kernel_rfl) (by kernel_rfl) #[true, true, true, true, true, true, true, true, true, true, true, true, true, true, true, true, true, true, true, true, true, true, true, true, false, false, false, false, false, false] (by kernel_rfl) rfl rfl rfl rfl rfl (off_of rfl) rfl rfl (weak_refl) (listed' := #[true, true, true, true, true, true, true, true, true, true, true, true, true, true, true, true, true, true, true, true, true, true, true, true, true, false, false, false, false, false]) rfl ?_
                                  refine ge_one 25 (k' := 0) (listed' := #[true, true, true, true, true, true, true, true, true, true, true, true, true, true, true, true, true, true, true, true, true, true, true, true, true, true, false, false, false, false]) (by kernel_rfl) rfl rfl rfl ?_
                                  refine gop_off rfl rfl rfl rfl rfl rfl rfl ?_
                                  refine gops_nil ?_
                                  refine ge_fin (TK := [box b6 _, box b7 _, rowl _ _ _ _ _ _, box b10 _, rowl _ _ _ _ _ _, box b12 _, box b13 _, rowl _ _ _ _ _ _, rowl _ _ _ _ _ _]) rfl (weak_refl) ?_
                                  refine ge_one 26 (k' := 0) (listed' := #[true, true, true, true, true, true, true, true, true, true, true, true, true, true, true, true, true, true, true, true, true, true, true, true, true, true, true, false, false, false]) (by kernel_rfl) rfl rfl rfl ?_
                                  refine gop_off rfl rfl rfl rfl rfl rfl rfl ?_
                                  refine gops_nil ?_
                                  refine ge_fin (TK := [box b6 _, box b7 _, rowl _ _ _ _ _ _, box b10 _, rowl _ _ _ _ _ _, box b12 _, box b13 _, rowl _ _ _ _ _ _, rowl _ _ _ _ _ _]) rfl (weak_refl) ?_
                                  refine ge_take_on 27 (TK := [box b6 _, box b7 _, rowl _ _ _ _ _ _, box b10 _, rowl _ _ _ _ _ _, box b12 _, box b13 _, rowl _ _ _ _ _ _, rowl _ _ _ _ _ _]) rfl (by kernel_rfl) (by kernel_rfl) (by kernel_rfl) #[true, true, true, true, true, true, true, true, true, true, true, true, true, true, true, true, true, true, true, true, true, true, true, true, true, true, true, false, false, false] (by kernel_rfl) rfl rfl rfl rfl rfl hg156 (y_bare (y_pick_f (v := .bool _) rfl rfl rfl)) rfl rfl (weak_refl) (listed' := #[true, true, true, true, true, true, true, true, true, true, true, true, true, true, true, true, true, true, true, true, true, true, true, true, true, true, true, true, false, false]) rfl ?_
                                  refine ge_take 28 (TK := [box b6 _, box b7 _, rowl _ _ _ _ _ _, box b10 _, rowl _ _ _ _ _ _, box b12 _, box b13 _, rowl _ _ _ _ _ _, rowl _ _ _ _ _ _]) rfl (by kernel_rfl) (by kernel_rfl) (by kernel_rfl) #[true, true, true, true, true, true, true, true, true, true, true, true, true, true, true, true, true, true, true, true, true, true, true, true, true, true, true, true, false, false] (by kernel_rfl) rfl (y_pick_f (v := .bool _) rfl hg156 rfl) rfl rfl rfl (weak_refl) (listed' := #[true, true, true, true, true, true, true, true, true, true, true, true, true, true, true, true, true, true, true, true, true, true, true, true, true, true, true, true, true, false]) rfl ?_
                                  refine ge_take 29 (TK := [box b6 _, box b7 _, rowl _ _ _ _ _ _, box b10 _, rowl _ _ _ _ _ _, box b12 _, box b13 _, rowl _ _ _ _ _ _, rowl _ _ _ _ _ _]) rfl (by kernel_rfl) (by kernel_rfl) (by kernel_rfl) #[true, true, true, true, true, true, true, true, true, true, true, true, true, true, true, true, true, true, true, true, true, true, true, true, true, true, true, true, true, false] (by kernel_rfl) rfl (y_assign (v := .bool _) rfl) rfl rfl rfl (weak_refl) (listed' := #[true, true, true, true, true, true, true, true, true, true, true, true, true, true, true, true, true, true, true, true, true, true, true, true, true, true, true, true, true, true]) rfl ?_
                                  refine ge_done (by kernel_rfl) ?_
                                  refine hN39 _ _ ?_
                                  refine gfrom [(0, .slice _ _ _), (1, .slice _ _ _), (9, .slice _ _ _), (11, .slice _ _ _), (12, .pointer _), (15, .slice Ov _ ov), (16, .slice (some ⟨g133, 0, none⟩) _ c133), (17, .int _ _), (18, .slice _ _ _), (19, .bool _), (20, .int _ _)] ⟨rfl, rfl, rfl, rfl, rfl, rfl, rfl, rfl, rfl, rfl, rfl, trivial⟩ fun σ => ?_
                                  refine greg ?_
                                  refine gop (y_move (v := .int _ _) rfl) rfl rfl rfl ?_
                                  refine gop (y_add rfl rfl ⟨by omega, by omega⟩) rfl rfl rfl ?_
                                  refine gop (y_assign (v := .int _ _) rfl) rfl rfl rfl ?_
                                  refine gops_nil ?_
                                  refine gnext2 (j + 1) (by omega) (show j + 1 ≤ _ by omega) ⟨(congrArg Value.bool (done_no2 hj1 hd0 hk78)), rfl, trivial⟩ ⟨rfl, rfl, rfl, rfl, rfl, rfl, rfl, rfl, rfl, trivial⟩ ⟨_, rfl⟩
                              · 
                                have hd0 : doneTo (rls rs) l (fpl gs) (chgL (fpl fs) (fpl gs))[k] j = true := hg156
                                refine ge_take_off 2 (TK := [box b6 _, box b7 _, rowl _ _ _ _ _ _, box b10 _, rowl _ _ _ _ _ _, box b12 _, box b13 _, rowl _ _ _ _ _ _, rowl _ _ _ _ _ _]) rfl (by kernel_rfl) (by kernel_rfl) (by kernel_rfl) #[true, true, false, true, false, false, false, true, true, true, true, false, false, false, false, false, false, false, false, false, false, false, false, false, false, false, false, false, false, false] (by kernel_rfl) rfl rfl rfl rfl rfl (off_of hg156) rfl rfl (weak_refl) (listed' := #[true, true, true, false, false, false, false, false, false, false, false, false, false, false, false, false, false, false, false, false, false, false, false, false, false, false, false, false, false, false]) rfl ?_
                                refine ge_take_off 3 (TK := [box b6 _, box b7 _, rowl _ _ _ _ _ _, box b10 _, rowl _ _ _ _ _ _, box b12 _, box b13 _, rowl _ _ _ _ _ _, rowl _ _ _ _ _ _]) rfl (by kernel_rfl) (by kernel_rfl) (by kernel_rfl) #[true, true, true, false, false, false, false, true, true, true, true, false, false, false, false, false, false, false, false, false, false, false, false, false, false, false, false, false, false, false] (by kernel_rfl) rfl rfl rfl rfl rfl (off_of hg156) rfl rfl (weak_refl) (listed' := #[true, true, true, true, false, false, false, false, false, false, false, false, false, false, false, false, false, false, false, false, false, false, false, false, false, false, false, false, false, false]) rfl ?_
                                refine ge_take_off 4 (TK := [box b6 _, box b7 _, rowl _ _ _ _ _ _, box b10 _, rowl _ _ _ _ _ _, box b12 _, box b13 _, rowl _ _ _ _ _ _, rowl _ _ _ _ _ _]) rfl (by kernel_rfl) (by kernel_rfl) (by kernel_rfl) #[true, true, true, true, false, false, false, true, true, true, true, false, false, false, false, false, false, false, false, false, false, false, false, false, false, false, false, false, false, false] (by kernel_rfl) rfl rfl rfl rfl rfl (off_of hg156) rfl rfl (weak_refl) (listed' := #[true, true, true, true, true, false, false, false, false, false, false, false, false, false, false, false, false, false, false, false, false, false, false, false, false, false, false, false, false, false]) rfl ?_
                                refine ge_take_off 5 (TK := [box b6 _, box b7 _, rowl _ _ _ _ _ _, box b10 _, rowl _ _ _ _ _ _, box b12 _, box b13 _, rowl _ _ _ _ _ _, rowl _ _ _ _ _ _]) rfl (by kernel_rfl) (by kernel_rfl) (by kernel_rfl) #[true, true, true, true, true, false, false, true, true, true, true, false, false, false, false, false, false, false, false, false, false, false, false, false, false, false, false, false, false, false] (by kernel_rfl) rfl rfl rfl rfl rfl (off_of hg156) rfl rfl (weak_refl) (listed' := #[true, true, true, true, true, true, false, false, false, false, false, false, false, false, false, false, false, false, false, false, false, false, false, false, false, false, false, false, false, false]) rfl ?_
                                refine ge_take_off 6 (TK := [box b6 _, box b7 _, rowl _ _ _ _ _ _, box b10 _, rowl _ _ _ _ _ _, box b12 _, box b13 _, rowl _ _ _ _ _ _, rowl _ _ _ _ _ _]) rfl (by kernel_rfl) (by kernel_rfl) (by kernel_rfl) #[true, true, true, true, true, true, false, true, true, true, true, false, false, false, false, false, false, false, false, false, false, false, false, false, false, false, false, false, false, false] (by kernel_rfl) rfl rfl rfl rfl rfl (off_of hg156) rfl rfl (weak_refl) (listed' := #[true, true, true, true, true, true, true, false, false, false, false, false, false, false, false, false, false, false, false, false, false, false, false, false, false, false, false, false, false, false]) rfl ?_
                                refine ge_take_off 7 (TK := [box b6 _, box b7 _, rowl _ _ _ _ _ _, box b10 _, rowl _ _ _ _ _ _, box b12 _, box b13 _, rowl _ _ _ _ _ _, rowl _ _ _ _ _ _]) rfl (by kernel_rfl) (by kernel_rfl) (by kernel_rfl) #[true, true, true, true, true, true, true, false, true, false, false, false, false, false, false, false, false, false, false, false, false, false, false, false, false, false, false, false, false, false] (by kernel_rfl) rfl rfl rfl rfl rfl (off_of hg156) rfl rfl (weak_refl) (listed' := #[true, true, true, true, true, true, true, true, false, false, false, false, false, false, false, false, false, false, false, false, false, false, false, false, false, false, false, false, false, false]) rfl ?_
                                refine ge_take_off 8 (TK := [box b6 _, box b7 _, rowl _ _ _ _ _ _, box b10 _, rowl _ _ _ _ _ _, box b12 _, box b13 _, rowl _ _ _ _ _ _, rowl _ _ _ _ _ _]) rfl (by kernel_rfl) (by kernel_rfl) (by kernel_rfl) #[true, true, true, true, true, true, true, true, false, false, false, false, false, false, false, false, false, false, false, false, false, false, false, false, false, false, false, false, false, false] (by kernel_rfl) rfl rfl rfl rfl rfl (off_of hg156) rfl rfl (weak_refl) (listed' := #[true, true, true, true, true, true, true, true, true, false, false, false, false, false, false, false, false, false, false, false, false, false, false, false, false, false, false, false, false, false]) rfl ?_
                                refine ge_take_off 9 (TK := [box b6 _, box b7 _, rowl _ _ _ _ _ _, box b10 _, rowl _ _ _ _ _ _, box b12 _, box b13 _, rowl _ _ _ _ _ _, rowl _ _ _ _ _ _]) rfl (by kernel_rfl) (by kernel_rfl) (by kernel_rfl) #[true, true, true, true, true, true, true, true, true, false, false, false, false, false, false, false, false, false, false, false, false, false, false, false, false, false, false, false, false, false] (by kernel_rfl) rfl rfl rfl rfl rfl (off_of hg156) rfl rfl (weak_refl) (listed' := #[true, true, true, true, true, true, true, true, true, true, false, false, false, false, false, false, false, false, false, false, false, false, false, false, false, false, false, false, false, false]) rfl ?_
                                refine ge_take_off 10 (TK := [box b6 _, box b7 _, rowl _ _ _ _ _ _, box b10 _, rowl _ _ _ _ _ _, box b12 _, box b13 _, rowl _ _ _ _ _ _, rowl _ _ _ _ _ _]) rfl (by kernel_rfl) (by kernel_rfl) (by kernel_rfl) #[true, true, true, true, true, true, true, true, true, true, false, false, false, false, false, false, false, false, false, false, false, false, false, false, false, false, false, false, false, false] (by kernel_rfl) rfl rfl rfl rfl rfl (off_of hg156) rfl rfl (weak_refl) (listed' := #[true, true, true, true, true, true, true, true, true, true, true, false, false, false, false, false, false, false, false, false, false, false, false, false, false, false, false, false, false, false]) rfl ?_
                                refine ge_take_off 11 (TK := [box b6 _, box b7 _, rowl _ _ _ _ _ _, box b10 _, rowl _ _ _ _ _ _, box b12 _, box b13 _, rowl _ _ _ _ _ _, rowl _ _ _ _ _ _]) rfl (by kernel_rfl) (by kernel_rfl) (by kernel_rfl) #[true, true, true, true, true, true, true, true, true, true, true, false, false, false, false, false, false, false, false, false, false, false, false, false, false, false, false, false, false, false] (by kernel_rfl) rfl rfl rfl rfl rfl (off_of hg156) rfl rfl (weak_refl) (listed' := #[true, true, true, true, true, true, true, true, true, true, true, true, false, false, false, false, false, false, false, false, false, false, false, false, false, false, false, false, false, false]) rfl ?_
                                refine ge_take_off 12 (TK := [box b6 _, box b7 _, rowl _ _ _ _ _ _, box b10 _, rowl _ _ _ _ _ _, box b12 _, box b13 _, rowl _ _ _ _ _ _, rowl _ _ _ _ _ _]) rfl (by kernel_rfl) (by kernel_rfl) (by kernel_rfl) #[true, true, true, true, true, true, true, true, true, true, true, true, false, false, false, false, false, false, false, false, false, false, false, false, false, false, false, false, false, false] (by kernel_rfl) rfl rfl rfl rfl rfl (off_of hg156) rfl rfl (weak_refl) (listed' := #[true, true, true, true, true, true, true, true, true, true, true, true, true, false, false, false, false, false, false, false, false, false, false, false, false, false, false, false, false, false]) rfl ?_
                                refine ge_take_off 13 (TK := [box b6 _, box b7 _, rowl _ _ _ _ _ _, box b10 _, rowl _ _ _ _ _ _, box b12 _, box b13 _, rowl _ _ _ _ _ _, rowl _ _ _ _ _ _]) rfl (by kernel_rfl) (by kernel_rfl) (by kernel_rfl) #[true, true, true, true, true, true, true, true, true, true, true, true, true, false, true, false, false, false, false, false, false, false, false, false, false, false, false, false, false, false] (by kernel_rfl) rfl rfl rfl rfl rfl off_undef rfl rfl (weak_refl) (listed' := #[true, true, true, true, true, true, true, true, true, true, true, true, true, true, false, false, false, false, false, false, false, false, false, false, false, false, false, false, false, false]) rfl ?_
                                refine ge_take_off 14 (TK := [box b6 _, box b7 _, rowl _ _ _ _ _ _, box b10 _, rowl _ _ _ _ _ _, box b12 _, box b13 _, rowl _ _ _ _ _ _, rowl _ _ _ _ _ _]) rfl (by kernel_rfl) (by kernel_rfl) (by kernel_rfl) #[true, true, true, true, true, true, true, true, true, true, true, true, true, true, false, false, false, false, false, false, false, false, false, false, false, false, false, false, false, false] (by kernel_rfl) rfl rfl rfl rfl rfl off_undef rfl rfl (weak_refl) (listed' := #[true, true, true, true, true, true, true, true, true, true, true, true, true, true, true, false, false, false, false, false, false, false, false, false, false, false, false, false, false, false]) rfl ?_
                                refine ge_take_off 15 (TK := [box b6 _, box b7 _, rowl _ _ _ _ _ _, box b10 _, rowl _ _ _ _ _ _, box b12 _, box b13 _, rowl _ _ _ _ _ _, rowl _ _ _ _ _ _]) rfl (by kernel_rfl) (by kernel_rfl) (by kernel_rfl) #[true, true, true, true, true, true, true, true, true, true, true, true, true, true, true, false, false, false, false, false, false, false, false, false, false, false, false, false, false, false] (by kernel_rfl) rfl rfl rfl rfl rfl off_undef rfl rfl (weak_refl) (listed' := #[true, true, true, true, true, true, true, true, true, true, true, true, true, true, true, true, false, false, false, false, false, false, false, false, false, false, false, false, false, false]) rfl ?_
                                refine ge_take_off 16 (TK := [box b6 _, box b7 _, rowl _ _ _ _ _ _, box b10 _, rowl _ _ _ _ _ _, box b12 _, box b13 _, rowl _ _ _ _ _ _, rowl _ _ _ _ _ _]) rfl (by kernel_rfl) (by kernel_rfl) (by kernel_rfl) #[true, true, true, true, true, true, true, true, true, true, true, true, true, true, true, true, false, false, false, false, false, false, false, false, false, false, false, false, false, false] (by kernel_rfl) rfl rfl rfl rfl rfl off_undef rfl rfl (weak_refl) (listed' := #[true, true, true, true, true, true, true, true, true, true, true, true, true, true, true, true, true, false, false, false, false, false, false, false, false, false, false, false, false, false]) rfl ?_
                                refine ge_take_off 17 (TK := [box b6 _, box b7 _, rowl _ _ _ _ _ _, box b10 _, rowl _ _ _ _ _ _, box b12 _, box b13 _, rowl _ _ _ _ _ _, rowl _ _ _ _ _ _]) rfl (by kernel_rfl) (by kernel_rfl) (by kernel_rfl) #[true, true, true, true, true, true, true, true, true, true, true, true, true, true, true, true, true, false, false, false, false, false, false, false, false, false, false, false, false, false] (by kernel_rfl) rfl rfl rfl rfl rfl (off_of hg156) rfl rfl (weak_refl) (listed' := #[true, true, true, true, true, true, true, true, true, true, true, true, true, true, true, true, true, true, false, false, false, false, false, false, false, false, false, false, false, false]) rfl ?_
                                refine ge_take_off 18 (TK := [box b6 _, box b7 _, rowl _ _ _ _ _ _, box b10 _, rowl _ _ _ _ _ _, box b12 _, box b13 _, rowl _ _ _ _ _ _, rowl _ _ _ _ _ _]) rfl (by kernel_rfl) (by kernel_rfl) (by kernel_rfl) #[true, true, true, true, true, true, true, true, true, true, true, true, true, true, true, true, true, true, false, false, false, false, false, false, false, false, false, false, false, false] (by kernel_rfl) rfl rfl rfl rfl rfl (off_of hg156) rfl rfl (weak_refl) (listed' := #[true, true, true, true, true, true, true, true, true, true, true, true, true, true, true, true, true, true, true, false, false, false, false, false, false, false, false, false, false, false]) rfl ?_
                                refine ge_take_off 19 (TK := [box b6 _, box b7 _, rowl _ _ _ _ _ _, box b10 _, rowl _ _ _ _ _ _, box b12 _, box b13 _, rowl _ _ _ _ _ _, rowl _ _ _ _ _ _]) rfl (by kernel_rfl) (by kernel_rfl) (by kernel_rfl) #[true, true, true, true, true, true, true, true, true, true, true, true, true, true, true, true, true, true, true, false, true, true, true, true, true, true, false, false, false, false] (by kernel_rfl) rfl rfl rfl rfl rfl off_undef rfl rfl (weak_refl) (listed' := #[true, true, true, true, true, true, true, true, true, true, true, true, true, true, true, true, true, true, true, true, false, false, false, false, false, false, false, false, false, false]) rfl ?_
                                refine ge_take_off 20 (TK := [box b6 _, box b7 _, rowl _ _ _ _ _ _, box b10 _, rowl _ _ _ _ _ _, box b12 _, box b13 _, rowl _ _ _ _ _ _, rowl _ _ _ _ _ _]) rfl (by kernel_rfl) (by kernel_rfl) (by kernel_rfl) #[true, true, true, true, true, true, true, true, true, true, true, true, true, true, true, true, true, true, true, true, false, true, false, false, false, false, false, false, false, false] (by kernel_rfl) rfl rfl rfl rfl rfl off_undef rfl rfl (weak_refl) (listed' := #[true, true, true, true, true, true, true, true, true, true, true, true, true, true, true, true, true, true, true, true, true, false, false, false, false, false, false, false, false, false]) rfl ?_
                                refine ge_take_off 21 (TK := [box b6 _, box b7 _, rowl _ _ _ _ _ _, box b10 _, rowl _ _ _ _ _ _, box b12 _, box b13 _, rowl _ _ _ _ _ _, rowl _ _ _ _ _ _]) rfl (by kernel_rfl) (by kernel_rfl) (by kernel_rfl) #[true, true, true, true, true, true, true, true, true, true, true, true, true, true, true, true, true, true, true, true, true, false, false, false, false, false, false, false, false, false] (by kernel_rfl) rfl rfl rfl rfl rfl off_undef rfl rfl (weak_refl) (listed' := #[true, true, true, true, true, true, true, true, true, true, true, true, true, true, true, true, true, true, true, true, true, true, false, false, false, false, false, false, false, false]) rfl ?_
                                refine ge_take_off 22 (TK := [box b6 _, box b7 _, rowl _ _ _ _ _ _, box b10 _, rowl _ _ _ _ _ _, box b12 _, box b13 _, rowl _ _ _ _ _ _, rowl _ _ _ _ _ _]) rfl (by kernel_rfl) (by kernel_rfl) (by kernel_rfl) #[true, true, true, true, true, true, true, true, true, true, true, true, true, true, true, true, true, true, true, true, true, true, false, false, false, false, false, false, false, false] (by kernel_rfl) rfl rfl rfl rfl rfl off_undef rfl rfl (weak_refl) (listed' := #[true, true, true, true, true, true, true, true, true, true, true, true, true, true, true, true, true, true, true, true, true, true, true, false, false, false, false, false, false, false]) rfl ?_
                                refine ge_take_off 23 (TK := [box b6 _, box b7 _, rowl _ _ _ _ _ _, box b10 _, rowl _ _ _ _ _ _, box b12 _, box b13 _, rowl _ _ _ _ _ _, rowl _ _ _ _ _ _]) rfl (by kernel_rfl) (by kernel_rfl) (by kernel_rfl) #[true, true, true, true, true, true, true, true, true, true, true, true, true, true, true, true, true, true, true, true, true, true, true, false, false, false, false, false, false, false] (by kernel_rfl) rfl rfl rfl rfl rfl off_undef rfl rfl (weak_refl) (listed' := #[true, true, true, true, true, true, true, true, true, true, true, true, true, true, true, true, true, true, true, true, true, true, true, true, false, false, false, false, false, false]) rfl ?_
                                refine ge_take_off 24 (TK := [box b6 _, box b7 _, rowl _ _ _ _ _ _, box b10 _, rowl _ _ _ _ _ _, box b12 _, box b13 _, rowl _ _ _ _ _ _, rowl _ _ _ _ _ _]) rfl (by kernel_rfl) (by kernel_rfl) (by kernel_rfl) #[true, true, true, true, true, true, true, true, true, true, true, true, true, true, true, true, true, true, true, true, true, true, true, true, false, false, false, false, false, false] (by kernel_rfl) rfl rfl rfl rfl rfl off_undef rfl rfl (weak_refl) (listed' := #[true, true, true, true, true, true, true, true, true, true, true, true, true, true, true, true, true, true, true, true, true, true, true, true, true, false, false, false, false, false]) rfl ?_
                                refine ge_one 25 (k' := 0) (listed' := #[true, true, true, true, true, true, true, true, true, true, true, true, true, true, true, true, true, true, true, true, true, true, true, true, true, true, false, false, false, false]) (by kernel_rfl) rfl rfl rfl ?_
                                refine gop_offu rfl rfl rfl rfl rfl rfl ?_
                                refine gops_nil ?_
                                refine ge_fin (TK := [box b6 _, box b7 _, rowl _ _ _ _ _ _, box b10 _, rowl _ _ _ _ _ _, box b12 _, box b13 _, rowl _ _ _ _ _ _, rowl _ _ _ _ _ _]) rfl (weak_refl) ?_
                                refine ge_one 26 (k' := 0) (listed' := #[true, true, true, true, true, true, true, true, true, true, true, true, true, true, true, true, true, true, true, true, true, true, true, true, true, true, true, false, false, false]) (by kernel_rfl) rfl rfl rfl ?_
                                refine gop_offu rfl rfl rfl rfl rfl rfl ?_
                                refine gops_nil ?_
                                refine ge_fin (TK := [box b6 _, box b7 _, rowl _ _ _ _ _ _, box b10 _, rowl _ _ _ _ _ _, box b12 _, box b13 _, rowl _ _ _ _ _ _, rowl _ _ _ _ _ _]) rfl (weak_refl) ?_
                                refine ge_take_off 27 (TK := [box b6 _, box b7 _, rowl _ _ _ _ _ _, box b10 _, rowl _ _ _ _ _ _, box b12 _, box b13 _, rowl _ _ _ _ _ _, rowl _ _ _ _ _ _]) rfl (by kernel_rfl) (by kernel_rfl) (by kernel_rfl) #[true, true, true, true, true, true, true, true, true, true, true, true, true, true, true, true, true, true, true, true, true, true, true, true, true, true, true, false, false, false] (by kernel_rfl) rfl rfl rfl rfl rfl (off_of hg156) rfl rfl (weak_refl) (listed' := #[true, true, true, true, true, true, true, true, true, true, true, true, true, true, true, true, true, true, true, true, true, true, true, true, true, true, true, true, false, false]) rfl ?_
                                refine ge_take 28 (TK := [box b6 _, box b7 _, rowl _ _ _ _ _ _, box b10 _, rowl _ _ _ _ _ _, box b12 _, box b13 _, rowl _ _ _ _ _ _, rowl _ _ _ _ _ _]) rfl (by kernel_rfl) (by kernel_rfl) (by kernel_rfl) #[true, true, true, true, true, true, true, true, true, true, true, true, true, true, true, true, true, true, true, true, true, true, true, true, true, true, true, true, false, false] (by kernel_rfl) rfl (y_pick_t (v := .bool _) rfl hg156 rfl) rfl rfl rfl (weak_refl) (listed' := #[true, true, true, true, true, true, true, true, true, true, true, true, true, true, true, true, true, true, true, true, true, true, true, true, true, true, true, true, true, false]) rfl ?_
                                refine ge_take 29 (TK := [box b6 _, box b7 _, rowl _ _ _ _ _ _, box b10 _, rowl _ _ _ _ _ _, box b12 _, box b13 _, rowl _ _ _ _ _ _, rowl _ _ _ _ _ _]) rfl (by kernel_rfl) (by kernel_rfl) (by kernel_rfl) #[true, true, true, true, true, true, true, true, true, true, true, true, true, true, true, true, true, true, true, true, true, true, true, true, true, true, true, true, true, false] (by kernel_rfl) rfl (y_assign (v := .bool _) rfl) rfl rfl rfl (weak_refl) (listed' := #[true, true, true, true, true, true, true, true, true, true, true, true, true, true, true, true, true, true, true, true, true, true, true, true, true, true, true, true, true, true]) rfl ?_
                                refine ge_done (by kernel_rfl) ?_
                                refine hN39 _ _ ?_
                                refine gfrom [(0, .slice _ _ _), (1, .slice _ _ _), (9, .slice _ _ _), (11, .slice _ _ _), (12, .pointer _), (15, .slice Ov _ ov), (16, .slice (some ⟨g133, 0, none⟩) _ c133), (17, .int _ _), (18, .slice _ _ _), (19, .bool _), (20, .int _ _)] ⟨rfl, rfl, rfl, rfl, rfl, rfl, rfl, rfl, rfl, rfl, rfl, trivial⟩ fun σ => ?_
                                refine greg ?_
                                refine gop (y_move (v := .int _ _) rfl) rfl rfl rfl ?_
                                refine gop (y_add rfl rfl ⟨by omega, by omega⟩) rfl rfl rfl ?_
                                refine gop (y_assign (v := .int _ _) rfl) rfl rfl rfl ?_
                                refine gops_nil ?_
                                refine gnext2 (j + 1) (by omega) (show j + 1 ≤ _ by omega) ⟨(congrArg Value.bool (done_old hj1 hd0)), rfl, trivial⟩ ⟨rfl, rfl, rfl, rfl, rfl, rfl, rfl, rfl, rfl, trivial⟩ ⟨_, rfl⟩
                            · 
                              replace hc152 := of_decide_eq_false hc152
                              have hdA : doneTo (rls rs) l (fpl gs) (chgL (fpl fs) (fpl gs))[k] j = doneB (rls rs) l (fpl gs) (chgL (fpl fs) (fpl gs))[k] := doneTo_all (by omega)
                              refine gexit ?_
                              refine hN35 _ _ ?_
                              refine gfrom [(0, .slice _ _ _), (1, .slice _ _ _), (9, .slice _ _ _), (11, .slice _ _ _), (12, .pointer _), (15, .slice Ov _ ov), (16, .slice (some ⟨g133, 0, none⟩) _ c133), (17, .int _ _), (19, .bool _)] ⟨rfl, rfl, rfl, rfl, rfl, rfl, rfl, rfl, rfl, trivial⟩ fun σ => ?_
                              refine gseq fun N40 hN40 => ?_
                              refine greg ?_
                              refine gop (y_move (v := .bool _) rfl) rfl rfl rfl ?_
                              refine gop (y_not rfl) rfl rfl rfl ?_
                              refine gops_nil ?_
                              refine hN40 _ _ ?_
                              refine gfrom [(0, .slice _ _ _), (1, .slice _ _ _), (9, .slice _ _ _), (11, .slice _ _ _), (12, .pointer _), (15, .slice Ov _ ov), (16, .slice (some ⟨g133, 0, none⟩) _ c133), (17, .int _ _), (185, .bool _)] ⟨rfl, rfl, rfl, rfl, rfl, rfl, rfl, rfl, rfl, trivial⟩ fun σ => ?_
                              refine gcond (b := _) rfl (fun hc185 => ?_) (fun hc185 => ?_)
                              · 
                                rw [hdA] at hc185
                                refine greg ?_
                                refine gop (y_move (v := .slice Ov _ ov) rfl) rfl rfl rfl ?_
                                refine gop (y_move (v := .slice (some ⟨g133, 0, none⟩) _ c133) rfl) rfl rfl rfl ?_
                                refine gop (y_move (v := .int _ _) rfl) rfl rfl rfl ?_
                                refine gop (y_indexAddr (m := k) Tryz.underlying22 Tryz.sizeOf9 rfl rfl (by omega) (by omega) (by omega)) rfl rfl rfl ?_
                                refine gop (y_load Tryz.isAgg9 rfl (cells_rowl 7 (f := strCells) (l := chgL (fpl fs) (fpl gs)) rfl rfl (fun _ => rfl) (List.getElem?_eq_getElem hk1) 0 _ rfl)) rfl rfl rfl ?_
                                refine gop_lit (vs := [.string _]) (cells := #[_]) Tryz.underlying22 Tryz.sizeOf9 Tryz.zeroValue9 rfl (by decide) (by decide) rfl rfl rfl rfl (fun b191 hb191 => ?_)
                                refine gop_append 8 (f := strCells) (l2 := [(chgL (fpl fs) (fpl gs))[k]]) Tryz.underlying22 el9 wide_str (v := .slice Ov _ ov) rfl rfl rfl rfl (fun h => by cases h) (by simp [maxLen]; omega) (by simp; omega) (src_box 9 rfl rfl) rfl (fun v192 => ?_)
                                refine gops_fact (fun w hM => own_form (hM.own 8 rfl)) ?_
                                rintro ⟨A192, c192, rfl, hc192, hm192⟩
                                refine gop (y_assign (v := .slice A192 _ c192) rfl) rfl rfl rfl ?_
                                refine gops_nil ?_
                                refine hN32 _ _ ?_
                                refine gT [box b6 _, box b7 _, rowl _ _ _ _ _ _, box b10 _, rowl _ _ _ _ _ _, box b12 _, box b13 _, rowl _ _ _ _ _ _, rowl _ _ _ _ _ _, box b191 _] rfl ?_
                                refine gfrom [(0, .slice _ _ _), (1, .slice _ _ _), (9, .slice _ _ _), (11, .slice _ _ _), (12, .pointer _), (15, .slice A192 _ c192), (16, .slice (some ⟨g133, 0, none⟩) _ c133), (17, .int _ _)] ⟨rfl, rfl, rfl, rfl, rfl, rfl, rfl, rfl, trivial⟩ fun σ => ?_
                                refine greg ?_
                                refine gop (y_move (v := .int _ _) rfl) rfl rfl rfl ?_
                                refine gop (y_add rfl rfl ⟨by omega, by omega⟩) rfl rfl rfl ?_
                                refine gop (y_assign (v := .int _ _) rfl) rfl rfl rfl ?_
                                refine gops_nil ?_
                                rw [← missTo_yes hk1 hc185]
                                refine gnext2 ((k + 1, A192, c192)) (by show (chgL (fpl fs) (fpl gs)).length - (k + 1) < (chgL (fpl fs) (fpl gs)).length - k; omega) (show k + 1 ≤ _ by omega) ⟨(by rw [missTo_yes hk1 hc185]; rfl), rfl, trivial⟩ ⟨rfl, rfl, rfl, rfl, rfl, rfl, trivial⟩ ⟨_, rfl⟩
                              · 
                                rw [hdA] at hc185
                                refine gskip ?_
                                refine hN32 _ _ ?_
                                refine gfrom [(0, .slice _ _ _), (1, .slice _ _ _), (9, .slice _ _ _), (11, .slice _ _ _), (12, .pointer _), (15, .slice Ov _ ov), (16, .slice (some ⟨g133, 0, none⟩) _ c133), (17, .int _ _)] ⟨rfl, rfl, rfl, rfl, rfl, rfl, rfl, rfl, trivial⟩ fun σ => ?_
                                refine greg ?_
                                refine gop (y_move (v := .int _ _) rfl) rfl rfl rfl ?_
                                refine gop (y_add rfl rfl ⟨by omega, by omega⟩) rfl rfl rfl ?_
                                refine gop (y_assign (v := .int _ _) rfl) rfl rfl rfl ?_
                                refine gops_nil ?_
                                rw [← missTo_no hk1 hc185]
                                refine gnext2 ((k + 1, Ov, ov)) (by show (chgL (fpl fs) (fpl gs)).length - (k + 1) < (chgL (fpl fs) (fpl gs)).length - k; omega) (show k + 1 ≤ _ by omega) ⟨rfl, rfl, trivial⟩ ⟨rfl, rfl, rfl, rfl, rfl, rfl, trivial⟩ ⟨_, rfl⟩
                        · 
                          replace hc137 := of_decide_eq_false hc137
                          refine g_fact (fun w hM => row_form (hM.ok _ (List.mem_of_getElem? (i := 8) rfl))) ?_
                          rintro ⟨A9, c9, hv9, hcOv, hmOv, hnOv⟩
                          simp only [Value.slice.injEq] at hv9
                          obtain ⟨rfl, -, rfl⟩ := hv9
                          have hmA := missTo_all (rs := rls rs) (l := l) (a := fpl fs) (b := fpl gs) (k := k) (by omega)
                          refine gexit ?_
                          refine hN28 _ _ ?_
                          refine gfrom [(11, .slice _ _ _), (12, .pointer _), (15, .slice Ov _ ov)] ⟨rfl, rfl, rfl, trivial⟩ fun σ => ?_
                          refine gseq fun N41 hN41 => ?_
                          refine greg ?_
                          refine gop (y_fieldAddr_box fa33_0 rfl) rfl rfl rfl ?_
                          refine gop (y_load Tryz.isAgg3 rfl (cell_box 5 rfl rfl)) rfl rfl rfl ?_
                          refine gop (y_eql rfl rfl) rfl rfl rfl ?_
                          refine gop (y_move (v := .bool _) rfl) rfl rfl rfl ?_
                          refine gop_if (want := true) rfl rfl rfl rfl rfl rfl (fun hg196 => ?_) (fun hg196 => ?_)
                          · 
                            have hg196d := of_decide_eq_true hg196
                            refine gop (y_bare (y_move (v := .slice _ _ _) rfl)) rfl rfl rfl ?_
                            refine gop_on rfl rfl rfl rfl hg196 ?_
                            refine gop (y_bare (y_move (v := .slice Ov _ ov) rfl)) rfl rfl rfl ?_
                            refine gop_on rfl rfl rfl rfl hg196 ?_
                            refine gop_pure (e_call (vs := [.slice _ _ _, .slice Ov _ ov]) Tryz.func24 rfl (by kernel_rfl) rfl) (fun w hM => by have h1 : Rdl w 0 1 strCells A32 (missV (rls rs) l (fpl fs) (fpl gs)) := ((row_rdl (f := strCells) (fun _ => rfl) (hM.ok _ (List.mem_of_getElem? (i := 4) rfl))).mono (Nat.zero_le _)); have h2 : Rdl w 0 1 strCells Ov (missTo (rls rs) l (fpl fs) (fpl gs) k) := ((row_rdl (f := strCells) (fun _ => rfl) (hM.ok _ (List.mem_of_getElem? (i := 8) rfl))).mono (Nat.zero_le _)); have hc := equalStrings_any w A32 Ov c32 ov (missV (rls rs) l (fpl fs) (fpl gs)) (missTo (rls rs) l (fpl fs) (fpl gs) k) h1 h2 (Nat.le_trans hc32 hm32); exact hc) rfl rfl rfl ?_
                            refine gop (y_pick_t (v := .bool _) rfl hg196 rfl) rfl rfl rfl ?_
                            refine gop (y_assign (v := .bool _) rfl) rfl rfl rfl ?_
                            refine gops_nil ?_
                            refine hN41 _ _ ?_
                            refine gfrom [(8, .bool _)] ⟨rfl, trivial⟩ fun σ => ?_
                            refine gret fun w1 hM => ?_
                            refine ⟨_, res1 rfl (rt (v := .bool _) rfl), ?_⟩
                            exact ⟨by rw [hmA, missV, if_pos hF, decide_eq_true rfl], hM.low⟩
                          · 
                             rw [hF] at hg196; exact absurd hg196 (by decide)
          · 
             rw [hvz] at hg74; exact absurd hg74 (by decide)
  · 
     exact absurd hg39 (by first | decide | simp)
end Go.Proofs.YtbkameioedmlkaaGreatDoor
namespace Go.Cf
open Go.ChangeShapes Go.WideShapes Go.ChangeAt Go.RowKit Go.Deep
theorem law_lift_row {H : Type} {enc : TypeId × Value → H} {C : Checked} {os : Os} {f : FuncId} {fn : Func} {s : OpenSpec} {F : Stop.Interp} {conds : List PathCond} {tb : TypeId} {laid : List (String × DataW Unit)}
    (own : ownKnob C.prog.godebug = none) (started : os.Started) (noInit : C.prog.inits.idxOf? f = none) (hfn : C.prog.funcs[f]? = some fn)
    (witness : ∃ (w : World) (tape : Tape) (i : Input), w.os = os ∧ (w.forCall tape i).Shaped C.prog ∧ i.vars = [] ∧ Input.okWide C.prog (w.forCall tape i) .any w.heap.size f i ∧
      s.preRow enc C.prog fn conds false laid (w.forCall tape i).memory i.args ∧ Assume.holds {} C.prog (lone (Frame.enter C.prog f i.args .normal) [] (w.forCall tape i)))
    (hl : laidOutB C.prog = true) (hread : (fn.params.toList.all fun t => C.prog.readableRec t && decide (t < C.prog.types.size)) = true) (hres : fn.resultTypes = #[tb]) (htb : C.prog.underlying tb = some .bool) (hvars : s.vars = []) (hvars0 : (s.at F).vars = []) (hvt : s.bare.plain.varTypes C.prog = [])
    (hspec : ∀ ds : List (DataW H), ds.length = fn.params.size → ((s.at F).fn H (ds ++ [])).results = [.lit (.bool true)] ∧ ((s.at F).fn H (ds ++ [])).args = ds ∧ ((s.at F).fn H (ds ++ [])).vars = [])
    (contract : ∀ (W : World) (base : Nat) (args : Array Value) (ds : List (DataW H)) (p : List MemPlace),
      (∀ (j : Nat) t v, fn.params[j]? = some t → args[j]? = some v → Value.okWide C.prog W .any base t v) → DataW.TrodAll enc C.prog W 0 (fun _ => true) true fn.params.toList args.toList ds p →
      (DataW.weightsEach C.prog fn.params.toList ds).all (· ≤ reachBytes) = true → (∀ k, s.cond = some k → k H ds = true) → laidMetH C.prog laid W →
      Calls C.prog f args W fun e W' => e = .returned (.bool true) ∧ Below W.heap.size W W') :
    ReturnsInHanded {} C os f .any (s.preRow enc C.prog fn conds false laid) ((s.at F).post enc C.prog fn false true false false) := by
  refine returnsInHanded_of_row own started noInit hfn witness ?_
  intro W base args ds gs before hval hW _ hkk hsz hL _ _
  have hW' := hW
  obtain ⟨p, q, hA, hV, rfl, _, _⟩ := hW
  rw [hvars] at hV
  obtain ⟨rfl, rfl⟩ := trodVars_none hV
  have hlen : ds.length = fn.params.size := by
    have key : ∀ (ts : List TypeId) (vs : List Value) (ds : List (DataW H)) (p : List MemPlace), DataW.TrodAll enc C.prog W 0 (fun _ => true) true ts vs ds p → ds.length = ts.length := by
      intro ts
      induction ts with
      | nil => intro vs ds p h; obtain ⟨_, rfl, _⟩ := trodAll_nil h; rfl
      | cons t ts ih => intro vs ds p h; obtain ⟨v, vs', d, ds', p, q, rfl, rfl, rfl, _, h2⟩ := trodAll_cons h; simp [ih _ _ _ h2]
    rw [key _ _ _ _ hA]; simp
  have hw : (DataW.weightsEach C.prog fn.params.toList ds).all (· ≤ reachBytes) = true := by
    simpa [hvt] using hsz
  refine (contract W base args ds p hval hA hw (fun k hk => by simpa using hkk k hk) hL).mono fun e W' ⟨he, bel⟩ => ?_
  subst he
  obtain ⟨h1, h2, h3⟩ := hspec ds hlen
  have hr : ∀ t ∈ fn.params.toList, C.prog.readableRec t = true ∧ t < C.prog.types.size := by
    intro t ht
    have := List.all_eq_true.1 hread t ht
    simpa using this
  refine ⟨_, rfl, ds, [], p ++ [], [], p, [], hW', ?_, ?_, ?_, World.keptBut_mono (fun x hx => ⟨hx, ?_⟩) (bel.frame (· ∈ p ++ [])), fun h => by cases h⟩
  · rw [h1, hres]; exact trodAll_mk1 (shut_bool htb _)
  · rw [h2]; exact trodAll_below hl bel hr hA
  · rw [h3, hvars0]; rfl
  · right; left; simpa using hx
end Go.Cf
namespace Go.Proofs.YtbkameioedmlkaaGreatDoor
open Go.ChangeShapes Go.WideShapes Go.ChangeAt Go.RowKit Go.Cf
set_option maxRecDepth 10000
theorem ce_str : Tryz.prog.cellsOf 9 = 1 := by kernel_rfl
theorem ce_ints : Tryz.prog.cellsOf 74 = 1 := by kernel_rfl
theorem by_int : Tryz.prog.bytesOf 3 = 8 := by kernel_rfl
theorem by_rule : Tryz.prog.bytesOf 89 = 40 := by kernel_rfl
theorem by_str : Tryz.prog.bytesOf 9 = 16 := by kernel_rfl
theorem el_rule {H : Type} {enc : TypeId × Value → H} {w : World} : ∀ (n : Nat) (cs : List Value) (x : DataW H × List MemPlace), DataW.trod enc Tryz.prog w 0 (fun _ => true) true n 89 cs = some x →
    (x.1.weights Tryz.prog 89).all (· ≤ reachBytes) = true → ∃ a : RuleC, cs = ruleCells a ∧ RuleR w 0 a := by
  intro n cs x h hw
  obtain ⟨m, hlen, hf⟩ := rd_struct Tryz.underlying89 h hw
  have hl : cs.length = 2 := hlen.trans (by kernel_rfl)
  match cs, hl with
  | [c0, c1], _ =>
    obtain ⟨y0, f0, w0⟩ := hf 0 _ rfl
    obtain ⟨y1, f1, w1⟩ := hf 1 _ rfl
    simp [ce_str, ce_ints] at f0 f1
    obtain ⟨a0, e0, _⟩ := el_str Tryz.underlying9 m _ _ f0 w0
    obtain ⟨A1, c1', l1, e1, r1, s1, m1, n1, t1, _⟩ := rd_cells Tryz.underlying74 (by kernel_rfl) (el_int Tryz.underlying3) f1 w1
    simp at e0 e1
    subst e0 e1
    rw [by_int] at t1
    exact ⟨⟨⟨a0, l1⟩, A1, c1'⟩, rfl, ⟨r1, ⟨s1, m1, n1, Nat.le_trans (Nat.mul_le_mul_right _ s1) t1⟩⟩⟩
end Go.Proofs.YtbkameioedmlkaaGreatDoor
namespace Go.Proofs.YtbkameioedmlkaaGreatDoor
open Go.ChangeShapes Go.WideShapes Go.ChangeAt Go.RowKit Go.Cf
set_option maxRecDepth 10000
theorem ce_strs : Tryz.prog.cellsOf 22 = 1 := by kernel_rfl
theorem ce_int : Tryz.prog.cellsOf 3 = 1 := by kernel_rfl
theorem ce_files : Tryz.prog.cellsOf 59 = 1 := by kernel_rfl
theorem by_file : Tryz.prog.bytesOf 85 = 40 := by kernel_rfl
theorem el_file {H : Type} {enc : TypeId × Value → H} {w : World} : ∀ (n : Nat) (cs : List Value) (x : DataW H × List MemPlace), DataW.trod enc Tryz.prog w 0 (fun _ => true) true n 85 cs = some x →
    (x.1.weights Tryz.prog 85).all (· ≤ reachBytes) = true → ∃ a : FileC, cs = fileCells a ∧ FileR w 0 a := by
  intro n cs x h hw
  obtain ⟨m, hlen, hf⟩ := rd_struct Tryz.underlying85 h hw
  have hl : cs.length = 2 := hlen.trans (by kernel_rfl)
  match cs, hl with
  | [c0, c1], _ =>
    obtain ⟨y0, f0, w0⟩ := hf 0 _ rfl
    obtain ⟨y1, f1, w1⟩ := hf 1 _ rfl
    simp [ce_str, ce_strs] at f0 f1
    obtain ⟨a0, e0, _⟩ := el_str Tryz.underlying9 m _ _ f0 w0
    obtain ⟨A1, c1', l1, e1, r1, s1, m1, n1, t1, _⟩ := rd_cells Tryz.underlying22 (by kernel_rfl) (el_str Tryz.underlying9) f1 w1
    simp at e0 e1
    subst e0 e1
    rw [by_str] at t1
    exact ⟨⟨⟨a0, l1⟩, A1, c1'⟩, rfl, ⟨r1, ⟨s1, m1, n1, Nat.le_trans (Nat.mul_le_mul_right _ s1) t1⟩⟩⟩
structure FsC' where
  A : Option Addr
  c : Nat
  fs : List FileC
abbrev treeCells (x : FsC') : List Value := [.slice x.A x.fs.length x.c]
theorem el_tree {H : Type} {enc : TypeId × Value → H} {w : World} : ∀ (n : Nat) (cs : List Value) (x : DataW H × List MemPlace), DataW.trod enc Tryz.prog w 0 (fun _ => true) true n 61 cs = some x →
    (x.1.weights Tryz.prog 61).all (· ≤ reachBytes) = true → ∃ a : FsC', cs = treeCells a ∧ TreeR w 0 a.A a.c a.fs := by
  intro n cs x h hw
  obtain ⟨m, hlen, hf⟩ := rd_struct Tryz.underlying61 h hw
  have hl : cs.length = 1 := hlen.trans (by kernel_rfl)
  match cs, hl with
  | [c0], _ =>
    obtain ⟨y0, f0, w0⟩ := hf 0 _ rfl
    simp [ce_files] at f0
    obtain ⟨A1, c1', l1, e1, r1, s1, m1, n1, t1, q1⟩ := rd_cells Tryz.underlying59 (by kernel_rfl) el_file f0 w0
    simp at e1
    subst e1
    rw [by_file] at t1
    exact ⟨⟨A1, c1', l1⟩, rfl, ⟨r1, q1, ⟨s1, m1, n1, Nat.le_trans (Nat.mul_le_mul_right _ s1) t1⟩⟩⟩
end Go.Proofs.YtbkameioedmlkaaGreatDoor
namespace Go.Proofs.YtbkameioedmlkaaGreatDoor
open Go.ChangeShapes Go.WideShapes Go.ChangeAt Go.RowKit Go.Cf
set_option maxRecDepth 10000
theorem rd_struct_b {H : Type} {enc : TypeId × Value → H} {P : Program} {w : World} {t : TypeId} {fs : Array Field} {n : Nat} {cs : List Value} {x : DataW H × List MemPlace} (ht : P.underlying t = some (.struct fs)) (h : DataW.trod enc P w 0 (fun _ => true) true n t cs = some x) (hw : (x.1.weights P t).all (· ≤ reachBytes) = true) :
    ∃ m, cs.length = P.cellsOf t ∧ ∀ (i : Nat) (f : Field), fs[i]? = some f → ∃ y, DataW.trod enc P w 0 (fun _ => true) true m f.type ((cs.drop f.offset).take (P.cellsOf f.type)) = some y ∧ (y.1.weights P f.type).all (· ≤ reachBytes) = true ∧ Rows.uptoBulk y.1 ≤ Rows.uptoBulk x.1 := by
  obtain ⟨ys, m, _, hx, hl, hn, hf⟩ := DataW.trod_struct ht h
  refine ⟨m, hl, fun i f hi => ?_⟩
  have hlt : i < fs.size := by
    rcases Nat.lt_or_ge i fs.size with h | h
    · exact h
    · rw [Array.getElem?_eq_none h] at hi; cases hi
  obtain ⟨y, hy⟩ : ∃ y, ys[i]? = some y := ⟨_, List.getElem?_eq_getElem (by omega)⟩
  refine ⟨y, (hf i f hi).trans hy, ?_, ?_⟩
  · rw [hx] at hw
    simp only [DataW.weights, ht] at hw
    exact weights_get hw i f.type y.1 (by simp [hi]) (by simp [hy])
  · rw [hx]
    simp only [Rows.uptoBulk]
    have hm : y.1 ∈ ys.map (fun x => x.fst) := List.mem_map.2 ⟨y, List.mem_of_getElem? hy, rfl⟩
    have := bulk_mem hm
    omega
theorem el_appr_b {H : Type} {enc : TypeId × Value → H} {w : World} {N : Nat} : ∀ (n : Nat) (cs : List Value) (x : DataW H × List MemPlace), DataW.trod enc Tryz.prog w 0 (fun _ => true) true n 70 cs = some x →
    (x.1.weights Tryz.prog 70).all (· ≤ reachBytes) = true → Rows.uptoBulk x.1 ≤ N → ∃ a : Appr, cs = apprCells a ∧ a.path.size ≤ N := by
  intro n cs x h hw hb
  obtain ⟨m, hlen, hf⟩ := rd_struct_b Tryz.underlying70 h hw
  have hl : cs.length = 3 := hlen.trans (by kernel_rfl)
  match cs, hl with
  | [c0, c1, c2], _ =>
    obtain ⟨y0, f0, w0, b0⟩ := hf 0 _ rfl
    obtain ⟨y1, f1, w1, b1⟩ := hf 1 _ rfl
    obtain ⟨y2, f2, w2, b2⟩ := hf 2 _ rfl
    simp [ce_str, ce_int] at f0 f1 f2
    obtain ⟨a0, e0, _, _⟩ := DataW.trod_int Tryz.underlying3 f0
    obtain ⟨a1, e1, hz⟩ := el_str_b (N := N) Tryz.underlying9 m _ _ f1 w1 (Nat.le_trans b1 hb)
    obtain ⟨a2, e2, _, _⟩ := DataW.trod_int Tryz.underlying3 f2
    simp at e0 e1 e2
    subst e0 e1 e2
    exact ⟨⟨a0, a1, a2⟩, rfl, hz⟩
end Go.Proofs.YtbkameioedmlkaaGreatDoor
