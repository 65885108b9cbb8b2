/-
  TopThreadsFollowPatches: for all texts, lines and patches the law returns true (the tied card).
-/
import Derived.Test.YtbkameioedmlkaaGreatDoorP16e
import Derived.Deep.DeepHandedRow
import Derived.LaidLaws
import Derived.Lib.LaidTab
import Derived.MakeChecks
import Derived.Stop.LaidErr
import Derived.Test.YtbkameioedmlkaaGreatDoorCards
import Derived.Test.YtbkameioedmlkaaGreatDoorProg
import Derived.Test.YtbkameioedmlkaaGreatDoorRows
import Derived.Test.YtbkameioedmlkaaGreatDoorTie
namespace Go.Proofs.YtbkameioedmlkaaGreatDoor
open Go.RowKit Go.Cf
set_option maxRecDepth 10000
theorem fa51_0 (a : Addr) (w : World) : (Instr.fieldAt 51 (.pointer (some a)) 0).run Tryz.prog w = .ok (.pointer (some (a.add 0))) w := by kernel_rfl
theorem fa51_1 (a : Addr) (w : World) : (Instr.fieldAt 51 (.pointer (some a)) 1).run Tryz.prog w = .ok (.pointer (some (a.add 1))) w := by kernel_rfl
theorem fa51_2 (a : Addr) (w : World) : (Instr.fieldAt 51 (.pointer (some a)) 2).run Tryz.prog w = .ok (.pointer (some (a.add 2))) w := by kernel_rfl
theorem bd135_0_1 (x1 : Int) (x2 : Bool) : Tryz.prog.built 135 [(0, .int .i64 x1), (1, .bool x2)] = some #[.int .i64 x1, .bool x2] := by kernel_rfl
theorem fa135_1 (a : Addr) (w : World) : (Instr.fieldAt 135 (.pointer (some a)) 1).run Tryz.prog w = .ok (.pointer (some (a.add 1))) w := by kernel_rfl
theorem fa135_0 (a : Addr) (w : World) : (Instr.fieldAt 135 (.pointer (some a)) 0).run Tryz.prog w = .ok (.pointer (some (a.add 0))) w := by kernel_rfl
set_option maxHeartbeats 1000000 in
theorem votesValidate_any (w : World) (A : Option Addr) (c : Nat) (l : List Vote) (B : Option Addr) (c2 : Nat) (tr : List Bool) (hv : Rdl w 0 3 voteCells A l) (ht : Rdl w 0 1 boolCells B tr) (hl : l.length ≤ maxLen) (htl : tr.length ≤ maxLen) (_hcc : tr.length ≤ c2) :
    Calls Tryz.prog 97 #[.slice A l.length c, .slice B tr.length c2] w fun e w' => e = .returned (fv (Votes.validate l tr)) ∧ Below w.heap.size w w' := by
  unfold maxLen at hl htl
  refine gcalls Tryz.func97 rfl Tryz.ntmps97 (Nat.le_of_ble_eq_true rfl) ?_
  refine gfrom [(0, .slice _ _ _), (1, .slice _ _ _)] ⟨rfl, rfl, trivial⟩ fun σ => ?_
  refine gseq fun N1 hN1 => ?_
  refine greg ?_
  refine gop_alloc (cs := #[.int .i64 0, .int .i64 0]) Tryz.zeroValue33 rfl rfl (fun b4 hb4 => ?_)
  refine gops_nil ?_
  refine hN1 _ _ ?_
  refine gT [box b4 _] rfl ?_
  refine gfrom [(0, .slice _ _ _), (1, .slice _ _ _), (4, .pointer _)] ⟨rfl, rfl, rfl, trivial⟩ fun σ => ?_
  refine gseq fun N2 hN2 => ?_
  refine gseq fun N3 hN3 => ?_
  refine greg ?_
  refine gop (y_move (v := .slice _ _ _) rfl) rfl rfl rfl ?_
  refine gop (y_len Tryz.underlying49 rfl) rfl rfl rfl ?_
  refine gop (y_gtr rfl rfl) rfl rfl rfl ?_
  refine gops_nil ?_
  refine hN3 _ _ ?_
  refine gfrom [(0, .slice _ _ _), (1, .slice _ _ _), (4, .pointer _), (9, .bool _)] ⟨rfl, rfl, rfl, rfl, trivial⟩ fun σ => ?_
  refine gcond (b := _) rfl (fun hc9 => ?_) (fun hc9 => ?_)
  · 
    replace hc9 := of_decide_eq_true hc9
    refine gseq fun N4 hN4 => ?_
    refine greg ?_
    refine gop (y_build (vs := [(0, _), (1, _)]) (cells := #[_, _]) rfl (bd33_0_1 _ _)) rfl rfl rfl ?_
    refine gop_store 0 (v := .agg #[_, _]) (cs' := #[_, _]) rfl rfl Tryz.sizeOf33 rfl rfl rfl rfl (Nat.le_of_ble_eq_true rfl) rfl rfl ?_
    refine gops_nil ?_
    refine hN4 _ _ ?_
    refine gT [box b4 _] rfl ?_
    refine gfrom [(4, .pointer _)] ⟨rfl, trivial⟩ fun σ => ?_
    refine gret fun w1 hM => ?_
    refine ⟨_, res1 rfl (rc 0 (cs := [_, _]) hM rfl rfl Tryz.isAgg33 Tryz.sizeOf33 rfl), ?_⟩
    exact ⟨by rw [Votes.validate, if_pos (by omega)], hM.low⟩
  · 
    replace hc9 := of_decide_eq_false hc9
    refine gskip ?_
    refine hN2 _ _ ?_
    refine gfrom [(0, .slice _ _ _), (1, .slice _ _ _), (4, .pointer _)] ⟨rfl, rfl, rfl, trivial⟩ fun σ => ?_
    refine gseq fun N5 hN5 => ?_
    refine gseq fun N6 hN6 => ?_
    refine greg ?_
    refine gop (y_move (v := .slice _ _ _) rfl) rfl rfl rfl ?_
    refine gop (y_len Tryz.underlying46 rfl) rfl rfl rfl ?_
    refine gop (y_eql rfl rfl) rfl rfl rfl ?_
    refine gop (y_move (v := .bool _) rfl) rfl rfl rfl ?_
    refine gop_if (want := false) rfl rfl rfl rfl rfl rfl (fun hg14 => ?_) (fun hg14 => ?_)
    · 
      have hg14d := of_decide_eq_false hg14
      refine gop (y_bare (y_move (v := .slice _ _ _) rfl)) rfl rfl rfl ?_
      refine gop_on rfl rfl rfl rfl hg14 ?_
      refine gop (y_bare (y_len Tryz.underlying46 rfl)) rfl rfl rfl ?_
      refine gop_on rfl rfl rfl rfl hg14 ?_
      refine gop (y_bare (y_gtr rfl rfl)) rfl rfl rfl ?_
      refine gop (y_pick_f (v := .bool _) rfl hg14 rfl) rfl rfl rfl ?_
      refine gops_nil ?_
      refine hN6 _ _ ?_
      refine gfrom [(0, .slice _ _ _), (1, .slice _ _ _), (4, .pointer _), (18, .bool _)] ⟨rfl, rfl, rfl, rfl, trivial⟩ fun σ => ?_
      refine gcond (b := _) rfl (fun hc18 => ?_) (fun hc18 => ?_)
      · 
        replace hc18 := of_decide_eq_true hc18
        refine gseq fun N7 hN7 => ?_
        refine greg ?_
        refine gop (y_build (vs := [(0, _), (1, _)]) (cells := #[_, _]) rfl (bd33_0_1 _ _)) rfl rfl rfl ?_
        refine gop_store 0 (v := .agg #[_, _]) (cs' := #[_, _]) rfl rfl Tryz.sizeOf33 rfl rfl rfl rfl (Nat.le_of_ble_eq_true rfl) rfl rfl ?_
        refine gops_nil ?_
        refine hN7 _ _ ?_
        refine gT [box b4 _] rfl ?_
        refine gfrom [(4, .pointer _)] ⟨rfl, trivial⟩ fun σ => ?_
        refine gret fun w1 hM => ?_
        refine ⟨_, res1 rfl (rc 0 (cs := [_, _]) hM rfl rfl Tryz.isAgg33 Tryz.sizeOf33 rfl), ?_⟩
        exact ⟨by rw [Votes.validate, if_neg (by omega), if_pos (by omega)], hM.low⟩
      · 
        replace hc18 := of_decide_eq_false hc18
        obtain ⟨adt, rfl, -, hct⟩ := ht.at_ (k := 0) (by omega)
        simp only [Nat.zero_mul, Nat.zero_add] at hct
        refine gskip ?_
        refine hN5 _ _ ?_
        refine gfrom [(0, .slice _ _ _), (1, .slice _ _ _), (4, .pointer _)] ⟨rfl, rfl, rfl, trivial⟩ fun σ => ?_
        refine gseq fun N8 hN8 => ?_
        refine gseq fun N9 hN9 => ?_
        refine greg ?_
        refine gop (y_move (v := .slice _ _ _) rfl) rfl rfl rfl ?_
        refine gop (y_indexAddr Tryz.underlying46 Tryz.sizeOf4 rfl rfl rfl (by omega) (by omega)) rfl rfl rfl ?_
        refine gop (y_load Tryz.isAgg4 rfl (cell_base (hct 0 _ rfl))) rfl rfl rfl ?_
        refine gops_nil ?_
        refine hN9 _ _ ?_
        refine gfrom [(0, .slice _ _ _), (1, .slice _ _ _), (4, .pointer _), (22, .bool _)] ⟨rfl, rfl, rfl, rfl, trivial⟩ fun σ => ?_
        refine gcond (b := _) rfl (fun hc22 => ?_) (fun hc22 => ?_)
        · 
          refine gseq fun N10 hN10 => ?_
          refine greg ?_
          refine gop (y_build (vs := [(0, _), (1, _)]) (cells := #[_, _]) rfl (bd33_0_1 _ _)) rfl rfl rfl ?_
          refine gop_store 0 (v := .agg #[_, _]) (cs' := #[_, _]) rfl rfl Tryz.sizeOf33 rfl rfl rfl rfl (Nat.le_of_ble_eq_true rfl) rfl rfl ?_
          refine gops_nil ?_
          refine hN10 _ _ ?_
          refine gT [box b4 _] rfl ?_
          refine gfrom [(4, .pointer _)] ⟨rfl, trivial⟩ fun σ => ?_
          refine gret fun w1 hM => ?_
          refine ⟨_, res1 rfl (rc 0 (cs := [_, _]) hM rfl rfl Tryz.isAgg33 Tryz.sizeOf33 rfl), ?_⟩
          exact ⟨by rw [Votes.validate, if_neg (by omega), if_neg (by omega), if_pos (by rw [← hc22]; simp [List.getD_eq_getElem?_getD, List.getElem?_eq_getElem (show 0 < tr.length by omega)])], hM.low⟩
        · 
          have hfst : ¬ tr.getD 0 false = true := by rw [show tr.getD 0 false = tr[0] from by simp [List.getD_eq_getElem?_getD, List.getElem?_eq_getElem (show 0 < tr.length by omega)], hc22]; simp
          refine gskip ?_
          refine hN8 _ _ ?_
          refine gfrom [(0, .slice _ _ _), (1, .slice _ _ _), (4, .pointer _)] ⟨rfl, rfl, rfl, trivial⟩ fun σ => ?_
          refine gseq fun N11 hN11 => ?_
          refine gseq fun N12 hN12 => ?_
          refine greg ?_
          refine gop (y_move (v := .slice _ _ _) rfl) rfl rfl rfl ?_
          refine gop (y_len Tryz.underlying49 rfl) rfl rfl rfl ?_
          refine gop (y_move (v := .int _ _) rfl) rfl rfl rfl ?_
          refine gops_nil ?_
          refine hN12 _ _ ?_
          refine gfrom [(0, .slice _ _ _), (1, .slice _ _ _), (4, .pointer _), (24, .slice _ _ _), (25, .int _ _), (26, .int _ _)] ⟨rfl, rfl, rfl, rfl, rfl, rfl, trivial⟩ fun σ => ?_
          refine gblock ?_
          refine gfrom2 [(26, .int _ _)] [(0, .slice _ _ _), (1, .slice _ _ _), (4, .pointer _), (24, .slice _ _ _), (25, .int _ _)] ⟨rfl, trivial⟩ ⟨rfl, rfl, rfl, rfl, rfl, trivial⟩ fun σ => ?_
          refine gloop2 (G := Nat) (fun k => k ≤ l.length ∧ Votes.valGo tr.length 0 0 l = Votes.valGo tr.length k (Votes.prevRev l k) (l.drop k)) (fun k => l.length - k) (fun k => [(26, .int .i64 (k : Int))]) (fun k => []) (0) ?h0 ⟨rfl, trivial⟩ ⟨rfl, rfl, rfl, rfl, rfl, trivial⟩ rfl ?round
          case h0 => exact ⟨Nat.zero_le _, rfl⟩
          case round =>
            intro k hφ σ
            obtain ⟨hk, hgo⟩ := hφ
            refine gseq fun N13 hN13 => ?_
            refine greg ?_
            refine gop (y_lss rfl rfl) rfl rfl rfl ?_
            refine gops_nil ?_
            refine hN13 _ _ ?_
            refine gfrom [(0, .slice _ _ _), (1, .slice _ _ _), (4, .pointer _), (24, .slice _ _ _), (25, .int _ _), (26, .int _ _), (27, .bool _)] ⟨rfl, rfl, rfl, rfl, rfl, rfl, rfl, trivial⟩ fun σ => ?_
            refine gseq fun N14 hN14 => ?_
            refine gcond (b := _) rfl (fun hc27 => ?_) (fun hc27 => ?_)
            · 
              replace hc27 := of_decide_eq_true hc27
              have hk1 : k < l.length := by omega
              obtain ⟨ad, rfl, -, hcv⟩ := hv.at_ hk1
              have hst := Votes.valGo_step tr.length l k (Votes.prevRev l k) hk1
              refine gskip ?_
              refine hN14 _ _ ?_
              refine gfrom [(0, .slice _ _ _), (1, .slice _ _ _), (4, .pointer _), (24, .slice _ _ _), (25, .int _ _), (26, .int _ _)] ⟨rfl, rfl, rfl, rfl, rfl, rfl, trivial⟩ fun σ => ?_
              refine gseq fun N15 hN15 => ?_
              refine gblock ?_
              refine gseq fun N16 hN16 => ?_
              refine greg ?_
              refine gop (y_move (v := .int _ _) rfl) rfl rfl rfl ?_
              refine gop (y_indexAddr Tryz.underlying49 Tryz.sizeOf51 rfl rfl rfl (by omega) (by omega)) rfl rfl rfl ?_
              refine gop (y_loads (cs := [_, _, _]) Tryz.isAgg51 Tryz.sizeOf51 rfl rfl (cells_base hcv)) rfl rfl rfl ?_
              refine gop_alloc (cs := #[.int .i64 0, .int .i64 0, .int .i64 0]) Tryz.zeroValue51 rfl rfl (fun b6 hb6 => ?_)
              refine gop (y_assign (v := .int _ _) rfl) rfl rfl rfl ?_
              refine gop_store 1 (v := .agg #[_, _, _]) (cs' := #[_, _, _]) rfl rfl Tryz.sizeOf51 rfl rfl rfl rfl (Nat.le_of_ble_eq_true rfl) rfl rfl ?_
              refine gops_nil ?_
              refine hN16 _ _ ?_
              refine gT [box b4 _, box b6 _] rfl ?_
              refine gfrom [(0, .slice _ _ _), (1, .slice _ _ _), (4, .pointer _), (5, .int _ _), (6, .pointer _), (24, .slice _ _ _), (25, .int _ _), (26, .int _ _)] ⟨rfl, rfl, rfl, rfl, rfl, rfl, rfl, rfl, trivial⟩ fun σ => ?_
              refine gseq fun N17 hN17 => ?_
              refine gseq fun N18 hN18 => ?_
              refine greg ?_
              refine gop (y_fieldAddr_box fa51_0 rfl) rfl rfl rfl ?_
              refine gop (y_load Tryz.isAgg3 rfl (cell_box 1 rfl rfl)) rfl rfl rfl ?_
              refine gop (y_lss rfl rfl) rfl rfl rfl ?_
              refine gop (y_move (v := .bool _) rfl) rfl rfl rfl ?_
              refine gop_if (want := false) rfl rfl rfl rfl rfl rfl (fun hg34 => ?_) (fun hg34 => ?_)
              · 
                have hg34d := of_decide_eq_false hg34
                refine gop (y_bare (y_fieldAddr_box fa51_0 rfl)) rfl rfl rfl ?_
                refine gop_on rfl rfl rfl rfl hg34 ?_
                refine gop (y_bare (y_load Tryz.isAgg3 rfl (cell_box 1 rfl rfl))) rfl rfl rfl ?_
                refine gop_on rfl rfl rfl rfl hg34 ?_
                refine gop (y_bare (y_gtr rfl rfl)) rfl rfl rfl ?_
                refine gop (y_pick_f (v := .bool _) rfl hg34 rfl) rfl rfl rfl ?_
                refine gop (y_move (v := .bool _) rfl) rfl rfl rfl ?_
                refine gop_if (want := false) rfl rfl rfl rfl rfl rfl (fun hg39 => ?_) (fun hg39 => ?_)
                · 
                  have hg39d := of_decide_eq_false hg39
                  refine gop (y_bare (y_fieldAddr_box fa51_1 rfl)) rfl rfl rfl ?_
                  refine gop_on rfl rfl rfl rfl hg39 ?_
                  refine gop (y_bare (y_load Tryz.isAgg3 rfl (cell_box 1 rfl rfl))) rfl rfl rfl ?_
                  refine gop_on rfl rfl rfl rfl hg39 ?_
                  refine gop (y_bare (y_lss rfl rfl)) rfl rfl rfl ?_
                  refine gop (y_pick_f (v := .bool _) rfl hg39 rfl) rfl rfl rfl ?_
                  refine gop (y_move (v := .bool _) rfl) rfl rfl rfl ?_
                  refine gop_if (want := false) rfl rfl rfl rfl rfl rfl (fun hg44 => ?_) (fun hg44 => ?_)
                  · 
                    have hg44d := of_decide_eq_false hg44
                    refine gop (y_bare (y_fieldAddr_box fa51_1 rfl)) rfl rfl rfl ?_
                    refine gop_on rfl rfl rfl rfl hg44 ?_
                    refine gop (y_bare (y_load Tryz.isAgg3 rfl (cell_box 1 rfl rfl))) rfl rfl rfl ?_
                    refine gop_on rfl rfl rfl rfl hg44 ?_
                    refine gop (y_bare (y_move (v := .slice _ _ _) rfl)) rfl rfl rfl ?_
                    refine gop_on rfl rfl rfl rfl hg44 ?_
                    refine gop (y_bare (y_len Tryz.underlying46 rfl)) rfl rfl rfl ?_
                    refine gop_on rfl rfl rfl rfl hg44 ?_
                    refine gop (y_bare (y_geq rfl rfl)) rfl rfl rfl ?_
                    refine gop (y_pick_f (v := .bool _) rfl hg44 rfl) rfl rfl rfl ?_
                    refine gop (y_move (v := .bool _) rfl) rfl rfl rfl ?_
                    refine gop_if (want := false) rfl rfl rfl rfl rfl rfl (fun hg51 => ?_) (fun hg51 => ?_)
                    · 
                      have hg51d := of_decide_eq_false hg51
                      refine gop (y_bare (y_fieldAddr_box fa51_2 rfl)) rfl rfl rfl ?_
                      refine gop_on rfl rfl rfl rfl hg51 ?_
                      refine gop (y_bare (y_load Tryz.isAgg3 rfl (cell_box 1 rfl rfl))) rfl rfl rfl ?_
                      refine gop_on rfl rfl rfl rfl hg51 ?_
                      refine gop (y_bare (y_lss rfl rfl)) rfl rfl rfl ?_
                      refine gop (y_pick_f (v := .bool _) rfl hg51 rfl) rfl rfl rfl ?_
                      refine gop (y_move (v := .bool _) rfl) rfl rfl rfl ?_
                      refine gop_if (want := false) rfl rfl rfl rfl rfl rfl (fun hg56 => ?_) (fun hg56 => ?_)
                      · 
                        have hg56d := of_decide_eq_false hg56
                        refine gop (y_bare (y_fieldAddr_box fa51_2 rfl)) rfl rfl rfl ?_
                        refine gop_on rfl rfl rfl rfl hg56 ?_
                        refine gop (y_bare (y_load Tryz.isAgg3 rfl (cell_box 1 rfl rfl))) rfl rfl rfl ?_
                        refine gop_on rfl rfl rfl rfl hg56 ?_
                        refine gop (y_bare (y_gtr rfl rfl)) rfl rfl rfl ?_
                        refine gop (y_pick_f (v := .bool _) rfl hg56 rfl) rfl rfl rfl ?_
                        refine gops_nil ?_
                        refine hN18 _ _ ?_
                        refine gfrom [(0, .slice _ _ _), (1, .slice _ _ _), (4, .pointer _), (5, .int _ _), (6, .pointer _), (24, .slice _ _ _), (25, .int _ _), (26, .int _ _), (60, .bool _)] ⟨rfl, rfl, rfl, rfl, rfl, rfl, rfl, rfl, rfl, trivial⟩ fun σ => ?_
                        refine gcond (b := _) rfl (fun hc60 => ?_) (fun hc60 => ?_)
                        · 
                          replace hc60 := of_decide_eq_true hc60
                          refine gseq fun N19 hN19 => ?_
                          refine greg ?_
                          refine gop (y_move (v := .int _ _) rfl) rfl rfl rfl ?_
                          refine gop (y_build (vs := [(0, _), (1, .int _ _)]) (cells := #[_, _]) rfl (bd33_0_1 _ _)) rfl rfl rfl ?_
                          refine gop_store 0 (v := .agg #[_, _]) (cs' := #[_, _]) rfl rfl Tryz.sizeOf33 rfl rfl rfl rfl (Nat.le_of_ble_eq_true rfl) rfl rfl ?_
                          refine gops_nil ?_
                          refine hN19 _ _ ?_
                          refine gT [box b4 _, box b6 _] rfl ?_
                          refine gfrom [(4, .pointer _)] ⟨rfl, trivial⟩ fun σ => ?_
                          refine gret fun w1 hM => ?_
                          refine ⟨_, res1 rfl (rc 0 (cs := [_, _]) hM rfl rfl Tryz.isAgg33 Tryz.sizeOf33 rfl), ?_⟩
                          exact ⟨by rw [Votes.validate, if_neg (by omega), if_neg (by omega), if_neg hfst, hgo, hst, if_pos (by unfold Votes.Bad; omega)], hM.low⟩
                        · 
                          replace hc60 := of_decide_eq_false hc60
                          have hbad : ¬ Votes.Bad tr.length l[k] := by unfold Votes.Bad; omega
                          refine gskip ?_
                          refine hN17 _ _ ?_
                          refine gfrom [(0, .slice _ _ _), (1, .slice _ _ _), (4, .pointer _), (5, .int _ _), (6, .pointer _), (24, .slice _ _ _), (25, .int _ _), (26, .int _ _)] ⟨rfl, rfl, rfl, rfl, rfl, rfl, rfl, rfl, trivial⟩ fun σ => ?_
                          refine gseq fun N20 hN20 => ?_
                          refine greg_q (by kernel_rfl) (by kernel_rfl) ?_
                          refine gq (y_move (v := .int _ _) rfl) rfl rfl rfl ?_
                          refine gq (y_gtr rfl rfl) rfl rfl rfl ?_
                          refine gq (y_move (v := .bool _) rfl) rfl rfl rfl ?_
                          refine gq_if (want := true) rfl rfl rfl rfl rfl rfl (fun hg65 => ?_) (fun hg65 => ?_)
                          · 
                            have hg65d := of_decide_eq_true hg65
                            obtain ⟨ad2, e2, -, hcp⟩ := hv.at_ (k := k - 1) (by omega)
                            injection e2 with e2
                            subst e2
                            have hpr := Votes.prevRev_at l k (by omega) (by omega)
                            refine gq (y_bare (y_fieldAddr_box fa51_1 rfl)) rfl rfl rfl ?_
                            refine gq_on rfl rfl rfl rfl hg65 ?_
                            refine gq (y_bare (y_load Tryz.isAgg3 rfl (cell_box 1 rfl rfl))) rfl rfl rfl ?_
                            refine gq_on rfl rfl rfl rfl hg65 ?_
                            refine gq (y_bare (y_move (v := .slice _ _ _) rfl)) rfl rfl rfl ?_
                            refine gq_on rfl rfl rfl rfl hg65 ?_
                            refine gq (y_bare (y_move (v := .int _ _) rfl)) rfl rfl rfl ?_
                            refine gq_on rfl rfl rfl rfl hg65 ?_
                            refine gq (y_bare (y_sub rfl rfl ⟨by omega, by omega⟩)) rfl rfl rfl ?_
                            refine gq_on rfl rfl rfl rfl hg65 ?_
                            refine gq (y_bare (y_indexAddr (m := k - 1) Tryz.underlying49 Tryz.sizeOf51 rfl rfl (by omega) (by omega) (by omega))) rfl rfl rfl ?_
                            refine gq_on rfl rfl rfl rfl hg65 ?_
                            refine gq (y_bare (y_fieldAddr_add fa51_1 rfl)) rfl rfl rfl ?_
                            refine gq_on rfl rfl rfl rfl hg65 ?_
                            refine gq (y_bare (y_load Tryz.isAgg3 rfl (cell_base (hcp 1 _ rfl)))) rfl rfl rfl ?_
                            refine gq_on rfl rfl rfl rfl hg65 ?_
                            refine gq (y_bare (y_lss rfl rfl)) rfl rfl rfl ?_
                            refine gq (y_pick_t (v := .bool _) rfl hg65 rfl) rfl rfl rfl ?_
                            refine gqs_nil ?_
                            refine hN20 _ _ ?_
                            refine gfrom [(0, .slice _ _ _), (1, .slice _ _ _), (4, .pointer _), (5, .int _ _), (24, .slice _ _ _), (25, .int _ _), (26, .int _ _), (75, .bool _)] ⟨rfl, rfl, rfl, rfl, rfl, rfl, rfl, rfl, trivial⟩ fun σ => ?_
                            refine gcond (b := _) rfl (fun hc75 => ?_) (fun hc75 => ?_)
                            · 
                              replace hc75 := of_decide_eq_true hc75
                              refine gseq fun N21 hN21 => ?_
                              refine greg ?_
                              refine gop (y_move (v := .int _ _) rfl) rfl rfl rfl ?_
                              refine gop (y_build (vs := [(0, _), (1, .int _ _)]) (cells := #[_, _]) rfl (bd33_0_1 _ _)) rfl rfl rfl ?_
                              refine gop_store 0 (v := .agg #[_, _]) (cs' := #[_, _]) rfl rfl Tryz.sizeOf33 rfl rfl rfl rfl (Nat.le_of_ble_eq_true rfl) rfl rfl ?_
                              refine gops_nil ?_
                              refine hN21 _ _ ?_
                              refine gT [box b4 _, box b6 _] rfl ?_
                              refine gfrom [(4, .pointer _)] ⟨rfl, trivial⟩ fun σ => ?_
                              refine gret fun w1 hM => ?_
                              refine ⟨_, res1 rfl (rc 0 (cs := [_, _]) hM rfl rfl Tryz.isAgg33 Tryz.sizeOf33 rfl), ?_⟩
                              exact ⟨by rw [Votes.validate, if_neg (by omega), if_neg (by omega), if_neg hfst, hgo, hst, if_neg hbad, if_pos (by omega)], hM.low⟩
                            · 
                              replace hc75 := of_decide_eq_false hc75
                              refine gskip ?_
                              refine hN15 _ _ ?_
                              refine gfrom [(0, .slice _ _ _), (1, .slice _ _ _), (4, .pointer _), (24, .slice _ _ _), (25, .int _ _), (26, .int _ _)] ⟨rfl, rfl, rfl, rfl, rfl, rfl, trivial⟩ fun σ => ?_
                              refine greg ?_
                              refine gop (y_add rfl rfl ⟨by omega, by omega⟩) rfl rfl rfl ?_
                              refine gop (y_move (v := .int _ _) rfl) rfl rfl rfl ?_
                              refine gops_nil ?_
                              refine gnext2 (k + 1) (by omega) (⟨by omega, by rw [hgo, hst, if_neg hbad, if_neg (by omega), Votes.prevRev_succ l k hk1]⟩) ⟨rfl, trivial⟩ ⟨rfl, rfl, rfl, rfl, rfl, trivial⟩ ⟨_, rfl⟩
                          · 
                            have hg65d := of_decide_eq_false hg65
                            have hpr : Votes.prevRev l k = 0 := by unfold Votes.prevRev; rw [if_pos (by omega)]
                            refine gq_off rfl rfl rfl rfl hg65 rfl rfl ?_
                            refine gq_off rfl rfl rfl rfl hg65 rfl rfl ?_
                            refine gq_off rfl rfl rfl rfl hg65 rfl rfl ?_
                            refine gq_off rfl rfl rfl rfl hg65 rfl rfl ?_
                            refine gq_off rfl rfl rfl rfl hg65 rfl rfl ?_
                            refine gq_off rfl rfl rfl rfl hg65 rfl rfl ?_
                            refine gq_off rfl rfl rfl rfl hg65 rfl rfl ?_
                            refine gq_off rfl rfl rfl rfl hg65 rfl rfl ?_
                            refine gq (y_pick_f (v := .bool _) rfl hg65 rfl) rfl rfl rfl ?_
                            refine gqs_nil ?_
                            refine hN20 _ _ ?_
                            refine gfrom [(0, .slice _ _ _), (1, .slice _ _ _), (4, .pointer _), (5, .int _ _), (24, .slice _ _ _), (25, .int _ _), (26, .int _ _), (75, .bool _)] ⟨rfl, rfl, rfl, rfl, rfl, rfl, rfl, rfl, trivial⟩ fun σ => ?_
                            refine gcond (b := _) rfl (fun hc75 => ?_) (fun hc75 => ?_)
                            · 
                              cases hc75
                            · 
                              refine gskip ?_
                              refine hN15 _ _ ?_
                              refine gfrom [(0, .slice _ _ _), (1, .slice _ _ _), (4, .pointer _), (24, .slice _ _ _), (25, .int _ _), (26, .int _ _)] ⟨rfl, rfl, rfl, rfl, rfl, rfl, trivial⟩ fun σ => ?_
                              refine greg ?_
                              refine gop (y_add rfl rfl ⟨by omega, by omega⟩) rfl rfl rfl ?_
                              refine gop (y_move (v := .int _ _) rfl) rfl rfl rfl ?_
                              refine gops_nil ?_
                              refine gnext2 (k + 1) (by omega) (⟨by omega, by rw [hgo, hst, if_neg hbad, if_neg (by omega), Votes.prevRev_succ l k hk1]⟩) ⟨rfl, trivial⟩ ⟨rfl, rfl, rfl, rfl, rfl, trivial⟩ ⟨_, rfl⟩
                      · 
                        have hg56d := of_decide_eq_true hg56
                        refine gop_off rfl rfl rfl rfl hg56 rfl rfl ?_
                        refine gop_off rfl rfl rfl rfl hg56 rfl rfl ?_
                        refine gop (y_pick_t (v := .bool _) rfl hg56 rfl) rfl rfl rfl ?_
                        refine gops_nil ?_
                        refine hN18 _ _ ?_
                        refine gfrom [(0, .slice _ _ _), (1, .slice _ _ _), (4, .pointer _), (5, .int _ _), (6, .pointer _), (24, .slice _ _ _), (25, .int _ _), (26, .int _ _), (60, .bool _)] ⟨rfl, rfl, rfl, rfl, rfl, rfl, rfl, rfl, rfl, trivial⟩ fun σ => ?_
                        refine gcond (b := _) rfl (fun hc60 => ?_) (fun hc60 => ?_)
                        · 
                          refine gseq fun N22 hN22 => ?_
                          refine greg ?_
                          refine gop (y_move (v := .int _ _) rfl) rfl rfl rfl ?_
                          refine gop (y_build (vs := [(0, _), (1, .int _ _)]) (cells := #[_, _]) rfl (bd33_0_1 _ _)) rfl rfl rfl ?_
                          refine gop_store 0 (v := .agg #[_, _]) (cs' := #[_, _]) rfl rfl Tryz.sizeOf33 rfl rfl rfl rfl (Nat.le_of_ble_eq_true rfl) rfl rfl ?_
                          refine gops_nil ?_
                          refine hN22 _ _ ?_
                          refine gT [box b4 _, box b6 _] rfl ?_
                          refine gfrom [(4, .pointer _)] ⟨rfl, trivial⟩ fun σ => ?_
                          refine gret fun w1 hM => ?_
                          refine ⟨_, res1 rfl (rc 0 (cs := [_, _]) hM rfl rfl Tryz.isAgg33 Tryz.sizeOf33 rfl), ?_⟩
                          exact ⟨by rw [Votes.validate, if_neg (by omega), if_neg (by omega), if_neg hfst, hgo, hst, if_pos (by unfold Votes.Bad; omega)], hM.low⟩
                        · 
                          cases hc60
                    · 
                      have hg51d := of_decide_eq_true hg51
                      refine gop_off rfl rfl rfl rfl hg51 rfl rfl ?_
                      refine gop_off rfl rfl rfl rfl hg51 rfl rfl ?_
                      refine gop (y_pick_t (v := .bool _) rfl hg51 rfl) rfl rfl rfl ?_
                      refine gop (y_move (v := .bool _) rfl) rfl rfl rfl ?_
                      refine gop_off rfl rfl rfl rfl rfl rfl rfl ?_
                      refine gop_off rfl rfl rfl rfl rfl rfl rfl ?_
                      refine gop_off rfl rfl rfl rfl rfl rfl rfl ?_
                      refine gop (y_pick_t (v := .bool _) rfl rfl rfl) rfl rfl rfl ?_
                      refine gops_nil ?_
                      refine hN18 _ _ ?_
                      refine gfrom [(0, .slice _ _ _), (1, .slice _ _ _), (4, .pointer _), (5, .int _ _), (6, .pointer _), (24, .slice _ _ _), (25, .int _ _), (26, .int _ _), (60, .bool _)] ⟨rfl, rfl, rfl, rfl, rfl, rfl, rfl, rfl, rfl, trivial⟩ fun σ => ?_
                      refine gcond (b := _) rfl (fun hc60 => ?_) (fun hc60 => ?_)
                      · 
                        refine gseq fun N23 hN23 => ?_
                        refine greg ?_
                        refine gop (y_move (v := .int _ _) rfl) rfl rfl rfl ?_
                        refine gop (y_build (vs := [(0, _), (1, .int _ _)]) (cells := #[_, _]) rfl (bd33_0_1 _ _)) rfl rfl rfl ?_
                        refine gop_store 0 (v := .agg #[_, _]) (cs' := #[_, _]) rfl rfl Tryz.sizeOf33 rfl rfl rfl rfl (Nat.le_of_ble_eq_true rfl) rfl rfl ?_
                        refine gops_nil ?_
                        refine hN23 _ _ ?_
                        refine gT [box b4 _, box b6 _] rfl ?_
                        refine gfrom [(4, .pointer _)] ⟨rfl, trivial⟩ fun σ => ?_
                        refine gret fun w1 hM => ?_
                        refine ⟨_, res1 rfl (rc 0 (cs := [_, _]) hM rfl rfl Tryz.isAgg33 Tryz.sizeOf33 rfl), ?_⟩
                        exact ⟨by rw [Votes.validate, if_neg (by omega), if_neg (by omega), if_neg hfst, hgo, hst, if_pos (by unfold Votes.Bad; omega)], hM.low⟩
                      · 
                        cases hc60
                  · 
                    have hg44d := of_decide_eq_true hg44
                    refine gop_off rfl rfl rfl rfl hg44 rfl rfl ?_
                    refine gop_off rfl rfl rfl rfl hg44 rfl rfl ?_
                    refine gop_off rfl rfl rfl rfl hg44 rfl rfl ?_
                    refine gop_off rfl rfl rfl rfl hg44 rfl rfl ?_
                    refine gop (y_pick_t (v := .bool _) rfl hg44 rfl) rfl rfl rfl ?_
                    refine gop (y_move (v := .bool _) rfl) rfl rfl rfl ?_
                    refine gop_off rfl rfl rfl rfl rfl rfl rfl ?_
                    refine gop_off rfl rfl rfl rfl rfl rfl rfl ?_
                    refine gop_off rfl rfl rfl rfl rfl rfl rfl ?_
                    refine gop (y_pick_t (v := .bool _) rfl rfl rfl) rfl rfl rfl ?_
                    refine gop (y_move (v := .bool _) rfl) rfl rfl rfl ?_
                    refine gop_off rfl rfl rfl rfl rfl rfl rfl ?_
                    refine gop_off rfl rfl rfl rfl rfl rfl rfl ?_
                    refine gop_off rfl rfl rfl rfl rfl rfl rfl ?_
                    refine gop (y_pick_t (v := .bool _) rfl rfl rfl) rfl rfl rfl ?_
                    refine gops_nil ?_
                    refine hN18 _ _ ?_
                    refine gfrom [(0, .slice _ _ _), (1, .slice _ _ _), (4, .pointer _), (5, .int _ _), (6, .pointer _), (24, .slice _ _ _), (25, .int _ _), (26, .int _ _), (60, .bool _)] ⟨rfl, rfl, rfl, rfl, rfl, rfl, rfl, rfl, rfl, trivial⟩ fun σ => ?_
                    refine gcond (b := _) rfl (fun hc60 => ?_) (fun hc60 => ?_)
                    · 
                      refine gseq fun N24 hN24 => ?_
                      refine greg ?_
                      refine gop (y_move (v := .int _ _) rfl) rfl rfl rfl ?_
                      refine gop (y_build (vs := [(0, _), (1, .int _ _)]) (cells := #[_, _]) rfl (bd33_0_1 _ _)) rfl rfl rfl ?_
                      refine gop_store 0 (v := .agg #[_, _]) (cs' := #[_, _]) rfl rfl Tryz.sizeOf33 rfl rfl rfl rfl (Nat.le_of_ble_eq_true rfl) rfl rfl ?_
                      refine gops_nil ?_
                      refine hN24 _ _ ?_
                      refine gT [box b4 _, box b6 _] rfl ?_
                      refine gfrom [(4, .pointer _)] ⟨rfl, trivial⟩ fun σ => ?_
                      refine gret fun w1 hM => ?_
                      refine ⟨_, res1 rfl (rc 0 (cs := [_, _]) hM rfl rfl Tryz.isAgg33 Tryz.sizeOf33 rfl), ?_⟩
                      exact ⟨by rw [Votes.validate, if_neg (by omega), if_neg (by omega), if_neg hfst, hgo, hst, if_pos (by unfold Votes.Bad; omega)], hM.low⟩
                    · 
                      cases hc60
                · 
                  have hg39d := of_decide_eq_true hg39
                  refine gop_off rfl rfl rfl rfl hg39 rfl rfl ?_
                  refine gop_off rfl rfl rfl rfl hg39 rfl rfl ?_
                  refine gop (y_pick_t (v := .bool _) rfl hg39 rfl) rfl rfl rfl ?_
                  refine gop (y_move (v := .bool _) rfl) rfl rfl rfl ?_
                  refine gop_off rfl rfl rfl rfl rfl rfl rfl ?_
                  refine gop_off rfl rfl rfl rfl rfl rfl rfl ?_
                  refine gop_off rfl rfl rfl rfl rfl rfl rfl ?_
                  refine gop_off rfl rfl rfl rfl rfl rfl rfl ?_
                  refine gop_off rfl rfl rfl rfl rfl rfl rfl ?_
                  refine gop (y_pick_t (v := .bool _) rfl rfl rfl) rfl rfl rfl ?_
                  refine gop (y_move (v := .bool _) rfl) rfl rfl rfl ?_
                  refine gop_off rfl rfl rfl rfl rfl rfl rfl ?_
                  refine gop_off rfl rfl rfl rfl rfl rfl rfl ?_
                  refine gop_off rfl rfl rfl rfl rfl rfl rfl ?_
                  refine gop (y_pick_t (v := .bool _) rfl rfl rfl) rfl rfl rfl ?_
                  refine gop (y_move (v := .bool _) rfl) rfl rfl rfl ?_
                  refine gop_off rfl rfl rfl rfl rfl rfl rfl ?_
                  refine gop_off rfl rfl rfl rfl rfl rfl rfl ?_
                  refine gop_off rfl rfl rfl rfl rfl rfl rfl ?_
                  refine gop (y_pick_t (v := .bool _) rfl rfl rfl) rfl rfl rfl ?_
                  refine gops_nil ?_
                  refine hN18 _ _ ?_
                  refine gfrom [(0, .slice _ _ _), (1, .slice _ _ _), (4, .pointer _), (5, .int _ _), (6, .pointer _), (24, .slice _ _ _), (25, .int _ _), (26, .int _ _), (60, .bool _)] ⟨rfl, rfl, rfl, rfl, rfl, rfl, rfl, rfl, rfl, trivial⟩ fun σ => ?_
                  refine gcond (b := _) rfl (fun hc60 => ?_) (fun hc60 => ?_)
                  · 
                    refine gseq fun N25 hN25 => ?_
                    refine greg ?_
                    refine gop (y_move (v := .int _ _) rfl) rfl rfl rfl ?_
                    refine gop (y_build (vs := [(0, _), (1, .int _ _)]) (cells := #[_, _]) rfl (bd33_0_1 _ _)) rfl rfl rfl ?_
                    refine gop_store 0 (v := .agg #[_, _]) (cs' := #[_, _]) rfl rfl Tryz.sizeOf33 rfl rfl rfl rfl (Nat.le_of_ble_eq_true rfl) rfl rfl ?_
                    refine gops_nil ?_
                    refine hN25 _ _ ?_
                    refine gT [box b4 _, box b6 _] rfl ?_
                    refine gfrom [(4, .pointer _)] ⟨rfl, trivial⟩ fun σ => ?_
                    refine gret fun w1 hM => ?_
                    refine ⟨_, res1 rfl (rc 0 (cs := [_, _]) hM rfl rfl Tryz.isAgg33 Tryz.sizeOf33 rfl), ?_⟩
                    exact ⟨by rw [Votes.validate, if_neg (by omega), if_neg (by omega), if_neg hfst, hgo, hst, if_pos (by unfold Votes.Bad; omega)], hM.low⟩
                  · 
                    cases hc60
              · 
                have hg34d := of_decide_eq_true hg34
                refine gop_off rfl rfl rfl rfl hg34 rfl rfl ?_
                refine gop_off rfl rfl rfl rfl hg34 rfl rfl ?_
                refine gop (y_pick_t (v := .bool _) rfl hg34 rfl) rfl rfl rfl ?_
                refine gop (y_move (v := .bool _) rfl) rfl rfl rfl ?_
                refine gop_off rfl rfl rfl rfl rfl rfl rfl ?_
                refine gop_off rfl rfl rfl rfl rfl rfl rfl ?_
                refine gop_off rfl rfl rfl rfl rfl rfl rfl ?_
                refine gop (y_pick_t (v := .bool _) rfl rfl rfl) rfl rfl rfl ?_
                refine gop (y_move (v := .bool _) rfl) rfl rfl rfl ?_
                refine gop_off rfl rfl rfl rfl rfl rfl rfl ?_
                refine gop_off rfl rfl rfl rfl rfl rfl rfl ?_
                refine gop_off rfl rfl rfl rfl rfl rfl rfl ?_
                refine gop_off rfl rfl rfl rfl rfl rfl rfl ?_
                refine gop_off rfl rfl rfl rfl rfl rfl rfl ?_
                refine gop (y_pick_t (v := .bool _) rfl rfl rfl) rfl rfl rfl ?_
                refine gop (y_move (v := .bool _) rfl) rfl rfl rfl ?_
                refine gop_off rfl rfl rfl rfl rfl rfl rfl ?_
                refine gop_off rfl rfl rfl rfl rfl rfl rfl ?_
                refine gop_off rfl rfl rfl rfl rfl rfl rfl ?_
                refine gop (y_pick_t (v := .bool _) rfl rfl rfl) rfl rfl rfl ?_
                refine gop (y_move (v := .bool _) rfl) rfl rfl rfl ?_
                refine gop_off rfl rfl rfl rfl rfl rfl rfl ?_
                refine gop_off rfl rfl rfl rfl rfl rfl rfl ?_
                refine gop_off rfl rfl rfl rfl rfl rfl rfl ?_
                refine gop (y_pick_t (v := .bool _) rfl rfl rfl) rfl rfl rfl ?_
                refine gops_nil ?_
                refine hN18 _ _ ?_
                refine gfrom [(0, .slice _ _ _), (1, .slice _ _ _), (4, .pointer _), (5, .int _ _), (6, .pointer _), (24, .slice _ _ _), (25, .int _ _), (26, .int _ _), (60, .bool _)] ⟨rfl, rfl, rfl, rfl, rfl, rfl, rfl, rfl, rfl, trivial⟩ fun σ => ?_
                refine gcond (b := _) rfl (fun hc60 => ?_) (fun hc60 => ?_)
                · 
                  refine gseq fun N26 hN26 => ?_
                  refine greg ?_
                  refine gop (y_move (v := .int _ _) rfl) rfl rfl rfl ?_
                  refine gop (y_build (vs := [(0, _), (1, .int _ _)]) (cells := #[_, _]) rfl (bd33_0_1 _ _)) rfl rfl rfl ?_
                  refine gop_store 0 (v := .agg #[_, _]) (cs' := #[_, _]) rfl rfl Tryz.sizeOf33 rfl rfl rfl rfl (Nat.le_of_ble_eq_true rfl) rfl rfl ?_
                  refine gops_nil ?_
                  refine hN26 _ _ ?_
                  refine gT [box b4 _, box b6 _] rfl ?_
                  refine gfrom [(4, .pointer _)] ⟨rfl, trivial⟩ fun σ => ?_
                  refine gret fun w1 hM => ?_
                  refine ⟨_, res1 rfl (rc 0 (cs := [_, _]) hM rfl rfl Tryz.isAgg33 Tryz.sizeOf33 rfl), ?_⟩
                  exact ⟨by rw [Votes.validate, if_neg (by omega), if_neg (by omega), if_neg hfst, hgo, hst, if_pos (by unfold Votes.Bad; omega)], hM.low⟩
                · 
                  cases hc60
            · 
              replace hc27 := of_decide_eq_false hc27
              refine gexit ?_
              refine hN11 _ _ ?_
              refine gfrom [(4, .pointer _)] ⟨rfl, trivial⟩ fun σ => ?_
              refine gseq fun N27 hN27 => ?_
              refine greg ?_
              refine gop (y_build (vs := []) (cells := #[.int .i64 0, .int .i64 0]) rfl bd33_) rfl rfl rfl ?_
              refine gop_store 0 (v := .agg #[_, _]) (cs' := #[_, _]) rfl rfl Tryz.sizeOf33 rfl rfl rfl rfl (Nat.le_of_ble_eq_true rfl) rfl rfl ?_
              refine gops_nil ?_
              refine hN27 _ _ ?_
              refine gT [box b4 _] rfl ?_
              refine gfrom [(4, .pointer _)] ⟨rfl, trivial⟩ fun σ => ?_
              refine gret fun w1 hM => ?_
              refine ⟨_, res1 rfl (rc 0 (cs := [_, _]) hM rfl rfl Tryz.isAgg33 Tryz.sizeOf33 rfl), ?_⟩
              exact ⟨by rw [Votes.validate, if_neg (by omega), if_neg (by omega), if_neg hfst, hgo, List.drop_of_length_le (by omega)]; rfl, hM.low⟩
    · 
      have hg14d := of_decide_eq_true hg14
      refine gop_off rfl rfl rfl rfl hg14 rfl rfl ?_
      refine gop_off rfl rfl rfl rfl hg14 rfl rfl ?_
      refine gop (y_pick_t (v := .bool _) rfl hg14 rfl) rfl rfl rfl ?_
      refine gops_nil ?_
      refine hN6 _ _ ?_
      refine gfrom [(0, .slice _ _ _), (1, .slice _ _ _), (4, .pointer _), (18, .bool _)] ⟨rfl, rfl, rfl, rfl, trivial⟩ fun σ => ?_
      refine gcond (b := _) rfl (fun hc18 => ?_) (fun hc18 => ?_)
      · 
        refine gseq fun N28 hN28 => ?_
        refine greg ?_
        refine gop (y_build (vs := [(0, _), (1, _)]) (cells := #[_, _]) rfl (bd33_0_1 _ _)) rfl rfl rfl ?_
        refine gop_store 0 (v := .agg #[_, _]) (cs' := #[_, _]) rfl rfl Tryz.sizeOf33 rfl rfl rfl rfl (Nat.le_of_ble_eq_true rfl) rfl rfl ?_
        refine gops_nil ?_
        refine hN28 _ _ ?_
        refine gT [box b4 _] rfl ?_
        refine gfrom [(4, .pointer _)] ⟨rfl, trivial⟩ fun σ => ?_
        refine gret fun w1 hM => ?_
        refine ⟨_, res1 rfl (rc 0 (cs := [_, _]) hM rfl rfl Tryz.isAgg33 Tryz.sizeOf33 rfl), ?_⟩
        exact ⟨by rw [Votes.validate, if_neg (by omega), if_pos (by omega)], hM.low⟩
      · 
        cases hc18
set_option maxHeartbeats 1000000 in
theorem states_any (w : World) (A : Option Addr) (c : Nat) (l : List Vote) (B : Option Addr) (c2 : Nat) (tr : List Bool) (hv : Rdl w 0 3 voteCells A l) (ht : Rdl w 0 1 boolCells B tr) (hl : l.length ≤ maxLen) (htl : tr.length ≤ maxLen) (hcc : tr.length ≤ c2) (at_ : Int) :
    Calls Tryz.prog 65 #[.slice A l.length c, .slice B tr.length c2, .int .i64 at_] w fun e w' => e = .returned (.tuple #[.agg ((Votes.stateL l tr at_).flatMap Votes.stCells).toArray, fv (Votes.stateF l tr at_)]) ∧ Below w.heap.size w w' := by
  refine gcalls Tryz.func65 rfl Tryz.ntmps65 (Nat.le_of_ble_eq_true rfl) ?_
  refine gfrom [(0, .slice _ _ _), (1, .slice _ _ _), (2, .int _ _)] ⟨rfl, rfl, rfl, trivial⟩ fun σ => ?_
  refine gseq fun N1 hN1 => ?_
  refine greg ?_
  refine gop_alloc (cs := ((List.replicate 8 ((0 : Int), false)).flatMap Votes.stCells).toArray) Tryz.zeroValue136 rfl rfl (fun b6 hb6 => ?_)
  refine gop_alloc (cs := #[.int .i64 0, .int .i64 0]) Tryz.zeroValue33 rfl rfl (fun b7 hb7 => ?_)
  refine gops_nil ?_
  refine hN1 _ _ ?_
  refine gT [box b6 _, box b7 _] rfl ?_
  refine gfrom [(0, .slice _ _ _), (1, .slice _ _ _), (2, .int _ _), (6, .pointer _), (7, .pointer _)] ⟨rfl, rfl, rfl, rfl, rfl, trivial⟩ fun σ => ?_
  refine gseq fun N2 hN2 => ?_
  refine greg ?_
  refine gop_alloc (cs := ((List.replicate 8 ((0 : Int), false)).flatMap Votes.stCells).toArray) Tryz.zeroValue136 rfl rfl (fun b8 hb8 => ?_)
  refine gops_nil ?_
  refine hN2 _ _ ?_
  refine gT [box b6 _, box b7 _, box b8 _] rfl ?_
  refine gfrom [(0, .slice _ _ _), (1, .slice _ _ _), (2, .int _ _), (6, .pointer _), (7, .pointer _), (8, .pointer _)] ⟨rfl, rfl, rfl, rfl, rfl, rfl, trivial⟩ fun σ => ?_
  refine gseq fun N3 hN3 => ?_
  refine gseq fun N4 hN4 => ?_
  refine greg ?_
  refine gop (y_move (v := .slice _ _ _) rfl) rfl rfl rfl ?_
  refine gop (y_move (v := .slice _ _ _) rfl) rfl rfl rfl ?_
  refine gop_pure (e_call (vs := [.slice _ _ _, .slice _ _ _]) Tryz.func97 rfl (by kernel_rfl) rfl) (fun w hM => votesValidate_any w _ _ _ _ _ _ (hv.base hM) (ht.base hM) hl htl hcc) rfl rfl rfl ?_
  refine gop_alloc (cs := #[.int .i64 0, .int .i64 0]) Tryz.zeroValue33 rfl rfl (fun b9 hb9 => ?_)
  refine gop_store 3 (v := .agg #[_, _]) (cs' := #[_, _]) rfl rfl Tryz.sizeOf33 rfl rfl rfl rfl (Nat.le_of_ble_eq_true rfl) rfl rfl ?_
  refine gops_nil ?_
  refine hN4 _ _ ?_
  refine gT [box b6 _, box b7 _, box b8 _, box b9 _] rfl ?_
  refine gfrom [(0, .slice _ _ _), (1, .slice _ _ _), (2, .int _ _), (6, .pointer _), (7, .pointer _), (8, .pointer _), (9, .pointer _)] ⟨rfl, rfl, rfl, rfl, rfl, rfl, rfl, trivial⟩ fun σ => ?_
  refine gseq fun N5 hN5 => ?_
  refine greg ?_
  refine gop (y_loads (cs := [_, _]) Tryz.isAgg33 Tryz.sizeOf33 rfl rfl (cells_box 3 rfl)) rfl rfl rfl ?_
  refine gop (y_build (vs := []) (cells := #[.int .i64 0, .int .i64 0]) rfl bd33_) rfl rfl rfl ?_
  refine gop (y_bin (vx := .agg #[_, _]) (vy := .agg #[_, _]) rfl rfl (fun w => eg33 _ _ _ _ _ w) (fun w => ne33 _ _ _ _ w)) rfl rfl rfl ?_
  refine gops_nil ?_
  refine hN5 _ _ ?_
  refine gfrom [(0, .slice _ _ _), (1, .slice _ _ _), (2, .int _ _), (6, .pointer _), (7, .pointer _), (8, .pointer _), (9, .pointer _), (20, .bool _)] ⟨rfl, rfl, rfl, rfl, rfl, rfl, rfl, rfl, trivial⟩ fun σ => ?_
  refine gcond (b := _) rfl (fun hc20 => ?_) (fun hc20 => ?_)
  · 
    replace hc20 := fault_ne.1 hc20
    have hf : Votes.stateF l tr at_ = Votes.validate l tr := by rw [Votes.stateF, if_pos hc20]
    have hL : Votes.stateL l tr at_ = List.replicate 8 (0, false) := by rw [Votes.stateL, hf, if_neg hc20]
    refine gseq fun N6 hN6 => ?_
    refine greg_e1 [] [(0, room b6 136 16), (1, room b7 33 2)] (by kernel_rfl) ?_
    refine ge_take 0 (TK := [room b6 136 16, room b7 33 2, box b8 _, box b9 _]) rfl (by kernel_rfl) (by kernel_rfl) (by kernel_rfl) #[false, true, false, false] (by kernel_rfl) rfl (y_loads (cs := (List.replicate 8 ((0 : Int), false)).flatMap Votes.stCells) Tryz.isAgg136 Tryz.sizeOf136 rfl rfl (cells_box 2 rfl)) rfl rfl rfl (weak_trans (weak_room 0 rfl rfl) (weak_room 1 rfl rfl)) (listed' := #[true, false, false, false]) rfl ?_
    refine ge_take 1 (TK := [room b6 136 16, room b7 33 2, box b8 _, box b9 _]) rfl (by kernel_rfl) (by kernel_rfl) (by kernel_rfl) #[true, false, true, false] (by kernel_rfl) rfl (y_loads (cs := [_, _]) Tryz.isAgg33 Tryz.sizeOf33 rfl rfl (cells_box 3 rfl)) rfl rfl rfl (weak_trans (weak_room 0 rfl rfl) (weak_room 1 rfl rfl)) (listed' := #[true, true, false, false]) rfl ?_
    refine ge_one 2 (k' := 0) (listed' := #[true, true, true, false]) (by kernel_rfl) rfl rfl rfl ?_
    refine gop_store_flat 0 (f := Votes.stCells) Votes.wide_st rfl rfl Tryz.sizeOf136 rfl rfl rfl rfl ?_
    refine gops_nil ?_
    refine ge_fin (TK := [room b6 136 16, room b7 33 2, box b8 _, box b9 _]) rfl (weak_trans (weak_room 0 rfl rfl) (weak_room 1 rfl rfl)) ?_
    refine ge_one 3 (k' := 0) (listed' := #[true, true, true, true]) (by kernel_rfl) rfl rfl rfl ?_
    refine gop_store 1 (v := .agg #[_, _]) (cs' := #[_, _]) rfl rfl Tryz.sizeOf33 rfl rfl rfl rfl (Nat.le_of_ble_eq_true rfl) rfl rfl ?_
    refine gops_nil ?_
    refine ge_fin (TK := [room b6 136 16, room b7 33 2, box b8 _, box b9 _]) rfl (weak_trans (weak_room 0 rfl rfl) (weak_room 1 rfl rfl)) ?_
    refine ge_done (by kernel_rfl) ?_
    refine hN6 _ _ ?_
    refine gT [box b6 _, box b7 _, box b8 _, box b9 _] rfl ?_
    refine gfrom [(6, .pointer _), (7, .pointer _)] ⟨rfl, rfl, trivial⟩ fun σ => ?_
    refine gret fun w1 hM => ?_
    refine ⟨_, res2 rfl (rc 0 (cs := _) hM rfl rfl Tryz.isAgg136 Tryz.sizeOf136 (by first | rfl | (rw [flat_len (size := 2) (fun _ => rfl), Votes.foldl_len]; rfl))) (rc 1 (cs := [_, _]) hM rfl rfl Tryz.isAgg33 Tryz.sizeOf33 rfl), ?_⟩
    exact ⟨by rw [hf, hL], hM.low⟩
  · 
    replace hc20 := fault_eq.1 hc20
    have ok := Votes.ok_of l tr hc20
    refine gskip ?_
    refine hN3 _ _ ?_
    refine gfrom [(0, .slice _ _ _), (1, .slice _ _ _), (2, .int _ _), (6, .pointer _), (7, .pointer _), (8, .pointer _)] ⟨rfl, rfl, rfl, rfl, rfl, rfl, trivial⟩ fun σ => ?_
    refine gseq fun N7 hN7 => ?_
    refine gseq fun N8 hN8 => ?_
    refine greg ?_
    refine gop (y_move (v := .int _ _) rfl) rfl rfl rfl ?_
    refine gop (y_lss rfl rfl) rfl rfl rfl ?_
    refine gop (y_move (v := .bool _) rfl) rfl rfl rfl ?_
    refine gop_if (want := false) rfl rfl rfl rfl rfl rfl (fun hg25 => ?_) (fun hg25 => ?_)
    · 
      have hg25d := of_decide_eq_false hg25
      refine gop (y_bare (y_move (v := .int _ _) rfl)) rfl rfl rfl ?_
      refine gop_on rfl rfl rfl rfl hg25 ?_
      refine gop (y_bare (y_move (v := .slice _ _ _) rfl)) rfl rfl rfl ?_
      refine gop_on rfl rfl rfl rfl hg25 ?_
      refine gop (y_bare (y_len Tryz.underlying46 rfl)) rfl rfl rfl ?_
      refine gop_on rfl rfl rfl rfl hg25 ?_
      refine gop (y_bare (y_geq rfl rfl)) rfl rfl rfl ?_
      refine gop (y_pick_f (v := .bool _) rfl hg25 rfl) rfl rfl rfl ?_
      refine gops_nil ?_
      refine hN8 _ _ ?_
      refine gfrom [(0, .slice _ _ _), (1, .slice _ _ _), (2, .int _ _), (6, .pointer _), (7, .pointer _), (8, .pointer _), (30, .bool _)] ⟨rfl, rfl, rfl, rfl, rfl, rfl, rfl, trivial⟩ fun σ => ?_
      refine gcond (b := _) rfl (fun hc30 => ?_) (fun hc30 => ?_)
      · 
        replace hc30 := of_decide_eq_true hc30
        have hf : Votes.stateF l tr at_ = ⟨3, -3⟩ := by rw [Votes.stateF, if_neg (by simp [hc20]), if_pos (by omega)]
        have hL : Votes.stateL l tr at_ = List.replicate 8 (0, false) := by rw [Votes.stateL, hf, if_neg (by simp)]
        refine gseq fun N9 hN9 => ?_
        refine greg ?_
        refine gop (y_loads (cs := (List.replicate 8 ((0 : Int), false)).flatMap Votes.stCells) Tryz.isAgg136 Tryz.sizeOf136 rfl rfl (cells_box 2 rfl)) rfl rfl rfl ?_
        refine gop (y_build (vs := [(0, _), (1, _)]) (cells := #[_, _]) rfl (bd33_0_1 _ _)) rfl rfl rfl ?_
        refine gop_store_flat 0 (f := Votes.stCells) Votes.wide_st rfl rfl Tryz.sizeOf136 rfl rfl rfl rfl ?_
        refine gop_store 1 (v := .agg #[_, _]) (cs' := #[_, _]) rfl rfl Tryz.sizeOf33 rfl rfl rfl rfl (Nat.le_of_ble_eq_true rfl) rfl rfl ?_
        refine gops_nil ?_
        refine hN9 _ _ ?_
        refine gT [box b6 _, box b7 _, box b8 _, box b9 _] rfl ?_
        refine gfrom [(6, .pointer _), (7, .pointer _)] ⟨rfl, rfl, trivial⟩ fun σ => ?_
        refine gret fun w1 hM => ?_
        refine ⟨_, res2 rfl (rc 0 (cs := _) hM rfl rfl Tryz.isAgg136 Tryz.sizeOf136 (by first | rfl | (rw [flat_len (size := 2) (fun _ => rfl), Votes.foldl_len]; rfl))) (rc 1 (cs := [_, _]) hM rfl rfl Tryz.isAgg33 Tryz.sizeOf33 rfl), ?_⟩
        exact ⟨by rw [hf, hL], hM.low⟩
      · 
        replace hc30 := of_decide_eq_false hc30
        have hf : Votes.stateF l tr at_ = ⟨0, 0⟩ := by rw [Votes.stateF, if_neg (by simp [hc20]), if_neg (by omega)]
        have hL : Votes.stateL l tr at_ = Votes.statesOf l tr at_.toNat := by rw [Votes.stateL, hf, if_pos rfl]
        have hfew := ok.few
        have hshort := ok.short
        obtain ⟨a, rfl⟩ := Int.eq_ofNat_of_zero_le (show 0 ≤ at_ by omega)
        rw [Int.toNat_natCast] at hL
        refine gskip ?_
        refine hN7 _ _ ?_
        refine gfrom [(0, .slice _ _ _), (1, .slice _ _ _), (2, .int _ _), (6, .pointer _), (7, .pointer _), (8, .pointer _)] ⟨rfl, rfl, rfl, rfl, rfl, rfl, trivial⟩ fun σ => ?_
        refine gseq fun N10 hN10 => ?_
        refine gseq fun N11 hN11 => ?_
        refine greg ?_
        refine gop (y_move (v := .slice _ _ _) rfl) rfl rfl rfl ?_
        refine gop (y_len Tryz.underlying49 rfl) rfl rfl rfl ?_
        refine gop (y_move (v := .int _ _) rfl) rfl rfl rfl ?_
        refine gops_nil ?_
        refine hN11 _ _ ?_
        refine gfrom [(1, .slice _ _ _), (2, .int _ _), (6, .pointer _), (7, .pointer _), (8, .pointer _), (33, .slice _ _ _), (34, .int _ _), (35, .int _ _)] ⟨rfl, rfl, rfl, rfl, rfl, rfl, rfl, rfl, trivial⟩ fun σ => ?_
        refine gblock ?_
        refine gfrom2 [(35, .int _ _)] [(1, .slice _ _ _), (2, .int _ _), (6, .pointer _), (7, .pointer _), (8, .pointer _), (33, .slice _ _ _), (34, .int _ _)] ⟨rfl, trivial⟩ ⟨rfl, rfl, rfl, rfl, rfl, rfl, rfl, trivial⟩ fun σ => ?_
        refine gloop2 (G := Nat) (fun k => k ≤ l.length) (fun k => l.length - k) (fun k => [(35, .int .i64 (k : Int))]) (fun k => [(2, box b8 (.cells (((l.take k).foldl (Votes.stepSt tr a) (List.replicate 8 ((0 : Int), false))).flatMap Votes.stCells).toArray 136))]) (0) ?h0 ⟨rfl, trivial⟩ ⟨rfl, rfl, rfl, rfl, rfl, rfl, rfl, trivial⟩ rfl ?round
        case h0 => exact Nat.zero_le _
        case round =>
          intro k hφ σ
          have hk := hφ
          refine gT [box b6 _, box b7 _, box _ _, box b9 _] rfl ?_
          refine gseq fun N12 hN12 => ?_
          refine greg ?_
          refine gop (y_lss rfl rfl) rfl rfl rfl ?_
          refine gops_nil ?_
          refine hN12 _ _ ?_
          refine gfrom [(1, .slice _ _ _), (2, .int _ _), (6, .pointer _), (7, .pointer _), (8, .pointer _), (33, .slice _ _ _), (34, .int _ _), (35, .int _ _), (36, .bool _)] ⟨rfl, rfl, rfl, rfl, rfl, rfl, rfl, rfl, rfl, trivial⟩ fun σ => ?_
          refine gseq fun N13 hN13 => ?_
          refine gcond (b := _) rfl (fun hc36 => ?_) (fun hc36 => ?_)
          · 
            replace hc36 := of_decide_eq_true hc36
            have hk1 : k < l.length := by omega
            obtain ⟨ad, rfl, -, hcv⟩ := hv.at_ hk1
            have hgood : ¬ Votes.Bad tr.length l[k] := ok.good _ (List.getElem_mem hk1)
            unfold Votes.Bad at hgood
            have hstep := Votes.foldl_take_succ (Votes.stepSt tr a) (List.replicate 8 ((0 : Int), false)) l k hk1
            have hlen8 : ((l.take k).foldl (Votes.stepSt tr a) (List.replicate 8 ((0 : Int), false))).length = 8 := by rw [Votes.foldl_len]; rfl
            refine gskip ?_
            refine hN13 _ _ ?_
            refine gfrom [(1, .slice _ _ _), (2, .int _ _), (6, .pointer _), (7, .pointer _), (8, .pointer _), (33, .slice _ _ _), (34, .int _ _), (35, .int _ _)] ⟨rfl, rfl, rfl, rfl, rfl, rfl, rfl, rfl, trivial⟩ fun σ => ?_
            refine gseq fun N14 hN14 => ?_
            refine gblock ?_
            refine gseq fun N15 hN15 => ?_
            refine greg ?_
            refine gop (y_indexAddr Tryz.underlying49 Tryz.sizeOf51 rfl rfl rfl (by omega) (by omega)) rfl rfl rfl ?_
            refine gop (y_loads (cs := [_, _, _]) Tryz.isAgg51 Tryz.sizeOf51 rfl rfl (cells_base hcv)) rfl rfl rfl ?_
            refine gop_alloc (cs := #[.int .i64 0, .int .i64 0, .int .i64 0]) Tryz.zeroValue51 rfl rfl (fun b11 hb11 => ?_)
            refine gop_store 4 (v := .agg #[_, _, _]) (cs' := #[_, _, _]) rfl rfl Tryz.sizeOf51 rfl rfl rfl rfl (Nat.le_of_ble_eq_true rfl) rfl rfl ?_
            refine gops_nil ?_
            refine hN15 _ _ ?_
            refine gT [box b6 _, box b7 _, box _ _, box b9 _, box b11 _] rfl ?_
            refine gfrom [(1, .slice _ _ _), (2, .int _ _), (6, .pointer _), (7, .pointer _), (8, .pointer _), (11, .pointer _), (33, .slice _ _ _), (34, .int _ _), (35, .int _ _)] ⟨rfl, rfl, rfl, rfl, rfl, rfl, rfl, rfl, rfl, trivial⟩ fun σ => ?_
            refine gseq fun N16 hN16 => ?_
            refine gseq fun N17 hN17 => ?_
            refine greg ?_
            refine gop (y_fieldAddr_box fa51_1 rfl) rfl rfl rfl ?_
            refine gop (y_load Tryz.isAgg3 rfl (cell_box 4 rfl rfl)) rfl rfl rfl ?_
            refine gop (y_move (v := .int _ _) rfl) rfl rfl rfl ?_
            refine gop (y_gtr rfl rfl) rfl rfl rfl ?_
            refine gops_nil ?_
            refine hN17 _ _ ?_
            refine gfrom [(1, .slice _ _ _), (2, .int _ _), (6, .pointer _), (7, .pointer _), (8, .pointer _), (11, .pointer _), (33, .slice _ _ _), (34, .int _ _), (35, .int _ _), (42, .bool _)] ⟨rfl, rfl, rfl, rfl, rfl, rfl, rfl, rfl, rfl, rfl, trivial⟩ fun σ => ?_
            refine gcond (b := _) rfl (fun hc42 => ?_) (fun hc42 => ?_)
            · 
              replace hc42 := of_decide_eq_true hc42
              have hsame : (l.take (k + 1)).foldl (Votes.stepSt tr a) (List.replicate 8 ((0 : Int), false)) = (l.take k).foldl (Votes.stepSt tr a) (List.replicate 8 ((0 : Int), false)) := by rw [hstep, Votes.stepSt, if_pos (by omega)]
              refine gexit ?_
              refine hN14 _ _ ?_
              refine gfrom [(1, .slice _ _ _), (2, .int _ _), (6, .pointer _), (7, .pointer _), (8, .pointer _), (33, .slice _ _ _), (34, .int _ _), (35, .int _ _)] ⟨rfl, rfl, rfl, rfl, rfl, rfl, rfl, rfl, trivial⟩ fun σ => ?_
              refine greg ?_
              refine gop (y_add rfl rfl ⟨by omega, by omega⟩) rfl rfl rfl ?_
              refine gop (y_move (v := .int _ _) rfl) rfl rfl rfl ?_
              refine gops_nil ?_
              rw [← hsame]
              refine gnext2 (k + 1) (by omega) (show k + 1 ≤ l.length by omega) ⟨rfl, trivial⟩ ⟨rfl, rfl, rfl, rfl, rfl, rfl, rfl, trivial⟩ ⟨_, rfl⟩
            · 
              replace hc42 := of_decide_eq_false hc42
              have hnew : (l.take (k + 1)).foldl (Votes.stepSt tr a) (List.replicate 8 ((0 : Int), false)) = ((l.take k).foldl (Votes.stepSt tr a) (List.replicate 8 ((0 : Int), false))).set l[k].user.toNat (l[k].val, Votes.cnt tr a l[k] || decide (l[k].val = -2)) := by rw [hstep, Votes.stepSt, if_neg (by omega)]
              have hcut := ht.cut (i := (l[k].rev + 1).toNat) (j := ((a : Int) + 1).toNat) (cap := c2) (by omega) (by omega) hcc
              have hsl : ((tr.drop (l[k].rev + 1).toNat).take (((a : Int) + 1).toNat - (l[k].rev + 1).toNat)).length = ((a : Int) + 1).toNat - (l[k].rev + 1).toNat := by simp; omega
              have hcnt := Votes.cnt_cut tr a l[k] (by omega)
              generalize hsub : (tr.drop (l[k].rev + 1).toNat).take (((a : Int) + 1).toNat - (l[k].rev + 1).toNat) = sub at hcut hsl hcnt
              refine gskip ?_
              refine hN16 _ _ ?_
              refine gfrom [(1, .slice _ _ _), (2, .int _ _), (6, .pointer _), (7, .pointer _), (8, .pointer _), (11, .pointer _), (33, .slice _ _ _), (34, .int _ _), (35, .int _ _)] ⟨rfl, rfl, rfl, rfl, rfl, rfl, rfl, rfl, rfl, trivial⟩ fun σ => ?_
              refine gseq fun N18 hN18 => ?_
              refine greg ?_
              refine gop (y_assign (v := .bool _) rfl) rfl rfl rfl ?_
              refine gops_nil ?_
              refine hN18 _ _ ?_
              refine gfrom [(1, .slice _ _ _), (2, .int _ _), (6, .pointer _), (7, .pointer _), (8, .pointer _), (11, .pointer _), (12, .bool _), (33, .slice _ _ _), (34, .int _ _), (35, .int _ _)] ⟨rfl, rfl, rfl, rfl, rfl, rfl, rfl, rfl, rfl, rfl, trivial⟩ fun σ => ?_
              refine gseq fun N19 hN19 => ?_
              refine gseq fun N20 hN20 => ?_
              refine greg ?_
              refine gop (y_move (v := .slice _ _ _) rfl) rfl rfl rfl ?_
              refine gop (y_fieldAddr_box fa51_1 rfl) rfl rfl rfl ?_
              refine gop (y_load Tryz.isAgg3 rfl (cell_box 4 rfl rfl)) rfl rfl rfl ?_
              refine gop (y_add rfl rfl ⟨by omega, by omega⟩) rfl rfl rfl ?_
              refine gop (y_move (v := .int _ _) rfl) rfl rfl rfl ?_
              refine gop (y_add rfl rfl ⟨by omega, by omega⟩) rfl rfl rfl ?_
              refine gop (y_slice Tryz.underlying46 Tryz.sizeOf4 rfl rfl rfl (by omega) (by omega) (by omega)) rfl rfl rfl ?_
              refine gop (y_len Tryz.underlying46 rfl) rfl rfl rfl ?_
              refine gop (y_move (v := .int _ _) rfl) rfl rfl rfl ?_
              refine gops_nil ?_
              refine hN20 _ _ ?_
              refine gfrom [(1, .slice _ _ _), (2, .int _ _), (6, .pointer _), (7, .pointer _), (8, .pointer _), (11, .pointer _), (12, .bool _), (33, .slice _ _ _), (34, .int _ _), (35, .int _ _), (49, .slice _ _ _), (50, .int _ _), (51, .int _ _)] ⟨rfl, rfl, rfl, rfl, rfl, rfl, rfl, rfl, rfl, rfl, rfl, rfl, rfl, trivial⟩ fun σ => ?_
              refine gblock ?_
              refine gfrom2 [(12, .bool _), (51, .int _ _)] [(1, .slice _ _ _), (2, .int _ _), (6, .pointer _), (7, .pointer _), (8, .pointer _), (11, .pointer _), (33, .slice _ _ _), (34, .int _ _), (35, .int _ _), (49, .slice _ _ _), (50, .int _ _)] ⟨rfl, rfl, trivial⟩ ⟨rfl, rfl, rfl, rfl, rfl, rfl, rfl, rfl, rfl, rfl, rfl, trivial⟩ fun σ => ?_
              refine gloop2 (G := Nat) (fun j => j ≤ sub.length) (fun j => sub.length - j) (fun j => [(12, .bool ((sub.take j).all id)), (51, .int .i64 (j : Int))]) (fun j => []) (0) ?h0 ⟨by simp; rfl, rfl, trivial⟩ ⟨rfl, rfl, rfl, rfl, rfl, rfl, rfl, rfl, rfl, rfl, rfl, trivial⟩ rfl ?round
              case h0 => exact Nat.zero_le _
              case round =>
                intro j hφ σ
                have hj := hφ
                refine gseq fun N21 hN21 => ?_
                refine greg ?_
                refine gop (y_lss rfl rfl) rfl rfl rfl ?_
                refine gops_nil ?_
                refine hN21 _ _ ?_
                refine gfrom [(1, .slice _ _ _), (2, .int _ _), (6, .pointer _), (7, .pointer _), (8, .pointer _), (11, .pointer _), (12, .bool _), (33, .slice _ _ _), (34, .int _ _), (35, .int _ _), (49, .slice _ _ _), (50, .int _ _), (51, .int _ _), (52, .bool _)] ⟨rfl, rfl, rfl, rfl, rfl, rfl, rfl, rfl, rfl, rfl, rfl, rfl, rfl, rfl, trivial⟩ fun σ => ?_
                refine gseq fun N22 hN22 => ?_
                refine gcond (b := _) rfl (fun hc52 => ?_) (fun hc52 => ?_)
                · 
                  replace hc52 := of_decide_eq_true hc52
                  have hj1 : j < sub.length := by omega
                  obtain ⟨adt, eA, -, hct⟩ := hcut.at_ hj1
                  refine gskip ?_
                  refine hN22 _ _ ?_
                  refine gfrom [(1, .slice _ _ _), (2, .int _ _), (6, .pointer _), (7, .pointer _), (8, .pointer _), (11, .pointer _), (12, .bool _), (33, .slice _ _ _), (34, .int _ _), (35, .int _ _), (49, .slice _ _ _), (50, .int _ _), (51, .int _ _)] ⟨rfl, rfl, rfl, rfl, rfl, rfl, rfl, rfl, rfl, rfl, rfl, rfl, rfl, trivial⟩ fun σ => ?_
                  refine gseq fun N23 hN23 => ?_
                  refine gblock ?_
                  refine gseq fun N24 hN24 => ?_
                  refine greg ?_
                  refine gop (y_indexAddr (a := adt) Tryz.underlying46 Tryz.sizeOf4 (show Value.slice _ _ _ = Value.slice (some adt) _ _ from by rw [← eA]) rfl rfl (by omega) (by omega)) rfl rfl rfl ?_
                  refine gop (y_load Tryz.isAgg4 rfl (cell_base (hct 0 _ rfl))) rfl rfl rfl ?_
                  refine gop (y_assign (v := .bool _) rfl) rfl rfl rfl ?_
                  refine gops_nil ?_
                  refine hN24 _ _ ?_
                  refine gfrom [(1, .slice _ _ _), (2, .int _ _), (6, .pointer _), (7, .pointer _), (8, .pointer _), (11, .pointer _), (12, .bool _), (14, .bool _), (33, .slice _ _ _), (34, .int _ _), (35, .int _ _), (49, .slice _ _ _), (50, .int _ _), (51, .int _ _)] ⟨rfl, rfl, rfl, rfl, rfl, rfl, rfl, rfl, rfl, rfl, rfl, rfl, rfl, rfl, trivial⟩ fun σ => ?_
                  refine greg ?_
                  refine gop (y_move (v := .bool _) rfl) rfl rfl rfl ?_
                  refine gop (y_move (v := .bool _) rfl) rfl rfl rfl ?_
                  refine gop_if (want := true) rfl rfl rfl rfl rfl rfl (fun hg56 => ?_) (fun hg56 => ?_)
                  · 
                    have hg56d := hg56
                    skip
                    refine gop (y_bare (y_move (v := .bool _) rfl)) rfl rfl rfl ?_
                    refine gop (y_pick_t (v := .bool _) rfl hg56 rfl) rfl rfl rfl ?_
                    refine gop (y_assign (v := .bool _) rfl) rfl rfl rfl ?_
                    refine gops_nil ?_
                    refine hN23 _ _ ?_
                    refine gfrom [(1, .slice _ _ _), (2, .int _ _), (6, .pointer _), (7, .pointer _), (8, .pointer _), (11, .pointer _), (12, .bool _), (33, .slice _ _ _), (34, .int _ _), (35, .int _ _), (49, .slice _ _ _), (50, .int _ _), (51, .int _ _)] ⟨rfl, rfl, rfl, rfl, rfl, rfl, rfl, rfl, rfl, rfl, rfl, rfl, rfl, trivial⟩ fun σ => ?_
                    refine greg ?_
                    refine gop (y_add rfl rfl ⟨by omega, by omega⟩) rfl rfl rfl ?_
                    refine gop (y_move (v := .int _ _) rfl) rfl rfl rfl ?_
                    refine gops_nil ?_
                    refine gnext2 (j + 1) (by omega) (show j + 1 ≤ sub.length by omega) ⟨(congrArg Value.bool (by rw [Votes.all_take_succ _ j hj1, hg56d]; simp)), rfl, trivial⟩ ⟨rfl, rfl, rfl, rfl, rfl, rfl, rfl, rfl, rfl, rfl, rfl, trivial⟩ ⟨_, rfl⟩
                  · 
                    have hg56d := hg56
                    skip
                    refine gop (y_pick_f (v := .bool _) rfl hg56 rfl) rfl rfl rfl ?_
                    refine gop (y_assign (v := .bool _) rfl) rfl rfl rfl ?_
                    refine gops_nil ?_
                    refine hN23 _ _ ?_
                    refine gfrom [(1, .slice _ _ _), (2, .int _ _), (6, .pointer _), (7, .pointer _), (8, .pointer _), (11, .pointer _), (12, .bool _), (33, .slice _ _ _), (34, .int _ _), (35, .int _ _), (49, .slice _ _ _), (50, .int _ _), (51, .int _ _)] ⟨rfl, rfl, rfl, rfl, rfl, rfl, rfl, rfl, rfl, rfl, rfl, rfl, rfl, trivial⟩ fun σ => ?_
                    refine greg ?_
                    refine gop (y_add rfl rfl ⟨by omega, by omega⟩) rfl rfl rfl ?_
                    refine gop (y_move (v := .int _ _) rfl) rfl rfl rfl ?_
                    refine gops_nil ?_
                    refine gnext2 (j + 1) (by omega) (show j + 1 ≤ sub.length by omega) ⟨(congrArg Value.bool (by rw [Votes.all_take_succ _ j hj1, hg56d]; simp)), rfl, trivial⟩ ⟨rfl, rfl, rfl, rfl, rfl, rfl, rfl, rfl, rfl, rfl, rfl, trivial⟩ ⟨_, rfl⟩
                · 
                  replace hc52 := of_decide_eq_false hc52
                  have hall : sub.take j = sub := List.take_of_length_le (by omega)
                  rw [hall, ← hcnt]
                  refine gexit ?_
                  refine hN19 _ _ ?_
                  refine gfrom [(1, .slice _ _ _), (2, .int _ _), (6, .pointer _), (7, .pointer _), (8, .pointer _), (11, .pointer _), (12, .bool _), (33, .slice _ _ _), (34, .int _ _), (35, .int _ _)] ⟨rfl, rfl, rfl, rfl, rfl, rfl, rfl, rfl, rfl, rfl, trivial⟩ fun σ => ?_
                  refine greg ?_
                  refine gop (y_fieldAddr_box fa51_0 rfl) rfl rfl rfl ?_
                  refine gop (y_load Tryz.isAgg3 rfl (cell_box 4 rfl rfl)) rfl rfl rfl ?_
                  refine gop (y_fieldAddr_box fa51_2 rfl) rfl rfl rfl ?_
                  refine gop (y_load Tryz.isAgg3 rfl (cell_box 4 rfl rfl)) rfl rfl rfl ?_
                  refine gop (y_move (v := .bool _) rfl) rfl rfl rfl ?_
                  refine gop (y_move (v := .bool _) rfl) rfl rfl rfl ?_
                  refine gop_if (want := false) rfl rfl rfl rfl rfl rfl (fun hg65 => ?_) (fun hg65 => ?_)
                  · 
                    have hg65d := hg65
                    refine gop (y_bare (y_fieldAddr_box fa51_2 rfl)) rfl rfl rfl ?_
                    refine gop_on rfl rfl rfl rfl hg65 ?_
                    refine gop (y_bare (y_load Tryz.isAgg3 rfl (cell_box 4 rfl rfl))) rfl rfl rfl ?_
                    refine gop_on rfl rfl rfl rfl hg65 ?_
                    refine gop (y_bare (y_eql rfl rfl)) rfl rfl rfl ?_
                    refine gop (y_pick_f (v := .bool _) rfl hg65 rfl) rfl rfl rfl ?_
                    refine gop (y_build (vs := [(0, .int _ _), (1, .bool _)]) (cells := #[_, _]) rfl (bd135_0_1 _ _)) rfl rfl rfl ?_
                    refine gop (y_indexAddr_arr Tryz.underlying136 Tryz.sizeOf135 rfl rfl rfl (by omega) (by omega)) rfl rfl rfl ?_
                    refine gop_store_el 2 (f := Votes.stCells) (size := 2) (k := l[k].user.toNat) (o := 0) (v := .agg #[_, _]) (a' := (l[k].val, Votes.cnt tr a l[k] || decide (l[k].val = -2))) (fun _ => rfl) rfl (by omega) rfl Tryz.sizeOf135 rfl rfl rfl rfl (List.getElem?_eq_getElem (show l[k].user.toNat < _ by omega)) (by omega) (by rw [hg65d]; rfl) rfl ?_
                    refine gops_nil ?_
                    refine hN14 _ _ ?_
                    refine gT [box b6 _, box b7 _, box _ _, box b9 _, box b11 _] rfl ?_
                    refine gfrom [(1, .slice _ _ _), (2, .int _ _), (6, .pointer _), (7, .pointer _), (8, .pointer _), (33, .slice _ _ _), (34, .int _ _), (35, .int _ _)] ⟨rfl, rfl, rfl, rfl, rfl, rfl, rfl, rfl, trivial⟩ fun σ => ?_
                    refine greg ?_
                    refine gop (y_add rfl rfl ⟨by omega, by omega⟩) rfl rfl rfl ?_
                    refine gop (y_move (v := .int _ _) rfl) rfl rfl rfl ?_
                    refine gops_nil ?_
                    rw [← hnew]
                    refine gnext2 (k + 1) (by omega) (show k + 1 ≤ l.length by omega) ⟨rfl, trivial⟩ ⟨rfl, rfl, rfl, rfl, rfl, rfl, rfl, trivial⟩ ⟨_, rfl⟩
                  · 
                    have hg65d := hg65
                    refine gop_off rfl rfl rfl rfl hg65 rfl rfl ?_
                    refine gop_off rfl rfl rfl rfl hg65 rfl rfl ?_
                    refine gop (y_pick_t (v := .bool _) rfl hg65 rfl) rfl rfl rfl ?_
                    refine gop (y_build (vs := [(0, .int _ _), (1, .bool _)]) (cells := #[_, _]) rfl (bd135_0_1 _ _)) rfl rfl rfl ?_
                    refine gop (y_indexAddr_arr Tryz.underlying136 Tryz.sizeOf135 rfl rfl rfl (by omega) (by omega)) rfl rfl rfl ?_
                    refine gop_store_el 2 (f := Votes.stCells) (size := 2) (k := l[k].user.toNat) (o := 0) (v := .agg #[_, _]) (a' := (l[k].val, Votes.cnt tr a l[k] || decide (l[k].val = -2))) (fun _ => rfl) rfl (by omega) rfl Tryz.sizeOf135 rfl rfl rfl rfl (List.getElem?_eq_getElem (show l[k].user.toNat < _ by omega)) (by omega) (by rw [hg65d]; rfl) rfl ?_
                    refine gops_nil ?_
                    refine hN14 _ _ ?_
                    refine gT [box b6 _, box b7 _, box _ _, box b9 _, box b11 _] rfl ?_
                    refine gfrom [(1, .slice _ _ _), (2, .int _ _), (6, .pointer _), (7, .pointer _), (8, .pointer _), (33, .slice _ _ _), (34, .int _ _), (35, .int _ _)] ⟨rfl, rfl, rfl, rfl, rfl, rfl, rfl, rfl, trivial⟩ fun σ => ?_
                    refine greg ?_
                    refine gop (y_add rfl rfl ⟨by omega, by omega⟩) rfl rfl rfl ?_
                    refine gop (y_move (v := .int _ _) rfl) rfl rfl rfl ?_
                    refine gops_nil ?_
                    rw [← hnew]
                    refine gnext2 (k + 1) (by omega) (show k + 1 ≤ l.length by omega) ⟨rfl, trivial⟩ ⟨rfl, rfl, rfl, rfl, rfl, rfl, rfl, trivial⟩ ⟨_, rfl⟩
          · 
            replace hc36 := of_decide_eq_false hc36
            refine gexit ?_
            refine hN10 _ _ ?_
            refine gfrom [(6, .pointer _), (7, .pointer _), (8, .pointer _)] ⟨rfl, rfl, rfl, trivial⟩ fun σ => ?_
            refine gseq fun N25 hN25 => ?_
            refine greg ?_
            refine gop (y_loads (cs := _) Tryz.isAgg136 Tryz.sizeOf136 (by rw [flat_len (size := 2) (fun _ => rfl), Votes.foldl_len]; rfl) rfl (cells_box 2 rfl)) rfl rfl rfl ?_
            refine gop (y_build (vs := []) (cells := #[.int .i64 0, .int .i64 0]) rfl bd33_) rfl rfl rfl ?_
            refine gop_store_flat 0 (f := Votes.stCells) Votes.wide_st rfl rfl Tryz.sizeOf136 (by rw [Votes.foldl_len]; rfl) rfl (by rw [Votes.foldl_len]) rfl ?_
            refine gop_store 1 (v := .agg #[_, _]) (cs' := #[_, _]) rfl rfl Tryz.sizeOf33 rfl rfl rfl rfl (Nat.le_of_ble_eq_true rfl) rfl rfl ?_
            refine gops_nil ?_
            refine hN25 _ _ ?_
            refine gT [box b6 _, box b7 _, box _ _, box b9 _] rfl ?_
            refine gfrom [(6, .pointer _), (7, .pointer _)] ⟨rfl, rfl, trivial⟩ fun σ => ?_
            refine gret fun w1 hM => ?_
            refine ⟨_, res2 rfl (rc 0 (cs := _) hM rfl rfl Tryz.isAgg136 Tryz.sizeOf136 (by first | rfl | (rw [flat_len (size := 2) (fun _ => rfl), Votes.foldl_len]; rfl))) (rc 1 (cs := [_, _]) hM rfl rfl Tryz.isAgg33 Tryz.sizeOf33 rfl), ?_⟩
            exact ⟨by rw [hf, hL, Votes.statesOf, List.take_of_length_le (show l.length ≤ k by omega)], hM.low⟩
    · 
      have hg25d := of_decide_eq_true hg25
      refine gop_off rfl rfl rfl rfl hg25 rfl rfl ?_
      refine gop_off rfl rfl rfl rfl hg25 rfl rfl ?_
      refine gop_off rfl rfl rfl rfl hg25 rfl rfl ?_
      refine gop (y_pick_t (v := .bool _) rfl hg25 rfl) rfl rfl rfl ?_
      refine gops_nil ?_
      refine hN8 _ _ ?_
      refine gfrom [(0, .slice _ _ _), (1, .slice _ _ _), (2, .int _ _), (6, .pointer _), (7, .pointer _), (8, .pointer _), (30, .bool _)] ⟨rfl, rfl, rfl, rfl, rfl, rfl, rfl, trivial⟩ fun σ => ?_
      refine gcond (b := _) rfl (fun hc30 => ?_) (fun hc30 => ?_)
      · 
        have hf : Votes.stateF l tr at_ = ⟨3, -3⟩ := by rw [Votes.stateF, if_neg (by simp [hc20]), if_pos (by omega)]
        have hL : Votes.stateL l tr at_ = List.replicate 8 (0, false) := by rw [Votes.stateL, hf, if_neg (by simp)]
        refine gseq fun N26 hN26 => ?_
        refine greg ?_
        refine gop (y_loads (cs := (List.replicate 8 ((0 : Int), false)).flatMap Votes.stCells) Tryz.isAgg136 Tryz.sizeOf136 rfl rfl (cells_box 2 rfl)) rfl rfl rfl ?_
        refine gop (y_build (vs := [(0, _), (1, _)]) (cells := #[_, _]) rfl (bd33_0_1 _ _)) rfl rfl rfl ?_
        refine gop_store_flat 0 (f := Votes.stCells) Votes.wide_st rfl rfl Tryz.sizeOf136 rfl rfl rfl rfl ?_
        refine gop_store 1 (v := .agg #[_, _]) (cs' := #[_, _]) rfl rfl Tryz.sizeOf33 rfl rfl rfl rfl (Nat.le_of_ble_eq_true rfl) rfl rfl ?_
        refine gops_nil ?_
        refine hN26 _ _ ?_
        refine gT [box b6 _, box b7 _, box b8 _, box b9 _] rfl ?_
        refine gfrom [(6, .pointer _), (7, .pointer _)] ⟨rfl, rfl, trivial⟩ fun σ => ?_
        refine gret fun w1 hM => ?_
        refine ⟨_, res2 rfl (rc 0 (cs := _) hM rfl rfl Tryz.isAgg136 Tryz.sizeOf136 (by first | rfl | (rw [flat_len (size := 2) (fun _ => rfl), Votes.foldl_len]; rfl))) (rc 1 (cs := [_, _]) hM rfl rfl Tryz.isAgg33 Tryz.sizeOf33 rfl), ?_⟩
        exact ⟨by rw [hf, hL], hM.low⟩
      · 
        cases hc30
set_option maxHeartbeats 1000000 in
theorem current_any (w : World) (A : Option Addr) (c : Nat) (l : List Vote) (B : Option Addr) (c2 : Nat) (tr : List Bool) (hv : Rdl w 0 3 voteCells A l) (ht : Rdl w 0 1 boolCells B tr) (hl : l.length ≤ maxLen) (htl : tr.length ≤ maxLen) (hcc : tr.length ≤ c2) (at_ : Int) :
    Calls Tryz.prog 34 #[.slice A l.length c, .slice B tr.length c2, .int .i64 at_] w fun e w' => ∃ v, e = .returned (.tuple #[v, fv (Votes.stateF l tr at_)]) ∧ Below w.heap.size w w' ∧ NewL 1 intCells (Votes.curL l tr at_) w.heap.size w' v := by
  have h8 := Votes.stateL_len l tr at_
  refine gcalls Tryz.func34 rfl Tryz.ntmps34 (Nat.le_of_ble_eq_true rfl) ?_
  refine gfrom [(0, .slice _ _ _), (1, .slice _ _ _), (2, .int _ _)] ⟨rfl, rfl, rfl, trivial⟩ fun σ => ?_
  refine gseq fun N1 hN1 => ?_
  refine greg ?_
  refine gop (y_assign (v := .slice _ _ _) rfl) rfl rfl rfl ?_
  refine gop_alloc (cs := #[.int .i64 0, .int .i64 0]) Tryz.zeroValue33 rfl rfl (fun b7 hb7 => ?_)
  refine gops_nil ?_
  refine hN1 _ _ ?_
  refine gT [box b7 _] rfl ?_
  refine gfrom [(0, .slice _ _ _), (1, .slice _ _ _), (2, .int _ _), (7, .pointer _)] ⟨rfl, rfl, rfl, rfl, trivial⟩ fun σ => ?_
  refine gseq fun N2 hN2 => ?_
  refine greg ?_
  refine gop (y_move (v := .slice _ _ _) rfl) rfl rfl rfl ?_
  refine gop (y_move (v := .slice _ _ _) rfl) rfl rfl rfl ?_
  refine gop (y_move (v := .int _ _) rfl) rfl rfl rfl ?_
  refine gop_pure (e_call (vs := [.slice _ _ _, .slice _ _ _, .int _ _]) Tryz.func65 rfl (by kernel_rfl) rfl) (fun w hM => states_any w _ _ _ _ _ _ (hv.base hM) (ht.base hM) hl htl hcc _) rfl rfl rfl ?_
  refine gop (y_move (v := .tuple #[.agg _, .agg #[_, _]]) rfl) rfl rfl rfl ?_
  refine gop (y_extract (v := .agg _) rfl rfl) rfl rfl rfl ?_
  refine gop (y_extract (v := .agg #[_, _]) rfl rfl) rfl rfl rfl ?_
  refine gop_alloc (cs := ((List.replicate 8 ((0 : Int), false)).flatMap Votes.stCells).toArray) Tryz.zeroValue136 rfl rfl (fun b8 hb8 => ?_)
  refine gop_alloc (cs := #[.int .i64 0, .int .i64 0]) Tryz.zeroValue33 rfl rfl (fun b9 hb9 => ?_)
  refine gop_store_flat 1 (f := Votes.stCells) Votes.wide_st rfl rfl Tryz.sizeOf136 (by rw [h8]) rfl (by rw [h8]; rfl) rfl ?_
  refine gop_store 2 (v := .agg #[_, _]) (cs' := #[_, _]) rfl rfl Tryz.sizeOf33 rfl rfl rfl rfl (Nat.le_of_ble_eq_true rfl) rfl rfl ?_
  refine gops_nil ?_
  refine hN2 _ _ ?_
  refine gT [box b7 _, box b8 _, box b9 _] rfl ?_
  refine gfrom [(7, .pointer _), (8, .pointer _), (9, .pointer _)] ⟨rfl, rfl, rfl, trivial⟩ fun σ => ?_
  refine gseq fun N3 hN3 => ?_
  refine gseq fun N4 hN4 => ?_
  refine greg ?_
  refine gop (y_loads (cs := [_, _]) Tryz.isAgg33 Tryz.sizeOf33 rfl rfl (cells_box 2 rfl)) rfl rfl rfl ?_
  refine gop (y_build (vs := []) (cells := #[.int .i64 0, .int .i64 0]) rfl bd33_) rfl rfl rfl ?_
  refine gop (y_bin (vx := .agg #[_, _]) (vy := .agg #[_, _]) rfl rfl (fun w => eg33 _ _ _ _ _ w) (fun w => ne33 _ _ _ _ w)) rfl rfl rfl ?_
  refine gops_nil ?_
  refine hN4 _ _ ?_
  refine gfrom [(7, .pointer _), (8, .pointer _), (9, .pointer _), (22, .bool _)] ⟨rfl, rfl, rfl, rfl, trivial⟩ fun σ => ?_
  refine gcond (b := _) rfl (fun hc22 => ?_) (fun hc22 => ?_)
  · 
    replace hc22 := fault_ne.1 hc22
    have hL : Votes.curL l tr at_ = [] := by rw [Votes.curL, if_neg hc22]
    refine gseq fun N5 hN5 => ?_
    refine greg_e1 [] [(0, room b7 33 2)] (by kernel_rfl) ?_
    refine ge_take 0 (TK := [room b7 33 2, box b8 _, box b9 _]) rfl (by kernel_rfl) (by kernel_rfl) (by kernel_rfl) #[false, true, false] (by kernel_rfl) rfl (y_loads (cs := [_, _]) Tryz.isAgg33 Tryz.sizeOf33 rfl rfl (cells_box 2 rfl)) rfl rfl rfl (weak_room 0 rfl rfl) (listed' := #[true, false, false]) rfl ?_
    refine ge_take 1 (TK := [room b7 33 2, box b8 _, box b9 _]) rfl (by kernel_rfl) (by kernel_rfl) (by kernel_rfl) #[true, false, false] (by kernel_rfl) rfl (y_assign (v := .slice _ _ _) rfl) rfl rfl rfl (weak_room 0 rfl rfl) (listed' := #[true, true, false]) rfl ?_
    refine ge_one 2 (k' := 0) (listed' := #[true, true, true]) (by kernel_rfl) rfl rfl rfl ?_
    refine gop_store 0 (v := .agg #[_, _]) (cs' := #[_, _]) rfl rfl Tryz.sizeOf33 rfl rfl rfl rfl (Nat.le_of_ble_eq_true rfl) rfl rfl ?_
    refine gops_nil ?_
    refine ge_fin (TK := [room b7 33 2, box b8 _, box b9 _]) rfl (weak_room 0 rfl rfl) ?_
    refine ge_done (by kernel_rfl) ?_
    refine hN5 _ _ ?_
    refine gT [box b7 _, box b8 _, box b9 _] rfl ?_
    refine gfrom [(6, .slice _ _ _), (7, .pointer _)] ⟨rfl, rfl, trivial⟩ fun σ => ?_
    refine gret fun w1 hM => ?_
    refine ⟨_, res2 rfl (rt (v := .slice _ _ _) rfl) (rc 0 (cs := [_, _]) hM rfl rfl Tryz.isAgg33 Tryz.sizeOf33 rfl), ?_⟩
    exact ⟨_, rfl, hM.low, by rw [hL]; exact newL_nil⟩
  · 
    replace hc22 := fault_eq.1 hc22
    have hL : Votes.curL l tr at_ = (Votes.stateL l tr at_).map Votes.curOf := by rw [Votes.curL, if_pos hc22, Votes.stateL, if_pos hc22]
    refine gskip ?_
    refine hN3 _ _ ?_
    refine gfrom [(7, .pointer _), (8, .pointer _)] ⟨rfl, rfl, trivial⟩ fun σ => ?_
    refine gseq fun N6 hN6 => ?_
    refine greg ?_
    refine gop_make (f := intCells) (bytes := 8) (z := .int .i64 0) ((0 : Int)) Tryz.underlying74 (by kernel_rfl) rfl rfl rfl (k := 8) rfl rfl (by decide) (by decide) rfl (fun b24 hb24 => ?_)
    refine gop (y_assign (v := .slice (some _) _ _) rfl) rfl rfl rfl ?_
    refine gops_nil ?_
    refine hN6 _ _ ?_
    refine gT [box b7 _, box b8 _, box b9 _, rowl _ _ _ _ _ _] rfl ?_
    refine gfrom [(7, .pointer _), (8, .pointer _), (10, .slice (some _) _ _)] ⟨rfl, rfl, rfl, trivial⟩ fun σ => ?_
    refine gseq fun N7 hN7 => ?_
    refine gseq fun N8 hN8 => ?_
    refine greg ?_
    refine gop (y_loads (cs := (Votes.stateL l tr at_).flatMap Votes.stCells) Tryz.isAgg136 Tryz.sizeOf136 (by rw [flat_len (size := 2) (fun _ => rfl), h8]) rfl (cells_box 1 rfl)) rfl rfl rfl ?_
    refine gop (y_move (v := .int _ _) rfl) rfl rfl rfl ?_
    refine gops_nil ?_
    refine hN8 _ _ ?_
    refine gfrom [(7, .pointer _), (10, .slice (some _) _ _), (25, .agg _), (26, .int _ _)] ⟨rfl, rfl, rfl, rfl, trivial⟩ fun σ => ?_
    refine gblock ?_
    refine gfrom2 [(26, .int _ _)] [(7, .pointer _), (10, .slice (some _) _ _), (25, .agg _)] ⟨rfl, trivial⟩ ⟨rfl, rfl, rfl, trivial⟩ fun σ => ?_
    refine gloop2 (G := Nat) (fun k => k ≤ 8) (fun k => 8 - k) (fun k => [(26, .int .i64 (k : Int))]) (fun k => [(3, rowl intCells w.heap.size 3 1 (.slice (some ⟨b24, 0, none⟩) 8 8) (((Votes.stateL l tr at_).take k).map Votes.curOf ++ List.replicate (8 - k) 0))]) (0) ?h0 ⟨rfl, trivial⟩ ⟨rfl, rfl, rfl, trivial⟩ rfl ?round
    case h0 => exact Nat.zero_le _
    case round =>
      intro k hφ σ
      have hk : k ≤ 8 := hφ
      refine gT [box b7 _, box b8 _, box b9 _, rowl _ _ _ _ _ _] rfl ?_
      refine gseq fun N9 hN9 => ?_
      refine greg ?_
      refine gop (y_lss rfl rfl) rfl rfl rfl ?_
      refine gops_nil ?_
      refine hN9 _ _ ?_
      refine gfrom [(7, .pointer _), (10, .slice (some _) _ _), (25, .agg _), (26, .int _ _), (27, .bool _)] ⟨rfl, rfl, rfl, rfl, rfl, trivial⟩ fun σ => ?_
      refine gseq fun N10 hN10 => ?_
      refine gcond (b := _) rfl (fun hc27 => ?_) (fun hc27 => ?_)
      · 
        replace hc27 := of_decide_eq_true hc27
        have hk1 : k < (Votes.stateL l tr at_).length := by omega
        refine gskip ?_
        refine hN10 _ _ ?_
        refine gfrom [(7, .pointer _), (10, .slice (some _) _ _), (25, .agg _), (26, .int _ _)] ⟨rfl, rfl, rfl, rfl, trivial⟩ fun σ => ?_
        refine gseq fun N11 hN11 => ?_
        refine gblock ?_
        refine gseq fun N12 hN12 => ?_
        refine greg ?_
        refine gop (y_move (v := .int _ _) rfl) rfl rfl rfl ?_
        refine gop (y_arridx (m := k) (f := Votes.stCells) (l := Votes.stateL l tr at_) (fun _ => rfl) Tryz.underlying136 Tryz.sizeOf135 Tryz.isAgg135 rfl rfl rfl (by omega) (by omega) (List.getElem?_eq_getElem hk1)) rfl rfl rfl ?_
        refine gop_alloc (cs := #[.int .i64 0, .bool false]) Tryz.zeroValue135 rfl rfl (fun b12 hb12 => ?_)
        refine gop (y_assign (v := .int _ _) rfl) rfl rfl rfl ?_
        refine gop_store 4 (v := .agg #[_, _]) (cs' := #[_, _]) rfl rfl Tryz.sizeOf135 rfl rfl rfl rfl (Nat.le_of_ble_eq_true rfl) rfl rfl ?_
        refine gops_nil ?_
        refine hN12 _ _ ?_
        refine gT [box b7 _, box b8 _, box b9 _, rowl _ _ _ _ _ _, box b12 _] rfl ?_
        refine gfrom [(7, .pointer _), (10, .slice (some _) _ _), (11, .int _ _), (12, .pointer _), (25, .agg _), (26, .int _ _)] ⟨rfl, rfl, rfl, rfl, rfl, rfl, trivial⟩ fun σ => ?_
        refine gseq fun N13 hN13 => ?_
        refine greg ?_
        refine gop (y_fieldAddr_box fa135_1 rfl) rfl rfl rfl ?_
        refine gop (y_load Tryz.isAgg4 rfl (cell_box 4 rfl rfl)) rfl rfl rfl ?_
        refine gops_nil ?_
        refine hN13 _ _ ?_
        refine gfrom [(7, .pointer _), (10, .slice (some _) _ _), (11, .int _ _), (12, .pointer _), (25, .agg _), (26, .int _ _), (31, .bool _)] ⟨rfl, rfl, rfl, rfl, rfl, rfl, rfl, trivial⟩ fun σ => ?_
        refine gcond (b := _) rfl (fun hc31 => ?_) (fun hc31 => ?_)
        · 
          refine greg ?_
          refine gop (y_move (v := .slice (some _) _ _) rfl) rfl rfl rfl ?_
          refine gop (y_move (v := .int _ _) rfl) rfl rfl rfl ?_
          refine gop (y_fieldAddr_box fa135_0 rfl) rfl rfl rfl ?_
          refine gop (y_load Tryz.isAgg3 rfl (cell_box 4 rfl rfl)) rfl rfl rfl ?_
          refine gop (y_indexAddr Tryz.underlying74 Tryz.sizeOf3 rfl rfl rfl (by omega) (by omega)) rfl rfl rfl ?_
          refine gop_store_row 3 (f := intCells) (size := 1) (k := k) (o := 0) (v := .int _ _) (a' := Votes.curOf (Votes.stateL l tr at_)[k]) (fun _ => rfl) rfl (by omega) rfl Tryz.sizeOf3 rfl rfl rfl rfl (by simp; omega) (List.getElem?_eq_getElem (show k < _ by simp; omega)) (by omega) (by rw [Votes.curOf, hc31]; rfl) rfl ?_
          refine gops_nil ?_
          refine hN11 _ _ ?_
          refine gT [box b7 _, box b8 _, box b9 _, rowl _ _ _ _ _ _, box b12 _] rfl ?_
          refine gfrom [(7, .pointer _), (10, .slice (some _) _ _), (25, .agg _), (26, .int _ _)] ⟨rfl, rfl, rfl, rfl, trivial⟩ fun σ => ?_
          refine greg ?_
          refine gop (y_add rfl rfl ⟨by omega, by omega⟩) rfl rfl rfl ?_
          refine gop (y_move (v := .int _ _) rfl) rfl rfl rfl ?_
          refine gops_nil ?_
          rw [← map_set Votes.curOf (Votes.stateL l tr at_) k 8 hk1 (by omega) 0]
          refine gnext2 (k + 1) (by omega) (show k + 1 ≤ 8 by omega) ⟨rfl, trivial⟩ ⟨rfl, rfl, rfl, trivial⟩ ⟨_, rfl⟩
        · 
          refine gskip ?_
          refine hN11 _ _ ?_
          refine gfrom [(7, .pointer _), (10, .slice (some _) _ _), (25, .agg _), (26, .int _ _)] ⟨rfl, rfl, rfl, rfl, trivial⟩ fun σ => ?_
          refine greg ?_
          refine gop (y_add rfl rfl ⟨by omega, by omega⟩) rfl rfl rfl ?_
          refine gop (y_move (v := .int _ _) rfl) rfl rfl rfl ?_
          refine gops_nil ?_
          rw [← map_same Votes.curOf (Votes.stateL l tr at_) k 8 hk1 (by omega) 0 (by rw [Votes.curOf, hc31]; rfl)]
          refine gnext2 (k + 1) (by omega) (show k + 1 ≤ 8 by omega) ⟨rfl, trivial⟩ ⟨rfl, rfl, rfl, trivial⟩ ⟨_, rfl⟩
      · 
        replace hc27 := of_decide_eq_false hc27
        refine gexit ?_
        refine hN7 _ _ ?_
        refine gfrom [(7, .pointer _), (10, .slice (some _) _ _)] ⟨rfl, rfl, trivial⟩ fun σ => ?_
        refine gseq fun N14 hN14 => ?_
        refine greg ?_
        refine gop (y_move (v := .slice (some _) _ _) rfl) rfl rfl rfl ?_
        refine gop (y_build (vs := []) (cells := #[.int .i64 0, .int .i64 0]) rfl bd33_) rfl rfl rfl ?_
        refine gop (y_assign (v := .slice (some _) _ _) rfl) rfl rfl rfl ?_
        refine gop_store 0 (v := .agg #[_, _]) (cs' := #[_, _]) rfl rfl Tryz.sizeOf33 rfl rfl rfl rfl (Nat.le_of_ble_eq_true rfl) rfl rfl ?_
        refine gops_nil ?_
        refine hN14 _ _ ?_
        refine gT [box b7 _, box b8 _, box b9 _, rowl _ _ _ _ _ _] rfl ?_
        refine gfrom [(6, .slice (some _) _ _), (7, .pointer _)] ⟨rfl, rfl, trivial⟩ fun σ => ?_
        refine gret fun w1 hM => ?_
        refine ⟨_, res2 rfl (rt (v := .slice (some _) _ _) rfl) (rc 0 (cs := [_, _]) hM rfl rfl Tryz.isAgg33 Tryz.sizeOf33 rfl), ?_⟩
        exact ⟨_, by rw [hc22], hM.low, by rw [hL, ← map_end Votes.curOf (Votes.stateL l tr at_) k 8 (by omega) (by omega) 0]; exact hM.newL 3 rfl (fun _ => rfl)⟩
set_option maxHeartbeats 1000000 in
theorem score_any (w : World) (A : Option Addr) (c : Nat) (l : List Vote) (B : Option Addr) (c2 : Nat) (tr : List Bool) (hv : Rdl w 0 3 voteCells A l) (ht : Rdl w 0 1 boolCells B tr) (hl : l.length ≤ maxLen) (htl : tr.length ≤ maxLen) (hcc : tr.length ≤ c2) (at_ : Int) :
    Calls Tryz.prog 10 #[.slice A l.length c, .slice B tr.length c2, .int .i64 at_] w fun e w' => e = .returned (.tuple #[.int .i64 (Votes.scoreN l tr at_), .bool (Votes.scoreV l tr at_), fv (Votes.stateF l tr at_)]) ∧ Below w.heap.size w w' := by
  have hbd := Votes.curL_bd l tr at_
  have hln := Votes.curL_len l tr at_
  refine gcalls Tryz.func10 rfl Tryz.ntmps10 (Nat.le_of_ble_eq_true rfl) ?_
  refine gfrom [(0, .slice _ _ _), (1, .slice _ _ _), (2, .int _ _)] ⟨rfl, rfl, rfl, trivial⟩ fun σ => ?_
  refine gseq fun N1 hN1 => ?_
  refine greg ?_
  refine gop (y_assign (v := .int _ _) rfl) rfl rfl rfl ?_
  refine gop (y_assign (v := .bool _) rfl) rfl rfl rfl ?_
  refine gop_alloc (cs := #[.int .i64 0, .int .i64 0]) Tryz.zeroValue33 rfl rfl (fun b8 hb8 => ?_)
  refine gops_nil ?_
  refine hN1 _ _ ?_
  refine gT [box b8 _] rfl ?_
  refine gfrom [(0, .slice _ _ _), (1, .slice _ _ _), (2, .int _ _), (8, .pointer _)] ⟨rfl, rfl, rfl, rfl, trivial⟩ fun σ => ?_
  refine gseq fun N2 hN2 => ?_
  refine greg ?_
  refine gop (y_move (v := .slice _ _ _) rfl) rfl rfl rfl ?_
  refine gop (y_move (v := .slice _ _ _) rfl) rfl rfl rfl ?_
  refine gop (y_move (v := .int _ _) rfl) rfl rfl rfl ?_
  refine gop_new (fun lo ws v => ∃ v1, v = .tuple #[v1, fv (Votes.stateF l tr at_)] ∧ NewL 1 intCells (Votes.curL l tr at_) lo ws v1) (e_call (vs := [.slice _ _ _, .slice _ _ _, .int _ _]) Tryz.func34 rfl (by kernel_rfl) rfl) (fun w hM => (current_any w _ _ _ _ _ _ (hv.base hM) (ht.base hM) hl htl hcc _).mono fun _ _ ⟨v, h1, h2, h3⟩ => ⟨_, h1, h2, v, rfl, h3⟩) rfl rfl rfl ?_
  rintro _ lo ws hlo ⟨_, rfl, Ac, cc, rfl, hcc1, -, hcur⟩
  refine gop (y_move (v := .tuple #[.slice _ _ _, .agg #[_, _]]) rfl) rfl rfl rfl ?_
  refine gop (y_extract (v := .slice _ _ _) rfl rfl) rfl rfl rfl ?_
  refine gop (y_extract (v := .agg #[_, _]) rfl rfl) rfl rfl rfl ?_
  refine gop_alloc (cs := #[.int .i64 0, .int .i64 0]) Tryz.zeroValue33 rfl rfl (fun b10 hb10 => ?_)
  refine gop (y_assign (v := .slice _ _ _) rfl) rfl rfl rfl ?_
  refine gop_store 2 (v := .agg #[_, _]) (cs' := #[_, _]) rfl rfl Tryz.sizeOf33 rfl rfl rfl rfl (Nat.le_of_ble_eq_true rfl) rfl rfl ?_
  refine gops_nil ?_
  refine hN2 _ _ ?_
  refine gT [box b8 _, seal_ _ _, box b10 _] rfl ?_
  refine gfrom [(8, .pointer _), (9, .slice _ _ _), (10, .pointer _)] ⟨rfl, rfl, rfl, trivial⟩ fun σ => ?_
  refine gseq fun N3 hN3 => ?_
  refine gseq fun N4 hN4 => ?_
  refine greg ?_
  refine gop (y_loads (cs := [_, _]) Tryz.isAgg33 Tryz.sizeOf33 rfl rfl (cells_box 2 rfl)) rfl rfl rfl ?_
  refine gop (y_build (vs := []) (cells := #[.int .i64 0, .int .i64 0]) rfl bd33_) rfl rfl rfl ?_
  refine gop (y_bin (vx := .agg #[_, _]) (vy := .agg #[_, _]) rfl rfl (fun w => eg33 _ _ _ _ _ w) (fun w => ne33 _ _ _ _ w)) rfl rfl rfl ?_
  refine gops_nil ?_
  refine hN4 _ _ ?_
  refine gfrom [(8, .pointer _), (9, .slice _ _ _), (10, .pointer _), (24, .bool _)] ⟨rfl, rfl, rfl, rfl, trivial⟩ fun σ => ?_
  refine gcond (b := _) rfl (fun hc24 => ?_) (fun hc24 => ?_)
  · 
    replace hc24 := fault_ne.1 hc24
    have hL : Votes.curL l tr at_ = [] := by rw [Votes.curL, if_neg hc24]
    refine gseq fun N5 hN5 => ?_
    refine greg_e1 [] [(0, room b8 33 2)] (by kernel_rfl) ?_
    refine ge_take 0 (TK := [room b8 33 2, seal_ _ _, box b10 _]) rfl (by kernel_rfl) (by kernel_rfl) (by kernel_rfl) #[false, true, true, false] (by kernel_rfl) rfl (y_loads (cs := [_, _]) Tryz.isAgg33 Tryz.sizeOf33 rfl rfl (cells_box 2 rfl)) rfl rfl rfl (weak_room 0 rfl rfl) (listed' := #[true, false, false, false]) rfl ?_
    refine ge_take 1 (TK := [room b8 33 2, seal_ _ _, box b10 _]) rfl (by kernel_rfl) (by kernel_rfl) (by kernel_rfl) #[true, false, false, false] (by kernel_rfl) rfl (y_assign (v := .int _ _) rfl) rfl rfl rfl (weak_room 0 rfl rfl) (listed' := #[true, true, false, false]) rfl ?_
    refine ge_take 2 (TK := [room b8 33 2, seal_ _ _, box b10 _]) rfl (by kernel_rfl) (by kernel_rfl) (by kernel_rfl) #[true, true, false, false] (by kernel_rfl) rfl (y_assign (v := .bool _) rfl) rfl rfl rfl (weak_room 0 rfl rfl) (listed' := #[true, true, true, false]) rfl ?_
    refine ge_one 3 (k' := 0) (listed' := #[true, true, true, true]) (by kernel_rfl) rfl rfl rfl ?_
    refine gop_store 0 (v := .agg #[_, _]) (cs' := #[_, _]) rfl rfl Tryz.sizeOf33 rfl rfl rfl rfl (Nat.le_of_ble_eq_true rfl) rfl rfl ?_
    refine gops_nil ?_
    refine ge_fin (TK := [room b8 33 2, seal_ _ _, box b10 _]) rfl (weak_room 0 rfl rfl) ?_
    refine ge_done (by kernel_rfl) ?_
    refine hN5 _ _ ?_
    refine gT [box b8 _, seal_ _ _, box b10 _] rfl ?_
    refine gfrom [(6, .int _ _), (7, .bool _), (8, .pointer _)] ⟨rfl, rfl, rfl, trivial⟩ fun σ => ?_
    refine gret fun w1 hM => ?_
    refine ⟨_, res3 rfl (rt (v := .int _ _) rfl) (rt (v := .bool _) rfl) (rc 0 (cs := [_, _]) hM rfl rfl Tryz.isAgg33 Tryz.sizeOf33 rfl), ?_⟩
    exact ⟨by rw [Votes.scoreN, Votes.scoreV, hL]; rfl, hM.low⟩
  · 
    replace hc24 := fault_eq.1 hc24
    refine gskip ?_
    refine hN3 _ _ ?_
    refine gfrom [(8, .pointer _), (9, .slice _ _ _)] ⟨rfl, rfl, trivial⟩ fun σ => ?_
    refine gseq fun N6 hN6 => ?_
    refine greg ?_
    refine gop (y_assign (v := .int _ _) rfl) rfl rfl rfl ?_
    refine gop (y_assign (v := .bool _) rfl) rfl rfl rfl ?_
    refine gops_nil ?_
    refine hN6 _ _ ?_
    refine gfrom [(8, .pointer _), (9, .slice _ _ _), (11, .int _ _), (12, .bool _)] ⟨rfl, rfl, rfl, rfl, trivial⟩ fun σ => ?_
    refine gseq fun N7 hN7 => ?_
    refine gseq fun N8 hN8 => ?_
    refine greg ?_
    refine gop (y_move (v := .slice _ _ _) rfl) rfl rfl rfl ?_
    refine gop (y_len Tryz.underlying74 rfl) rfl rfl rfl ?_
    refine gop (y_move (v := .int _ _) rfl) rfl rfl rfl ?_
    refine gops_nil ?_
    refine hN8 _ _ ?_
    refine gfrom [(8, .pointer _), (11, .int _ _), (12, .bool _), (26, .slice _ _ _), (27, .int _ _), (28, .int _ _)] ⟨rfl, rfl, rfl, rfl, rfl, rfl, trivial⟩ fun σ => ?_
    refine gblock ?_
    refine gfrom2 [(11, .int _ _), (12, .bool _), (28, .int _ _)] [(8, .pointer _), (26, .slice _ _ _), (27, .int _ _)] ⟨rfl, rfl, rfl, trivial⟩ ⟨rfl, rfl, rfl, trivial⟩ fun σ => ?_
    refine gloop2 (G := Nat) (fun k => k ≤ (Votes.curL l tr at_).length) (fun k => (Votes.curL l tr at_).length - k) (fun k => [(11, .int .i64 (Votes.isum ((Votes.curL l tr at_).take k))), (12, .bool (((Votes.curL l tr at_).take k).any fun n => decide (n = -2))), (28, .int .i64 (k : Int))]) (fun k => []) (0) ?h0 ⟨rfl, rfl, rfl, trivial⟩ ⟨rfl, rfl, rfl, trivial⟩ rfl ?round
    case h0 => exact Nat.zero_le _
    case round =>
      intro k hφ σ
      have hk := hφ
      refine gseq fun N9 hN9 => ?_
      refine greg ?_
      refine gop (y_lss rfl rfl) rfl rfl rfl ?_
      refine gops_nil ?_
      refine hN9 _ _ ?_
      refine gfrom [(8, .pointer _), (11, .int _ _), (12, .bool _), (26, .slice _ _ _), (27, .int _ _), (28, .int _ _), (29, .bool _)] ⟨rfl, rfl, rfl, rfl, rfl, rfl, rfl, trivial⟩ fun σ => ?_
      refine gseq fun N10 hN10 => ?_
      refine gcond (b := _) rfl (fun hc29 => ?_) (fun hc29 => ?_)
      · 
        replace hc29 := of_decide_eq_true hc29
        have hk1 : k < (Votes.curL l tr at_).length := by omega
        obtain ⟨ad, rfl, hlo2, hcv⟩ := hcur.at_ hk1
        have hb1 := hbd _ (List.getElem_mem hk1)
        have hs1 := Votes.isum_take (Votes.curL l tr at_) k hk1
        have ha1 := any_take (fun n => decide (n = -2)) (Votes.curL l tr at_) k hk1
        have hb2 := Votes.isum_bd (Votes.curL l tr at_) hbd k
        refine gskip ?_
        refine hN10 _ _ ?_
        refine gfrom [(8, .pointer _), (11, .int _ _), (12, .bool _), (26, .slice _ _ _), (27, .int _ _), (28, .int _ _)] ⟨rfl, rfl, rfl, rfl, rfl, rfl, trivial⟩ fun σ => ?_
        refine gseq fun N11 hN11 => ?_
        refine gblock ?_
        refine gseq fun N12 hN12 => ?_
        refine greg ?_
        refine gop (y_indexAddr Tryz.underlying74 Tryz.sizeOf3 rfl rfl rfl (by omega) (by omega)) rfl rfl rfl ?_
        refine gop (y_load Tryz.isAgg3 rfl (cell_seal 1 rfl (by rw [block_add]; exact hlo2) (hcv 0 _ rfl))) rfl rfl rfl ?_
        refine gop (y_assign (v := .int _ _) rfl) rfl rfl rfl ?_
        refine gops_nil ?_
        refine hN12 _ _ ?_
        refine gfrom [(8, .pointer _), (11, .int _ _), (12, .bool _), (14, .int _ _), (26, .slice _ _ _), (27, .int _ _), (28, .int _ _)] ⟨rfl, rfl, rfl, rfl, rfl, rfl, rfl, trivial⟩ fun σ => ?_
        refine gseq fun N13 hN13 => ?_
        refine greg ?_
        refine gop (y_move (v := .int _ _) rfl) rfl rfl rfl ?_
        refine gop (y_move (v := .int _ _) rfl) rfl rfl rfl ?_
        refine gop (y_add rfl rfl ⟨by omega, by omega⟩) rfl rfl rfl ?_
        refine gop (y_assign (v := .int _ _) rfl) rfl rfl rfl ?_
        refine gops_nil ?_
        refine hN13 _ _ ?_
        refine gfrom [(8, .pointer _), (11, .int _ _), (12, .bool _), (14, .int _ _), (26, .slice _ _ _), (27, .int _ _), (28, .int _ _)] ⟨rfl, rfl, rfl, rfl, rfl, rfl, rfl, trivial⟩ fun σ => ?_
        refine greg ?_
        refine gop (y_move (v := .bool _) rfl) rfl rfl rfl ?_
        refine gop (y_move (v := .bool _) rfl) rfl rfl rfl ?_
        refine gop_if (want := false) rfl rfl rfl rfl rfl rfl (fun hg36 => ?_) (fun hg36 => ?_)
        · 
          have hg36d := hg36
          refine gop (y_bare (y_move (v := .int _ _) rfl)) rfl rfl rfl ?_
          refine gop_on rfl rfl rfl rfl hg36 ?_
          refine gop (y_bare (y_eql rfl rfl)) rfl rfl rfl ?_
          refine gop (y_pick_f (v := .bool _) rfl hg36 rfl) rfl rfl rfl ?_
          refine gop (y_assign (v := .bool _) rfl) rfl rfl rfl ?_
          refine gops_nil ?_
          refine hN11 _ _ ?_
          refine gfrom [(8, .pointer _), (11, .int _ _), (12, .bool _), (26, .slice _ _ _), (27, .int _ _), (28, .int _ _)] ⟨rfl, rfl, rfl, rfl, rfl, rfl, trivial⟩ fun σ => ?_
          refine greg ?_
          refine gop (y_add rfl rfl ⟨by omega, by omega⟩) rfl rfl rfl ?_
          refine gop (y_move (v := .int _ _) rfl) rfl rfl rfl ?_
          refine gops_nil ?_
          refine gnext2 (k + 1) (by omega) (show k + 1 ≤ _ by omega) ⟨(congrArg (Value.int .i64) hs1.symm), (congrArg Value.bool (by rw [ha1, hg36d]; rfl)), rfl, trivial⟩ ⟨rfl, rfl, rfl, trivial⟩ ⟨_, rfl⟩
        · 
          have hg36d := hg36
          refine gop_off rfl rfl rfl rfl hg36 rfl rfl ?_
          refine gop (y_pick_t (v := .bool _) rfl hg36 rfl) rfl rfl rfl ?_
          refine gop (y_assign (v := .bool _) rfl) rfl rfl rfl ?_
          refine gops_nil ?_
          refine hN11 _ _ ?_
          refine gfrom [(8, .pointer _), (11, .int _ _), (12, .bool _), (26, .slice _ _ _), (27, .int _ _), (28, .int _ _)] ⟨rfl, rfl, rfl, rfl, rfl, rfl, trivial⟩ fun σ => ?_
          refine greg ?_
          refine gop (y_add rfl rfl ⟨by omega, by omega⟩) rfl rfl rfl ?_
          refine gop (y_move (v := .int _ _) rfl) rfl rfl rfl ?_
          refine gops_nil ?_
          refine gnext2 (k + 1) (by omega) (show k + 1 ≤ _ by omega) ⟨(congrArg (Value.int .i64) hs1.symm), (congrArg Value.bool (by rw [ha1, hg36d]; rfl)), rfl, trivial⟩ ⟨rfl, rfl, rfl, trivial⟩ ⟨_, rfl⟩
      · 
        replace hc29 := of_decide_eq_false hc29
        refine gexit ?_
        refine hN7 _ _ ?_
        refine gfrom [(8, .pointer _), (11, .int _ _), (12, .bool _)] ⟨rfl, rfl, rfl, trivial⟩ fun σ => ?_
        refine gseq fun N14 hN14 => ?_
        refine greg ?_
        refine gop (y_move (v := .int _ _) rfl) rfl rfl rfl ?_
        refine gop (y_move (v := .bool _) rfl) rfl rfl rfl ?_
        refine gop (y_build (vs := []) (cells := #[.int .i64 0, .int .i64 0]) rfl bd33_) rfl rfl rfl ?_
        refine gop (y_assign (v := .int _ _) rfl) rfl rfl rfl ?_
        refine gop (y_assign (v := .bool _) rfl) rfl rfl rfl ?_
        refine gop_store 0 (v := .agg #[_, _]) (cs' := #[_, _]) rfl rfl Tryz.sizeOf33 rfl rfl rfl rfl (Nat.le_of_ble_eq_true rfl) rfl rfl ?_
        refine gops_nil ?_
        refine hN14 _ _ ?_
        refine gT [box b8 _, seal_ _ _, box b10 _] rfl ?_
        refine gfrom [(6, .int _ _), (7, .bool _), (8, .pointer _)] ⟨rfl, rfl, rfl, trivial⟩ fun σ => ?_
        refine gret fun w1 hM => ?_
        refine ⟨_, res3 rfl (rt (v := .int _ _) rfl) (rt (v := .bool _) rfl) (rc 0 (cs := [_, _]) hM rfl rfl Tryz.isAgg33 Tryz.sizeOf33 rfl), ?_⟩
        have hall := List.take_of_length_le (l := Votes.curL l tr at_) (i := k) (by omega)
        exact ⟨by rw [hall, hc24]; rfl, hM.low⟩
end Go.Proofs.YtbkameioedmlkaaGreatDoor
namespace Go.Proofs.YtbkameioedmlkaaGreatDoor
open Go.RowKit Go.Cf
set_option maxRecDepth 10000
theorem bd29_0_1_3_4 (x1 : Int) (x2 : Int) (x3 : Int) (x4 : ByteArray) : Tryz.prog.built 29 [(0, .int .i64 x1), (1, .int .i64 x2), (3, .int .i64 x3), (4, .string x4)] = some #[.int .i64 x1, .int .i64 x2, .int .i64 0, .int .i64 x3, .string x4, .slice none 0 0] := by kernel_rfl
theorem bd92_2 (x1 : Option Addr) (x1l x1c : Nat) : Tryz.prog.built 92 [(2, .slice x1 x1l x1c)] = some #[.int .i64 0, .slice none 0 0, .slice x1 x1l x1c] := by kernel_rfl
theorem bd27_0 (x1 : Option Addr) (x1l x1c : Nat) : Tryz.prog.built 27 [(0, .slice x1 x1l x1c)] = some #[.slice x1 x1l x1c] := by kernel_rfl
theorem bd61_  : Tryz.prog.built 61 [] = some #[.slice none 0 0] := by kernel_rfl
theorem bd51_2 (x1 : Int) : Tryz.prog.built 51 [(2, .int .i64 x1)] = some #[.int .i64 0, .int .i64 0, .int .i64 x1] := by kernel_rfl
set_option maxHeartbeats 16000000 in
theorem nReviews_any (w : World) (hL : LaidP w) : Calls Tryz.prog 7 #[] w fun e w' => e = .returned (.bool true) ∧ Below w.heap.size w w' := by
  refine gcalls Tryz.func7 rfl Tryz.ntmps7 (Nat.le_of_ble_eq_true rfl) ?_
  refine gfrom [] trivial fun σ => ?_
  refine gseq fun N1 hN1 => ?_
  refine greg ?_
  refine gop (y_assign (v := .bool _) rfl) rfl rfl rfl ?_
  refine gops_nil ?_
  refine hN1 _ _ ?_
  refine gfrom [] trivial fun σ => ?_
  refine gseq fun N2 hN2 => ?_
  refine greg ?_
  refine gop (y_build (vs := [(0, _), (1, _), (3, _), (4, _)]) (cells := #[_, _, .int .i64 0, _, _, .slice none 0 0]) rfl (bd29_0_1_3_4 _ _ _ _)) rfl rfl rfl ?_
  refine gop_lit (vs := [.agg #[_, _, _, _, _, _]]) (cells := #[_, _, _, _, _, _]) Tryz.underlying30 Tryz.sizeOf29 Tryz.zeroValue29 rfl (by decide) (by decide) rfl rfl rfl rfl (fun b16 hb16 => ?_)
  refine gop (y_assign (v := .slice (some _) _ _) rfl) rfl rfl rfl ?_
  refine gops_nil ?_
  refine hN2 _ _ ?_
  refine gT [box b16 _] rfl ?_
  refine gfrom [(1, .slice (some _) _ _)] ⟨rfl, trivial⟩ fun σ => ?_
  refine gseq fun N3 hN3 => ?_
  refine greg ?_
  refine gop_lit (vs := [.string _]) (cells := #[_]) Tryz.underlying22 Tryz.sizeOf9 Tryz.zeroValue9 rfl (by decide) (by decide) rfl rfl rfl rfl (fun b18 hb18 => ?_)
  refine gop (y_move (v := .slice (some _) _ _) rfl) rfl rfl rfl ?_
  refine gop_new (fun lo ws v => ∃ v1 v2, v = .tuple #[v1, v2, fv ⟨0, 0⟩] ∧ NewL 5 thrCells [⟨1, 0, 1, false, false⟩] lo ws v1 ∧ NewL 1 strCells [xA] lo ws v2) (e_call (vs := [.slice (some _) _ _, .slice (some _) _ _]) Tryz.func8 rfl (by kernel_rfl) rfl) (fun w hM => by have he : EvsR w 0 (some ⟨b16, 0, none⟩) [⟨1, 1, 0, 0, nWhy, none, 0, []⟩] := ⟨((Rdl.of_box 0 (f := evCells) (fun _ => rfl) hM rfl rfl).mono (Nat.zero_le _)), fun e he => (by obtain rfl := List.mem_singleton.1 he; exact ⟨PatR.nil⟩)⟩; have hc := run_any w (some ⟨b18, 0, none⟩) 1 [xA] ((Rdl.of_box 1 (f := strCells) (fun _ => rfl) hM rfl rfl).mono (Nat.zero_le _)) (SB.lit 1 (by decide) (by decide)) (some ⟨b16, 0, none⟩) 1 [⟨1, 1, 0, 0, nWhy, none, 0, []⟩] he (by simp [maxLen]); rw [show runV [xA] (evs [⟨1, 1, 0, 0, nWhy, none, 0, []⟩]) = _ from nex_run] at hc; exact hc.mono fun _ _ ⟨v1, v2, h1, h2, h3, h4⟩ => ⟨_, h1, h2, v1, v2, rfl, h3, h4⟩) rfl rfl rfl ?_
  rintro _ lo20 ws20 hlo20 ⟨_, _, rfl, ⟨A20, c20, rfl, hcc20, hcm20, hr20⟩, ⟨B20, d20, rfl, hdc20, hdm20, hq20⟩⟩
  refine gop (y_move (v := .tuple #[.slice _ _ _, .slice _ _ _, .agg #[_, _]]) rfl) rfl rfl rfl ?_
  refine gop (y_extract (v := .slice _ _ _) rfl rfl) rfl rfl rfl ?_
  refine gop (y_extract (v := .slice _ _ _) rfl rfl) rfl rfl rfl ?_
  refine gop (y_extract (v := .agg #[_, _]) rfl rfl) rfl rfl rfl ?_
  refine gop_alloc (cs := #[.int .i64 0, .int .i64 0]) Tryz.zeroValue33 rfl rfl (fun b4 hb4 => ?_)
  refine gop (y_assign (v := .slice _ _ _) rfl) rfl rfl rfl ?_
  refine gop (y_assign (v := .slice _ _ _) rfl) rfl rfl rfl ?_
  refine gop_store 3 (v := .agg #[_, _]) (cs' := #[_, _]) rfl rfl Tryz.sizeOf33 rfl rfl rfl rfl (Nat.le_of_ble_eq_true rfl) rfl rfl ?_
  refine gops_nil ?_
  refine hN3 _ _ ?_
  refine gT [box b16 _, box b18 _, seal_ _ _, box b4 _] rfl ?_
  refine gfrom [(2, .slice _ _ _), (4, .pointer _)] ⟨rfl, rfl, trivial⟩ fun σ => ?_
  refine gseq fun N4 hN4 => ?_
  refine greg ?_
  refine gop_lit (vs := [.string _]) (cells := #[_]) Tryz.underlying22 Tryz.sizeOf9 Tryz.zeroValue9 rfl (by decide) (by decide) rfl rfl rfl rfl (fun b25 hb25 => ?_)
  refine gop (y_build (vs := [(2, .slice (some _) _ _)]) (cells := #[.int .i64 0, .slice none 0 0, _]) rfl (bd92_2 _ _ _)) rfl rfl rfl ?_
  refine gop_lit (vs := [.agg #[_, _, _]]) (cells := #[_, _, _]) Tryz.underlying25 Tryz.sizeOf92 Tryz.zeroValue92 rfl (by decide) (by decide) rfl rfl rfl rfl (fun b27 hb27 => ?_)
  refine gop (y_build (vs := [(0, .slice (some _) _ _)]) (cells := #[_]) rfl (bd27_0 _ _ _)) rfl rfl rfl ?_
  refine gop_lit (vs := [.agg #[_]]) (cells := #[_]) Tryz.underlying23 Tryz.sizeOf27 Tryz.zeroValue27 rfl (by decide) (by decide) rfl rfl rfl rfl (fun b29 hb29 => ?_)
  refine gop_pure (e_call (vs := [.slice (some _) _ _, _]) Tryz.func9 rfl (by kernel_rfl) rfl) (fun w hM => by have hp : PatsR w 0 (some ⟨b29, 0, none⟩) [⟨some ⟨b27, 0, none⟩, 1, [⟨⟨0, [], [nX]⟩, none, 0, some ⟨b25, 0, none⟩, 1⟩]⟩] := ⟨((Rdl.of_box 6 (f := patCells) (fun _ => rfl) hM rfl rfl).mono (Nat.zero_le _)), fun p hp => (by obtain rfl := List.mem_singleton.1 hp; exact ⟨((Rdl.of_box 5 (f := hunkCells) (fun _ => rfl) hM rfl rfl).mono (Nat.zero_le _)), fun h hh => (by obtain rfl := List.mem_singleton.1 hh; exact ⟨Rdl.nil, ((Rdl.of_box 4 (f := strCells) (fun _ => rfl) hM rfl rfl).mono (Nat.zero_le _)), SB.none _, SB.lit 1 (by decide) (by decide), (by show In64 0; unfold In64; decide)⟩), SB.lit 1 (by decide) (by decide)⟩)⟩; have hc := through_any w (some ⟨b29, 0, none⟩) 1 [⟨some ⟨b27, 0, none⟩, 1, [⟨⟨0, [], [nX]⟩, none, 0, some ⟨b25, 0, none⟩, 1⟩]⟩] hp (by simp [maxLen]) 0; rw [show throughV (List.map PatC.pl [⟨some ⟨b27, 0, none⟩, 1, [⟨⟨0, [], [nX]⟩, none, 0, some ⟨b25, 0, none⟩, 1⟩]⟩]) 0 = _ from nex_thr, show throughF (List.map PatC.pl [⟨some ⟨b27, 0, none⟩, 1, [⟨⟨0, [], [nX]⟩, none, 0, some ⟨b25, 0, none⟩, 1⟩]⟩]) 0 = _ from nex_thrF] at hc; exact hc) rfl rfl rfl ?_
  refine gop (y_move (v := .tuple #[.int _ _, .int _ _, .agg #[_, _]]) rfl) rfl rfl rfl ?_
  refine gop (y_extract (v := .int _ _) rfl rfl) rfl rfl rfl ?_
  refine gop (y_extract (v := .int _ _) rfl rfl) rfl rfl rfl ?_
  refine gop (y_extract (v := .agg #[_, _]) rfl rfl) rfl rfl rfl ?_
  refine gop_alloc (cs := #[.int .i64 0, .int .i64 0]) Tryz.zeroValue33 rfl rfl (fun b7 hb7 => ?_)
  refine gop (y_assign (v := .int _ _) rfl) rfl rfl rfl ?_
  refine gop (y_assign (v := .int _ _) rfl) rfl rfl rfl ?_
  refine gop_store 7 (v := .agg #[_, _]) (cs' := #[_, _]) rfl rfl Tryz.sizeOf33 rfl rfl rfl rfl (Nat.le_of_ble_eq_true rfl) rfl rfl ?_
  refine gops_nil ?_
  refine hN4 _ _ ?_
  refine gT [box b16 _, box b18 _, seal_ _ _, box b4 _, box b25 _, box b27 _, box b29 _, box b7 _] rfl ?_
  refine gfrom [(2, .slice _ _ _), (4, .pointer _), (5, .int _ _), (6, .int _ _), (7, .pointer _)] ⟨rfl, rfl, rfl, rfl, rfl, trivial⟩ fun σ => ?_
  refine gseq fun N5 hN5 => ?_
  refine greg ?_
  refine gop (y_build (vs := []) (cells := #[.slice none 0 0]) rfl bd61_) rfl rfl rfl ?_
  refine gop_lit (vs := [.string _]) (cells := #[_]) Tryz.underlying22 Tryz.sizeOf9 Tryz.zeroValue9 rfl (by decide) (by decide) rfl rfl rfl rfl (fun b36 hb36 => ?_)
  refine gop_got (fun v T' => ∃ lo u, v = .tuple #[u, fv ⟨0, 0⟩] ∧ w.heap.size ≤ lo ∧ T' = [rowl apprCells lo 70 3 (u) ([⟨1, xA, -1⟩])]) (e_call (vs := [.agg #[_], _, .slice (some _) _ _]) Tryz.func26 rfl (by kernel_rfl) rfl) (fun w hM => by have h0 : TreeR w 0 none 0 [] := ⟨Rdl.nil, fun _ h => (by cases h), ⟨Nat.le_refl _, Nat.zero_le _, fun _ => rfl, by decide⟩⟩; have hp : Rdl w 0 1 strCells (some ⟨b36, 0, none⟩) [xA] := ((Rdl.of_box 8 (f := strCells) (fun _ => rfl) hM rfl rfl).mono (Nat.zero_le _)); have hc : Calls Tryz.prog 26 #[.agg #[.slice none 0 0], .int .i64 1, .slice (some ⟨b36, 0, none⟩) 1 1] w fun e w' => ∃ v T', e = .returned (.tuple #[v, fv (approveF [] 1 [xA])]) ∧ T' = [rowl apprCells w.heap.size 70 3 (v) (approveV [] 1 [xA])] ∧ Mem w T' w' := approve_any w none 0 [] h0 1 _ 1 [xA] hp (Nat.le_refl _) (by simp [maxLen]); rw [nex_app, nex_apl] at hc; exact hc.mono fun _ _ ⟨v, T1, h1, h2, h3⟩ => ⟨_, T1, h1, ⟨_, v, rfl, hM.low.size, h2⟩, h3⟩) rfl rfl rfl ?_
  rintro _ _ ⟨lo37, u37, rfl, hlo37, rfl⟩
  refine gops_fact (fun w hM => row_form (hM.ok _ (List.mem_of_getElem? (i := 9) rfl))) ?_
  rintro ⟨A37, c37, rfl, hc37, hm37, hn37⟩
  refine gop (y_move (v := .tuple #[.slice A37 _ c37, .agg #[_, _]]) rfl) rfl rfl rfl ?_
  refine gop (y_extract (v := .slice _ _ _) rfl rfl) rfl rfl rfl ?_
  refine gop (y_extract (v := .agg #[_, _]) rfl rfl) rfl rfl rfl ?_
  refine gop_alloc (cs := #[.int .i64 0, .int .i64 0]) Tryz.zeroValue33 rfl rfl (fun b9 hb9 => ?_)
  refine gop (y_assign (v := .slice _ _ _) rfl) rfl rfl rfl ?_
  refine gop_store 10 (v := .agg #[_, _]) (cs' := #[_, _]) rfl rfl Tryz.sizeOf33 rfl rfl rfl rfl (Nat.le_of_ble_eq_true rfl) rfl rfl ?_
  refine gops_nil ?_
  refine hN5 _ _ ?_
  refine gT [box b16 _, box b18 _, seal_ _ _, box b4 _, box b25 _, box b27 _, box b29 _, box b7 _, box b36 _, rowl _ _ _ _ _ _, box b9 _] rfl ?_
  refine gfrom [(2, .slice _ _ _), (4, .pointer _), (5, .int _ _), (6, .int _ _), (7, .pointer _), (8, .slice _ _ _), (9, .pointer _)] ⟨rfl, rfl, rfl, rfl, rfl, rfl, rfl, trivial⟩ fun σ => ?_
  refine gseq fun N6 hN6 => ?_
  refine greg ?_
  refine gop_new (fun lo ws v => ∃ v1, v = .tuple #[.agg #[v1], fv ⟨0, 0⟩] ∧ NewL 4 pnCells (parR nOwn).2 lo ws v1) (e_call (vs := [_]) Tryz.func27 rfl (by kernel_rfl) rfl) (fun w hM => by have hc := polParse_any w nOwn (hL.base hM) (by decide); rw [nex_par] at hc; exact hc.mono fun _ _ ⟨v1, h1, h2, h3⟩ => ⟨_, h1, h2, v1, rfl, h3⟩) rfl rfl rfl ?_
  rintro _ lo41 ws41 hlo41 ⟨_, rfl, A41, c41, rfl, hcc41, hcm41, hr41⟩
  refine gop (y_move (v := .tuple #[.agg #[.slice _ _ _], .agg #[_, _]]) rfl) rfl rfl rfl ?_
  refine gop (y_extract (v := .agg #[_]) rfl rfl) rfl rfl rfl ?_
  refine gop (y_extract (v := .agg #[_, _]) rfl rfl) rfl rfl rfl ?_
  refine gop_alloc (cs := #[.slice none 0 0]) Tryz.zeroValue43 rfl rfl (fun b10 hb10 => ?_)
  refine gop_alloc (cs := #[.int .i64 0, .int .i64 0]) Tryz.zeroValue33 rfl rfl (fun b11 hb11 => ?_)
  refine gop_store 12 (v := .agg #[_]) (cs' := #[_]) rfl rfl Tryz.sizeOf43 rfl rfl rfl rfl (Nat.le_of_ble_eq_true rfl) rfl rfl ?_
  refine gop_store 13 (v := .agg #[_, _]) (cs' := #[_, _]) rfl rfl Tryz.sizeOf33 rfl rfl rfl rfl (Nat.le_of_ble_eq_true rfl) rfl rfl ?_
  refine gops_nil ?_
  refine hN6 _ _ ?_
  refine gT [box b16 _, box b18 _, seal_ _ _, box b4 _, box b25 _, box b27 _, box b29 _, box b7 _, box b36 _, rowl _ _ _ _ _ _, box b9 _, seal_ _ _, box b10 _, box b11 _] rfl ?_
  refine gfrom [(2, .slice _ _ _), (4, .pointer _), (5, .int _ _), (6, .int _ _), (7, .pointer _), (8, .slice _ _ _), (9, .pointer _), (10, .pointer _), (11, .pointer _)] ⟨rfl, rfl, rfl, rfl, rfl, rfl, rfl, rfl, rfl, trivial⟩ fun σ => ?_
  refine gseq fun N7 hN7 => ?_
  refine greg ?_
  refine gop (y_build (vs := [(2, _)]) (cells := #[.int .i64 0, .int .i64 0, _]) rfl (bd51_2 _)) rfl rfl rfl ?_
  refine gop_lit (vs := [.agg #[_, _, _]]) (cells := #[_, _, _]) Tryz.underlying49 Tryz.sizeOf51 Tryz.zeroValue51 rfl (by decide) (by decide) rfl rfl rfl rfl (fun b46 hb46 => ?_)
  refine gop_lit (vs := [.bool _]) (cells := #[_]) Tryz.underlying46 Tryz.sizeOf4 Tryz.zeroValue4 rfl (by decide) (by decide) rfl rfl rfl rfl (fun b47 hb47 => ?_)
  refine gop_pure (e_call (vs := [.slice (some _) _ _, .slice (some _) _ _, _]) Tryz.func10 rfl (by kernel_rfl) rfl) (fun w hM => by have hc := score_any w (some ⟨b46, 0, none⟩) 1 [⟨0, 0, 2⟩] (some ⟨b47, 0, none⟩) 1 [false] ((Rdl.of_box 14 (f := voteCells) (fun _ => rfl) hM rfl rfl).mono (Nat.zero_le _)) ((Rdl.of_box 15 (f := boolCells) (fun _ => rfl) hM rfl rfl).mono (Nat.zero_le _)) (by simp [maxLen]) (by simp [maxLen]) (Nat.le_refl _) 0; rw [nex_sc, nex_sv, nex_sf] at hc; exact hc) rfl rfl rfl ?_
  refine gop (y_move (v := .tuple #[.int _ _, .bool _, .agg #[_, _]]) rfl) rfl rfl rfl ?_
  refine gop (y_extract (v := .int _ _) rfl rfl) rfl rfl rfl ?_
  refine gop (y_extract (v := .bool _) rfl rfl) rfl rfl rfl ?_
  refine gop (y_extract (v := .agg #[_, _]) rfl rfl) rfl rfl rfl ?_
  refine gop_alloc (cs := #[.int .i64 0, .int .i64 0]) Tryz.zeroValue33 rfl rfl (fun b14 hb14 => ?_)
  refine gop (y_assign (v := .int _ _) rfl) rfl rfl rfl ?_
  refine gop (y_assign (v := .bool _) rfl) rfl rfl rfl ?_
  refine gop_store 16 (v := .agg #[_, _]) (cs' := #[_, _]) rfl rfl Tryz.sizeOf33 rfl rfl rfl rfl (Nat.le_of_ble_eq_true rfl) rfl rfl ?_
  refine gops_nil ?_
  refine hN7 _ _ ?_
  refine gT [box b16 _, box b18 _, seal_ _ _, box b4 _, box b25 _, box b27 _, box b29 _, box b7 _, box b36 _, rowl _ _ _ _ _ _, box b9 _, seal_ _ _, box b10 _, box b11 _, box b46 _, box b47 _, box b14 _] rfl ?_
  refine gfrom [(2, .slice _ _ _), (4, .pointer _), (5, .int _ _), (6, .int _ _), (7, .pointer _), (8, .slice _ _ _), (9, .pointer _), (10, .pointer _), (11, .pointer _), (12, .int _ _), (13, .bool _), (14, .pointer _)] ⟨rfl, rfl, rfl, rfl, rfl, rfl, rfl, rfl, rfl, rfl, rfl, rfl, trivial⟩ fun σ => ?_
  refine gseq fun N8 hN8 => ?_
  refine greg ?_
  refine gop (y_fieldAddr_box fa33_0 rfl) rfl rfl rfl ?_
  refine gop (y_load Tryz.isAgg3 rfl (cell_box 3 rfl rfl)) rfl rfl rfl ?_
  refine gop (y_eql rfl rfl) rfl rfl rfl ?_
  refine gop (y_move (v := .bool _) rfl) rfl rfl rfl ?_
  refine gop_if (want := true) rfl rfl rfl rfl rfl rfl (fun hg55 => ?_) (fun hg55 => ?_)
  · 
    have hg55d := of_decide_eq_true hg55
    refine gop (y_bare (y_fieldAddr_box fa33_0 rfl)) rfl rfl rfl ?_
    refine gop_on rfl rfl rfl rfl hg55 ?_
    refine gop (y_bare (y_load Tryz.isAgg3 rfl (cell_box 7 rfl rfl))) rfl rfl rfl ?_
    refine gop_on rfl rfl rfl rfl hg55 ?_
    refine gop (y_bare (y_eql rfl rfl)) rfl rfl rfl ?_
    refine gop (y_pick_t (v := .bool _) rfl hg55 rfl) rfl rfl rfl ?_
    refine gop (y_move (v := .bool _) rfl) rfl rfl rfl ?_
    refine gop_if (want := true) rfl rfl rfl rfl rfl rfl (fun hg60 => ?_) (fun hg60 => ?_)
    · 
      have hg60d := of_decide_eq_true hg60
      refine gop (y_bare (y_fieldAddr_box fa33_0 rfl)) rfl rfl rfl ?_
      refine gop_on rfl rfl rfl rfl hg60 ?_
      refine gop (y_bare (y_load Tryz.isAgg3 rfl (cell_box 10 rfl rfl))) rfl rfl rfl ?_
      refine gop_on rfl rfl rfl rfl hg60 ?_
      refine gop (y_bare (y_eql rfl rfl)) rfl rfl rfl ?_
      refine gop (y_pick_t (v := .bool _) rfl hg60 rfl) rfl rfl rfl ?_
      refine gop (y_move (v := .bool _) rfl) rfl rfl rfl ?_
      refine gop_if (want := true) rfl rfl rfl rfl rfl rfl (fun hg65 => ?_) (fun hg65 => ?_)
      · 
        have hg65d := of_decide_eq_true hg65
        refine gop (y_bare (y_fieldAddr_box fa33_0 rfl)) rfl rfl rfl ?_
        refine gop_on rfl rfl rfl rfl hg65 ?_
        refine gop (y_bare (y_load Tryz.isAgg3 rfl (cell_box 13 rfl rfl))) rfl rfl rfl ?_
        refine gop_on rfl rfl rfl rfl hg65 ?_
        refine gop (y_bare (y_eql rfl rfl)) rfl rfl rfl ?_
        refine gop (y_pick_t (v := .bool _) rfl hg65 rfl) rfl rfl rfl ?_
        refine gop (y_move (v := .bool _) rfl) rfl rfl rfl ?_
        refine gop_if (want := true) rfl rfl rfl rfl rfl rfl (fun hg70 => ?_) (fun hg70 => ?_)
        · 
          have hg70d := of_decide_eq_true hg70
          refine gop (y_bare (y_fieldAddr_box fa33_0 rfl)) rfl rfl rfl ?_
          refine gop_on rfl rfl rfl rfl hg70 ?_
          refine gop (y_bare (y_load Tryz.isAgg3 rfl (cell_box 16 rfl rfl))) rfl rfl rfl ?_
          refine gop_on rfl rfl rfl rfl hg70 ?_
          refine gop (y_bare (y_eql rfl rfl)) rfl rfl rfl ?_
          refine gop (y_pick_t (v := .bool _) rfl hg70 rfl) rfl rfl rfl ?_
          refine gop (y_move (v := .bool _) rfl) rfl rfl rfl ?_
          refine gop_if (want := true) rfl rfl rfl rfl rfl rfl (fun hg75 => ?_) (fun hg75 => ?_)
          · 
            have hg75d := of_decide_eq_true hg75
            refine gop (y_bare (y_move (v := .slice _ _ _) rfl)) rfl rfl rfl ?_
            refine gop_on rfl rfl rfl rfl hg75 ?_
            refine gop (y_bare (y_len Tryz.underlying31 rfl)) rfl rfl rfl ?_
            refine gop_on rfl rfl rfl rfl hg75 ?_
            refine gop (y_bare (y_eql rfl rfl)) rfl rfl rfl ?_
            refine gop (y_pick_t (v := .bool _) rfl hg75 rfl) rfl rfl rfl ?_
            refine gop (y_move (v := .bool _) rfl) rfl rfl rfl ?_
            refine gop_if (want := true) rfl rfl rfl rfl rfl rfl (fun hg80 => ?_) (fun hg80 => ?_)
            · 
              have hg80d := of_decide_eq_true hg80
              refine gop (y_bare (y_move (v := .int _ _) rfl)) rfl rfl rfl ?_
              refine gop_on rfl rfl rfl rfl hg80 ?_
              refine gop (y_bare (y_eql rfl rfl)) rfl rfl rfl ?_
              refine gop (y_pick_t (v := .bool _) rfl hg80 rfl) rfl rfl rfl ?_
              refine gop (y_move (v := .bool _) rfl) rfl rfl rfl ?_
              refine gop_if (want := true) rfl rfl rfl rfl rfl rfl (fun hg84 => ?_) (fun hg84 => ?_)
              · 
                have hg84d := of_decide_eq_true hg84
                refine gop (y_bare (y_move (v := .int _ _) rfl)) rfl rfl rfl ?_
                refine gop_on rfl rfl rfl rfl hg84 ?_
                refine gop (y_bare (y_eql rfl rfl)) rfl rfl rfl ?_
                refine gop (y_pick_t (v := .bool _) rfl hg84 rfl) rfl rfl rfl ?_
                refine gop (y_move (v := .bool _) rfl) rfl rfl rfl ?_
                refine gop_if (want := true) rfl rfl rfl rfl rfl rfl (fun hg88 => ?_) (fun hg88 => ?_)
                · 
                  have hg88d := of_decide_eq_true hg88
                  refine gop (y_bare (y_move (v := .slice _ _ _) rfl)) rfl rfl rfl ?_
                  refine gop_on rfl rfl rfl rfl hg88 ?_
                  refine gop (y_bare (y_len Tryz.underlying58 rfl)) rfl rfl rfl ?_
                  refine gop_on rfl rfl rfl rfl hg88 ?_
                  refine gop (y_bare (y_eql rfl rfl)) rfl rfl rfl ?_
                  refine gop (y_pick_t (v := .bool _) rfl hg88 rfl) rfl rfl rfl ?_
                  refine gop (y_move (v := .bool _) rfl) rfl rfl rfl ?_
                  refine gop_if (want := true) rfl rfl rfl rfl rfl rfl (fun hg93 => ?_) (fun hg93 => ?_)
                  · 
                    have hg93d := of_decide_eq_true hg93
                    refine gop (y_bare (y_fieldAddr_box fa43_0 rfl)) rfl rfl rfl ?_
                    refine gop_on rfl rfl rfl rfl hg93 ?_
                    refine gop (y_bare (y_load Tryz.isAgg41 rfl (cell_box 12 rfl rfl))) rfl rfl rfl ?_
                    refine gop_on rfl rfl rfl rfl hg93 ?_
                    refine gop (y_bare (y_len Tryz.underlying41 rfl)) rfl rfl rfl ?_
                    refine gop_on rfl rfl rfl rfl hg93 ?_
                    refine gop (y_bare (y_eql rfl rfl)) rfl rfl rfl ?_
                    refine gop (y_pick_t (v := .bool _) rfl hg93 rfl) rfl rfl rfl ?_
                    refine gop (y_move (v := .bool _) rfl) rfl rfl rfl ?_
                    refine gop_if (want := true) rfl rfl rfl rfl rfl rfl (fun hg99 => ?_) (fun hg99 => ?_)
                    · 
                      have hg99d := of_decide_eq_true hg99
                      refine gop (y_bare (y_move (v := .int _ _) rfl)) rfl rfl rfl ?_
                      refine gop_on rfl rfl rfl rfl hg99 ?_
                      refine gop (y_bare (y_eql rfl rfl)) rfl rfl rfl ?_
                      refine gop (y_pick_t (v := .bool _) rfl hg99 rfl) rfl rfl rfl ?_
                      refine gop (y_move (v := .bool _) rfl) rfl rfl rfl ?_
                      refine gop_if (want := true) rfl rfl rfl rfl rfl rfl (fun hg103 => ?_) (fun hg103 => ?_)
                      · 
                        have hg103d := of_decide_eq_true hg103
                        refine gop (y_bare (y_move (v := .bool _) rfl)) rfl rfl rfl ?_
                        refine gop_on rfl rfl rfl rfl hg103 ?_
                        refine gop (y_bare (y_not rfl)) rfl rfl rfl ?_
                        refine gop (y_pick_t (v := .bool _) rfl hg103 rfl) rfl rfl rfl ?_
                        refine gop (y_assign (v := .bool _) rfl) rfl rfl rfl ?_
                        refine gops_nil ?_
                        refine hN8 _ _ ?_
                        refine gfrom [(0, .bool _)] ⟨rfl, trivial⟩ fun σ => ?_
                        refine gret fun w1 hM => ?_
                        refine ⟨_, res1 rfl (rt (v := .bool _) rfl), ?_⟩
                        exact ⟨rfl, hM.low⟩
                      · 
                         exact absurd hg103 (by first | decide | simp)
                    · 
                       rw [nex_parl] at hg99; exact absurd hg99 (by decide)
                  · 
                     exact absurd hg93 (by first | decide | simp)
                · 
                   exact absurd hg88 (by first | decide | simp)
              · 
                 exact absurd hg84 (by first | decide | simp)
            · 
               exact absurd hg80 (by first | decide | simp)
          · 
             exact absurd hg75 (by first | decide | simp)
        · 
           exact absurd hg70 (by first | decide | simp)
      · 
         exact absurd hg65 (by first | decide | simp)
    · 
       exact absurd hg60 (by first | decide | simp)
  · 
     exact absurd hg55 (by first | decide | simp)
end Go.Proofs.YtbkameioedmlkaaGreatDoor
namespace Go.Cf
open Go.RowKit
def Tr.val (F : PFacts) : Tr → Bool
  | .leaf k n => evN F ⟨k, n, 0, 0⟩ []
  | .neg t => !t.val F
  | .bin k a b => if k = 6 then a.val F && b.val F else a.val F || b.val F
end Go.Cf
namespace Go.Cf
open Go.RowKit
def openE (line : Int) : Ev := ⟨1, 0, 0, line, nWhy, []⟩
def patE (p : List Hunk) : Ev := ⟨4, 0, 0, 0, .empty, p⟩
def openT (line : Int) : Thr := ⟨0, line, 1, false, false⟩
theorem form_pat (p : List Hunk) : formC (patE p) = 0 := by
  unfold formC patE
  have hb : badE ⟨4, 0, 0, 0, .empty, p⟩ = false := by
    unfold badE
    have he : isEmptyS ByteArray.empty = true := by decide +kernel
    simp [he]
  rw [hb]
  show (if (4 : Int) < 1 ∨ 4 < (4 : Int) then 4 else if false = true then 5 else if (0 : Int) < 0 ∨ 7 < (0 : Int) then 3 else if (4 : Int) = 1 ∨ (4 : Int) = 2 then (if isEmptyS ByteArray.empty = true then 5 else lineCode ByteArray.empty) else 0) = 0
  decide +kernel
theorem form_open (line : Int) : formC (openE line) = 0 := by
  unfold formC openE
  have he : isEmptyS nWhy = false := by decide +kernel
  have hb : badE ⟨1, 0, 0, line, nWhy, []⟩ = false := by
    unfold badE
    simp
  rw [hb]
  show (if (1 : Int) < 1 ∨ 4 < (1 : Int) then 4 else if false = true then 5 else if (0 : Int) < 0 ∨ 7 < (0 : Int) then 3 else if (1 : Int) = 1 ∨ (1 : Int) = 2 then (if isEmptyS nWhy = true then 5 else lineCode nWhy) else 0) = 0
  rw [he]
  decide +kernel
theorem patch_run : ∀ (ps : List (List Hunk)) (i : Nat) (t : Thr) (text : List ByteArray) (r : Fault × St), runFrom i ([t], text) (ps.map patE) = r → r.1.code = 0 →
    r.2.1 = [ps.foldl (fun t p => followT p t) t]
  | [], i, t, text, r, h, _ => by subst h; rfl
  | p :: ps, i, t, text, r, h, h0 => by
    rw [List.map_cons, runFrom] at h
    have hform : formC (patE p) = 0 := form_pat p
    have hstep : stepE ([t], text) (patE p) = patchT ([t], text) p := by
      unfold stepE
      rw [if_neg (fun h9 => h9 hform), if_neg (show ¬ (patE p).kind = 1 from (show ¬ (4 : Int) = 1 by decide)), if_pos (show (patE p).kind = 4 from rfl)]; rfl
    rw [hstep] at h
    by_cases h1 : (patchT ([t], text) p).1 ≠ 0
    · rw [if_pos h1] at h
      subst h
      exact absurd h0 h1
    · rw [if_neg h1] at h
      unfold patchT at h h1
      by_cases h2 : applyF p text ≠ ⟨0, 0⟩
      · rw [if_pos h2] at h1
        exact absurd (applyF_code (hs := p) (text := text) (Classical.not_not.1 h1)).1 h2
      · rw [if_neg h2] at h
        exact patch_run ps (i + 1) (followT p t) _ r h h0
theorem follow_out : ∀ (ps : List (List Hunk)) (t : Thr), t.outdated = true → ps.foldl (fun t p => followT p t) t = t
  | [], _, _ => rfl
  | p :: ps, t, h => by
    rw [List.foldl_cons, show followT p t = t from if_pos h]
    exact follow_out ps t h
theorem follow_all : ∀ (ps : List (List Hunk)) (t : Thr), t.outdated = false → (ps.foldl (fun t p => followT p t) t).line = (through ps t.line).1 ∧ (ps.foldl (fun t p => followT p t) t).outdated = decide ((through ps t.line).2 < ps.length)
  | [], t, h => by
    rw [List.foldl_nil, through, h]
    exact ⟨rfl, rfl⟩
  | p :: ps, t, h => by
    rw [List.foldl_cons, through]
    have hno : ¬ t.outdated = true := by rw [h]; decide
    by_cases h1 : (place p t.line 0).2 = true
    · have h2 : followT p t = { t with line := (place p t.line 0).1, outdated := false } := by unfold followT; rw [if_neg hno, if_pos h1]
      rw [h2, if_pos h1]
      obtain ⟨h3, h4⟩ := follow_all ps { t with line := (place p t.line 0).1, outdated := false } rfl
      refine ⟨h3, ?_⟩
      rw [h4]
      exact decide_eq_decide.2 (by simp)
    · have h2 : followT p t = { t with outdated := true } := by unfold followT; rw [if_neg hno, if_neg h1]
      rw [h2, if_neg h1, follow_out ps _ rfl]
      exact ⟨rfl, by simp⟩
theorem law16_plain {text : List ByteArray} {line : Int} {ps : List (List Hunk)} (h1 : (runV text (openE line :: (ps.take 31).map patE)).1.code = 0) (h2 : (throughF ps line).code = 0) :
    (runV text (openE line :: (ps.take 31).map patE)).2.1 = [ps.foldl (fun t p => followT p t) (openT line)] ∧ throughV ps line = through ps line ∧ throughF ps line = ⟨0, 0⟩ := by
  have hz : throughF ps line = ⟨0, 0⟩ ∧ ps.length ≤ 12 := by
    unfold throughF at h2 ⊢
    by_cases c1 : 12 < ps.length
    · rw [if_pos c1] at h2; cases h2
    rw [if_neg c1] at h2 ⊢
    by_cases c2 : isLine line = false
    · rw [if_pos c2] at h2; cases h2
    rw [if_neg c2] at h2 ⊢
    exact ⟨scan_code_eq h2, by omega⟩
  refine ⟨?_, by rw [throughV, if_pos hz.1], hz.1⟩
  have htk : ps.take 31 = ps := List.take_of_length_le (by omega)
  rw [htk] at h1 ⊢
  unfold runV at h1 ⊢
  by_cases c1 : secondF (linesF text) (-2) ≠ ⟨0, 0⟩
  · rw [if_pos c1] at h1
    exact absurd h1 (fun h9 => c1 (sec_eq _ linesF_code h9).2)
  rw [if_neg c1] at h1 ⊢
  by_cases c2 : 30 < (openE line :: ps.map patE).length
  · rw [if_pos c2] at h1; cases h1
  rw [if_neg c2] at h1 ⊢
  rw [runFrom] at h1 ⊢
  have hform := form_open line
  by_cases c3 : (stepE ([], text) (openE line)).1 ≠ 0
  · rw [if_pos c3] at h1; exact absurd h1 c3
  rw [if_neg c3] at h1 ⊢
  have hst : (stepE ([], text) (openE line)).2 = ([openT line], text) := by
    have c4 := Classical.not_not.1 c3
    unfold stepE at c4 ⊢
    rw [if_neg (fun h9 => h9 hform), if_pos (show (openE line).kind = 1 from rfl)] at c4 ⊢
    by_cases c5 : (openE line).line < 0 ∨ ((([], text) : St).2.length : Int) ≤ (openE line).line
    · rw [if_pos c5] at c4; cases c4
    rw [if_neg c5, if_neg (show ¬ 12 ≤ (([], text) : St).1.length by simp)]; rfl
  rw [hst] at h1 ⊢
  exact patch_run ps 1 (openT line) text _ rfl h1
def evTo (line : Int) (ps : List PatC) (k : Nat) : List EvC := ⟨1, 0, 0, line, nWhy, none, 0, []⟩ :: (ps.take k).map fun p => ⟨4, 0, 0, 0, .empty, p.A, p.c, p.hs⟩
theorem evTo_succ {line : Int} {ps : List PatC} {k : Nat} (hk : k < ps.length) : evTo line ps (k + 1) = evTo line ps k ++ [⟨4, 0, 0, 0, .empty, ps[k].A, ps[k].c, ps[k].hs⟩] := by
  unfold evTo
  rw [List.take_succ_eq_append_getElem hk, List.map_append]; rfl
theorem evTo_len {line : Int} {ps : List PatC} {k : Nat} : (evTo line ps k).length = min k ps.length + 1 := by
  unfold evTo; simp
theorem evTo_mem {w : World} {lo : Nat} {line : Int} {ps : List PatC} {k : Nat} (h : ∀ p ∈ ps, PatR w lo p.A p.c p.hs) {e : EvC} (he : e ∈ evTo line ps k) : EvR w lo e := by
  unfold evTo at he
  rcases List.mem_cons.1 he with rfl | he
  · exact ⟨PatR.nil⟩
  · obtain ⟨p, hp, rfl⟩ := List.mem_map.1 he
    exact ⟨h p (List.mem_of_mem_take hp)⟩
theorem evs_to (line : Int) (ps : List PatC) (k : Nat) : evs (evTo line ps k) = openE line :: ((ps.map PatC.pl).take k).map patE := by
  unfold evTo evs
  rw [List.map_cons]
  congr 1
  simp only [List.map_map, List.map_take]
  rfl
theorem law16_c {text : List ByteArray} {line : Int} {ps : List PatC} (h1 : (runV text (evs (evTo line ps (min ps.length 31)))).1.code = 0) (h2 : (throughF (ps.map PatC.pl) line).code = 0) :
    (runV text (evs (evTo line ps (min ps.length 31)))).2.1 = [(ps.map PatC.pl).foldl (fun t p => followT p t) (openT line)] ∧ throughV (ps.map PatC.pl) line = through (ps.map PatC.pl) line ∧ throughF (ps.map PatC.pl) line = ⟨0, 0⟩ := by
  rw [evs_to] at h1 ⊢
  have e : (ps.map PatC.pl).take (min ps.length 31) = (ps.map PatC.pl).take 31 := by
    rcases Nat.le_total ps.length 31 with h | h
    · rw [Nat.min_eq_left h, List.take_of_length_le (by simp), List.take_of_length_le (by simpa using h)]
    · rw [Nat.min_eq_right h]
  rw [e] at h1 ⊢
  exact law16_plain h1 h2
end Go.Cf
namespace Go.Proofs.YtbkameioedmlkaaGreatDoor
open Go.RowKit Go.Cf
set_option maxRecDepth 10000
theorem bd29_0_3_4 (x1 : Int) (x2 : Int) (x3 : ByteArray) : Tryz.prog.built 29 [(0, .int .i64 x1), (3, .int .i64 x2), (4, .string x3)] = some #[.int .i64 x1, .int .i64 0, .int .i64 0, .int .i64 x2, .string x3, .slice none 0 0] := by kernel_rfl
theorem bd29_0_5 (x1 : Int) (x2 : Option Addr) (x2l x2c : Nat) : Tryz.prog.built 29 [(0, .int .i64 x1), (5, .agg #[.slice x2 x2l x2c])] = some #[.int .i64 x1, .int .i64 0, .int .i64 0, .int .i64 0, .string .empty, .slice x2 x2l x2c] := by kernel_rfl
theorem el29 : Elem Tryz.prog 29 6 72 := elem_of (z := .agg #[.int .i64 0, .int .i64 0, .int .i64 0, .int .i64 0, .string .empty, .slice none 0 0]) (by kernel_rfl) rfl (by decide)
set_option maxHeartbeats 16000000 in
theorem law16_any (w : World) (B : Option Addr) (d : Nat) (text : List ByteArray) (ht : Rdl w 0 1 strCells B text) (htb : SB B text.length d 16) (line : Int) (A : Option Addr) (c : Nat) (ps : List PatC) (hp : PatsR w 0 A ps) (hm : ps.length ≤ maxLen) (hL : LaidP w) :
    Calls Tryz.prog 3 #[.slice B text.length d, .int .i64 line, .slice A ps.length c] w fun e w' => e = .returned (.bool true) ∧ Below w.heap.size w w' := by
  have hmx : maxLen = 9223372036854775807 := rfl
  refine gcalls Tryz.func3 rfl Tryz.ntmps3 (Nat.le_of_ble_eq_true rfl) ?_
  refine gfrom [(0, .slice _ _ _), (1, .int _ _), (2, .slice _ _ _)] ⟨rfl, rfl, rfl, trivial⟩ fun σ => ?_
  refine gseq fun N1 hN1 => ?_
  refine greg ?_
  refine gop (y_assign (v := .bool _) rfl) rfl rfl rfl ?_
  refine gops_nil ?_
  refine hN1 _ _ ?_
  refine gfrom [(0, .slice _ _ _), (1, .int _ _), (2, .slice _ _ _)] ⟨rfl, rfl, rfl, trivial⟩ fun σ => ?_
  refine gseq fun N2 hN2 => ?_
  refine gseq fun N3 hN3 => ?_
  refine greg ?_
  refine gop_pure (e_call (vs := []) Tryz.func7 rfl (by kernel_rfl) rfl) (fun w hM => nReviews_any w (hL.base hM)) rfl rfl rfl ?_
  refine gop (y_not rfl) rfl rfl rfl ?_
  refine gops_nil ?_
  refine hN3 _ _ ?_
  refine gfrom [(0, .slice _ _ _), (1, .int _ _), (2, .slice _ _ _), (16, .bool _)] ⟨rfl, rfl, rfl, rfl, trivial⟩ fun σ => ?_
  refine gcond (b := _) rfl (fun hc16 => ?_) (fun hc16 => ?_)
  · 
     exact absurd hc16 (by decide)
  · 
    replace hc16 := not_f hc16
    refine gskip ?_
    refine hN2 _ _ ?_
    refine gfrom [(0, .slice _ _ _), (1, .int _ _), (2, .slice _ _ _)] ⟨rfl, rfl, rfl, trivial⟩ fun σ => ?_
    refine gseq fun N4 hN4 => ?_
    refine greg ?_
    refine gop (y_move (v := .int _ _) rfl) rfl rfl rfl ?_
    refine gop (y_build (vs := [(0, _), (3, .int _ _), (4, _)]) (cells := #[_, .int .i64 0, .int .i64 0, _, _, .slice none 0 0]) rfl (bd29_0_3_4 _ _ _)) rfl rfl rfl ?_
    refine gop_lit (vs := [.agg #[_, _, _, _, _, _]]) (cells := #[_, _, _, _, _, _]) Tryz.underlying30 Tryz.sizeOf29 Tryz.zeroValue29 rfl (by decide) (by decide) rfl rfl rfl rfl (fun b19 hb19 => ?_)
    refine gops_mem _ (weak_boxrow 0 (size := 6) (f := evCells) (l := evTo line ps 0) rfl (fun _ => rfl) rfl (by simp [maxLen, evTo])) ?_
    refine gop (y_assign (v := .slice (some ⟨b19, 0, none⟩) _ _) rfl) rfl rfl rfl ?_
    refine gops_nil ?_
    refine hN4 _ _ ?_
    refine gT [rowl _ _ _ _ _ _] rfl ?_
    refine gfrom [(0, .slice _ _ _), (1, .int _ _), (2, .slice _ _ _), (7, .slice (some ⟨b19, 0, none⟩) _ _)] ⟨rfl, rfl, rfl, rfl, trivial⟩ fun σ => ?_
    refine gseq fun N5 hN5 => ?_
    refine gseq fun N6 hN6 => ?_
    refine greg ?_
    refine gop (y_assign (v := .int _ _) rfl) rfl rfl rfl ?_
    refine gops_nil ?_
    refine hN6 _ _ ?_
    refine gfrom [(0, .slice _ _ _), (1, .int _ _), (2, .slice _ _ _), (7, .slice (some ⟨b19, 0, none⟩) _ _), (8, .int _ _)] ⟨rfl, rfl, rfl, rfl, rfl, trivial⟩ fun σ => ?_
    refine gblock ?_
    refine gfrom2 [(7, .slice (some ⟨b19, 0, none⟩) _ _), (8, .int _ _)] [(0, .slice _ _ _), (1, .int _ _), (2, .slice _ _ _)] ⟨rfl, rfl, trivial⟩ ⟨rfl, rfl, rfl, trivial⟩ fun σ => ?_
    refine gloop2 (G := Nat × Option Addr × Nat) (fun (k, Ev, ev) => k ≤ min ps.length 31) (fun (k, Ev, ev) => ps.length - k) (fun (k, Ev, ev) => [(7, .slice Ev (evTo line ps k).length ev), (8, .int .i64 (k : Int))]) (fun (k, Ev, ev) => [(0, rowl evCells w.heap.size 29 6 (.slice Ev (evTo line ps k).length ev) (evTo line ps k))]) ((0, some ⟨b19, 0, none⟩, 1)) ?h0 ⟨rfl, rfl, trivial⟩ ⟨rfl, rfl, rfl, trivial⟩ rfl ?round
    case h0 => exact Nat.zero_le _
    case round =>
      rintro ⟨k, Ev, ev⟩ hφ σ
      have hk : k ≤ min ps.length 31 := hφ
      refine gT [rowl _ _ _ _ _ _] rfl ?_
      refine gseq fun N7 hN7 => ?_
      refine gseq fun N8 hN8 => ?_
      refine greg ?_
      refine gop (y_move (v := .int _ _) rfl) rfl rfl rfl ?_
      refine gop (y_move (v := .slice _ _ _) rfl) rfl rfl rfl ?_
      refine gop (y_len Tryz.underlying23 rfl) rfl rfl rfl ?_
      refine gop (y_lss rfl rfl) rfl rfl rfl ?_
      refine gop (y_move (v := .bool _) rfl) rfl rfl rfl ?_
      refine gop_if (want := true) rfl rfl rfl rfl rfl rfl (fun hg24 => ?_) (fun hg24 => ?_)
      · 
        have hg24d := of_decide_eq_true hg24
        refine gop (y_bare (y_move (v := .int _ _) rfl)) rfl rfl rfl ?_
        refine gop_on rfl rfl rfl rfl hg24 ?_
        refine gop (y_bare (y_lss rfl rfl)) rfl rfl rfl ?_
        refine gop (y_pick_t (v := .bool _) rfl hg24 rfl) rfl rfl rfl ?_
        refine gops_nil ?_
        refine hN8 _ _ ?_
        refine gfrom [(0, .slice _ _ _), (1, .int _ _), (2, .slice _ _ _), (7, .slice Ev _ ev), (8, .int _ _), (27, .bool _)] ⟨rfl, rfl, rfl, rfl, rfl, rfl, trivial⟩ fun σ => ?_
        refine gcond (b := _) rfl (fun hc27 => ?_) (fun hc27 => ?_)
        · 
          replace hc27 := of_decide_eq_true hc27
          have hk1 : k < ps.length := by omega
          obtain ⟨ad, rfl, -, hca⟩ := hp.rd.at_ hk1
          refine gskip ?_
          refine hN7 _ _ ?_
          refine gfrom [(0, .slice _ _ _), (1, .int _ _), (2, .slice _ _ _), (7, .slice Ev _ ev), (8, .int _ _)] ⟨rfl, rfl, rfl, rfl, rfl, trivial⟩ fun σ => ?_
          refine gseq fun N9 hN9 => ?_
          refine gblock ?_
          refine greg ?_
          refine gop (y_move (v := .slice Ev _ ev) rfl) rfl rfl rfl ?_
          refine gop (y_move (v := .slice _ _ _) rfl) rfl rfl rfl ?_
          refine gop (y_move (v := .int _ _) rfl) rfl rfl rfl ?_
          refine gop (y_indexAddr (m := k) Tryz.underlying23 Tryz.sizeOf27 rfl rfl (by omega) (by omega) (by omega)) rfl rfl rfl ?_
          refine gop (y_loads (cs := [_]) Tryz.isAgg27 Tryz.sizeOf27 rfl rfl (cells_base hca)) rfl rfl rfl ?_
          refine gop (y_build (vs := [(0, _), (5, .agg #[_])]) (cells := #[_, .int .i64 0, .int .i64 0, .int .i64 0, .string .empty, _]) rfl (bd29_0_5 _ _ _ _)) rfl rfl rfl ?_
          refine gop_lit (vs := [.agg #[_, _, _, _, _, _]]) (cells := #[_, _, _, _, _, _]) Tryz.underlying30 Tryz.sizeOf29 Tryz.zeroValue29 rfl (by decide) (by decide) rfl rfl rfl rfl (fun b36 hb36 => ?_)
          refine gop_append 0 (f := evCells) (l2 := [⟨4, 0, 0, 0, .empty, ps[k].A, ps[k].c, ps[k].hs⟩]) Tryz.underlying30 el29 wide_ev (v := .slice Ev _ ev) rfl rfl rfl rfl (fun h => by cases h) (by rw [evTo_len]; simp [maxLen]; omega) (by rw [evTo_len]; simp; omega) (src_box 1 rfl rfl) rfl (fun v37 => ?_)
          refine gops_fact (fun w hM => own_form (hM.own 0 rfl)) ?_
          rintro ⟨A37, c37, rfl, hc37, hm37⟩
          refine gop (y_assign (v := .slice A37 _ c37) rfl) rfl rfl rfl ?_
          refine gops_nil ?_
          refine hN9 _ _ ?_
          refine gT [rowl _ _ _ _ _ _, box b36 _] rfl ?_
          refine gfrom [(0, .slice _ _ _), (1, .int _ _), (2, .slice _ _ _), (7, .slice A37 _ c37), (8, .int _ _)] ⟨rfl, rfl, rfl, rfl, rfl, trivial⟩ fun σ => ?_
          refine greg ?_
          refine gop (y_move (v := .int _ _) rfl) rfl rfl rfl ?_
          refine gop (y_add rfl rfl ⟨by omega, by omega⟩) rfl rfl rfl ?_
          refine gop (y_assign (v := .int _ _) rfl) rfl rfl rfl ?_
          refine gops_nil ?_
          rw [← evTo_succ hk1]
          refine gnext2 ((k + 1, A37, c37)) (by show ps.length - (k + 1) < ps.length - k; omega) (by show k + 1 ≤ min ps.length 31; omega) ⟨(by rw [evTo_succ hk1]; rfl), rfl, trivial⟩ ⟨rfl, rfl, rfl, trivial⟩ ⟨_, rfl⟩
        · 
          replace hc27 := of_decide_eq_false hc27
          obtain rfl : k = min ps.length 31 := by omega
          refine gexit ?_
          refine hN5 _ _ ?_
          refine gfrom [(0, .slice _ _ _), (1, .int _ _), (2, .slice _ _ _), (7, .slice Ev _ ev)] ⟨rfl, rfl, rfl, rfl, trivial⟩ fun σ => ?_
          refine gseq fun N10 hN10 => ?_
          refine greg ?_
          refine gop (y_move (v := .slice _ _ _) rfl) rfl rfl rfl ?_
          refine gop (y_move (v := .slice Ev _ ev) rfl) rfl rfl rfl ?_
          refine gop_new (fun lo ws v => ∃ v1 v2, v = .tuple #[v1, v2, fv (runV text (evs (evTo line ps (min ps.length 31)))).1] ∧ NewL 5 thrCells (runV text (evs (evTo line ps (min ps.length 31)))).2.1 lo ws v1 ∧ NewL 1 strCells (runV text (evs (evTo line ps (min ps.length 31)))).2.2 lo ws v2) (e_call (vs := [.slice _ _ _, .slice Ev _ ev]) Tryz.func8 rfl (by kernel_rfl) rfl) (fun w hM => by have he : EvsR w 0 Ev (evTo line ps (min ps.length 31)) := ⟨((row_rdl (f := evCells) (fun _ => rfl) (hM.ok _ (List.mem_of_getElem? (i := 0) rfl))).mono (Nat.zero_le _)), fun e he => evTo_mem (fun p hp1 => PatR.lasts.base (hp.each p hp1) hM) he⟩; have hc := run_any w B d text (ht.base hM) htb Ev ev (evTo line ps (min ps.length 31)) he (by rw [evTo_len]; omega); exact hc.mono fun _ _ ⟨v1, v2, h1, h2, h3, h4⟩ => ⟨_, h1, h2, v1, v2, rfl, h3, h4⟩) rfl rfl rfl ?_
          rintro _ lo41 ws41 hlo41 ⟨_, _, rfl, ⟨A41, c41, rfl, hcc41, hcm41, hr41⟩, ⟨B41, d41, rfl, hdc41, hdm41, hq41⟩⟩
          refine gop (y_move (v := .tuple #[.slice _ _ _, .slice _ _ _, .agg #[_, _]]) rfl) rfl rfl rfl ?_
          refine gop (y_extract (v := .slice _ _ _) rfl rfl) rfl rfl rfl ?_
          refine gop (y_extract (v := .slice _ _ _) rfl rfl) rfl rfl rfl ?_
          refine gop (y_extract (v := .agg #[_, _]) rfl rfl) rfl rfl rfl ?_
          refine gop_alloc (cs := #[.int .i64 0, .int .i64 0]) Tryz.zeroValue33 rfl rfl (fun b11 hb11 => ?_)
          refine gop (y_assign (v := .slice _ _ _) rfl) rfl rfl rfl ?_
          refine gop (y_assign (v := .slice _ _ _) rfl) rfl rfl rfl ?_
          refine gop_store 2 (v := .agg #[_, _]) (cs' := #[_, _]) rfl rfl Tryz.sizeOf33 rfl rfl rfl rfl (Nat.le_of_ble_eq_true rfl) rfl rfl ?_
          refine gops_nil ?_
          refine hN10 _ _ ?_
          refine gT [rowl _ _ _ _ _ _, seal_ _ _, box b11 _] rfl ?_
          refine gfrom [(1, .int _ _), (2, .slice _ _ _), (9, .slice _ _ _), (11, .pointer _)] ⟨rfl, rfl, rfl, rfl, trivial⟩ fun σ => ?_
          refine gseq fun N11 hN11 => ?_
          refine greg ?_
          refine gop (y_move (v := .slice _ _ _) rfl) rfl rfl rfl ?_
          refine gop (y_move (v := .int _ _) rfl) rfl rfl rfl ?_
          refine gop_pure (e_call (vs := [.slice _ _ _, .int _ _]) Tryz.func9 rfl (by kernel_rfl) rfl) (fun w hM => through_any w A c ps (PatsR.lasts.base hp hM) hm line) rfl rfl rfl ?_
          refine gop (y_move (v := .tuple #[.int _ _, .int _ _, .agg #[_, _]]) rfl) rfl rfl rfl ?_
          refine gop (y_extract (v := .int _ _) rfl rfl) rfl rfl rfl ?_
          refine gop (y_extract (v := .int _ _) rfl rfl) rfl rfl rfl ?_
          refine gop (y_extract (v := .agg #[_, _]) rfl rfl) rfl rfl rfl ?_
          refine gop_alloc (cs := #[.int .i64 0, .int .i64 0]) Tryz.zeroValue33 rfl rfl (fun b14 hb14 => ?_)
          refine gop (y_assign (v := .int _ _) rfl) rfl rfl rfl ?_
          refine gop (y_assign (v := .int _ _) rfl) rfl rfl rfl ?_
          refine gop_store 3 (v := .agg #[_, _]) (cs' := #[_, _]) rfl rfl Tryz.sizeOf33 rfl rfl rfl rfl (Nat.le_of_ble_eq_true rfl) rfl rfl ?_
          refine gops_nil ?_
          refine hN11 _ _ ?_
          refine gT [rowl _ _ _ _ _ _, seal_ _ _, box b11 _, box b14 _] rfl ?_
          refine gfrom [(2, .slice _ _ _), (9, .slice _ _ _), (11, .pointer _), (12, .int _ _), (13, .int _ _), (14, .pointer _)] ⟨rfl, rfl, rfl, rfl, rfl, rfl, trivial⟩ fun σ => ?_
          refine gseq fun N12 hN12 => ?_
          refine gseq fun N13 hN13 => ?_
          refine greg ?_
          refine gop (y_fieldAddr_box fa33_0 rfl) rfl rfl rfl ?_
          refine gop (y_load Tryz.isAgg3 rfl (cell_box 2 rfl rfl)) rfl rfl rfl ?_
          refine gop (y_neq rfl rfl) rfl rfl rfl ?_
          refine gop (y_move (v := .bool _) rfl) rfl rfl rfl ?_
          refine gop_if (want := false) rfl rfl rfl rfl rfl rfl (fun hg55 => ?_) (fun hg55 => ?_)
          · 
            have hg55d := Decidable.not_not.1 (of_decide_eq_false hg55)
            refine gop (y_bare (y_fieldAddr_box fa33_0 rfl)) rfl rfl rfl ?_
            refine gop_on rfl rfl rfl rfl hg55 ?_
            refine gop (y_bare (y_load Tryz.isAgg3 rfl (cell_box 3 rfl rfl))) rfl rfl rfl ?_
            refine gop_on rfl rfl rfl rfl hg55 ?_
            refine gop (y_bare (y_neq rfl rfl)) rfl rfl rfl ?_
            refine gop (y_pick_f (v := .bool _) rfl hg55 rfl) rfl rfl rfl ?_
            refine gops_nil ?_
            refine hN13 _ _ ?_
            refine gfrom [(2, .slice _ _ _), (9, .slice _ _ _), (12, .int _ _), (13, .int _ _), (59, .bool _)] ⟨rfl, rfl, rfl, rfl, rfl, trivial⟩ fun σ => ?_
            refine gcond (b := _) rfl (fun hc59 => ?_) (fun hc59 => ?_)
            · 
              replace hc59 := of_decide_eq_true hc59
              refine gseq fun N14 hN14 => ?_
              refine greg ?_
              refine gop (y_assign (v := .bool _) rfl) rfl rfl rfl ?_
              refine gops_nil ?_
              refine hN14 _ _ ?_
              refine gfrom [(6, .bool _)] ⟨rfl, trivial⟩ fun σ => ?_
              refine gret fun w1 hM => ?_
              refine ⟨_, res1 rfl (rt (v := .bool _) rfl), ?_⟩
              exact ⟨rfl, hM.low⟩
            · 
              replace hc59 := Decidable.not_not.1 (of_decide_eq_false hc59)
              have hr0 : (runV text (evs (evTo line ps (min ps.length 31)))).1.code = 0 := by omega
              have hf0 : (throughF (ps.map PatC.pl) line).code = 0 := by omega
              obtain ⟨hth, htv, htf⟩ := law16_c hr0 hf0
              obtain ⟨had, hoc⟩ := follow_all (ps.map PatC.pl) (openT line) rfl
              rw [hth] at hr41
              obtain ⟨ad, rfl, hlo2, hcl⟩ := hr41.at_ (k := 0) (by simp)
              refine gskip ?_
              refine hN12 _ _ ?_
              refine gfrom [(2, .slice _ _ _), (9, .slice _ _ _), (12, .int _ _), (13, .int _ _)] ⟨rfl, rfl, rfl, rfl, trivial⟩ fun σ => ?_
              refine gseq fun N15 hN15 => ?_
              refine greg ?_
              refine gop (y_move (v := .slice _ _ _) rfl) rfl rfl rfl ?_
              refine gop (y_len Tryz.underlying31 rfl) rfl rfl rfl ?_
              refine gop (y_eql rfl rfl) rfl rfl rfl ?_
              refine gop (y_move (v := .bool _) rfl) rfl rfl rfl ?_
              refine gop_if (want := true) rfl rfl rfl rfl rfl rfl (fun hg63 => ?_) (fun hg63 => ?_)
              · 
                have hg63d := of_decide_eq_true hg63
                refine gop (y_bare (y_move (v := .slice _ _ _) rfl)) rfl rfl rfl ?_
                refine gop_on rfl rfl rfl rfl hg63 ?_
                refine gop (y_bare (y_indexAddr (m := 0) Tryz.underlying31 Tryz.sizeOf39 rfl rfl (by omega) (by decide) (by rw [hth]; simp))) rfl rfl rfl ?_
                refine gop_on rfl rfl rfl rfl hg63 ?_
                refine gop (y_bare (y_fieldAddr_add fa39_1 rfl)) rfl rfl rfl ?_
                refine gop_on rfl rfl rfl rfl hg63 ?_
                refine gop (y_bare (y_load Tryz.isAgg3 rfl (cell_seal 1 rfl (by rw [block_add]; exact hlo2) (hcl 1 _ rfl)))) rfl rfl rfl ?_
                refine gop_on rfl rfl rfl rfl hg63 ?_
                refine gop (y_bare (y_move (v := .int _ _) rfl)) rfl rfl rfl ?_
                refine gop_on rfl rfl rfl rfl hg63 ?_
                refine gop (y_bare (y_eql rfl rfl)) rfl rfl rfl ?_
                refine gop (y_pick_t (v := .bool _) rfl hg63 rfl) rfl rfl rfl ?_
                refine gop (y_move (v := .bool _) rfl) rfl rfl rfl ?_
                refine gop_if (want := true) rfl rfl rfl rfl rfl rfl (fun hg71 => ?_) (fun hg71 => ?_)
                · 
                  have hg71d := of_decide_eq_true hg71
                  refine gop (y_bare (y_move (v := .slice _ _ _) rfl)) rfl rfl rfl ?_
                  refine gop_on rfl rfl rfl rfl hg71 ?_
                  refine gop (y_bare (y_indexAddr (m := 0) Tryz.underlying31 Tryz.sizeOf39 rfl rfl (by omega) (by decide) (by rw [hth]; simp))) rfl rfl rfl ?_
                  refine gop_on rfl rfl rfl rfl hg71 ?_
                  refine gop (y_bare (y_fieldAddr_add fa39_3 rfl)) rfl rfl rfl ?_
                  refine gop_on rfl rfl rfl rfl hg71 ?_
                  refine gop (y_bare (y_load Tryz.isAgg4 rfl (cell_seal 1 rfl (by rw [block_add]; exact hlo2) (hcl 3 _ rfl)))) rfl rfl rfl ?_
                  refine gop_on rfl rfl rfl rfl hg71 ?_
                  refine gop (y_bare (y_move (v := .int _ _) rfl)) rfl rfl rfl ?_
                  refine gop_on rfl rfl rfl rfl hg71 ?_
                  refine gop (y_bare (y_move (v := .slice _ _ _) rfl)) rfl rfl rfl ?_
                  refine gop_on rfl rfl rfl rfl hg71 ?_
                  refine gop (y_bare (y_len Tryz.underlying23 rfl)) rfl rfl rfl ?_
                  refine gop_on rfl rfl rfl rfl hg71 ?_
                  refine gop (y_bare (y_lss rfl rfl)) rfl rfl rfl ?_
                  refine gop_on rfl rfl rfl rfl hg71 ?_
                  refine gop (y_bare (y_eqlb rfl rfl Tryz.underlying4)) rfl rfl rfl ?_
                  refine gop (y_pick_t (v := .bool _) rfl hg71 rfl) rfl rfl rfl ?_
                  refine gop (y_assign (v := .bool _) rfl) rfl rfl rfl ?_
                  refine gops_nil ?_
                  refine hN15 _ _ ?_
                  refine gfrom [(6, .bool _)] ⟨rfl, trivial⟩ fun σ => ?_
                  refine gret fun w1 hM => ?_
                  refine ⟨_, res1 rfl (rt (v := .bool _) rfl), ?_⟩
                  exact ⟨congrArg (fun b => Ending.returned (Value.bool b)) (by simp only [List.getElem_cons_zero]; rw [hoc, htv]; simp [openT]), hM.low⟩
                · 
                   exact absurd (of_decide_eq_false hg71) (fun h9 => h9 (had.trans (by rw [htv]; rfl)))
              · 
                 rw [hth] at hg63; exact absurd hg63 (by simp)
          · 
            have hg55d := of_decide_eq_true hg55
            refine gop_off rfl rfl rfl rfl hg55 rfl rfl ?_
            refine gop_off rfl rfl rfl rfl hg55 rfl rfl ?_
            refine gop (y_pick_t (v := .bool _) rfl hg55 rfl) rfl rfl rfl ?_
            refine gops_nil ?_
            refine hN13 _ _ ?_
            refine gfrom [(2, .slice _ _ _), (9, .slice _ _ _), (12, .int _ _), (13, .int _ _), (59, .bool _)] ⟨rfl, rfl, rfl, rfl, rfl, trivial⟩ fun σ => ?_
            refine gcond (b := _) rfl (fun hc59 => ?_) (fun hc59 => ?_)
            · 
              refine gseq fun N16 hN16 => ?_
              refine greg ?_
              refine gop (y_assign (v := .bool _) rfl) rfl rfl rfl ?_
              refine gops_nil ?_
              refine hN16 _ _ ?_
              refine gfrom [(6, .bool _)] ⟨rfl, trivial⟩ fun σ => ?_
              refine gret fun w1 hM => ?_
              refine ⟨_, res1 rfl (rt (v := .bool _) rfl), ?_⟩
              exact ⟨rfl, hM.low⟩
            · 
              cases hc59
      · 
        have hg24d := of_decide_eq_false hg24
        refine gop_off rfl rfl rfl rfl hg24 rfl rfl ?_
        refine gop (y_pick_f (v := .bool _) rfl hg24 rfl) rfl rfl rfl ?_
        refine gops_nil ?_
        refine hN8 _ _ ?_
        refine gfrom [(0, .slice _ _ _), (1, .int _ _), (2, .slice _ _ _), (7, .slice Ev _ ev), (8, .int _ _), (27, .bool _)] ⟨rfl, rfl, rfl, rfl, rfl, rfl, trivial⟩ fun σ => ?_
        refine gcond (b := _) rfl (fun hc27 => ?_) (fun hc27 => ?_)
        · 
          cases hc27
        · 
          obtain rfl : k = min ps.length 31 := by omega
          refine gexit ?_
          refine hN5 _ _ ?_
          refine gfrom [(0, .slice _ _ _), (1, .int _ _), (2, .slice _ _ _), (7, .slice Ev _ ev)] ⟨rfl, rfl, rfl, rfl, trivial⟩ fun σ => ?_
          refine gseq fun N17 hN17 => ?_
          refine greg ?_
          refine gop (y_move (v := .slice _ _ _) rfl) rfl rfl rfl ?_
          refine gop (y_move (v := .slice Ev _ ev) rfl) rfl rfl rfl ?_
          refine gop_new (fun lo ws v => ∃ v1 v2, v = .tuple #[v1, v2, fv (runV text (evs (evTo line ps (min ps.length 31)))).1] ∧ NewL 5 thrCells (runV text (evs (evTo line ps (min ps.length 31)))).2.1 lo ws v1 ∧ NewL 1 strCells (runV text (evs (evTo line ps (min ps.length 31)))).2.2 lo ws v2) (e_call (vs := [.slice _ _ _, .slice Ev _ ev]) Tryz.func8 rfl (by kernel_rfl) rfl) (fun w hM => by have he : EvsR w 0 Ev (evTo line ps (min ps.length 31)) := ⟨((row_rdl (f := evCells) (fun _ => rfl) (hM.ok _ (List.mem_of_getElem? (i := 0) rfl))).mono (Nat.zero_le _)), fun e he => evTo_mem (fun p hp1 => PatR.lasts.base (hp.each p hp1) hM) he⟩; have hc := run_any w B d text (ht.base hM) htb Ev ev (evTo line ps (min ps.length 31)) he (by rw [evTo_len]; omega); exact hc.mono fun _ _ ⟨v1, v2, h1, h2, h3, h4⟩ => ⟨_, h1, h2, v1, v2, rfl, h3, h4⟩) rfl rfl rfl ?_
          rintro _ lo41 ws41 hlo41 ⟨_, _, rfl, ⟨A41, c41, rfl, hcc41, hcm41, hr41⟩, ⟨B41, d41, rfl, hdc41, hdm41, hq41⟩⟩
          refine gop (y_move (v := .tuple #[.slice _ _ _, .slice _ _ _, .agg #[_, _]]) rfl) rfl rfl rfl ?_
          refine gop (y_extract (v := .slice _ _ _) rfl rfl) rfl rfl rfl ?_
          refine gop (y_extract (v := .slice _ _ _) rfl rfl) rfl rfl rfl ?_
          refine gop (y_extract (v := .agg #[_, _]) rfl rfl) rfl rfl rfl ?_
          refine gop_alloc (cs := #[.int .i64 0, .int .i64 0]) Tryz.zeroValue33 rfl rfl (fun b11 hb11 => ?_)
          refine gop (y_assign (v := .slice _ _ _) rfl) rfl rfl rfl ?_
          refine gop (y_assign (v := .slice _ _ _) rfl) rfl rfl rfl ?_
          refine gop_store 2 (v := .agg #[_, _]) (cs' := #[_, _]) rfl rfl Tryz.sizeOf33 rfl rfl rfl rfl (Nat.le_of_ble_eq_true rfl) rfl rfl ?_
          refine gops_nil ?_
          refine hN17 _ _ ?_
          refine gT [rowl _ _ _ _ _ _, seal_ _ _, box b11 _] rfl ?_
          refine gfrom [(1, .int _ _), (2, .slice _ _ _), (9, .slice _ _ _), (11, .pointer _)] ⟨rfl, rfl, rfl, rfl, trivial⟩ fun σ => ?_
          refine gseq fun N18 hN18 => ?_
          refine greg ?_
          refine gop (y_move (v := .slice _ _ _) rfl) rfl rfl rfl ?_
          refine gop (y_move (v := .int _ _) rfl) rfl rfl rfl ?_
          refine gop_pure (e_call (vs := [.slice _ _ _, .int _ _]) Tryz.func9 rfl (by kernel_rfl) rfl) (fun w hM => through_any w A c ps (PatsR.lasts.base hp hM) hm line) rfl rfl rfl ?_
          refine gop (y_move (v := .tuple #[.int _ _, .int _ _, .agg #[_, _]]) rfl) rfl rfl rfl ?_
          refine gop (y_extract (v := .int _ _) rfl rfl) rfl rfl rfl ?_
          refine gop (y_extract (v := .int _ _) rfl rfl) rfl rfl rfl ?_
          refine gop (y_extract (v := .agg #[_, _]) rfl rfl) rfl rfl rfl ?_
          refine gop_alloc (cs := #[.int .i64 0, .int .i64 0]) Tryz.zeroValue33 rfl rfl (fun b14 hb14 => ?_)
          refine gop (y_assign (v := .int _ _) rfl) rfl rfl rfl ?_
          refine gop (y_assign (v := .int _ _) rfl) rfl rfl rfl ?_
          refine gop_store 3 (v := .agg #[_, _]) (cs' := #[_, _]) rfl rfl Tryz.sizeOf33 rfl rfl rfl rfl (Nat.le_of_ble_eq_true rfl) rfl rfl ?_
          refine gops_nil ?_
          refine hN18 _ _ ?_
          refine gT [rowl _ _ _ _ _ _, seal_ _ _, box b11 _, box b14 _] rfl ?_
          refine gfrom [(2, .slice _ _ _), (9, .slice _ _ _), (11, .pointer _), (12, .int _ _), (13, .int _ _), (14, .pointer _)] ⟨rfl, rfl, rfl, rfl, rfl, rfl, trivial⟩ fun σ => ?_
          refine gseq fun N19 hN19 => ?_
          refine gseq fun N20 hN20 => ?_
          refine greg ?_
          refine gop (y_fieldAddr_box fa33_0 rfl) rfl rfl rfl ?_
          refine gop (y_load Tryz.isAgg3 rfl (cell_box 2 rfl rfl)) rfl rfl rfl ?_
          refine gop (y_neq rfl rfl) rfl rfl rfl ?_
          refine gop (y_move (v := .bool _) rfl) rfl rfl rfl ?_
          refine gop_if (want := false) rfl rfl rfl rfl rfl rfl (fun hg55 => ?_) (fun hg55 => ?_)
          · 
            have hg55d := Decidable.not_not.1 (of_decide_eq_false hg55)
            refine gop (y_bare (y_fieldAddr_box fa33_0 rfl)) rfl rfl rfl ?_
            refine gop_on rfl rfl rfl rfl hg55 ?_
            refine gop (y_bare (y_load Tryz.isAgg3 rfl (cell_box 3 rfl rfl))) rfl rfl rfl ?_
            refine gop_on rfl rfl rfl rfl hg55 ?_
            refine gop (y_bare (y_neq rfl rfl)) rfl rfl rfl ?_
            refine gop (y_pick_f (v := .bool _) rfl hg55 rfl) rfl rfl rfl ?_
            refine gops_nil ?_
            refine hN20 _ _ ?_
            refine gfrom [(2, .slice _ _ _), (9, .slice _ _ _), (12, .int _ _), (13, .int _ _), (59, .bool _)] ⟨rfl, rfl, rfl, rfl, rfl, trivial⟩ fun σ => ?_
            refine gcond (b := _) rfl (fun hc59 => ?_) (fun hc59 => ?_)
            · 
              replace hc59 := of_decide_eq_true hc59
              refine gseq fun N21 hN21 => ?_
              refine greg ?_
              refine gop (y_assign (v := .bool _) rfl) rfl rfl rfl ?_
              refine gops_nil ?_
              refine hN21 _ _ ?_
              refine gfrom [(6, .bool _)] ⟨rfl, trivial⟩ fun σ => ?_
              refine gret fun w1 hM => ?_
              refine ⟨_, res1 rfl (rt (v := .bool _) rfl), ?_⟩
              exact ⟨rfl, hM.low⟩
            · 
              replace hc59 := Decidable.not_not.1 (of_decide_eq_false hc59)
              have hr0 : (runV text (evs (evTo line ps (min ps.length 31)))).1.code = 0 := by omega
              have hf0 : (throughF (ps.map PatC.pl) line).code = 0 := by omega
              obtain ⟨hth, htv, htf⟩ := law16_c hr0 hf0
              obtain ⟨had, hoc⟩ := follow_all (ps.map PatC.pl) (openT line) rfl
              rw [hth] at hr41
              obtain ⟨ad, rfl, hlo2, hcl⟩ := hr41.at_ (k := 0) (by simp)
              refine gskip ?_
              refine hN19 _ _ ?_
              refine gfrom [(2, .slice _ _ _), (9, .slice _ _ _), (12, .int _ _), (13, .int _ _)] ⟨rfl, rfl, rfl, rfl, trivial⟩ fun σ => ?_
              refine gseq fun N22 hN22 => ?_
              refine greg ?_
              refine gop (y_move (v := .slice _ _ _) rfl) rfl rfl rfl ?_
              refine gop (y_len Tryz.underlying31 rfl) rfl rfl rfl ?_
              refine gop (y_eql rfl rfl) rfl rfl rfl ?_
              refine gop (y_move (v := .bool _) rfl) rfl rfl rfl ?_
              refine gop_if (want := true) rfl rfl rfl rfl rfl rfl (fun hg63 => ?_) (fun hg63 => ?_)
              · 
                have hg63d := of_decide_eq_true hg63
                refine gop (y_bare (y_move (v := .slice _ _ _) rfl)) rfl rfl rfl ?_
                refine gop_on rfl rfl rfl rfl hg63 ?_
                refine gop (y_bare (y_indexAddr (m := 0) Tryz.underlying31 Tryz.sizeOf39 rfl rfl (by omega) (by decide) (by rw [hth]; simp))) rfl rfl rfl ?_
                refine gop_on rfl rfl rfl rfl hg63 ?_
                refine gop (y_bare (y_fieldAddr_add fa39_1 rfl)) rfl rfl rfl ?_
                refine gop_on rfl rfl rfl rfl hg63 ?_
                refine gop (y_bare (y_load Tryz.isAgg3 rfl (cell_seal 1 rfl (by rw [block_add]; exact hlo2) (hcl 1 _ rfl)))) rfl rfl rfl ?_
                refine gop_on rfl rfl rfl rfl hg63 ?_
                refine gop (y_bare (y_move (v := .int _ _) rfl)) rfl rfl rfl ?_
                refine gop_on rfl rfl rfl rfl hg63 ?_
                refine gop (y_bare (y_eql rfl rfl)) rfl rfl rfl ?_
                refine gop (y_pick_t (v := .bool _) rfl hg63 rfl) rfl rfl rfl ?_
                refine gop (y_move (v := .bool _) rfl) rfl rfl rfl ?_
                refine gop_if (want := true) rfl rfl rfl rfl rfl rfl (fun hg71 => ?_) (fun hg71 => ?_)
                · 
                  have hg71d := of_decide_eq_true hg71
                  refine gop (y_bare (y_move (v := .slice _ _ _) rfl)) rfl rfl rfl ?_
                  refine gop_on rfl rfl rfl rfl hg71 ?_
                  refine gop (y_bare (y_indexAddr (m := 0) Tryz.underlying31 Tryz.sizeOf39 rfl rfl (by omega) (by decide) (by rw [hth]; simp))) rfl rfl rfl ?_
                  refine gop_on rfl rfl rfl rfl hg71 ?_
                  refine gop (y_bare (y_fieldAddr_add fa39_3 rfl)) rfl rfl rfl ?_
                  refine gop_on rfl rfl rfl rfl hg71 ?_
                  refine gop (y_bare (y_load Tryz.isAgg4 rfl (cell_seal 1 rfl (by rw [block_add]; exact hlo2) (hcl 3 _ rfl)))) rfl rfl rfl ?_
                  refine gop_on rfl rfl rfl rfl hg71 ?_
                  refine gop (y_bare (y_move (v := .int _ _) rfl)) rfl rfl rfl ?_
                  refine gop_on rfl rfl rfl rfl hg71 ?_
                  refine gop (y_bare (y_move (v := .slice _ _ _) rfl)) rfl rfl rfl ?_
                  refine gop_on rfl rfl rfl rfl hg71 ?_
                  refine gop (y_bare (y_len Tryz.underlying23 rfl)) rfl rfl rfl ?_
                  refine gop_on rfl rfl rfl rfl hg71 ?_
                  refine gop (y_bare (y_lss rfl rfl)) rfl rfl rfl ?_
                  refine gop_on rfl rfl rfl rfl hg71 ?_
                  refine gop (y_bare (y_eqlb rfl rfl Tryz.underlying4)) rfl rfl rfl ?_
                  refine gop (y_pick_t (v := .bool _) rfl hg71 rfl) rfl rfl rfl ?_
                  refine gop (y_assign (v := .bool _) rfl) rfl rfl rfl ?_
                  refine gops_nil ?_
                  refine hN22 _ _ ?_
                  refine gfrom [(6, .bool _)] ⟨rfl, trivial⟩ fun σ => ?_
                  refine gret fun w1 hM => ?_
                  refine ⟨_, res1 rfl (rt (v := .bool _) rfl), ?_⟩
                  exact ⟨congrArg (fun b => Ending.returned (Value.bool b)) (by simp only [List.getElem_cons_zero]; rw [hoc, htv]; simp [openT]), hM.low⟩
                · 
                   exact absurd (of_decide_eq_false hg71) (fun h9 => h9 (had.trans (by rw [htv]; rfl)))
              · 
                 rw [hth] at hg63; exact absurd hg63 (by simp)
          · 
            have hg55d := of_decide_eq_true hg55
            refine gop_off rfl rfl rfl rfl hg55 rfl rfl ?_
            refine gop_off rfl rfl rfl rfl hg55 rfl rfl ?_
            refine gop (y_pick_t (v := .bool _) rfl hg55 rfl) rfl rfl rfl ?_
            refine gops_nil ?_
            refine hN20 _ _ ?_
            refine gfrom [(2, .slice _ _ _), (9, .slice _ _ _), (12, .int _ _), (13, .int _ _), (59, .bool _)] ⟨rfl, rfl, rfl, rfl, rfl, trivial⟩ fun σ => ?_
            refine gcond (b := _) rfl (fun hc59 => ?_) (fun hc59 => ?_)
            · 
              refine gseq fun N23 hN23 => ?_
              refine greg ?_
              refine gop (y_assign (v := .bool _) rfl) rfl rfl rfl ?_
              refine gops_nil ?_
              refine hN23 _ _ ?_
              refine gfrom [(6, .bool _)] ⟨rfl, trivial⟩ fun σ => ?_
              refine gret fun w1 hM => ?_
              refine ⟨_, res1 rfl (rt (v := .bool _) rfl), ?_⟩
              exact ⟨rfl, hM.low⟩
            · 
              cases hc59
end Go.Proofs.YtbkameioedmlkaaGreatDoor
namespace Go.Proofs.YtbkameioedmlkaaGreatDoor
open Go.ChangeShapes Go.WideShapes Go.ChangeAt Go.RowKit Go.Cf
set_option maxRecDepth 10000
theorem ce_int : Tryz.prog.cellsOf 3 = 1 := by kernel_rfl
theorem ce_strs : Tryz.prog.cellsOf 22 = 1 := by kernel_rfl
theorem ce_hunks : Tryz.prog.cellsOf 25 = 1 := by kernel_rfl
theorem by_str : Tryz.prog.bytesOf 9 = 16 := by kernel_rfl
theorem by_hunk : Tryz.prog.bytesOf 92 = 56 := by kernel_rfl
theorem el_hunk {H : Type} {enc : TypeId × Value → H} {w : World} : ∀ (n : Nat) (cs : List Value) (x : DataW H × List MemPlace), DataW.trod enc Tryz.prog w 0 (fun _ => true) true n 92 cs = some x →
    (x.1.weights Tryz.prog 92).all (· ≤ reachBytes) = true → ∃ a : HunkC, cs = hunkCells a ∧ HunkR w 0 a := by
  intro n cs x h hw
  obtain ⟨m, hlen, hf⟩ := rd_struct Tryz.underlying92 h hw
  have hl : cs.length = 3 := hlen.trans (by kernel_rfl)
  match cs, hl with
  | [c0, c1, c2], _ =>
    obtain ⟨y0, f0, _⟩ := hf 0 _ rfl
    obtain ⟨y1, f1, w1⟩ := hf 1 _ rfl
    obtain ⟨y2, f2, w2⟩ := hf 2 _ rfl
    simp [ce_int, ce_strs] at f0 f1 f2
    obtain ⟨a0, e0, _, b0⟩ := DataW.trod_int Tryz.underlying3 f0
    obtain ⟨A1, c1', l1, e1, r1, s1, m1, n1, t1, _⟩ := rd_cells Tryz.underlying22 (by kernel_rfl) (el_str Tryz.underlying9) f1 w1
    obtain ⟨A2, c2', l2, e2, r2, s2, m2, n2, t2, _⟩ := rd_cells Tryz.underlying22 (by kernel_rfl) (el_str Tryz.underlying9) f2 w2
    simp at e0 e1 e2
    subst e0 e1 e2
    rw [by_str] at t1 t2
    exact ⟨⟨⟨a0, l1, l2⟩, A1, c1', A2, c2'⟩, rfl, ⟨r1, r2, ⟨s1, m1, n1, Nat.le_trans (Nat.mul_le_mul_right _ s1) t1⟩, ⟨s2, m2, n2, Nat.le_trans (Nat.mul_le_mul_right _ s2) t2⟩, wf_in64 b0⟩⟩
theorem el_pat {H : Type} {enc : TypeId × Value → H} {w : World} : ∀ (n : Nat) (cs : List Value) (x : DataW H × List MemPlace), DataW.trod enc Tryz.prog w 0 (fun _ => true) true n 27 cs = some x →
    (x.1.weights Tryz.prog 27).all (· ≤ reachBytes) = true → ∃ a : PatC, cs = patCells a ∧ PatR w 0 a.A a.c a.hs := by
  intro n cs x h hw
  obtain ⟨m, hlen, hf⟩ := rd_struct Tryz.underlying27 h hw
  have hl : cs.length = 1 := hlen.trans (by kernel_rfl)
  match cs, hl with
  | [c0], _ =>
    obtain ⟨y0, f0, w0⟩ := hf 0 _ rfl
    simp [ce_hunks] at f0
    obtain ⟨A1, c1', l1, e1, r1, s1, m1, n1, t1, q1⟩ := rd_cells Tryz.underlying25 (by kernel_rfl) el_hunk f0 w0
    simp at e1
    subst e1
    rw [by_hunk] at t1
    exact ⟨⟨A1, c1', l1⟩, rfl, ⟨r1, q1, ⟨s1, m1, n1, Nat.le_trans (Nat.mul_le_mul_right _ s1) t1⟩⟩⟩
end Go.Proofs.YtbkameioedmlkaaGreatDoor
namespace Go.Proofs.YtbkameioedmlkaaGreatDoor
open Go.RowKit Go.Cf
theorem errRow (u : TypeId) (h : Tryz.prog.typeName? 3 u = some "*errors.errorString") : u = 252 := by
  have star : "*" ++ "errors.errorString" = "*errors.errorString" := by decide
  exact typeName_ptr_named (nm := "errors.errorString") (by rw [star]; kernel_rfl) (by kernel_rfl) (by decide) u (by rw [star]; exact h)
theorem laidP_of {W : World} (h : laidMetH Tryz.prog [("math/bits.deBruijn32tab", Rows.laid_math_bits_deBruijn32tab), ("math/bits.deBruijn64tab", Rows.laid_math_bits_deBruijn64tab), ("internal/strconv.uint64pow10", Rows.laid_internal_strconv_uint64pow10), ("unicode/utf8.acceptRanges", Rows.laid_unicode_utf8_acceptRanges), ("strconv.ErrRange", Rows.laid_strconv_ErrRange), ("strconv.ErrSyntax", Rows.laid_strconv_ErrSyntax), ("unicode/utf8.first", Rows.laid_unicode_utf8_first)] W) : LaidP W := by
  rw [MakeChecks.laidMetH_plain _ _ _ (by kernel_rfl)] at h
  have h2 := h.tail.tail
  have gT : Tryz.prog.globalNamed "internal/strconv.uint64pow10" = some 5 := by kernel_rfl
  have gR : Tryz.prog.globalNamed "strconv.ErrRange" = some 4 := by kernel_rfl
  have gS : Tryz.prog.globalNamed "strconv.ErrSyntax" = some 3 := by kernel_rfl
  have hT : Lib.TabIs Tryz.prog W "internal/strconv.uint64pow10" .u64 Lib.pow10Tab := Lib.tabIs_of_head gT (t := 256) (by kernel_rfl) Tryz.underlying256 Tryz.underlying201 (by kernel_rfl) (by kernel_rfl) h2
  obtain ⟨a1, s1, hv1, -, -, -⟩ := laid_sentinel h2.tail.tail gR (by kernel_rfl) Tryz.underlying211 errRow Tryz.underlying252 Tryz.underlying254 rfl rfl Tryz.underlying9 (by kernel_rfl) (by kernel_rfl)
  obtain ⟨a2, s2, hv2, -, -, -⟩ := laid_sentinel h2.tail.tail.tail gS (by kernel_rfl) Tryz.underlying211 errRow Tryz.underlying252 Tryz.underlying254 rfl rfl Tryz.underlying9 (by kernel_rfl) (by kernel_rfl)
  have c1 : W.cell? ⟨4, 0, none⟩ = some (.iface 252 (.pointer (some a1))) := by have h0 := World.var?_cell gR hv1 0; simpa using h0
  have c2 : W.cell? ⟨3, 0, none⟩ = some (.iface 252 (.pointer (some a2))) := by have h0 := World.var?_cell gS hv2 0; simpa using h0
  have c3 := hT.cell gT 0 (by decide)
  have b1 := World.block_lt_of_cell? W _ c1
  have b2 := World.block_lt_of_cell? W _ c2
  have b3 := World.block_lt_of_cell? W _ c3
  simp only at b1 b2 b3
  exact ⟨hT, ⟨_, _, c2⟩, ⟨_, _, c1⟩, by omega⟩
end Go.Proofs.YtbkameioedmlkaaGreatDoor
namespace Go.Cf
open Go.ChangeShapes Go.WideShapes Go.ChangeAt Go.RowKit Go.Deep
theorem law_lift_row {H : Type} {enc : TypeId × Value → H} {C : Checked} {os : Os} {f : FuncId} {fn : Func} {s : OpenSpec} {F : Stop.Interp} {conds : List PathCond} {tb : TypeId} {laid : List (String × DataW Unit)}
    (own : ownKnob C.prog.godebug = none) (started : os.Started) (noInit : C.prog.inits.idxOf? f = none) (hfn : C.prog.funcs[f]? = some fn)
    (witness : ∃ (w : World) (tape : Tape) (i : Input), w.os = os ∧ (w.forCall tape i).Shaped C.prog ∧ i.vars = [] ∧ Input.okWide C.prog (w.forCall tape i) .any w.heap.size f i ∧
      s.preRow enc C.prog fn conds false laid (w.forCall tape i).memory i.args ∧ Assume.holds {} C.prog (lone (Frame.enter C.prog f i.args .normal) [] (w.forCall tape i)))
    (hl : laidOutB C.prog = true) (hread : (fn.params.toList.all fun t => C.prog.readableRec t && decide (t < C.prog.types.size)) = true) (hres : fn.resultTypes = #[tb]) (htb : C.prog.underlying tb = some .bool) (hvars : s.vars = []) (hvars0 : (s.at F).vars = []) (hvt : s.bare.plain.varTypes C.prog = [])
    (hspec : ∀ ds : List (DataW H), ds.length = fn.params.size → ((s.at F).fn H (ds ++ [])).results = [.lit (.bool true)] ∧ ((s.at F).fn H (ds ++ [])).args = ds ∧ ((s.at F).fn H (ds ++ [])).vars = [])
    (contract : ∀ (W : World) (base : Nat) (args : Array Value) (ds : List (DataW H)) (p : List MemPlace),
      (∀ (j : Nat) t v, fn.params[j]? = some t → args[j]? = some v → Value.okWide C.prog W .any base t v) → DataW.TrodAll enc C.prog W 0 (fun _ => true) true fn.params.toList args.toList ds p →
      (DataW.weightsEach C.prog fn.params.toList ds).all (· ≤ reachBytes) = true → (∀ k, s.cond = some k → k H ds = true) → laidMetH C.prog laid W →
      Calls C.prog f args W fun e W' => e = .returned (.bool true) ∧ Below W.heap.size W W') :
    ReturnsInHanded {} C os f .any (s.preRow enc C.prog fn conds false laid) ((s.at F).post enc C.prog fn false true false false) := by
  refine returnsInHanded_of_row own started noInit hfn witness ?_
  intro W base args ds gs before hval hW _ hkk hsz hL _ _
  have hW' := hW
  obtain ⟨p, q, hA, hV, rfl, _, _⟩ := hW
  rw [hvars] at hV
  obtain ⟨rfl, rfl⟩ := trodVars_none hV
  have hlen : ds.length = fn.params.size := by
    have key : ∀ (ts : List TypeId) (vs : List Value) (ds : List (DataW H)) (p : List MemPlace), DataW.TrodAll enc C.prog W 0 (fun _ => true) true ts vs ds p → ds.length = ts.length := by
      intro ts
      induction ts with
      | nil => intro vs ds p h; obtain ⟨_, rfl, _⟩ := trodAll_nil h; rfl
      | cons t ts ih => intro vs ds p h; obtain ⟨v, vs', d, ds', p, q, rfl, rfl, rfl, _, h2⟩ := trodAll_cons h; simp [ih _ _ _ h2]
    rw [key _ _ _ _ hA]; simp
  have hw : (DataW.weightsEach C.prog fn.params.toList ds).all (· ≤ reachBytes) = true := by
    simpa [hvt] using hsz
  refine (contract W base args ds p hval hA hw (fun k hk => by simpa using hkk k hk) hL).mono fun e W' ⟨he, bel⟩ => ?_
  subst he
  obtain ⟨h1, h2, h3⟩ := hspec ds hlen
  have hr : ∀ t ∈ fn.params.toList, C.prog.readableRec t = true ∧ t < C.prog.types.size := by
    intro t ht
    have := List.all_eq_true.1 hread t ht
    simpa using this
  refine ⟨_, rfl, ds, [], p ++ [], [], p, [], hW', ?_, ?_, ?_, World.keptBut_mono (fun x hx => ⟨hx, ?_⟩) (bel.frame (· ∈ p ++ [])), fun h => by cases h⟩
  · rw [h1, hres]; exact trodAll_mk1 (shut_bool htb _)
  · rw [h2]; exact trodAll_below hl bel hr hA
  · rw [h3, hvars0]; rfl
  · right; left; simpa using hx
end Go.Cf
namespace Go.Proofs.YtbkameioedmlkaaGreatDoor
open Go.ChangeShapes Go.WideShapes Go.ChangeAt Go.RowKit Go.Cf
set_option maxRecDepth 100000 in
theorem topThreadsFollowPatches_lifted (os : Os) (started : os.Started) (H : Type) (enc : TypeId × Value → H) (F : Stop.Interp) :
    ReturnsInHanded {} Tryz.checked os 3 .any ((OpenSpec.ofChange Rows.topThreadsFollowPatchesSpec).preRow enc Tryz.prog Tryz.f3 Rows.topThreadsFollowPatchesRow.domain false Rows.topThreadsFollowPatchesRow.laid) (((OpenSpec.ofChange Rows.topThreadsFollowPatchesSpec).at F).post enc Tryz.prog Tryz.f3 false true false false) := by
  refine law_lift_row (C := Tryz.checked) (s := OpenSpec.ofChange Rows.topThreadsFollowPatchesSpec) (tb := 4) (by kernel_rfl) started (by kernel_rfl) Tryz.func3
    (witness_row_at (enc := enc) (C := Tryz.checked) false ({ (World.holding Tryz.prog os ⟨#[.cells #[.string ⟨#[118, 97, 108, 117, 101, 32, 111, 117, 116, 32, 111, 102, 32, 114, 97, 110, 103, 101]⟩] 254, .cells #[.string ⟨#[105, 110, 118, 97, 108, 105, 100, 32, 115, 121, 110, 116, 97, 120]⟩] 254], #[], []⟩) with heap := ((((((((World.holding Tryz.prog os ⟨#[.cells #[.string ⟨#[118, 97, 108, 117, 101, 32, 111, 117, 116, 32, 111, 102, 32, 114, 97, 110, 103, 101]⟩] 254, .cells #[.string ⟨#[105, 110, 118, 97, 108, 105, 100, 32, 115, 121, 110, 116, 97, 120]⟩] 254], #[], []⟩).heap).modify 1 (fun | .cells _ t fz => .cells ((Go.Pinned.utf8FirstZ.map fun n : Nat => Value.int .u8 (n : Int)).toArray) t fz | o => o)).modify 2 (fun | .cells _ t fz => .cells ((([128, 191, 160, 191, 128, 159, 144, 191, 128, 143, 0, 0, 0, 0, 0, 0, 0, 0, 0, 0, 0, 0, 0, 0, 0, 0, 0, 0, 0, 0, 0, 0] : List Nat).map fun n : Nat => Value.int .u8 (n : Int)).toArray) t fz | o => o)).modify 6 (fun | .cells _ t fz => .cells ((([0, 1, 28, 2, 29, 14, 24, 3, 30, 22, 20, 15, 25, 17, 4, 8, 31, 27, 13, 23, 21, 19, 16, 7, 26, 12, 18, 6, 11, 5, 10, 9] : List Nat).map fun n : Nat => Value.int .u8 (n : Int)).toArray) t fz | o => o)).modify 7 (fun | .cells _ t fz => .cells ((([0, 1, 56, 2, 57, 49, 28, 3, 61, 58, 42, 50, 38, 29, 17, 4, 62, 47, 59, 36, 45, 43, 51, 22, 53, 39, 33, 30, 24, 18, 12, 5, 63, 55, 48, 27, 60, 41, 37, 16, 46, 35, 44, 21, 52, 32, 23, 11, 54, 26, 40, 15, 34, 20, 31, 10, 25, 14, 19, 9, 13, 8, 7, 6] : List Nat).map fun n : Nat => Value.int .u8 (n : Int)).toArray) t fz | o => o)).modify 5 (fun | .cells _ t fz => .cells ((([1, 10, 100, 1000, 10000, 100000, 1000000, 10000000, 100000000, 1000000000, 10000000000, 100000000000, 1000000000000, 10000000000000, 100000000000000, 1000000000000000, 10000000000000000, 100000000000000000, 1000000000000000000, 10000000000000000000] : List Nat).map fun n : Nat => Value.int .u64 (n : Int)).toArray) t fz | o => o)).modify 4 (fun | .cells _ t fz => .cells (#[.iface 252 (.pointer (some ⟨13, 0, none⟩))]) t fz | o => o)).modify 3 (fun | .cells _ t fz => .cells (#[.iface 252 (.pointer (some ⟨14, 0, none⟩))]) t fz | o => o) } : World) #[.slice none 0 0, .int .i64 0, .slice none 0 0] rfl (by kernel_rfl) (by kernel_rfl) (by kernel_rfl)
      (OpenSpec.preRow_of_cond 8 (show DataW.whole enc Tryz.prog _ Tryz.f3.params.toList _ false _ 8 = some ([.nil, .lit (.int .i64 0), .nil], [], []) by kernel_rfl) (by kernel_rfl) (fun k hk => by cases hk) (by kernel_rfl) (laidMet_of_run' 8 (by kernel_rfl) (by kernel_rfl))))
    (by kernel_rfl) (by kernel_rfl) (by kernel_rfl) Tryz.underlying4 rfl rfl rfl ?_ ?_
  · intro ds hds
    rw [show Tryz.f3.params.size = 3 from by rw [Tryz.params3]; rfl] at hds
    match ds, hds with
    | [d0, d1, d2], _ => exact ⟨rfl, rfl, rfl⟩
  · intro W base args ds p hval hA hw hk hL
    rw [show Tryz.f3.params.toList = [22, 3, 23] from by rw [Tryz.params3]] at hA hw
    rw [Tryz.params3] at hval
    obtain ⟨v0, vs0, d0, ds0, p0, q0, hargs, rfl, rfl, h0, r0⟩ := trodAll_cons hA
    obtain ⟨v1, vs1, d1, ds1, p1, q1, rfl, rfl, rfl, h1, r1⟩ := trodAll_cons r0
    obtain ⟨v2, vs2, d2, ds2, p2, q2, rfl, rfl, rfl, h2, r2⟩ := trodAll_cons r1
    obtain ⟨rfl, rfl, rfl⟩ := trodAll_nil r2
    obtain rfl : args = #[v0, v1, v2] := by cases args; simp_all
    obtain ⟨w0, hw⟩ := weights_each hw
    obtain ⟨w1, hw⟩ := weights_each hw
    obtain ⟨w2, hw⟩ := weights_each hw
    obtain ⟨A0, c0, l0, rfl, hv0, hlc0, hcm0, hA0, hcb0, hQ0⟩ := rd_slice Tryz.underlying22 (by kernel_rfl) (el_str Tryz.underlying9) (hval 0 22 v0 rfl rfl) h0 w0
    have hB0 : SB A0 l0.length c0 16 := ⟨hlc0, hcm0, hA0, Nat.le_trans (Nat.mul_le_mul_right _ hlc0) (by rw [by_str] at hcb0; exact hcb0)⟩
    obtain ⟨n1, rfl, hi1⟩ := rd_int Tryz.underlying3 (hval 1 3 v1 rfl rfl) h1
    obtain ⟨A2, c2, l2, rfl, hv2, hlc2, hcm2, hA2, hcb2, hQ2⟩ := rd_slice Tryz.underlying23 (by kernel_rfl) el_pat (hval 2 23 v2 rfl rfl) h2 w2
    exact law16_any W A0 c0 l0 hv0 hB0 n1 A2 c2 l2 ⟨hv2, hQ2⟩ (Nat.le_trans hlc2 hcm2) (laidP_of hL)
theorem topThreadsFollowPatches_said : Rows.TopThreadsFollowPatchesSaid :=
  OpenClaim.holds_of_cond 3 Tryz.f3 rfl rfl rfl rfl rfl rfl rfl ⟨rfl, rfl, rfl, rfl, rfl⟩ rfl rfl rfl rfl rfl (by kernel_rfl) Tryz.func3 (by kernel_rfl)
    (of_decide_eq_true (by kernel_rfl)) (by unfold Func.isWrapper; first | (rw [if_pos (by decide +kernel)]; kernel_rfl) | (rw [if_neg (by decide +kernel)]; exact ⟨rfl, rfl⟩))
    (fun os started H enc _ F => by rw [OpenClaim.pre_eq_preRow]; exact topThreadsFollowPatches_lifted os started H enc F)
theorem topThreadsFollowPatches_plain (f : FuncId) (fn : Func) (hf : Tryz.pinned.checked.prog.funcNamed "changeforge/changeforgetop.TopThreadsFollowPatches" = some f) (hfn : Tryz.pinned.checked.prog.funcs[f]? = some fn) :
    true = Tryz.pinned.checked.prog.looks [] ∧ ∀ (j : Nat) t, fn.params[j]? = some t → Tryz.pinned.checked.prog.wantsStandIn t = false := by
  obtain rfl : f = 3 := Option.some.inj ((show Tryz.prog.funcNamed "changeforge/changeforgetop.TopThreadsFollowPatches" = some 3 by kernel_rfl).symm.trans hf) |>.symm
  obtain rfl : fn = Tryz.f3 := (Option.some.inj (Tryz.func3.symm.trans hfn)).symm
  refine ⟨by kernel_rfl, fun j t ht => ?_⟩
  rw [Tryz.params3] at ht
  have hm : t ∈ [22, 3, 23] := by simpa using Array.mem_of_getElem? ht
  have hall : ([22, 3, 23].all fun u => !Tryz.prog.wantsStandIn u) = true := by kernel_rfl
  exact (show Tryz.prog.wantsStandIn t = false by simpa using List.all_eq_true.1 hall t hm)
theorem topThreadsFollowPatches_holds : Rows.TopThreadsFollowPatchesCardSaid :=
  Claim7.holds_tied_plain_at .later [] _ _ _ _ topThreadsFollowPatches_said (fun _ h => by cases h) (by kernel_rfl) (fun _ h => by cases h) topThreadsFollowPatches_row_tie rfl ⟨rfl, rfl⟩ (by kernel_rfl) rfl topThreadsFollowPatches_plain (by kernel_rfl)
end Go.Proofs.YtbkameioedmlkaaGreatDoor
