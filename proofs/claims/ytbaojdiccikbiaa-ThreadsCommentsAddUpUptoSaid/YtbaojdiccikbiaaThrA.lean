/- walks, printed by program -/
import Derived.Test.YtbaojdiccikbiaaAppA
import Derived.Test.YtbaojdiccikbiaaThr
namespace Go.Proofs.Ytbaojdiccikbiaa
open Go.RowKit Go.Cf
set_option maxRecDepth 10000

theorem fa66_0 (a : Addr) (w : World) : (Instr.fieldAt 66 (.pointer (some a)) 0).run Try.prog w = .ok (.pointer (some (a.add 0))) w := by kernel_rfl
theorem fa66_2 (a : Addr) (w : World) : (Instr.fieldAt 66 (.pointer (some a)) 2).run Try.prog w = .ok (.pointer (some (a.add 2))) w := by kernel_rfl
theorem fa66_3 (a : Addr) (w : World) : (Instr.fieldAt 66 (.pointer (some a)) 3).run Try.prog w = .ok (.pointer (some (a.add 3))) w := by kernel_rfl
theorem fa66_4 (a : Addr) (w : World) : (Instr.fieldAt 66 (.pointer (some a)) 4).run Try.prog w = .ok (.pointer (some (a.add 4))) w := by kernel_rfl
theorem fa66_5 (a : Addr) (w : World) : (Instr.fieldAt 66 (.pointer (some a)) 5).run Try.prog w = .ok (.pointer (some (a.add 5))) w := by kernel_rfl
theorem fa66_1 (a : Addr) (w : World) : (Instr.fieldAt 66 (.pointer (some a)) 1).run Try.prog w = .ok (.pointer (some (a.add 1))) w := by kernel_rfl
theorem fd27_0 (x0 x1 : Value) (w : World) : (Instr.field 27 (.agg #[x0, x1]) 0).run Try.prog w = .ok x0 w := by kernel_rfl
theorem fa82_1 (a : Addr) (w : World) : (Instr.fieldAt 82 (.pointer (some a)) 1).run Try.prog w = .ok (.pointer (some (a.add 1))) w := by kernel_rfl

set_option maxHeartbeats 4000000 in
theorem form_any (w : World) (x : EvC) : Calls Try.prog 52 #[evV x] w fun e w' => e = .returned (.int .i64 (formC x.pl)) ∧ Below w.heap.size w w' := by
  refine gcalls Try.func52 rfl Try.ntmps52 (Nat.le_of_ble_eq_true rfl) ?_
  refine gfrom [(0, .agg #[_, _, _, _, _, _])] ⟨rfl, trivial⟩ fun σ => ?_
  refine gseq fun N1 hN1 => ?_
  refine greg ?_
  refine gop_box (v := .agg #[_, _, _, _, _, _]) (cs := #[_, _, _, _, _, _]) rfl rfl rfl (fun b1 hb1 => ?_)
  refine gop (y_assign (v := .int _ _) rfl) rfl rfl rfl ?_
  refine gops_nil ?_
  refine hN1 _ _ ?_
  refine gT [box b1 _] rfl ?_
  refine gfrom [(1, .pointer _)] ⟨rfl, trivial⟩ fun σ => ?_
  refine gseq fun N2 hN2 => ?_
  refine gseq fun N3 hN3 => ?_
  refine greg ?_
  refine gop (y_fieldAddr_box fa66_0 rfl) rfl rfl rfl ?_
  refine gop (y_load Try.isAgg3 rfl (cell_box 0 rfl rfl)) rfl rfl rfl ?_
  refine gop (y_lss rfl rfl) rfl rfl rfl ?_
  refine gop (y_move (v := .bool _) rfl) rfl rfl rfl ?_
  refine gop_if (want := false) rfl rfl rfl rfl rfl rfl (fun hg10 => ?_) (fun hg10 => ?_)
  · -- guard 10 on
    have hg10d := of_decide_eq_false hg10
    refine gop (y_bare (y_fieldAddr_box fa66_0 rfl)) rfl rfl rfl ?_
    refine gop_on rfl rfl rfl rfl hg10 ?_
    refine gop (y_bare (y_load Try.isAgg3 rfl (cell_box 0 rfl rfl))) rfl rfl rfl ?_
    refine gop_on rfl rfl rfl rfl hg10 ?_
    refine gop (y_bare (y_gtr rfl rfl)) rfl rfl rfl ?_
    refine gop (y_pick_f (v := .bool _) rfl hg10 rfl) rfl rfl rfl ?_
    refine gops_nil ?_
    refine hN3 _ _ ?_
    refine gfrom [(1, .pointer _), (14, .bool _)] ⟨rfl, rfl, trivial⟩ fun σ => ?_
    refine gcond (b := _) rfl (fun hc14 => ?_) (fun hc14 => ?_)
    · -- slot 14 t
      replace hc14 := of_decide_eq_true hc14
      refine gseq fun N4 hN4 => ?_
      refine greg ?_
      refine gop (y_assign (v := .int _ _) rfl) rfl rfl rfl ?_
      refine gops_nil ?_
      refine hN4 _ _ ?_
      refine gfrom [(2, .int _ _)] ⟨rfl, trivial⟩ fun σ => ?_
      refine gret fun w1 hM => ?_
      refine ⟨_, res1 rfl (rt (v := .int _ _) rfl), ?_⟩
      exact ⟨by rw [formC, if_pos (show x.kind < 1 ∨ 4 < x.kind by omega)], hM.low⟩
    · -- slot 14 f
      replace hc14 := of_decide_eq_false hc14
      have hK : ¬ (x.kind < 1 ∨ 4 < x.kind) := by omega
      refine gskip ?_
      refine hN2 _ _ ?_
      refine gfrom [(1, .pointer _)] ⟨rfl, trivial⟩ fun σ => ?_
      refine gseq fun N5 hN5 => ?_
      refine greg_q (by kernel_rfl) (by kernel_rfl) ?_
      refine gq (y_fieldAddr_box fa66_0 rfl) rfl rfl rfl ?_
      refine gq (y_load Try.isAgg3 rfl (cell_box 0 rfl rfl)) rfl rfl rfl ?_
      refine gq (y_eql rfl rfl) rfl rfl rfl ?_
      refine gq (y_fieldAddr_box fa66_0 rfl) rfl rfl rfl ?_
      refine gq (y_load Try.isAgg3 rfl (cell_box 0 rfl rfl)) rfl rfl rfl ?_
      refine gq (y_eql rfl rfl) rfl rfl rfl ?_
      refine gq (y_fieldAddr_box fa66_0 rfl) rfl rfl rfl ?_
      refine gq (y_load Try.isAgg3 rfl (cell_box 0 rfl rfl)) rfl rfl rfl ?_
      refine gq (y_eql rfl rfl) rfl rfl rfl ?_
      refine gq (y_fieldAddr_box fa66_0 rfl) rfl rfl rfl ?_
      refine gq (y_load Try.isAgg3 rfl (cell_box 0 rfl rfl)) rfl rfl rfl ?_
      refine gq (y_eql rfl rfl) rfl rfl rfl ?_
      refine gq (y_assign (v := .bool _) rfl) rfl rfl rfl ?_
      refine gq (y_assign (v := .bool _) rfl) rfl rfl rfl ?_
      refine gq (y_assign (v := .bool _) rfl) rfl rfl rfl ?_
      refine gq (y_assign (v := .bool _) rfl) rfl rfl rfl ?_
      refine gqs_nil ?_
      refine hN5 _ _ ?_
      refine gfrom [(1, .pointer _), (3, .bool _), (4, .bool _), (5, .bool _), (6, .bool _)] ⟨rfl, rfl, rfl, rfl, rfl, trivial⟩ fun σ => ?_
      refine gseq fun N6 hN6 => ?_
      refine gblock ?_
      refine gseq fun N7 hN7 => ?_
      refine gfrom [(1, .pointer _), (3, .bool _), (4, .bool _), (5, .bool _), (6, .bool _)] ⟨rfl, rfl, rfl, rfl, rfl, trivial⟩ fun σ => ?_
      refine gcut3 (Lf := [(1, .pointer _), (3, .bool _), (4, .bool _)]) (G := Unit) (fun g => True) (fun g => [(27, .bool (badE x.pl))]) (fun g => []) ⟨rfl, rfl, rfl, trivial⟩ ?_ ?_
      ·
        refine gseq fun N8 hN8 => ?_
        refine greg ?_
        refine gop (y_fieldAddr_box fa66_2 rfl) rfl rfl rfl ?_
        refine gop (y_load Try.isAgg3 rfl (cell_box 0 rfl rfl)) rfl rfl rfl ?_
        refine gop (y_neq rfl rfl) rfl rfl rfl ?_
        refine gop (y_move (v := .bool _) rfl) rfl rfl rfl ?_
        refine gop_if (want := true) rfl rfl rfl rfl rfl rfl (fun hg31 => ?_) (fun hg31 => ?_)
        · -- guard 31 on
          have hg31d := of_decide_eq_true hg31
          refine gop (y_bare (y_move (v := .bool _) rfl)) rfl rfl rfl ?_
          refine gop_on rfl rfl rfl rfl hg31 ?_
          refine gop (y_bare (y_not rfl)) rfl rfl rfl ?_
          refine gop (y_pick_t (v := .bool _) rfl hg31 rfl) rfl rfl rfl ?_
          refine gop (y_move (v := .bool _) rfl) rfl rfl rfl ?_
          refine gop_if (want := true) rfl rfl rfl rfl rfl rfl (fun hg35 => ?_) (fun hg35 => ?_)
          · -- guard 35 on
            have hg35d := not_t hg35
            refine gop (y_bare (y_move (v := .bool _) rfl)) rfl rfl rfl ?_
            refine gop_on rfl rfl rfl rfl hg35 ?_
            refine gop (y_bare (y_not rfl)) rfl rfl rfl ?_
            refine gop (y_pick_t (v := .bool _) rfl hg35 rfl) rfl rfl rfl ?_
            refine gop (y_assign (v := .bool _) rfl) rfl rfl rfl ?_
            refine gops_nil ?_
            refine hN8 _ _ ?_
            refine gfrom [(1, .pointer _), (3, .bool _), (4, .bool _), (6, .bool _), (27, .bool _)] ⟨rfl, rfl, rfl, rfl, rfl, trivial⟩ fun σ => ?_
            refine gcond (b := _) rfl (fun hc27 => ?_) (fun hc27 => ?_)
            · -- slot 27 t
              have hb := hc27
              refine gskip ?_
              refine gcut3_end (()) (trivial) ⟨(congrArg Value.bool (by first | (simp_all [badE, isEmptyS]; done) | (simp_all [badE, isEmptyS]; omega))), trivial⟩ ⟨rfl, rfl, rfl, trivial⟩ ⟨_, rfl⟩
            · -- slot 27 f
              have hb : ¬ _ := Bool.eq_false_iff.1 hc27
              refine gseq fun N9 hN9 => ?_
              refine greg ?_
              refine gop (y_fieldAddr_box fa66_3 rfl) rfl rfl rfl ?_
              refine gop (y_load Try.isAgg3 rfl (cell_box 0 rfl rfl)) rfl rfl rfl ?_
              refine gop (y_neq rfl rfl) rfl rfl rfl ?_
              refine gop (y_move (v := .bool _) rfl) rfl rfl rfl ?_
              refine gop_if (want := true) rfl rfl rfl rfl rfl rfl (fun hg42 => ?_) (fun hg42 => ?_)
              · -- guard 42 on
                have hg42d := of_decide_eq_true hg42
                refine gop (y_bare (y_move (v := .bool _) rfl)) rfl rfl rfl ?_
                refine gop_on rfl rfl rfl rfl hg42 ?_
                refine gop (y_bare (y_not rfl)) rfl rfl rfl ?_
                refine gop (y_pick_t (v := .bool _) rfl hg42 rfl) rfl rfl rfl ?_
                refine gop (y_assign (v := .bool _) rfl) rfl rfl rfl ?_
                refine gops_nil ?_
                refine hN9 _ _ ?_
                refine gfrom [(1, .pointer _), (3, .bool _), (4, .bool _), (6, .bool _), (27, .bool _)] ⟨rfl, rfl, rfl, rfl, rfl, trivial⟩ fun σ => ?_
                refine gcond (b := _) rfl (fun hc27 => ?_) (fun hc27 => ?_)
                · -- slot 27 t
                  have hb := hc27
                  refine gskip ?_
                  refine gcut3_end (()) (trivial) ⟨(congrArg Value.bool (by first | (simp_all [badE, isEmptyS]; done) | (simp_all [badE, isEmptyS]; omega))), trivial⟩ ⟨rfl, rfl, rfl, trivial⟩ ⟨_, rfl⟩
                · -- slot 27 f
                  have hb : ¬ _ := Bool.eq_false_iff.1 hc27
                  refine gseq fun N10 hN10 => ?_
                  refine greg ?_
                  refine gop (y_fieldAddr_box fa66_4 rfl) rfl rfl rfl ?_
                  refine gop (y_load Try.isAgg9 rfl (cell_box 0 rfl rfl)) rfl rfl rfl ?_
                  refine gop (y_neqs rfl rfl) rfl rfl rfl ?_
                  refine gop (y_move (v := .bool _) rfl) rfl rfl rfl ?_
                  refine gop_if (want := true) rfl rfl rfl rfl rfl rfl (fun hg49 => ?_) (fun hg49 => ?_)
                  · -- guard 49 on
                    have hg49d := hg49
                    refine gop (y_bare (y_move (v := .bool _) rfl)) rfl rfl rfl ?_
                    refine gop_on rfl rfl rfl rfl hg49 ?_
                    refine gop (y_bare (y_not rfl)) rfl rfl rfl ?_
                    refine gop (y_pick_t (v := .bool _) rfl hg49 rfl) rfl rfl rfl ?_
                    refine gop (y_move (v := .bool _) rfl) rfl rfl rfl ?_
                    refine gop_if (want := true) rfl rfl rfl rfl rfl rfl (fun hg53 => ?_) (fun hg53 => ?_)
                    · -- guard 53 on
                      have hg53d := not_t hg53
                      refine gop (y_bare (y_move (v := .bool _) rfl)) rfl rfl rfl ?_
                      refine gop_on rfl rfl rfl rfl hg53 ?_
                      refine gop (y_bare (y_not rfl)) rfl rfl rfl ?_
                      refine gop (y_pick_t (v := .bool _) rfl hg53 rfl) rfl rfl rfl ?_
                      refine gop (y_assign (v := .bool _) rfl) rfl rfl rfl ?_
                      refine gops_nil ?_
                      refine hN10 _ _ ?_
                      refine gfrom [(1, .pointer _), (3, .bool _), (4, .bool _), (6, .bool _), (27, .bool _)] ⟨rfl, rfl, rfl, rfl, rfl, trivial⟩ fun σ => ?_
                      refine gcond (b := _) rfl (fun hc27 => ?_) (fun hc27 => ?_)
                      · -- slot 27 t
                        have hb := hc27
                        refine gskip ?_
                        refine gcut3_end (()) (trivial) ⟨(congrArg Value.bool (by first | (simp_all [badE, isEmptyS]; done) | (simp_all [badE, isEmptyS]; omega))), trivial⟩ ⟨rfl, rfl, rfl, trivial⟩ ⟨_, rfl⟩
                      · -- slot 27 f
                        have hb : ¬ _ := Bool.eq_false_iff.1 hc27
                        refine greg ?_
                        refine gop (y_fieldAddr_box fa66_5 rfl) rfl rfl rfl ?_
                        refine gop (y_fieldAddr_box fa25_0 rfl) rfl rfl rfl ?_
                        refine gop (y_load Try.isAgg23 rfl (cell_box 0 rfl rfl)) rfl rfl rfl ?_
                        refine gop (y_len Try.underlying23 rfl) rfl rfl rfl ?_
                        refine gop (y_gtr rfl rfl) rfl rfl rfl ?_
                        refine gop (y_move (v := .bool _) rfl) rfl rfl rfl ?_
                        refine gop_if (want := true) rfl rfl rfl rfl rfl rfl (fun hg62 => ?_) (fun hg62 => ?_)
                        · -- guard 62 on
                          have hg62d := of_decide_eq_true hg62
                          refine gop (y_bare (y_move (v := .bool _) rfl)) rfl rfl rfl ?_
                          refine gop_on rfl rfl rfl rfl hg62 ?_
                          refine gop (y_bare (y_not rfl)) rfl rfl rfl ?_
                          refine gop (y_pick_t (v := .bool _) rfl hg62 rfl) rfl rfl rfl ?_
                          refine gop (y_assign (v := .bool _) rfl) rfl rfl rfl ?_
                          refine gops_nil ?_
                          refine gcut3_end (()) (trivial) ⟨(congrArg Value.bool (by first | (simp_all [badE, isEmptyS]; done) | (simp_all [badE, isEmptyS]; omega))), trivial⟩ ⟨rfl, rfl, rfl, trivial⟩ ⟨_, rfl⟩
                        · -- guard 62 off
                          have hg62d := of_decide_eq_false hg62
                          refine gop_off rfl rfl rfl rfl hg62 rfl rfl ?_
                          refine gop (y_pick_f (v := .bool _) rfl hg62 rfl) rfl rfl rfl ?_
                          refine gop (y_assign (v := .bool _) rfl) rfl rfl rfl ?_
                          refine gops_nil ?_
                          refine gcut3_end (()) (trivial) ⟨(congrArg Value.bool (by first | (simp_all [badE, isEmptyS]; done) | (simp_all [badE, isEmptyS]; omega))), trivial⟩ ⟨rfl, rfl, rfl, trivial⟩ ⟨_, rfl⟩
                    · -- guard 53 off
                      have hg53d := not_f hg53
                      refine gop_off rfl rfl rfl rfl hg53 rfl rfl ?_
                      refine gop (y_pick_f (v := .bool _) rfl hg53 rfl) rfl rfl rfl ?_
                      refine gop (y_assign (v := .bool _) rfl) rfl rfl rfl ?_
                      refine gops_nil ?_
                      refine hN10 _ _ ?_
                      refine gfrom [(1, .pointer _), (3, .bool _), (4, .bool _), (6, .bool _), (27, .bool _)] ⟨rfl, rfl, rfl, rfl, rfl, trivial⟩ fun σ => ?_
                      refine gcond (b := _) rfl (fun hc27 => ?_) (fun hc27 => ?_)
                      · -- slot 27 t
                        have hb := hc27
                        refine gskip ?_
                        refine gcut3_end (()) (trivial) ⟨(congrArg Value.bool (by first | (simp_all [badE, isEmptyS]; done) | (simp_all [badE, isEmptyS]; omega))), trivial⟩ ⟨rfl, rfl, rfl, trivial⟩ ⟨_, rfl⟩
                      · -- slot 27 f
                        have hb : ¬ _ := Bool.eq_false_iff.1 hc27
                        refine greg ?_
                        refine gop (y_fieldAddr_box fa66_5 rfl) rfl rfl rfl ?_
                        refine gop (y_fieldAddr_box fa25_0 rfl) rfl rfl rfl ?_
                        refine gop (y_load Try.isAgg23 rfl (cell_box 0 rfl rfl)) rfl rfl rfl ?_
                        refine gop (y_len Try.underlying23 rfl) rfl rfl rfl ?_
                        refine gop (y_gtr rfl rfl) rfl rfl rfl ?_
                        refine gop (y_move (v := .bool _) rfl) rfl rfl rfl ?_
                        refine gop_if (want := true) rfl rfl rfl rfl rfl rfl (fun hg62 => ?_) (fun hg62 => ?_)
                        · -- guard 62 on
                          have hg62d := of_decide_eq_true hg62
                          refine gop (y_bare (y_move (v := .bool _) rfl)) rfl rfl rfl ?_
                          refine gop_on rfl rfl rfl rfl hg62 ?_
                          refine gop (y_bare (y_not rfl)) rfl rfl rfl ?_
                          refine gop (y_pick_t (v := .bool _) rfl hg62 rfl) rfl rfl rfl ?_
                          refine gop (y_assign (v := .bool _) rfl) rfl rfl rfl ?_
                          refine gops_nil ?_
                          refine gcut3_end (()) (trivial) ⟨(congrArg Value.bool (by first | (simp_all [badE, isEmptyS]; done) | (simp_all [badE, isEmptyS]; omega))), trivial⟩ ⟨rfl, rfl, rfl, trivial⟩ ⟨_, rfl⟩
                        · -- guard 62 off
                          have hg62d := of_decide_eq_false hg62
                          refine gop_off rfl rfl rfl rfl hg62 rfl rfl ?_
                          refine gop (y_pick_f (v := .bool _) rfl hg62 rfl) rfl rfl rfl ?_
                          refine gop (y_assign (v := .bool _) rfl) rfl rfl rfl ?_
                          refine gops_nil ?_
                          refine gcut3_end (()) (trivial) ⟨(congrArg Value.bool (by first | (simp_all [badE, isEmptyS]; done) | (simp_all [badE, isEmptyS]; omega))), trivial⟩ ⟨rfl, rfl, rfl, trivial⟩ ⟨_, rfl⟩
                  · -- guard 49 off
                    have hg49d := hg49
                    refine gop_off rfl rfl rfl rfl hg49 rfl rfl ?_
                    refine gop (y_pick_f (v := .bool _) rfl hg49 rfl) rfl rfl rfl ?_
                    refine gop (y_move (v := .bool _) rfl) rfl rfl rfl ?_
                    refine gop_off rfl rfl rfl rfl rfl rfl rfl ?_
                    refine gop_off rfl rfl rfl rfl rfl rfl rfl ?_
                    refine gop (y_pick_f (v := .bool _) rfl rfl rfl) rfl rfl rfl ?_
                    refine gop (y_assign (v := .bool _) rfl) rfl rfl rfl ?_
                    refine gops_nil ?_
                    refine hN10 _ _ ?_
                    refine gfrom [(1, .pointer _), (3, .bool _), (4, .bool _), (6, .bool _), (27, .bool _)] ⟨rfl, rfl, rfl, rfl, rfl, trivial⟩ fun σ => ?_
                    refine gcond (b := _) rfl (fun hc27 => ?_) (fun hc27 => ?_)
                    · -- slot 27 t
                      have hb := hc27
                      refine gskip ?_
                      refine gcut3_end (()) (trivial) ⟨(congrArg Value.bool (by first | (simp_all [badE, isEmptyS]; done) | (simp_all [badE, isEmptyS]; omega))), trivial⟩ ⟨rfl, rfl, rfl, trivial⟩ ⟨_, rfl⟩
                    · -- slot 27 f
                      have hb : ¬ _ := Bool.eq_false_iff.1 hc27
                      refine greg ?_
                      refine gop (y_fieldAddr_box fa66_5 rfl) rfl rfl rfl ?_
                      refine gop (y_fieldAddr_box fa25_0 rfl) rfl rfl rfl ?_
                      refine gop (y_load Try.isAgg23 rfl (cell_box 0 rfl rfl)) rfl rfl rfl ?_
                      refine gop (y_len Try.underlying23 rfl) rfl rfl rfl ?_
                      refine gop (y_gtr rfl rfl) rfl rfl rfl ?_
                      refine gop (y_move (v := .bool _) rfl) rfl rfl rfl ?_
                      refine gop_if (want := true) rfl rfl rfl rfl rfl rfl (fun hg62 => ?_) (fun hg62 => ?_)
                      · -- guard 62 on
                        have hg62d := of_decide_eq_true hg62
                        refine gop (y_bare (y_move (v := .bool _) rfl)) rfl rfl rfl ?_
                        refine gop_on rfl rfl rfl rfl hg62 ?_
                        refine gop (y_bare (y_not rfl)) rfl rfl rfl ?_
                        refine gop (y_pick_t (v := .bool _) rfl hg62 rfl) rfl rfl rfl ?_
                        refine gop (y_assign (v := .bool _) rfl) rfl rfl rfl ?_
                        refine gops_nil ?_
                        refine gcut3_end (()) (trivial) ⟨(congrArg Value.bool (by first | (simp_all [badE, isEmptyS]; done) | (simp_all [badE, isEmptyS]; omega))), trivial⟩ ⟨rfl, rfl, rfl, trivial⟩ ⟨_, rfl⟩
                      · -- guard 62 off
                        have hg62d := of_decide_eq_false hg62
                        refine gop_off rfl rfl rfl rfl hg62 rfl rfl ?_
                        refine gop (y_pick_f (v := .bool _) rfl hg62 rfl) rfl rfl rfl ?_
                        refine gop (y_assign (v := .bool _) rfl) rfl rfl rfl ?_
                        refine gops_nil ?_
                        refine gcut3_end (()) (trivial) ⟨(congrArg Value.bool (by first | (simp_all [badE, isEmptyS]; done) | (simp_all [badE, isEmptyS]; omega))), trivial⟩ ⟨rfl, rfl, rfl, trivial⟩ ⟨_, rfl⟩
              · -- guard 42 off
                have hg42d := Decidable.not_not.1 (of_decide_eq_false hg42)
                refine gop_off rfl rfl rfl rfl hg42 rfl rfl ?_
                refine gop (y_pick_f (v := .bool _) rfl hg42 rfl) rfl rfl rfl ?_
                refine gop (y_assign (v := .bool _) rfl) rfl rfl rfl ?_
                refine gops_nil ?_
                refine hN9 _ _ ?_
                refine gfrom [(1, .pointer _), (3, .bool _), (4, .bool _), (6, .bool _), (27, .bool _)] ⟨rfl, rfl, rfl, rfl, rfl, trivial⟩ fun σ => ?_
                refine gcond (b := _) rfl (fun hc27 => ?_) (fun hc27 => ?_)
                · -- slot 27 t
                  have hb := hc27
                  refine gskip ?_
                  refine gcut3_end (()) (trivial) ⟨(congrArg Value.bool (by first | (simp_all [badE, isEmptyS]; done) | (simp_all [badE, isEmptyS]; omega))), trivial⟩ ⟨rfl, rfl, rfl, trivial⟩ ⟨_, rfl⟩
                · -- slot 27 f
                  have hb : ¬ _ := Bool.eq_false_iff.1 hc27
                  refine gseq fun N11 hN11 => ?_
                  refine greg ?_
                  refine gop (y_fieldAddr_box fa66_4 rfl) rfl rfl rfl ?_
                  refine gop (y_load Try.isAgg9 rfl (cell_box 0 rfl rfl)) rfl rfl rfl ?_
                  refine gop (y_neqs rfl rfl) rfl rfl rfl ?_
                  refine gop (y_move (v := .bool _) rfl) rfl rfl rfl ?_
                  refine gop_if (want := true) rfl rfl rfl rfl rfl rfl (fun hg49 => ?_) (fun hg49 => ?_)
                  · -- guard 49 on
                    have hg49d := hg49
                    refine gop (y_bare (y_move (v := .bool _) rfl)) rfl rfl rfl ?_
                    refine gop_on rfl rfl rfl rfl hg49 ?_
                    refine gop (y_bare (y_not rfl)) rfl rfl rfl ?_
                    refine gop (y_pick_t (v := .bool _) rfl hg49 rfl) rfl rfl rfl ?_
                    refine gop (y_move (v := .bool _) rfl) rfl rfl rfl ?_
                    refine gop_if (want := true) rfl rfl rfl rfl rfl rfl (fun hg53 => ?_) (fun hg53 => ?_)
                    · -- guard 53 on
                      have hg53d := not_t hg53
                      refine gop (y_bare (y_move (v := .bool _) rfl)) rfl rfl rfl ?_
                      refine gop_on rfl rfl rfl rfl hg53 ?_
                      refine gop (y_bare (y_not rfl)) rfl rfl rfl ?_
                      refine gop (y_pick_t (v := .bool _) rfl hg53 rfl) rfl rfl rfl ?_
                      refine gop (y_assign (v := .bool _) rfl) rfl rfl rfl ?_
                      refine gops_nil ?_
                      refine hN11 _ _ ?_
                      refine gfrom [(1, .pointer _), (3, .bool _), (4, .bool _), (6, .bool _), (27, .bool _)] ⟨rfl, rfl, rfl, rfl, rfl, trivial⟩ fun σ => ?_
                      refine gcond (b := _) rfl (fun hc27 => ?_) (fun hc27 => ?_)
                      · -- slot 27 t
                        have hb := hc27
                        refine gskip ?_
                        refine gcut3_end (()) (trivial) ⟨(congrArg Value.bool (by first | (simp_all [badE, isEmptyS]; done) | (simp_all [badE, isEmptyS]; omega))), trivial⟩ ⟨rfl, rfl, rfl, trivial⟩ ⟨_, rfl⟩
                      · -- slot 27 f
                        have hb : ¬ _ := Bool.eq_false_iff.1 hc27
                        refine greg ?_
                        refine gop (y_fieldAddr_box fa66_5 rfl) rfl rfl rfl ?_
                        refine gop (y_fieldAddr_box fa25_0 rfl) rfl rfl rfl ?_
                        refine gop (y_load Try.isAgg23 rfl (cell_box 0 rfl rfl)) rfl rfl rfl ?_
                        refine gop (y_len Try.underlying23 rfl) rfl rfl rfl ?_
                        refine gop (y_gtr rfl rfl) rfl rfl rfl ?_
                        refine gop (y_move (v := .bool _) rfl) rfl rfl rfl ?_
                        refine gop_if (want := true) rfl rfl rfl rfl rfl rfl (fun hg62 => ?_) (fun hg62 => ?_)
                        · -- guard 62 on
                          have hg62d := of_decide_eq_true hg62
                          refine gop (y_bare (y_move (v := .bool _) rfl)) rfl rfl rfl ?_
                          refine gop_on rfl rfl rfl rfl hg62 ?_
                          refine gop (y_bare (y_not rfl)) rfl rfl rfl ?_
                          refine gop (y_pick_t (v := .bool _) rfl hg62 rfl) rfl rfl rfl ?_
                          refine gop (y_assign (v := .bool _) rfl) rfl rfl rfl ?_
                          refine gops_nil ?_
                          refine gcut3_end (()) (trivial) ⟨(congrArg Value.bool (by first | (simp_all [badE, isEmptyS]; done) | (simp_all [badE, isEmptyS]; omega))), trivial⟩ ⟨rfl, rfl, rfl, trivial⟩ ⟨_, rfl⟩
                        · -- guard 62 off
                          have hg62d := of_decide_eq_false hg62
                          refine gop_off rfl rfl rfl rfl hg62 rfl rfl ?_
                          refine gop (y_pick_f (v := .bool _) rfl hg62 rfl) rfl rfl rfl ?_
                          refine gop (y_assign (v := .bool _) rfl) rfl rfl rfl ?_
                          refine gops_nil ?_
                          refine gcut3_end (()) (trivial) ⟨(congrArg Value.bool (by first | (simp_all [badE, isEmptyS]; done) | (simp_all [badE, isEmptyS]; omega))), trivial⟩ ⟨rfl, rfl, rfl, trivial⟩ ⟨_, rfl⟩
                    · -- guard 53 off
                      have hg53d := not_f hg53
                      refine gop_off rfl rfl rfl rfl hg53 rfl rfl ?_
                      refine gop (y_pick_f (v := .bool _) rfl hg53 rfl) rfl rfl rfl ?_
                      refine gop (y_assign (v := .bool _) rfl) rfl rfl rfl ?_
                      refine gops_nil ?_
                      refine hN11 _ _ ?_
                      refine gfrom [(1, .pointer _), (3, .bool _), (4, .bool _), (6, .bool _), (27, .bool _)] ⟨rfl, rfl, rfl, rfl, rfl, trivial⟩ fun σ => ?_
                      refine gcond (b := _) rfl (fun hc27 => ?_) (fun hc27 => ?_)
                      · -- slot 27 t
                        have hb := hc27
                        refine gskip ?_
                        refine gcut3_end (()) (trivial) ⟨(congrArg Value.bool (by first | (simp_all [badE, isEmptyS]; done) | (simp_all [badE, isEmptyS]; omega))), trivial⟩ ⟨rfl, rfl, rfl, trivial⟩ ⟨_, rfl⟩
                      · -- slot 27 f
                        have hb : ¬ _ := Bool.eq_false_iff.1 hc27
                        refine greg ?_
                        refine gop (y_fieldAddr_box fa66_5 rfl) rfl rfl rfl ?_
                        refine gop (y_fieldAddr_box fa25_0 rfl) rfl rfl rfl ?_
                        refine gop (y_load Try.isAgg23 rfl (cell_box 0 rfl rfl)) rfl rfl rfl ?_
                        refine gop (y_len Try.underlying23 rfl) rfl rfl rfl ?_
                        refine gop (y_gtr rfl rfl) rfl rfl rfl ?_
                        refine gop (y_move (v := .bool _) rfl) rfl rfl rfl ?_
                        refine gop_if (want := true) rfl rfl rfl rfl rfl rfl (fun hg62 => ?_) (fun hg62 => ?_)
                        · -- guard 62 on
                          have hg62d := of_decide_eq_true hg62
                          refine gop (y_bare (y_move (v := .bool _) rfl)) rfl rfl rfl ?_
                          refine gop_on rfl rfl rfl rfl hg62 ?_
                          refine gop (y_bare (y_not rfl)) rfl rfl rfl ?_
                          refine gop (y_pick_t (v := .bool _) rfl hg62 rfl) rfl rfl rfl ?_
                          refine gop (y_assign (v := .bool _) rfl) rfl rfl rfl ?_
                          refine gops_nil ?_
                          refine gcut3_end (()) (trivial) ⟨(congrArg Value.bool (by first | (simp_all [badE, isEmptyS]; done) | (simp_all [badE, isEmptyS]; omega))), trivial⟩ ⟨rfl, rfl, rfl, trivial⟩ ⟨_, rfl⟩
                        · -- guard 62 off
                          have hg62d := of_decide_eq_false hg62
                          refine gop_off rfl rfl rfl rfl hg62 rfl rfl ?_
                          refine gop (y_pick_f (v := .bool _) rfl hg62 rfl) rfl rfl rfl ?_
                          refine gop (y_assign (v := .bool _) rfl) rfl rfl rfl ?_
                          refine gops_nil ?_
                          refine gcut3_end (()) (trivial) ⟨(congrArg Value.bool (by first | (simp_all [badE, isEmptyS]; done) | (simp_all [badE, isEmptyS]; omega))), trivial⟩ ⟨rfl, rfl, rfl, trivial⟩ ⟨_, rfl⟩
                  · -- guard 49 off
                    have hg49d := hg49
                    refine gop_off rfl rfl rfl rfl hg49 rfl rfl ?_
                    refine gop (y_pick_f (v := .bool _) rfl hg49 rfl) rfl rfl rfl ?_
                    refine gop (y_move (v := .bool _) rfl) rfl rfl rfl ?_
                    refine gop_off rfl rfl rfl rfl rfl rfl rfl ?_
                    refine gop_off rfl rfl rfl rfl rfl rfl rfl ?_
                    refine gop (y_pick_f (v := .bool _) rfl rfl rfl) rfl rfl rfl ?_
                    refine gop (y_assign (v := .bool _) rfl) rfl rfl rfl ?_
                    refine gops_nil ?_
                    refine hN11 _ _ ?_
                    refine gfrom [(1, .pointer _), (3, .bool _), (4, .bool _), (6, .bool _), (27, .bool _)] ⟨rfl, rfl, rfl, rfl, rfl, trivial⟩ fun σ => ?_
                    refine gcond (b := _) rfl (fun hc27 => ?_) (fun hc27 => ?_)
                    · -- slot 27 t
                      have hb := hc27
                      refine gskip ?_
                      refine gcut3_end (()) (trivial) ⟨(congrArg Value.bool (by first | (simp_all [badE, isEmptyS]; done) | (simp_all [badE, isEmptyS]; omega))), trivial⟩ ⟨rfl, rfl, rfl, trivial⟩ ⟨_, rfl⟩
                    · -- slot 27 f
                      have hb : ¬ _ := Bool.eq_false_iff.1 hc27
                      refine greg ?_
                      refine gop (y_fieldAddr_box fa66_5 rfl) rfl rfl rfl ?_
                      refine gop (y_fieldAddr_box fa25_0 rfl) rfl rfl rfl ?_
                      refine gop (y_load Try.isAgg23 rfl (cell_box 0 rfl rfl)) rfl rfl rfl ?_
                      refine gop (y_len Try.underlying23 rfl) rfl rfl rfl ?_
                      refine gop (y_gtr rfl rfl) rfl rfl rfl ?_
                      refine gop (y_move (v := .bool _) rfl) rfl rfl rfl ?_
                      refine gop_if (want := true) rfl rfl rfl rfl rfl rfl (fun hg62 => ?_) (fun hg62 => ?_)
                      · -- guard 62 on
                        have hg62d := of_decide_eq_true hg62
                        refine gop (y_bare (y_move (v := .bool _) rfl)) rfl rfl rfl ?_
                        refine gop_on rfl rfl rfl rfl hg62 ?_
                        refine gop (y_bare (y_not rfl)) rfl rfl rfl ?_
                        refine gop (y_pick_t (v := .bool _) rfl hg62 rfl) rfl rfl rfl ?_
                        refine gop (y_assign (v := .bool _) rfl) rfl rfl rfl ?_
                        refine gops_nil ?_
                        refine gcut3_end (()) (trivial) ⟨(congrArg Value.bool (by first | (simp_all [badE, isEmptyS]; done) | (simp_all [badE, isEmptyS]; omega))), trivial⟩ ⟨rfl, rfl, rfl, trivial⟩ ⟨_, rfl⟩
                      · -- guard 62 off
                        have hg62d := of_decide_eq_false hg62
                        refine gop_off rfl rfl rfl rfl hg62 rfl rfl ?_
                        refine gop (y_pick_f (v := .bool _) rfl hg62 rfl) rfl rfl rfl ?_
                        refine gop (y_assign (v := .bool _) rfl) rfl rfl rfl ?_
                        refine gops_nil ?_
                        refine gcut3_end (()) (trivial) ⟨(congrArg Value.bool (by first | (simp_all [badE, isEmptyS]; done) | (simp_all [badE, isEmptyS]; omega))), trivial⟩ ⟨rfl, rfl, rfl, trivial⟩ ⟨_, rfl⟩
          · -- guard 35 off
            have hg35d := not_f hg35
            refine gop_off rfl rfl rfl rfl hg35 rfl rfl ?_
            refine gop (y_pick_f (v := .bool _) rfl hg35 rfl) rfl rfl rfl ?_
            refine gop (y_assign (v := .bool _) rfl) rfl rfl rfl ?_
            refine gops_nil ?_
            refine hN8 _ _ ?_
            refine gfrom [(1, .pointer _), (3, .bool _), (4, .bool _), (6, .bool _), (27, .bool _)] ⟨rfl, rfl, rfl, rfl, rfl, trivial⟩ fun σ => ?_
            refine gcond (b := _) rfl (fun hc27 => ?_) (fun hc27 => ?_)
            · -- slot 27 t
              have hb := hc27
              refine gskip ?_
              refine gcut3_end (()) (trivial) ⟨(congrArg Value.bool (by first | (simp_all [badE, isEmptyS]; done) | (simp_all [badE, isEmptyS]; omega))), trivial⟩ ⟨rfl, rfl, rfl, trivial⟩ ⟨_, rfl⟩
            · -- slot 27 f
              have hb : ¬ _ := Bool.eq_false_iff.1 hc27
              refine gseq fun N12 hN12 => ?_
              refine greg ?_
              refine gop (y_fieldAddr_box fa66_3 rfl) rfl rfl rfl ?_
              refine gop (y_load Try.isAgg3 rfl (cell_box 0 rfl rfl)) rfl rfl rfl ?_
              refine gop (y_neq rfl rfl) rfl rfl rfl ?_
              refine gop (y_move (v := .bool _) rfl) rfl rfl rfl ?_
              refine gop_if (want := true) rfl rfl rfl rfl rfl rfl (fun hg42 => ?_) (fun hg42 => ?_)
              · -- guard 42 on
                have hg42d := of_decide_eq_true hg42
                refine gop (y_bare (y_move (v := .bool _) rfl)) rfl rfl rfl ?_
                refine gop_on rfl rfl rfl rfl hg42 ?_
                refine gop (y_bare (y_not rfl)) rfl rfl rfl ?_
                refine gop (y_pick_t (v := .bool _) rfl hg42 rfl) rfl rfl rfl ?_
                refine gop (y_assign (v := .bool _) rfl) rfl rfl rfl ?_
                refine gops_nil ?_
                refine hN12 _ _ ?_
                refine gfrom [(1, .pointer _), (3, .bool _), (4, .bool _), (6, .bool _), (27, .bool _)] ⟨rfl, rfl, rfl, rfl, rfl, trivial⟩ fun σ => ?_
                refine gcond (b := _) rfl (fun hc27 => ?_) (fun hc27 => ?_)
                · -- slot 27 t
                  have hb := hc27
                  refine gskip ?_
                  refine gcut3_end (()) (trivial) ⟨(congrArg Value.bool (by first | (simp_all [badE, isEmptyS]; done) | (simp_all [badE, isEmptyS]; omega))), trivial⟩ ⟨rfl, rfl, rfl, trivial⟩ ⟨_, rfl⟩
                · -- slot 27 f
                  have hb : ¬ _ := Bool.eq_false_iff.1 hc27
                  refine gseq fun N13 hN13 => ?_
                  refine greg ?_
                  refine gop (y_fieldAddr_box fa66_4 rfl) rfl rfl rfl ?_
                  refine gop (y_load Try.isAgg9 rfl (cell_box 0 rfl rfl)) rfl rfl rfl ?_
                  refine gop (y_neqs rfl rfl) rfl rfl rfl ?_
                  refine gop (y_move (v := .bool _) rfl) rfl rfl rfl ?_
                  refine gop_if (want := true) rfl rfl rfl rfl rfl rfl (fun hg49 => ?_) (fun hg49 => ?_)
                  · -- guard 49 on
                    have hg49d := hg49
                    refine gop (y_bare (y_move (v := .bool _) rfl)) rfl rfl rfl ?_
                    refine gop_on rfl rfl rfl rfl hg49 ?_
                    refine gop (y_bare (y_not rfl)) rfl rfl rfl ?_
                    refine gop (y_pick_t (v := .bool _) rfl hg49 rfl) rfl rfl rfl ?_
                    refine gop (y_move (v := .bool _) rfl) rfl rfl rfl ?_
                    refine gop_if (want := true) rfl rfl rfl rfl rfl rfl (fun hg53 => ?_) (fun hg53 => ?_)
                    · -- guard 53 on
                      have hg53d := not_t hg53
                      refine gop (y_bare (y_move (v := .bool _) rfl)) rfl rfl rfl ?_
                      refine gop_on rfl rfl rfl rfl hg53 ?_
                      refine gop (y_bare (y_not rfl)) rfl rfl rfl ?_
                      refine gop (y_pick_t (v := .bool _) rfl hg53 rfl) rfl rfl rfl ?_
                      refine gop (y_assign (v := .bool _) rfl) rfl rfl rfl ?_
                      refine gops_nil ?_
                      refine hN13 _ _ ?_
                      refine gfrom [(1, .pointer _), (3, .bool _), (4, .bool _), (6, .bool _), (27, .bool _)] ⟨rfl, rfl, rfl, rfl, rfl, trivial⟩ fun σ => ?_
                      refine gcond (b := _) rfl (fun hc27 => ?_) (fun hc27 => ?_)
                      · -- slot 27 t
                        have hb := hc27
                        refine gskip ?_
                        refine gcut3_end (()) (trivial) ⟨(congrArg Value.bool (by first | (simp_all [badE, isEmptyS]; done) | (simp_all [badE, isEmptyS]; omega))), trivial⟩ ⟨rfl, rfl, rfl, trivial⟩ ⟨_, rfl⟩
                      · -- slot 27 f
                        have hb : ¬ _ := Bool.eq_false_iff.1 hc27
                        refine greg ?_
                        refine gop (y_fieldAddr_box fa66_5 rfl) rfl rfl rfl ?_
                        refine gop (y_fieldAddr_box fa25_0 rfl) rfl rfl rfl ?_
                        refine gop (y_load Try.isAgg23 rfl (cell_box 0 rfl rfl)) rfl rfl rfl ?_
                        refine gop (y_len Try.underlying23 rfl) rfl rfl rfl ?_
                        refine gop (y_gtr rfl rfl) rfl rfl rfl ?_
                        refine gop (y_move (v := .bool _) rfl) rfl rfl rfl ?_
                        refine gop_if (want := true) rfl rfl rfl rfl rfl rfl (fun hg62 => ?_) (fun hg62 => ?_)
                        · -- guard 62 on
                          have hg62d := of_decide_eq_true hg62
                          refine gop (y_bare (y_move (v := .bool _) rfl)) rfl rfl rfl ?_
                          refine gop_on rfl rfl rfl rfl hg62 ?_
                          refine gop (y_bare (y_not rfl)) rfl rfl rfl ?_
                          refine gop (y_pick_t (v := .bool _) rfl hg62 rfl) rfl rfl rfl ?_
                          refine gop (y_assign (v := .bool _) rfl) rfl rfl rfl ?_
                          refine gops_nil ?_
                          refine gcut3_end (()) (trivial) ⟨(congrArg Value.bool (by first | (simp_all [badE, isEmptyS]; done) | (simp_all [badE, isEmptyS]; omega))), trivial⟩ ⟨rfl, rfl, rfl, trivial⟩ ⟨_, rfl⟩
                        · -- guard 62 off
                          have hg62d := of_decide_eq_false hg62
                          refine gop_off rfl rfl rfl rfl hg62 rfl rfl ?_
                          refine gop (y_pick_f (v := .bool _) rfl hg62 rfl) rfl rfl rfl ?_
                          refine gop (y_assign (v := .bool _) rfl) rfl rfl rfl ?_
                          refine gops_nil ?_
                          refine gcut3_end (()) (trivial) ⟨(congrArg Value.bool (by first | (simp_all [badE, isEmptyS]; done) | (simp_all [badE, isEmptyS]; omega))), trivial⟩ ⟨rfl, rfl, rfl, trivial⟩ ⟨_, rfl⟩
                    · -- guard 53 off
                      have hg53d := not_f hg53
                      refine gop_off rfl rfl rfl rfl hg53 rfl rfl ?_
                      refine gop (y_pick_f (v := .bool _) rfl hg53 rfl) rfl rfl rfl ?_
                      refine gop (y_assign (v := .bool _) rfl) rfl rfl rfl ?_
                      refine gops_nil ?_
                      refine hN13 _ _ ?_
                      refine gfrom [(1, .pointer _), (3, .bool _), (4, .bool _), (6, .bool _), (27, .bool _)] ⟨rfl, rfl, rfl, rfl, rfl, trivial⟩ fun σ => ?_
                      refine gcond (b := _) rfl (fun hc27 => ?_) (fun hc27 => ?_)
                      · -- slot 27 t
                        have hb := hc27
                        refine gskip ?_
                        refine gcut3_end (()) (trivial) ⟨(congrArg Value.bool (by first | (simp_all [badE, isEmptyS]; done) | (simp_all [badE, isEmptyS]; omega))), trivial⟩ ⟨rfl, rfl, rfl, trivial⟩ ⟨_, rfl⟩
                      · -- slot 27 f
                        have hb : ¬ _ := Bool.eq_false_iff.1 hc27
                        refine greg ?_
                        refine gop (y_fieldAddr_box fa66_5 rfl) rfl rfl rfl ?_
                        refine gop (y_fieldAddr_box fa25_0 rfl) rfl rfl rfl ?_
                        refine gop (y_load Try.isAgg23 rfl (cell_box 0 rfl rfl)) rfl rfl rfl ?_
                        refine gop (y_len Try.underlying23 rfl) rfl rfl rfl ?_
                        refine gop (y_gtr rfl rfl) rfl rfl rfl ?_
                        refine gop (y_move (v := .bool _) rfl) rfl rfl rfl ?_
                        refine gop_if (want := true) rfl rfl rfl rfl rfl rfl (fun hg62 => ?_) (fun hg62 => ?_)
                        · -- guard 62 on
                          have hg62d := of_decide_eq_true hg62
                          refine gop (y_bare (y_move (v := .bool _) rfl)) rfl rfl rfl ?_
                          refine gop_on rfl rfl rfl rfl hg62 ?_
                          refine gop (y_bare (y_not rfl)) rfl rfl rfl ?_
                          refine gop (y_pick_t (v := .bool _) rfl hg62 rfl) rfl rfl rfl ?_
                          refine gop (y_assign (v := .bool _) rfl) rfl rfl rfl ?_
                          refine gops_nil ?_
                          refine gcut3_end (()) (trivial) ⟨(congrArg Value.bool (by first | (simp_all [badE, isEmptyS]; done) | (simp_all [badE, isEmptyS]; omega))), trivial⟩ ⟨rfl, rfl, rfl, trivial⟩ ⟨_, rfl⟩
                        · -- guard 62 off
                          have hg62d := of_decide_eq_false hg62
                          refine gop_off rfl rfl rfl rfl hg62 rfl rfl ?_
                          refine gop (y_pick_f (v := .bool _) rfl hg62 rfl) rfl rfl rfl ?_
                          refine gop (y_assign (v := .bool _) rfl) rfl rfl rfl ?_
                          refine gops_nil ?_
                          refine gcut3_end (()) (trivial) ⟨(congrArg Value.bool (by first | (simp_all [badE, isEmptyS]; done) | (simp_all [badE, isEmptyS]; omega))), trivial⟩ ⟨rfl, rfl, rfl, trivial⟩ ⟨_, rfl⟩
                  · -- guard 49 off
                    have hg49d := hg49
                    refine gop_off rfl rfl rfl rfl hg49 rfl rfl ?_
                    refine gop (y_pick_f (v := .bool _) rfl hg49 rfl) rfl rfl rfl ?_
                    refine gop (y_move (v := .bool _) rfl) rfl rfl rfl ?_
                    refine gop_off rfl rfl rfl rfl rfl rfl rfl ?_
                    refine gop_off rfl rfl rfl rfl rfl rfl rfl ?_
                    refine gop (y_pick_f (v := .bool _) rfl rfl rfl) rfl rfl rfl ?_
                    refine gop (y_assign (v := .bool _) rfl) rfl rfl rfl ?_
                    refine gops_nil ?_
                    refine hN13 _ _ ?_
                    refine gfrom [(1, .pointer _), (3, .bool _), (4, .bool _), (6, .bool _), (27, .bool _)] ⟨rfl, rfl, rfl, rfl, rfl, trivial⟩ fun σ => ?_
                    refine gcond (b := _) rfl (fun hc27 => ?_) (fun hc27 => ?_)
                    · -- slot 27 t
                      have hb := hc27
                      refine gskip ?_
                      refine gcut3_end (()) (trivial) ⟨(congrArg Value.bool (by first | (simp_all [badE, isEmptyS]; done) | (simp_all [badE, isEmptyS]; omega))), trivial⟩ ⟨rfl, rfl, rfl, trivial⟩ ⟨_, rfl⟩
                    · -- slot 27 f
                      have hb : ¬ _ := Bool.eq_false_iff.1 hc27
                      refine greg ?_
                      refine gop (y_fieldAddr_box fa66_5 rfl) rfl rfl rfl ?_
                      refine gop (y_fieldAddr_box fa25_0 rfl) rfl rfl rfl ?_
                      refine gop (y_load Try.isAgg23 rfl (cell_box 0 rfl rfl)) rfl rfl rfl ?_
                      refine gop (y_len Try.underlying23 rfl) rfl rfl rfl ?_
                      refine gop (y_gtr rfl rfl) rfl rfl rfl ?_
                      refine gop (y_move (v := .bool _) rfl) rfl rfl rfl ?_
                      refine gop_if (want := true) rfl rfl rfl rfl rfl rfl (fun hg62 => ?_) (fun hg62 => ?_)
                      · -- guard 62 on
                        have hg62d := of_decide_eq_true hg62
                        refine gop (y_bare (y_move (v := .bool _) rfl)) rfl rfl rfl ?_
                        refine gop_on rfl rfl rfl rfl hg62 ?_
                        refine gop (y_bare (y_not rfl)) rfl rfl rfl ?_
                        refine gop (y_pick_t (v := .bool _) rfl hg62 rfl) rfl rfl rfl ?_
                        refine gop (y_assign (v := .bool _) rfl) rfl rfl rfl ?_
                        refine gops_nil ?_
                        refine gcut3_end (()) (trivial) ⟨(congrArg Value.bool (by first | (simp_all [badE, isEmptyS]; done) | (simp_all [badE, isEmptyS]; omega))), trivial⟩ ⟨rfl, rfl, rfl, trivial⟩ ⟨_, rfl⟩
                      · -- guard 62 off
                        have hg62d := of_decide_eq_false hg62
                        refine gop_off rfl rfl rfl rfl hg62 rfl rfl ?_
                        refine gop (y_pick_f (v := .bool _) rfl hg62 rfl) rfl rfl rfl ?_
                        refine gop (y_assign (v := .bool _) rfl) rfl rfl rfl ?_
                        refine gops_nil ?_
                        refine gcut3_end (()) (trivial) ⟨(congrArg Value.bool (by first | (simp_all [badE, isEmptyS]; done) | (simp_all [badE, isEmptyS]; omega))), trivial⟩ ⟨rfl, rfl, rfl, trivial⟩ ⟨_, rfl⟩
              · -- guard 42 off
                have hg42d := Decidable.not_not.1 (of_decide_eq_false hg42)
                refine gop_off rfl rfl rfl rfl hg42 rfl rfl ?_
                refine gop (y_pick_f (v := .bool _) rfl hg42 rfl) rfl rfl rfl ?_
                refine gop (y_assign (v := .bool _) rfl) rfl rfl rfl ?_
                refine gops_nil ?_
                refine hN12 _ _ ?_
                refine gfrom [(1, .pointer _), (3, .bool _), (4, .bool _), (6, .bool _), (27, .bool _)] ⟨rfl, rfl, rfl, rfl, rfl, trivial⟩ fun σ => ?_
                refine gcond (b := _) rfl (fun hc27 => ?_) (fun hc27 => ?_)
                · -- slot 27 t
                  have hb := hc27
                  refine gskip ?_
                  refine gcut3_end (()) (trivial) ⟨(congrArg Value.bool (by first | (simp_all [badE, isEmptyS]; done) | (simp_all [badE, isEmptyS]; omega))), trivial⟩ ⟨rfl, rfl, rfl, trivial⟩ ⟨_, rfl⟩
                · -- slot 27 f
                  have hb : ¬ _ := Bool.eq_false_iff.1 hc27
                  refine gseq fun N14 hN14 => ?_
                  refine greg ?_
                  refine gop (y_fieldAddr_box fa66_4 rfl) rfl rfl rfl ?_
                  refine gop (y_load Try.isAgg9 rfl (cell_box 0 rfl rfl)) rfl rfl rfl ?_
                  refine gop (y_neqs rfl rfl) rfl rfl rfl ?_
                  refine gop (y_move (v := .bool _) rfl) rfl rfl rfl ?_
                  refine gop_if (want := true) rfl rfl rfl rfl rfl rfl (fun hg49 => ?_) (fun hg49 => ?_)
                  · -- guard 49 on
                    have hg49d := hg49
                    refine gop (y_bare (y_move (v := .bool _) rfl)) rfl rfl rfl ?_
                    refine gop_on rfl rfl rfl rfl hg49 ?_
                    refine gop (y_bare (y_not rfl)) rfl rfl rfl ?_
                    refine gop (y_pick_t (v := .bool _) rfl hg49 rfl) rfl rfl rfl ?_
                    refine gop (y_move (v := .bool _) rfl) rfl rfl rfl ?_
                    refine gop_if (want := true) rfl rfl rfl rfl rfl rfl (fun hg53 => ?_) (fun hg53 => ?_)
                    · -- guard 53 on
                      have hg53d := not_t hg53
                      refine gop (y_bare (y_move (v := .bool _) rfl)) rfl rfl rfl ?_
                      refine gop_on rfl rfl rfl rfl hg53 ?_
                      refine gop (y_bare (y_not rfl)) rfl rfl rfl ?_
                      refine gop (y_pick_t (v := .bool _) rfl hg53 rfl) rfl rfl rfl ?_
                      refine gop (y_assign (v := .bool _) rfl) rfl rfl rfl ?_
                      refine gops_nil ?_
                      refine hN14 _ _ ?_
                      refine gfrom [(1, .pointer _), (3, .bool _), (4, .bool _), (6, .bool _), (27, .bool _)] ⟨rfl, rfl, rfl, rfl, rfl, trivial⟩ fun σ => ?_
                      refine gcond (b := _) rfl (fun hc27 => ?_) (fun hc27 => ?_)
                      · -- slot 27 t
                        have hb := hc27
                        refine gskip ?_
                        refine gcut3_end (()) (trivial) ⟨(congrArg Value.bool (by first | (simp_all [badE, isEmptyS]; done) | (simp_all [badE, isEmptyS]; omega))), trivial⟩ ⟨rfl, rfl, rfl, trivial⟩ ⟨_, rfl⟩
                      · -- slot 27 f
                        have hb : ¬ _ := Bool.eq_false_iff.1 hc27
                        refine greg ?_
                        refine gop (y_fieldAddr_box fa66_5 rfl) rfl rfl rfl ?_
                        refine gop (y_fieldAddr_box fa25_0 rfl) rfl rfl rfl ?_
                        refine gop (y_load Try.isAgg23 rfl (cell_box 0 rfl rfl)) rfl rfl rfl ?_
                        refine gop (y_len Try.underlying23 rfl) rfl rfl rfl ?_
                        refine gop (y_gtr rfl rfl) rfl rfl rfl ?_
                        refine gop (y_move (v := .bool _) rfl) rfl rfl rfl ?_
                        refine gop_if (want := true) rfl rfl rfl rfl rfl rfl (fun hg62 => ?_) (fun hg62 => ?_)
                        · -- guard 62 on
                          have hg62d := of_decide_eq_true hg62
                          refine gop (y_bare (y_move (v := .bool _) rfl)) rfl rfl rfl ?_
                          refine gop_on rfl rfl rfl rfl hg62 ?_
                          refine gop (y_bare (y_not rfl)) rfl rfl rfl ?_
                          refine gop (y_pick_t (v := .bool _) rfl hg62 rfl) rfl rfl rfl ?_
                          refine gop (y_assign (v := .bool _) rfl) rfl rfl rfl ?_
                          refine gops_nil ?_
                          refine gcut3_end (()) (trivial) ⟨(congrArg Value.bool (by first | (simp_all [badE, isEmptyS]; done) | (simp_all [badE, isEmptyS]; omega))), trivial⟩ ⟨rfl, rfl, rfl, trivial⟩ ⟨_, rfl⟩
                        · -- guard 62 off
                          have hg62d := of_decide_eq_false hg62
                          refine gop_off rfl rfl rfl rfl hg62 rfl rfl ?_
                          refine gop (y_pick_f (v := .bool _) rfl hg62 rfl) rfl rfl rfl ?_
                          refine gop (y_assign (v := .bool _) rfl) rfl rfl rfl ?_
                          refine gops_nil ?_
                          refine gcut3_end (()) (trivial) ⟨(congrArg Value.bool (by first | (simp_all [badE, isEmptyS]; done) | (simp_all [badE, isEmptyS]; omega))), trivial⟩ ⟨rfl, rfl, rfl, trivial⟩ ⟨_, rfl⟩
                    · -- guard 53 off
                      have hg53d := not_f hg53
                      refine gop_off rfl rfl rfl rfl hg53 rfl rfl ?_
                      refine gop (y_pick_f (v := .bool _) rfl hg53 rfl) rfl rfl rfl ?_
                      refine gop (y_assign (v := .bool _) rfl) rfl rfl rfl ?_
                      refine gops_nil ?_
                      refine hN14 _ _ ?_
                      refine gfrom [(1, .pointer _), (3, .bool _), (4, .bool _), (6, .bool _), (27, .bool _)] ⟨rfl, rfl, rfl, rfl, rfl, trivial⟩ fun σ => ?_
                      refine gcond (b := _) rfl (fun hc27 => ?_) (fun hc27 => ?_)
                      · -- slot 27 t
                        have hb := hc27
                        refine gskip ?_
                        refine gcut3_end (()) (trivial) ⟨(congrArg Value.bool (by first | (simp_all [badE, isEmptyS]; done) | (simp_all [badE, isEmptyS]; omega))), trivial⟩ ⟨rfl, rfl, rfl, trivial⟩ ⟨_, rfl⟩
                      · -- slot 27 f
                        have hb : ¬ _ := Bool.eq_false_iff.1 hc27
                        refine greg ?_
                        refine gop (y_fieldAddr_box fa66_5 rfl) rfl rfl rfl ?_
                        refine gop (y_fieldAddr_box fa25_0 rfl) rfl rfl rfl ?_
                        refine gop (y_load Try.isAgg23 rfl (cell_box 0 rfl rfl)) rfl rfl rfl ?_
                        refine gop (y_len Try.underlying23 rfl) rfl rfl rfl ?_
                        refine gop (y_gtr rfl rfl) rfl rfl rfl ?_
                        refine gop (y_move (v := .bool _) rfl) rfl rfl rfl ?_
                        refine gop_if (want := true) rfl rfl rfl rfl rfl rfl (fun hg62 => ?_) (fun hg62 => ?_)
                        · -- guard 62 on
                          have hg62d := of_decide_eq_true hg62
                          refine gop (y_bare (y_move (v := .bool _) rfl)) rfl rfl rfl ?_
                          refine gop_on rfl rfl rfl rfl hg62 ?_
                          refine gop (y_bare (y_not rfl)) rfl rfl rfl ?_
                          refine gop (y_pick_t (v := .bool _) rfl hg62 rfl) rfl rfl rfl ?_
                          refine gop (y_assign (v := .bool _) rfl) rfl rfl rfl ?_
                          refine gops_nil ?_
                          refine gcut3_end (()) (trivial) ⟨(congrArg Value.bool (by first | (simp_all [badE, isEmptyS]; done) | (simp_all [badE, isEmptyS]; omega))), trivial⟩ ⟨rfl, rfl, rfl, trivial⟩ ⟨_, rfl⟩
                        · -- guard 62 off
                          have hg62d := of_decide_eq_false hg62
                          refine gop_off rfl rfl rfl rfl hg62 rfl rfl ?_
                          refine gop (y_pick_f (v := .bool _) rfl hg62 rfl) rfl rfl rfl ?_
                          refine gop (y_assign (v := .bool _) rfl) rfl rfl rfl ?_
                          refine gops_nil ?_
                          refine gcut3_end (()) (trivial) ⟨(congrArg Value.bool (by first | (simp_all [badE, isEmptyS]; done) | (simp_all [badE, isEmptyS]; omega))), trivial⟩ ⟨rfl, rfl, rfl, trivial⟩ ⟨_, rfl⟩
                  · -- guard 49 off
                    have hg49d := hg49
                    refine gop_off rfl rfl rfl rfl hg49 rfl rfl ?_
                    refine gop (y_pick_f (v := .bool _) rfl hg49 rfl) rfl rfl rfl ?_
                    refine gop (y_move (v := .bool _) rfl) rfl rfl rfl ?_
                    refine gop_off rfl rfl rfl rfl rfl rfl rfl ?_
                    refine gop_off rfl rfl rfl rfl rfl rfl rfl ?_
                    refine gop (y_pick_f (v := .bool _) rfl rfl rfl) rfl rfl rfl ?_
                    refine gop (y_assign (v := .bool _) rfl) rfl rfl rfl ?_
                    refine gops_nil ?_
                    refine hN14 _ _ ?_
                    refine gfrom [(1, .pointer _), (3, .bool _), (4, .bool _), (6, .bool _), (27, .bool _)] ⟨rfl, rfl, rfl, rfl, rfl, trivial⟩ fun σ => ?_
                    refine gcond (b := _) rfl (fun hc27 => ?_) (fun hc27 => ?_)
                    · -- slot 27 t
                      have hb := hc27
                      refine gskip ?_
                      refine gcut3_end (()) (trivial) ⟨(congrArg Value.bool (by first | (simp_all [badE, isEmptyS]; done) | (simp_all [badE, isEmptyS]; omega))), trivial⟩ ⟨rfl, rfl, rfl, trivial⟩ ⟨_, rfl⟩
                    · -- slot 27 f
                      have hb : ¬ _ := Bool.eq_false_iff.1 hc27
                      refine greg ?_
                      refine gop (y_fieldAddr_box fa66_5 rfl) rfl rfl rfl ?_
                      refine gop (y_fieldAddr_box fa25_0 rfl) rfl rfl rfl ?_
                      refine gop (y_load Try.isAgg23 rfl (cell_box 0 rfl rfl)) rfl rfl rfl ?_
                      refine gop (y_len Try.underlying23 rfl) rfl rfl rfl ?_
                      refine gop (y_gtr rfl rfl) rfl rfl rfl ?_
                      refine gop (y_move (v := .bool _) rfl) rfl rfl rfl ?_
                      refine gop_if (want := true) rfl rfl rfl rfl rfl rfl (fun hg62 => ?_) (fun hg62 => ?_)
                      · -- guard 62 on
                        have hg62d := of_decide_eq_true hg62
                        refine gop (y_bare (y_move (v := .bool _) rfl)) rfl rfl rfl ?_
                        refine gop_on rfl rfl rfl rfl hg62 ?_
                        refine gop (y_bare (y_not rfl)) rfl rfl rfl ?_
                        refine gop (y_pick_t (v := .bool _) rfl hg62 rfl) rfl rfl rfl ?_
                        refine gop (y_assign (v := .bool _) rfl) rfl rfl rfl ?_
                        refine gops_nil ?_
                        refine gcut3_end (()) (trivial) ⟨(congrArg Value.bool (by first | (simp_all [badE, isEmptyS]; done) | (simp_all [badE, isEmptyS]; omega))), trivial⟩ ⟨rfl, rfl, rfl, trivial⟩ ⟨_, rfl⟩
                      · -- guard 62 off
                        have hg62d := of_decide_eq_false hg62
                        refine gop_off rfl rfl rfl rfl hg62 rfl rfl ?_
                        refine gop (y_pick_f (v := .bool _) rfl hg62 rfl) rfl rfl rfl ?_
                        refine gop (y_assign (v := .bool _) rfl) rfl rfl rfl ?_
                        refine gops_nil ?_
                        refine gcut3_end (()) (trivial) ⟨(congrArg Value.bool (by first | (simp_all [badE, isEmptyS]; done) | (simp_all [badE, isEmptyS]; omega))), trivial⟩ ⟨rfl, rfl, rfl, trivial⟩ ⟨_, rfl⟩
        · -- guard 31 off
          have hg31d := Decidable.not_not.1 (of_decide_eq_false hg31)
          refine gop_off rfl rfl rfl rfl hg31 rfl rfl ?_
          refine gop (y_pick_f (v := .bool _) rfl hg31 rfl) rfl rfl rfl ?_
          refine gop (y_move (v := .bool _) rfl) rfl rfl rfl ?_
          refine gop_off rfl rfl rfl rfl rfl rfl rfl ?_
          refine gop_off rfl rfl rfl rfl rfl rfl rfl ?_
          refine gop (y_pick_f (v := .bool _) rfl rfl rfl) rfl rfl rfl ?_
          refine gop (y_assign (v := .bool _) rfl) rfl rfl rfl ?_
          refine gops_nil ?_
          refine hN8 _ _ ?_
          refine gfrom [(1, .pointer _), (3, .bool _), (4, .bool _), (6, .bool _), (27, .bool _)] ⟨rfl, rfl, rfl, rfl, rfl, trivial⟩ fun σ => ?_
          refine gcond (b := _) rfl (fun hc27 => ?_) (fun hc27 => ?_)
          · -- slot 27 t
            have hb := hc27
            refine gskip ?_
            refine gcut3_end (()) (trivial) ⟨(congrArg Value.bool (by first | (simp_all [badE, isEmptyS]; done) | (simp_all [badE, isEmptyS]; omega))), trivial⟩ ⟨rfl, rfl, rfl, trivial⟩ ⟨_, rfl⟩
          · -- slot 27 f
            have hb : ¬ _ := Bool.eq_false_iff.1 hc27
            refine gseq fun N15 hN15 => ?_
            refine greg ?_
            refine gop (y_fieldAddr_box fa66_3 rfl) rfl rfl rfl ?_
            refine gop (y_load Try.isAgg3 rfl (cell_box 0 rfl rfl)) rfl rfl rfl ?_
            refine gop (y_neq rfl rfl) rfl rfl rfl ?_
            refine gop (y_move (v := .bool _) rfl) rfl rfl rfl ?_
            refine gop_if (want := true) rfl rfl rfl rfl rfl rfl (fun hg42 => ?_) (fun hg42 => ?_)
            · -- guard 42 on
              have hg42d := of_decide_eq_true hg42
              refine gop (y_bare (y_move (v := .bool _) rfl)) rfl rfl rfl ?_
              refine gop_on rfl rfl rfl rfl hg42 ?_
              refine gop (y_bare (y_not rfl)) rfl rfl rfl ?_
              refine gop (y_pick_t (v := .bool _) rfl hg42 rfl) rfl rfl rfl ?_
              refine gop (y_assign (v := .bool _) rfl) rfl rfl rfl ?_
              refine gops_nil ?_
              refine hN15 _ _ ?_
              refine gfrom [(1, .pointer _), (3, .bool _), (4, .bool _), (6, .bool _), (27, .bool _)] ⟨rfl, rfl, rfl, rfl, rfl, trivial⟩ fun σ => ?_
              refine gcond (b := _) rfl (fun hc27 => ?_) (fun hc27 => ?_)
              · -- slot 27 t
                have hb := hc27
                refine gskip ?_
                refine gcut3_end (()) (trivial) ⟨(congrArg Value.bool (by first | (simp_all [badE, isEmptyS]; done) | (simp_all [badE, isEmptyS]; omega))), trivial⟩ ⟨rfl, rfl, rfl, trivial⟩ ⟨_, rfl⟩
              · -- slot 27 f
                have hb : ¬ _ := Bool.eq_false_iff.1 hc27
                refine gseq fun N16 hN16 => ?_
                refine greg ?_
                refine gop (y_fieldAddr_box fa66_4 rfl) rfl rfl rfl ?_
                refine gop (y_load Try.isAgg9 rfl (cell_box 0 rfl rfl)) rfl rfl rfl ?_
                refine gop (y_neqs rfl rfl) rfl rfl rfl ?_
                refine gop (y_move (v := .bool _) rfl) rfl rfl rfl ?_
                refine gop_if (want := true) rfl rfl rfl rfl rfl rfl (fun hg49 => ?_) (fun hg49 => ?_)
                · -- guard 49 on
                  have hg49d := hg49
                  refine gop (y_bare (y_move (v := .bool _) rfl)) rfl rfl rfl ?_
                  refine gop_on rfl rfl rfl rfl hg49 ?_
                  refine gop (y_bare (y_not rfl)) rfl rfl rfl ?_
                  refine gop (y_pick_t (v := .bool _) rfl hg49 rfl) rfl rfl rfl ?_
                  refine gop (y_move (v := .bool _) rfl) rfl rfl rfl ?_
                  refine gop_if (want := true) rfl rfl rfl rfl rfl rfl (fun hg53 => ?_) (fun hg53 => ?_)
                  · -- guard 53 on
                    have hg53d := not_t hg53
                    refine gop (y_bare (y_move (v := .bool _) rfl)) rfl rfl rfl ?_
                    refine gop_on rfl rfl rfl rfl hg53 ?_
                    refine gop (y_bare (y_not rfl)) rfl rfl rfl ?_
                    refine gop (y_pick_t (v := .bool _) rfl hg53 rfl) rfl rfl rfl ?_
                    refine gop (y_assign (v := .bool _) rfl) rfl rfl rfl ?_
                    refine gops_nil ?_
                    refine hN16 _ _ ?_
                    refine gfrom [(1, .pointer _), (3, .bool _), (4, .bool _), (6, .bool _), (27, .bool _)] ⟨rfl, rfl, rfl, rfl, rfl, trivial⟩ fun σ => ?_
                    refine gcond (b := _) rfl (fun hc27 => ?_) (fun hc27 => ?_)
                    · -- slot 27 t
                      have hb := hc27
                      refine gskip ?_
                      refine gcut3_end (()) (trivial) ⟨(congrArg Value.bool (by first | (simp_all [badE, isEmptyS]; done) | (simp_all [badE, isEmptyS]; omega))), trivial⟩ ⟨rfl, rfl, rfl, trivial⟩ ⟨_, rfl⟩
                    · -- slot 27 f
                      have hb : ¬ _ := Bool.eq_false_iff.1 hc27
                      refine greg ?_
                      refine gop (y_fieldAddr_box fa66_5 rfl) rfl rfl rfl ?_
                      refine gop (y_fieldAddr_box fa25_0 rfl) rfl rfl rfl ?_
                      refine gop (y_load Try.isAgg23 rfl (cell_box 0 rfl rfl)) rfl rfl rfl ?_
                      refine gop (y_len Try.underlying23 rfl) rfl rfl rfl ?_
                      refine gop (y_gtr rfl rfl) rfl rfl rfl ?_
                      refine gop (y_move (v := .bool _) rfl) rfl rfl rfl ?_
                      refine gop_if (want := true) rfl rfl rfl rfl rfl rfl (fun hg62 => ?_) (fun hg62 => ?_)
                      · -- guard 62 on
                        have hg62d := of_decide_eq_true hg62
                        refine gop (y_bare (y_move (v := .bool _) rfl)) rfl rfl rfl ?_
                        refine gop_on rfl rfl rfl rfl hg62 ?_
                        refine gop (y_bare (y_not rfl)) rfl rfl rfl ?_
                        refine gop (y_pick_t (v := .bool _) rfl hg62 rfl) rfl rfl rfl ?_
                        refine gop (y_assign (v := .bool _) rfl) rfl rfl rfl ?_
                        refine gops_nil ?_
                        refine gcut3_end (()) (trivial) ⟨(congrArg Value.bool (by first | (simp_all [badE, isEmptyS]; done) | (simp_all [badE, isEmptyS]; omega))), trivial⟩ ⟨rfl, rfl, rfl, trivial⟩ ⟨_, rfl⟩
                      · -- guard 62 off
                        have hg62d := of_decide_eq_false hg62
                        refine gop_off rfl rfl rfl rfl hg62 rfl rfl ?_
                        refine gop (y_pick_f (v := .bool _) rfl hg62 rfl) rfl rfl rfl ?_
                        refine gop (y_assign (v := .bool _) rfl) rfl rfl rfl ?_
                        refine gops_nil ?_
                        refine gcut3_end (()) (trivial) ⟨(congrArg Value.bool (by first | (simp_all [badE, isEmptyS]; done) | (simp_all [badE, isEmptyS]; omega))), trivial⟩ ⟨rfl, rfl, rfl, trivial⟩ ⟨_, rfl⟩
                  · -- guard 53 off
                    have hg53d := not_f hg53
                    refine gop_off rfl rfl rfl rfl hg53 rfl rfl ?_
                    refine gop (y_pick_f (v := .bool _) rfl hg53 rfl) rfl rfl rfl ?_
                    refine gop (y_assign (v := .bool _) rfl) rfl rfl rfl ?_
                    refine gops_nil ?_
                    refine hN16 _ _ ?_
                    refine gfrom [(1, .pointer _), (3, .bool _), (4, .bool _), (6, .bool _), (27, .bool _)] ⟨rfl, rfl, rfl, rfl, rfl, trivial⟩ fun σ => ?_
                    refine gcond (b := _) rfl (fun hc27 => ?_) (fun hc27 => ?_)
                    · -- slot 27 t
                      have hb := hc27
                      refine gskip ?_
                      refine gcut3_end (()) (trivial) ⟨(congrArg Value.bool (by first | (simp_all [badE, isEmptyS]; done) | (simp_all [badE, isEmptyS]; omega))), trivial⟩ ⟨rfl, rfl, rfl, trivial⟩ ⟨_, rfl⟩
                    · -- slot 27 f
                      have hb : ¬ _ := Bool.eq_false_iff.1 hc27
                      refine greg ?_
                      refine gop (y_fieldAddr_box fa66_5 rfl) rfl rfl rfl ?_
                      refine gop (y_fieldAddr_box fa25_0 rfl) rfl rfl rfl ?_
                      refine gop (y_load Try.isAgg23 rfl (cell_box 0 rfl rfl)) rfl rfl rfl ?_
                      refine gop (y_len Try.underlying23 rfl) rfl rfl rfl ?_
                      refine gop (y_gtr rfl rfl) rfl rfl rfl ?_
                      refine gop (y_move (v := .bool _) rfl) rfl rfl rfl ?_
                      refine gop_if (want := true) rfl rfl rfl rfl rfl rfl (fun hg62 => ?_) (fun hg62 => ?_)
                      · -- guard 62 on
                        have hg62d := of_decide_eq_true hg62
                        refine gop (y_bare (y_move (v := .bool _) rfl)) rfl rfl rfl ?_
                        refine gop_on rfl rfl rfl rfl hg62 ?_
                        refine gop (y_bare (y_not rfl)) rfl rfl rfl ?_
                        refine gop (y_pick_t (v := .bool _) rfl hg62 rfl) rfl rfl rfl ?_
                        refine gop (y_assign (v := .bool _) rfl) rfl rfl rfl ?_
                        refine gops_nil ?_
                        refine gcut3_end (()) (trivial) ⟨(congrArg Value.bool (by first | (simp_all [badE, isEmptyS]; done) | (simp_all [badE, isEmptyS]; omega))), trivial⟩ ⟨rfl, rfl, rfl, trivial⟩ ⟨_, rfl⟩
                      · -- guard 62 off
                        have hg62d := of_decide_eq_false hg62
                        refine gop_off rfl rfl rfl rfl hg62 rfl rfl ?_
                        refine gop (y_pick_f (v := .bool _) rfl hg62 rfl) rfl rfl rfl ?_
                        refine gop (y_assign (v := .bool _) rfl) rfl rfl rfl ?_
                        refine gops_nil ?_
                        refine gcut3_end (()) (trivial) ⟨(congrArg Value.bool (by first | (simp_all [badE, isEmptyS]; done) | (simp_all [badE, isEmptyS]; omega))), trivial⟩ ⟨rfl, rfl, rfl, trivial⟩ ⟨_, rfl⟩
                · -- guard 49 off
                  have hg49d := hg49
                  refine gop_off rfl rfl rfl rfl hg49 rfl rfl ?_
                  refine gop (y_pick_f (v := .bool _) rfl hg49 rfl) rfl rfl rfl ?_
                  refine gop (y_move (v := .bool _) rfl) rfl rfl rfl ?_
                  refine gop_off rfl rfl rfl rfl rfl rfl rfl ?_
                  refine gop_off rfl rfl rfl rfl rfl rfl rfl ?_
                  refine gop (y_pick_f (v := .bool _) rfl rfl rfl) rfl rfl rfl ?_
                  refine gop (y_assign (v := .bool _) rfl) rfl rfl rfl ?_
                  refine gops_nil ?_
                  refine hN16 _ _ ?_
                  refine gfrom [(1, .pointer _), (3, .bool _), (4, .bool _), (6, .bool _), (27, .bool _)] ⟨rfl, rfl, rfl, rfl, rfl, trivial⟩ fun σ => ?_
                  refine gcond (b := _) rfl (fun hc27 => ?_) (fun hc27 => ?_)
                  · -- slot 27 t
                    have hb := hc27
                    refine gskip ?_
                    refine gcut3_end (()) (trivial) ⟨(congrArg Value.bool (by first | (simp_all [badE, isEmptyS]; done) | (simp_all [badE, isEmptyS]; omega))), trivial⟩ ⟨rfl, rfl, rfl, trivial⟩ ⟨_, rfl⟩
                  · -- slot 27 f
                    have hb : ¬ _ := Bool.eq_false_iff.1 hc27
                    refine greg ?_
                    refine gop (y_fieldAddr_box fa66_5 rfl) rfl rfl rfl ?_
                    refine gop (y_fieldAddr_box fa25_0 rfl) rfl rfl rfl ?_
                    refine gop (y_load Try.isAgg23 rfl (cell_box 0 rfl rfl)) rfl rfl rfl ?_
                    refine gop (y_len Try.underlying23 rfl) rfl rfl rfl ?_
                    refine gop (y_gtr rfl rfl) rfl rfl rfl ?_
                    refine gop (y_move (v := .bool _) rfl) rfl rfl rfl ?_
                    refine gop_if (want := true) rfl rfl rfl rfl rfl rfl (fun hg62 => ?_) (fun hg62 => ?_)
                    · -- guard 62 on
                      have hg62d := of_decide_eq_true hg62
                      refine gop (y_bare (y_move (v := .bool _) rfl)) rfl rfl rfl ?_
                      refine gop_on rfl rfl rfl rfl hg62 ?_
                      refine gop (y_bare (y_not rfl)) rfl rfl rfl ?_
                      refine gop (y_pick_t (v := .bool _) rfl hg62 rfl) rfl rfl rfl ?_
                      refine gop (y_assign (v := .bool _) rfl) rfl rfl rfl ?_
                      refine gops_nil ?_
                      refine gcut3_end (()) (trivial) ⟨(congrArg Value.bool (by first | (simp_all [badE, isEmptyS]; done) | (simp_all [badE, isEmptyS]; omega))), trivial⟩ ⟨rfl, rfl, rfl, trivial⟩ ⟨_, rfl⟩
                    · -- guard 62 off
                      have hg62d := of_decide_eq_false hg62
                      refine gop_off rfl rfl rfl rfl hg62 rfl rfl ?_
                      refine gop (y_pick_f (v := .bool _) rfl hg62 rfl) rfl rfl rfl ?_
                      refine gop (y_assign (v := .bool _) rfl) rfl rfl rfl ?_
                      refine gops_nil ?_
                      refine gcut3_end (()) (trivial) ⟨(congrArg Value.bool (by first | (simp_all [badE, isEmptyS]; done) | (simp_all [badE, isEmptyS]; omega))), trivial⟩ ⟨rfl, rfl, rfl, trivial⟩ ⟨_, rfl⟩
            · -- guard 42 off
              have hg42d := Decidable.not_not.1 (of_decide_eq_false hg42)
              refine gop_off rfl rfl rfl rfl hg42 rfl rfl ?_
              refine gop (y_pick_f (v := .bool _) rfl hg42 rfl) rfl rfl rfl ?_
              refine gop (y_assign (v := .bool _) rfl) rfl rfl rfl ?_
              refine gops_nil ?_
              refine hN15 _ _ ?_
              refine gfrom [(1, .pointer _), (3, .bool _), (4, .bool _), (6, .bool _), (27, .bool _)] ⟨rfl, rfl, rfl, rfl, rfl, trivial⟩ fun σ => ?_
              refine gcond (b := _) rfl (fun hc27 => ?_) (fun hc27 => ?_)
              · -- slot 27 t
                have hb := hc27
                refine gskip ?_
                refine gcut3_end (()) (trivial) ⟨(congrArg Value.bool (by first | (simp_all [badE, isEmptyS]; done) | (simp_all [badE, isEmptyS]; omega))), trivial⟩ ⟨rfl, rfl, rfl, trivial⟩ ⟨_, rfl⟩
              · -- slot 27 f
                have hb : ¬ _ := Bool.eq_false_iff.1 hc27
                refine gseq fun N17 hN17 => ?_
                refine greg ?_
                refine gop (y_fieldAddr_box fa66_4 rfl) rfl rfl rfl ?_
                refine gop (y_load Try.isAgg9 rfl (cell_box 0 rfl rfl)) rfl rfl rfl ?_
                refine gop (y_neqs rfl rfl) rfl rfl rfl ?_
                refine gop (y_move (v := .bool _) rfl) rfl rfl rfl ?_
                refine gop_if (want := true) rfl rfl rfl rfl rfl rfl (fun hg49 => ?_) (fun hg49 => ?_)
                · -- guard 49 on
                  have hg49d := hg49
                  refine gop (y_bare (y_move (v := .bool _) rfl)) rfl rfl rfl ?_
                  refine gop_on rfl rfl rfl rfl hg49 ?_
                  refine gop (y_bare (y_not rfl)) rfl rfl rfl ?_
                  refine gop (y_pick_t (v := .bool _) rfl hg49 rfl) rfl rfl rfl ?_
                  refine gop (y_move (v := .bool _) rfl) rfl rfl rfl ?_
                  refine gop_if (want := true) rfl rfl rfl rfl rfl rfl (fun hg53 => ?_) (fun hg53 => ?_)
                  · -- guard 53 on
                    have hg53d := not_t hg53
                    refine gop (y_bare (y_move (v := .bool _) rfl)) rfl rfl rfl ?_
                    refine gop_on rfl rfl rfl rfl hg53 ?_
                    refine gop (y_bare (y_not rfl)) rfl rfl rfl ?_
                    refine gop (y_pick_t (v := .bool _) rfl hg53 rfl) rfl rfl rfl ?_
                    refine gop (y_assign (v := .bool _) rfl) rfl rfl rfl ?_
                    refine gops_nil ?_
                    refine hN17 _ _ ?_
                    refine gfrom [(1, .pointer _), (3, .bool _), (4, .bool _), (6, .bool _), (27, .bool _)] ⟨rfl, rfl, rfl, rfl, rfl, trivial⟩ fun σ => ?_
                    refine gcond (b := _) rfl (fun hc27 => ?_) (fun hc27 => ?_)
                    · -- slot 27 t
                      have hb := hc27
                      refine gskip ?_
                      refine gcut3_end (()) (trivial) ⟨(congrArg Value.bool (by first | (simp_all [badE, isEmptyS]; done) | (simp_all [badE, isEmptyS]; omega))), trivial⟩ ⟨rfl, rfl, rfl, trivial⟩ ⟨_, rfl⟩
                    · -- slot 27 f
                      have hb : ¬ _ := Bool.eq_false_iff.1 hc27
                      refine greg ?_
                      refine gop (y_fieldAddr_box fa66_5 rfl) rfl rfl rfl ?_
                      refine gop (y_fieldAddr_box fa25_0 rfl) rfl rfl rfl ?_
                      refine gop (y_load Try.isAgg23 rfl (cell_box 0 rfl rfl)) rfl rfl rfl ?_
                      refine gop (y_len Try.underlying23 rfl) rfl rfl rfl ?_
                      refine gop (y_gtr rfl rfl) rfl rfl rfl ?_
                      refine gop (y_move (v := .bool _) rfl) rfl rfl rfl ?_
                      refine gop_if (want := true) rfl rfl rfl rfl rfl rfl (fun hg62 => ?_) (fun hg62 => ?_)
                      · -- guard 62 on
                        have hg62d := of_decide_eq_true hg62
                        refine gop (y_bare (y_move (v := .bool _) rfl)) rfl rfl rfl ?_
                        refine gop_on rfl rfl rfl rfl hg62 ?_
                        refine gop (y_bare (y_not rfl)) rfl rfl rfl ?_
                        refine gop (y_pick_t (v := .bool _) rfl hg62 rfl) rfl rfl rfl ?_
                        refine gop (y_assign (v := .bool _) rfl) rfl rfl rfl ?_
                        refine gops_nil ?_
                        refine gcut3_end (()) (trivial) ⟨(congrArg Value.bool (by first | (simp_all [badE, isEmptyS]; done) | (simp_all [badE, isEmptyS]; omega))), trivial⟩ ⟨rfl, rfl, rfl, trivial⟩ ⟨_, rfl⟩
                      · -- guard 62 off
                        have hg62d := of_decide_eq_false hg62
                        refine gop_off rfl rfl rfl rfl hg62 rfl rfl ?_
                        refine gop (y_pick_f (v := .bool _) rfl hg62 rfl) rfl rfl rfl ?_
                        refine gop (y_assign (v := .bool _) rfl) rfl rfl rfl ?_
                        refine gops_nil ?_
                        refine gcut3_end (()) (trivial) ⟨(congrArg Value.bool (by first | (simp_all [badE, isEmptyS]; done) | (simp_all [badE, isEmptyS]; omega))), trivial⟩ ⟨rfl, rfl, rfl, trivial⟩ ⟨_, rfl⟩
                  · -- guard 53 off
                    have hg53d := not_f hg53
                    refine gop_off rfl rfl rfl rfl hg53 rfl rfl ?_
                    refine gop (y_pick_f (v := .bool _) rfl hg53 rfl) rfl rfl rfl ?_
                    refine gop (y_assign (v := .bool _) rfl) rfl rfl rfl ?_
                    refine gops_nil ?_
                    refine hN17 _ _ ?_
                    refine gfrom [(1, .pointer _), (3, .bool _), (4, .bool _), (6, .bool _), (27, .bool _)] ⟨rfl, rfl, rfl, rfl, rfl, trivial⟩ fun σ => ?_
                    refine gcond (b := _) rfl (fun hc27 => ?_) (fun hc27 => ?_)
                    · -- slot 27 t
                      have hb := hc27
                      refine gskip ?_
                      refine gcut3_end (()) (trivial) ⟨(congrArg Value.bool (by first | (simp_all [badE, isEmptyS]; done) | (simp_all [badE, isEmptyS]; omega))), trivial⟩ ⟨rfl, rfl, rfl, trivial⟩ ⟨_, rfl⟩
                    · -- slot 27 f
                      have hb : ¬ _ := Bool.eq_false_iff.1 hc27
                      refine greg ?_
                      refine gop (y_fieldAddr_box fa66_5 rfl) rfl rfl rfl ?_
                      refine gop (y_fieldAddr_box fa25_0 rfl) rfl rfl rfl ?_
                      refine gop (y_load Try.isAgg23 rfl (cell_box 0 rfl rfl)) rfl rfl rfl ?_
                      refine gop (y_len Try.underlying23 rfl) rfl rfl rfl ?_
                      refine gop (y_gtr rfl rfl) rfl rfl rfl ?_
                      refine gop (y_move (v := .bool _) rfl) rfl rfl rfl ?_
                      refine gop_if (want := true) rfl rfl rfl rfl rfl rfl (fun hg62 => ?_) (fun hg62 => ?_)
                      · -- guard 62 on
                        have hg62d := of_decide_eq_true hg62
                        refine gop (y_bare (y_move (v := .bool _) rfl)) rfl rfl rfl ?_
                        refine gop_on rfl rfl rfl rfl hg62 ?_
                        refine gop (y_bare (y_not rfl)) rfl rfl rfl ?_
                        refine gop (y_pick_t (v := .bool _) rfl hg62 rfl) rfl rfl rfl ?_
                        refine gop (y_assign (v := .bool _) rfl) rfl rfl rfl ?_
                        refine gops_nil ?_
                        refine gcut3_end (()) (trivial) ⟨(congrArg Value.bool (by first | (simp_all [badE, isEmptyS]; done) | (simp_all [badE, isEmptyS]; omega))), trivial⟩ ⟨rfl, rfl, rfl, trivial⟩ ⟨_, rfl⟩
                      · -- guard 62 off
                        have hg62d := of_decide_eq_false hg62
                        refine gop_off rfl rfl rfl rfl hg62 rfl rfl ?_
                        refine gop (y_pick_f (v := .bool _) rfl hg62 rfl) rfl rfl rfl ?_
                        refine gop (y_assign (v := .bool _) rfl) rfl rfl rfl ?_
                        refine gops_nil ?_
                        refine gcut3_end (()) (trivial) ⟨(congrArg Value.bool (by first | (simp_all [badE, isEmptyS]; done) | (simp_all [badE, isEmptyS]; omega))), trivial⟩ ⟨rfl, rfl, rfl, trivial⟩ ⟨_, rfl⟩
                · -- guard 49 off
                  have hg49d := hg49
                  refine gop_off rfl rfl rfl rfl hg49 rfl rfl ?_
                  refine gop (y_pick_f (v := .bool _) rfl hg49 rfl) rfl rfl rfl ?_
                  refine gop (y_move (v := .bool _) rfl) rfl rfl rfl ?_
                  refine gop_off rfl rfl rfl rfl rfl rfl rfl ?_
                  refine gop_off rfl rfl rfl rfl rfl rfl rfl ?_
                  refine gop (y_pick_f (v := .bool _) rfl rfl rfl) rfl rfl rfl ?_
                  refine gop (y_assign (v := .bool _) rfl) rfl rfl rfl ?_
                  refine gops_nil ?_
                  refine hN17 _ _ ?_
                  refine gfrom [(1, .pointer _), (3, .bool _), (4, .bool _), (6, .bool _), (27, .bool _)] ⟨rfl, rfl, rfl, rfl, rfl, trivial⟩ fun σ => ?_
                  refine gcond (b := _) rfl (fun hc27 => ?_) (fun hc27 => ?_)
                  · -- slot 27 t
                    have hb := hc27
                    refine gskip ?_
                    refine gcut3_end (()) (trivial) ⟨(congrArg Value.bool (by first | (simp_all [badE, isEmptyS]; done) | (simp_all [badE, isEmptyS]; omega))), trivial⟩ ⟨rfl, rfl, rfl, trivial⟩ ⟨_, rfl⟩
                  · -- slot 27 f
                    have hb : ¬ _ := Bool.eq_false_iff.1 hc27
                    refine greg ?_
                    refine gop (y_fieldAddr_box fa66_5 rfl) rfl rfl rfl ?_
                    refine gop (y_fieldAddr_box fa25_0 rfl) rfl rfl rfl ?_
                    refine gop (y_load Try.isAgg23 rfl (cell_box 0 rfl rfl)) rfl rfl rfl ?_
                    refine gop (y_len Try.underlying23 rfl) rfl rfl rfl ?_
                    refine gop (y_gtr rfl rfl) rfl rfl rfl ?_
                    refine gop (y_move (v := .bool _) rfl) rfl rfl rfl ?_
                    refine gop_if (want := true) rfl rfl rfl rfl rfl rfl (fun hg62 => ?_) (fun hg62 => ?_)
                    · -- guard 62 on
                      have hg62d := of_decide_eq_true hg62
                      refine gop (y_bare (y_move (v := .bool _) rfl)) rfl rfl rfl ?_
                      refine gop_on rfl rfl rfl rfl hg62 ?_
                      refine gop (y_bare (y_not rfl)) rfl rfl rfl ?_
                      refine gop (y_pick_t (v := .bool _) rfl hg62 rfl) rfl rfl rfl ?_
                      refine gop (y_assign (v := .bool _) rfl) rfl rfl rfl ?_
                      refine gops_nil ?_
                      refine gcut3_end (()) (trivial) ⟨(congrArg Value.bool (by first | (simp_all [badE, isEmptyS]; done) | (simp_all [badE, isEmptyS]; omega))), trivial⟩ ⟨rfl, rfl, rfl, trivial⟩ ⟨_, rfl⟩
                    · -- guard 62 off
                      have hg62d := of_decide_eq_false hg62
                      refine gop_off rfl rfl rfl rfl hg62 rfl rfl ?_
                      refine gop (y_pick_f (v := .bool _) rfl hg62 rfl) rfl rfl rfl ?_
                      refine gop (y_assign (v := .bool _) rfl) rfl rfl rfl ?_
                      refine gops_nil ?_
                      refine gcut3_end (()) (trivial) ⟨(congrArg Value.bool (by first | (simp_all [badE, isEmptyS]; done) | (simp_all [badE, isEmptyS]; omega))), trivial⟩ ⟨rfl, rfl, rfl, trivial⟩ ⟨_, rfl⟩
      ·
        intro g hcut σ
        refine hN7 _ _ ?_
        refine gcond (b := _) rfl (fun hc27 => ?_) (fun hc27 => ?_)
        · -- slot 27 t
          have hb := hc27
          refine gseq fun N18 hN18 => ?_
          refine greg ?_
          refine gop (y_assign (v := .int _ _) rfl) rfl rfl rfl ?_
          refine gops_nil ?_
          refine hN18 _ _ ?_
          refine gT [box b1 _] rfl ?_
          refine gfrom [(2, .int _ _)] ⟨rfl, trivial⟩ fun σ => ?_
          refine gret fun w1 hM => ?_
          refine ⟨_, res1 rfl (rt (v := .int _ _) rfl), ?_⟩
          exact ⟨by rw [formC, if_neg hK, if_pos hb], hM.low⟩
        · -- slot 27 f
          have hb : ¬ _ := Bool.eq_false_iff.1 hc27
          refine gseq fun N19 hN19 => ?_
          refine greg ?_
          refine gop (y_fieldAddr_box fa66_1 rfl) rfl rfl rfl ?_
          refine gop (y_load Try.isAgg3 rfl (cell_box 0 rfl rfl)) rfl rfl rfl ?_
          refine gop (y_lss rfl rfl) rfl rfl rfl ?_
          refine gop (y_move (v := .bool _) rfl) rfl rfl rfl ?_
          refine gop_if (want := false) rfl rfl rfl rfl rfl rfl (fun hg70 => ?_) (fun hg70 => ?_)
          · -- guard 70 on
            have hg70d := of_decide_eq_false hg70
            refine gop (y_bare (y_fieldAddr_box fa66_1 rfl)) rfl rfl rfl ?_
            refine gop_on rfl rfl rfl rfl hg70 ?_
            refine gop (y_bare (y_load Try.isAgg3 rfl (cell_box 0 rfl rfl))) rfl rfl rfl ?_
            refine gop_on rfl rfl rfl rfl hg70 ?_
            refine gop (y_bare (y_gtr rfl rfl)) rfl rfl rfl ?_
            refine gop (y_pick_f (v := .bool _) rfl hg70 rfl) rfl rfl rfl ?_
            refine gop (y_assign (v := .bool _) rfl) rfl rfl rfl ?_
            refine gops_nil ?_
            refine hN19 _ _ ?_
            refine gT [box b1 _] rfl ?_
            refine gfrom [(1, .pointer _), (3, .bool _), (4, .bool _), (66, .bool _)] ⟨rfl, rfl, rfl, rfl, trivial⟩ fun σ => ?_
            refine gcond (b := _) rfl (fun hc66 => ?_) (fun hc66 => ?_)
            · -- slot 66 t
              replace hc66 := of_decide_eq_true hc66
              refine gseq fun N20 hN20 => ?_
              refine greg ?_
              refine gop (y_assign (v := .int _ _) rfl) rfl rfl rfl ?_
              refine gops_nil ?_
              refine hN20 _ _ ?_
              refine gfrom [(2, .int _ _)] ⟨rfl, trivial⟩ fun σ => ?_
              refine gret fun w1 hM => ?_
              refine ⟨_, res1 rfl (rt (v := .int _ _) rfl), ?_⟩
              exact ⟨by rw [formC, if_neg hK, if_neg hb, if_pos (show x.user < 0 ∨ 7 < x.user by omega)], hM.low⟩
            · -- slot 66 f
              replace hc66 := of_decide_eq_false hc66
              have hU : ¬ (x.user < 0 ∨ 7 < x.user) := by omega
              refine gskip ?_
              refine hN6 _ _ ?_
              refine gfrom [(1, .pointer _), (3, .bool _), (4, .bool _)] ⟨rfl, rfl, rfl, trivial⟩ fun σ => ?_
              refine gseq fun N21 hN21 => ?_
              refine gseq fun N22 hN22 => ?_
              refine greg ?_
              refine gop (y_move (v := .bool _) rfl) rfl rfl rfl ?_
              refine gop (y_move (v := .bool _) rfl) rfl rfl rfl ?_
              refine gop_if (want := false) rfl rfl rfl rfl rfl rfl (fun hg76 => ?_) (fun hg76 => ?_)
              · -- guard 76 on
                have hg76d := of_decide_eq_false hg76
                refine gop (y_bare (y_move (v := .bool _) rfl)) rfl rfl rfl ?_
                refine gop (y_pick_f (v := .bool _) rfl hg76 rfl) rfl rfl rfl ?_
                refine gops_nil ?_
                refine hN22 _ _ ?_
                refine gfrom [(1, .pointer _), (78, .bool _)] ⟨rfl, rfl, trivial⟩ fun σ => ?_
                refine gcond (b := _) rfl (fun hc78 => ?_) (fun hc78 => ?_)
                · -- slot 78 t
                  replace hc78 := of_decide_eq_true hc78
                  have hO : x.kind = 1 ∨ x.kind = 2 := by omega
                  refine gseq fun N23 hN23 => ?_
                  refine gseq fun N24 hN24 => ?_
                  refine greg ?_
                  refine gop (y_fieldAddr_box fa66_4 rfl) rfl rfl rfl ?_
                  refine gop (y_load Try.isAgg9 rfl (cell_box 0 rfl rfl)) rfl rfl rfl ?_
                  refine gop (y_eqls rfl rfl) rfl rfl rfl ?_
                  refine gops_nil ?_
                  refine hN24 _ _ ?_
                  refine gfrom [(1, .pointer _), (81, .bool _)] ⟨rfl, rfl, trivial⟩ fun σ => ?_
                  refine gcond (b := _) rfl (fun hc81 => ?_) (fun hc81 => ?_)
                  · -- slot 81 t
                    have hE : isEmptyS x.text = true := hc81
                    refine gseq fun N25 hN25 => ?_
                    refine greg ?_
                    refine gop (y_assign (v := .int _ _) rfl) rfl rfl rfl ?_
                    refine gops_nil ?_
                    refine hN25 _ _ ?_
                    refine gfrom [(2, .int _ _)] ⟨rfl, trivial⟩ fun σ => ?_
                    refine gret fun w1 hM => ?_
                    refine ⟨_, res1 rfl (rt (v := .int _ _) rfl), ?_⟩
                    exact ⟨by rw [formC, if_neg hK, if_neg hb, if_neg hU, if_pos hO, if_pos hE], hM.low⟩
                  · -- slot 81 f
                    have hE : ¬ isEmptyS x.text = true := Bool.eq_false_iff.1 hc81
                    refine gskip ?_
                    refine hN23 _ _ ?_
                    refine gfrom [(1, .pointer _)] ⟨rfl, trivial⟩ fun σ => ?_
                    refine gseq fun N26 hN26 => ?_
                    refine greg ?_
                    refine gop (y_fieldAddr_box fa66_4 rfl) rfl rfl rfl ?_
                    refine gop (y_load Try.isAgg9 rfl (cell_box 0 rfl rfl)) rfl rfl rfl ?_
                    refine gop_lit (vs := [.string _]) (cells := #[_]) Try.underlying41 Try.sizeOf9 Try.zeroValue9 rfl (by decide) (by decide) rfl rfl rfl rfl (fun b84 hb84 => ?_)
                    refine gop_pure (e_call (vs := [.slice (some _) _ _]) Try.func43 rfl (by kernel_rfl) rfl) (fun w hM => linesValidate_any w _ _ [x.text] (Rdl.mono (Rdl.of_box 1 (f := strCells) (fun _ => rfl) hM rfl rfl) (Nat.zero_le _)) (by simp [maxLen])) rfl rfl rfl ?_
                    refine gop (y_field (cs := #[_, _]) rfl (fd27_0 _ _)) rfl rfl rfl ?_
                    refine gop (y_assign (v := .int _ _) rfl) rfl rfl rfl ?_
                    refine gops_nil ?_
                    refine hN26 _ _ ?_
                    refine gT [box b1 _, box b84 _] rfl ?_
                    refine gfrom [(2, .int _ _)] ⟨rfl, trivial⟩ fun σ => ?_
                    refine gret fun w1 hM => ?_
                    refine ⟨_, res1 rfl (rt (v := .int _ _) rfl), ?_⟩
                    exact ⟨by rw [linesF_one, formC, if_neg hK, if_neg hb, if_neg hU, if_pos hO, if_neg hE], hM.low⟩
                · -- slot 78 f
                  replace hc78 := of_decide_eq_false hc78
                  have hO : ¬ (x.kind = 1 ∨ x.kind = 2) := by omega
                  refine gskip ?_
                  refine hN21 _ _ ?_
                  refine gfrom [] trivial fun σ => ?_
                  refine gseq fun N27 hN27 => ?_
                  refine greg ?_
                  refine gop (y_assign (v := .int _ _) rfl) rfl rfl rfl ?_
                  refine gops_nil ?_
                  refine hN27 _ _ ?_
                  refine gfrom [(2, .int _ _)] ⟨rfl, trivial⟩ fun σ => ?_
                  refine gret fun w1 hM => ?_
                  refine ⟨_, res1 rfl (rt (v := .int _ _) rfl), ?_⟩
                  exact ⟨by rw [formC, if_neg hK, if_neg hb, if_neg hU, if_neg hO], hM.low⟩
              · -- guard 76 off
                have hg76d := of_decide_eq_true hg76
                refine gop (y_pick_t (v := .bool _) rfl hg76 rfl) rfl rfl rfl ?_
                refine gops_nil ?_
                refine hN22 _ _ ?_
                refine gfrom [(1, .pointer _), (78, .bool _)] ⟨rfl, rfl, trivial⟩ fun σ => ?_
                refine gcond (b := _) rfl (fun hc78 => ?_) (fun hc78 => ?_)
                · -- slot 78 t
                  have hO : x.kind = 1 ∨ x.kind = 2 := by omega
                  refine gseq fun N28 hN28 => ?_
                  refine gseq fun N29 hN29 => ?_
                  refine greg ?_
                  refine gop (y_fieldAddr_box fa66_4 rfl) rfl rfl rfl ?_
                  refine gop (y_load Try.isAgg9 rfl (cell_box 0 rfl rfl)) rfl rfl rfl ?_
                  refine gop (y_eqls rfl rfl) rfl rfl rfl ?_
                  refine gops_nil ?_
                  refine hN29 _ _ ?_
                  refine gfrom [(1, .pointer _), (81, .bool _)] ⟨rfl, rfl, trivial⟩ fun σ => ?_
                  refine gcond (b := _) rfl (fun hc81 => ?_) (fun hc81 => ?_)
                  · -- slot 81 t
                    have hE : isEmptyS x.text = true := hc81
                    refine gseq fun N30 hN30 => ?_
                    refine greg ?_
                    refine gop (y_assign (v := .int _ _) rfl) rfl rfl rfl ?_
                    refine gops_nil ?_
                    refine hN30 _ _ ?_
                    refine gfrom [(2, .int _ _)] ⟨rfl, trivial⟩ fun σ => ?_
                    refine gret fun w1 hM => ?_
                    refine ⟨_, res1 rfl (rt (v := .int _ _) rfl), ?_⟩
                    exact ⟨by rw [formC, if_neg hK, if_neg hb, if_neg hU, if_pos hO, if_pos hE], hM.low⟩
                  · -- slot 81 f
                    have hE : ¬ isEmptyS x.text = true := Bool.eq_false_iff.1 hc81
                    refine gskip ?_
                    refine hN28 _ _ ?_
                    refine gfrom [(1, .pointer _)] ⟨rfl, trivial⟩ fun σ => ?_
                    refine gseq fun N31 hN31 => ?_
                    refine greg ?_
                    refine gop (y_fieldAddr_box fa66_4 rfl) rfl rfl rfl ?_
                    refine gop (y_load Try.isAgg9 rfl (cell_box 0 rfl rfl)) rfl rfl rfl ?_
                    refine gop_lit (vs := [.string _]) (cells := #[_]) Try.underlying41 Try.sizeOf9 Try.zeroValue9 rfl (by decide) (by decide) rfl rfl rfl rfl (fun b84 hb84 => ?_)
                    refine gop_pure (e_call (vs := [.slice (some _) _ _]) Try.func43 rfl (by kernel_rfl) rfl) (fun w hM => linesValidate_any w _ _ [x.text] (Rdl.mono (Rdl.of_box 1 (f := strCells) (fun _ => rfl) hM rfl rfl) (Nat.zero_le _)) (by simp [maxLen])) rfl rfl rfl ?_
                    refine gop (y_field (cs := #[_, _]) rfl (fd27_0 _ _)) rfl rfl rfl ?_
                    refine gop (y_assign (v := .int _ _) rfl) rfl rfl rfl ?_
                    refine gops_nil ?_
                    refine hN31 _ _ ?_
                    refine gT [box b1 _, box b84 _] rfl ?_
                    refine gfrom [(2, .int _ _)] ⟨rfl, trivial⟩ fun σ => ?_
                    refine gret fun w1 hM => ?_
                    refine ⟨_, res1 rfl (rt (v := .int _ _) rfl), ?_⟩
                    exact ⟨by rw [linesF_one, formC, if_neg hK, if_neg hb, if_neg hU, if_pos hO, if_neg hE], hM.low⟩
                · -- slot 78 f
                  cases hc78
          · -- guard 70 off
            have hg70d := of_decide_eq_true hg70
            refine gop_off rfl rfl rfl rfl hg70 rfl rfl ?_
            refine gop_off rfl rfl rfl rfl hg70 rfl rfl ?_
            refine gop (y_pick_t (v := .bool _) rfl hg70 rfl) rfl rfl rfl ?_
            refine gop (y_assign (v := .bool _) rfl) rfl rfl rfl ?_
            refine gops_nil ?_
            refine hN19 _ _ ?_
            refine gT [box b1 _] rfl ?_
            refine gfrom [(1, .pointer _), (3, .bool _), (4, .bool _), (66, .bool _)] ⟨rfl, rfl, rfl, rfl, trivial⟩ fun σ => ?_
            refine gcond (b := _) rfl (fun hc66 => ?_) (fun hc66 => ?_)
            · -- slot 66 t
              refine gseq fun N32 hN32 => ?_
              refine greg ?_
              refine gop (y_assign (v := .int _ _) rfl) rfl rfl rfl ?_
              refine gops_nil ?_
              refine hN32 _ _ ?_
              refine gfrom [(2, .int _ _)] ⟨rfl, trivial⟩ fun σ => ?_
              refine gret fun w1 hM => ?_
              refine ⟨_, res1 rfl (rt (v := .int _ _) rfl), ?_⟩
              exact ⟨by rw [formC, if_neg hK, if_neg hb, if_pos (show x.user < 0 ∨ 7 < x.user by omega)], hM.low⟩
            · -- slot 66 f
              cases hc66
  · -- guard 10 off
    have hg10d := of_decide_eq_true hg10
    refine gop_off rfl rfl rfl rfl hg10 rfl rfl ?_
    refine gop_off rfl rfl rfl rfl hg10 rfl rfl ?_
    refine gop (y_pick_t (v := .bool _) rfl hg10 rfl) rfl rfl rfl ?_
    refine gops_nil ?_
    refine hN3 _ _ ?_
    refine gfrom [(1, .pointer _), (14, .bool _)] ⟨rfl, rfl, trivial⟩ fun σ => ?_
    refine gcond (b := _) rfl (fun hc14 => ?_) (fun hc14 => ?_)
    · -- slot 14 t
      refine gseq fun N33 hN33 => ?_
      refine greg ?_
      refine gop (y_assign (v := .int _ _) rfl) rfl rfl rfl ?_
      refine gops_nil ?_
      refine hN33 _ _ ?_
      refine gfrom [(2, .int _ _)] ⟨rfl, trivial⟩ fun σ => ?_
      refine gret fun w1 hM => ?_
      refine ⟨_, res1 rfl (rt (v := .int _ _) rfl), ?_⟩
      exact ⟨by rw [formC, if_pos (show x.kind < 1 ∨ 4 < x.kind by omega)], hM.low⟩
    · -- slot 14 f
      cases hc14

set_option maxHeartbeats 1000000 in
theorem thread_any (w : World) (br n hc : Nat) (hA : Option Addr) (t : Int) (hcell : w.cell? ⟨br, 1, none⟩ = some (.slice hA n hc)) (hsome : 0 < n → ∃ ad, hA = some ad) : Calls Try.prog 53 #[.pointer (some ⟨br, 0, none⟩), .int .i64 t] w fun e w' => e = .returned (.pointer (thrP hA n t)) ∧ Below w.heap.size w w' := by
  refine gcalls Try.func53 rfl Try.ntmps53 (Nat.le_of_ble_eq_true rfl) ?_
  refine gfrom [(0, .pointer (some ⟨br, 0, none⟩)), (1, .int _ _)] ⟨rfl, rfl, trivial⟩ fun σ => ?_
  refine gseq fun N1 hN1 => ?_
  refine greg ?_
  refine gop (y_assign (v := .pointer _) rfl) rfl rfl rfl ?_
  refine gops_nil ?_
  refine hN1 _ _ ?_
  refine gfrom [(0, .pointer (some ⟨br, 0, none⟩)), (1, .int _ _)] ⟨rfl, rfl, trivial⟩ fun σ => ?_
  refine gseq fun N2 hN2 => ?_
  refine gseq fun N3 hN3 => ?_
  refine greg ?_
  refine gop (y_move (v := .int _ _) rfl) rfl rfl rfl ?_
  refine gop (y_lss rfl rfl) rfl rfl rfl ?_
  refine gop (y_move (v := .bool _) rfl) rfl rfl rfl ?_
  refine gop_if (want := false) rfl rfl rfl rfl rfl rfl (fun hg7 => ?_) (fun hg7 => ?_)
  · -- guard 7 on
    have hg7d := of_decide_eq_false hg7
    refine gop (y_bare (y_move (v := .int _ _) rfl)) rfl rfl rfl ?_
    refine gop_on rfl rfl rfl rfl hg7 ?_
    refine gop (y_bare (y_move (v := .pointer (some ⟨br, 0, none⟩)) rfl)) rfl rfl rfl ?_
    refine gop_on rfl rfl rfl rfl hg7 ?_
    refine gop (y_bare (y_nilCheck rfl)) rfl rfl rfl ?_
    refine gop_on rfl rfl rfl rfl hg7 ?_
    refine gop (y_bare (y_fieldAddr_box fa82_1 rfl)) rfl rfl rfl ?_
    refine gop_on rfl rfl rfl rfl hg7 ?_
    refine gop (y_bare (y_load Try.isAgg55 rfl (cell_base hcell))) rfl rfl rfl ?_
    refine gop_on rfl rfl rfl rfl hg7 ?_
    refine gop (y_bare (y_len Try.underlying55 rfl)) rfl rfl rfl ?_
    refine gop_on rfl rfl rfl rfl hg7 ?_
    refine gop (y_bare (y_geq rfl rfl)) rfl rfl rfl ?_
    refine gop (y_pick_f (v := .bool _) rfl hg7 rfl) rfl rfl rfl ?_
    refine gops_nil ?_
    refine hN3 _ _ ?_
    refine gfrom [(0, .pointer (some ⟨br, 0, none⟩)), (1, .int _ _), (15, .bool _)] ⟨rfl, rfl, rfl, trivial⟩ fun σ => ?_
    refine gcond (b := _) rfl (fun hc15 => ?_) (fun hc15 => ?_)
    · -- slot 15 t
      replace hc15 := of_decide_eq_true hc15
      have hT : thrP hA n t = none := by rw [thrP, if_neg (by omega)]
      refine gseq fun N4 hN4 => ?_
      refine greg ?_
      refine gop (y_assign (v := .pointer _) rfl) rfl rfl rfl ?_
      refine gops_nil ?_
      refine hN4 _ _ ?_
      refine gfrom [(4, .pointer _)] ⟨rfl, trivial⟩ fun σ => ?_
      refine gret fun w1 hM => ?_
      refine ⟨_, res1 rfl (rt (v := .pointer _) rfl), ?_⟩
      exact ⟨by rw [hT], hM.low⟩
    · -- slot 15 f
      replace hc15 := of_decide_eq_false hc15
      obtain ⟨ad, rfl⟩ := hsome (by omega)
      have hT : thrP (some ad) n t = some (ad.add (t.toNat * 5)) := by rw [thrP, if_pos (by omega)]; rfl
      refine gskip ?_
      refine hN2 _ _ ?_
      refine gfrom [(0, .pointer (some ⟨br, 0, none⟩)), (1, .int _ _)] ⟨rfl, rfl, trivial⟩ fun σ => ?_
      refine gseq fun N5 hN5 => ?_
      refine greg ?_
      refine gop (y_move (v := .pointer (some ⟨br, 0, none⟩)) rfl) rfl rfl rfl ?_
      refine gop (y_nilCheck rfl) rfl rfl rfl ?_
      refine gop (y_fieldAddr_box fa82_1 rfl) rfl rfl rfl ?_
      refine gop (y_load Try.isAgg55 rfl (cell_base hcell)) rfl rfl rfl ?_
      refine gop (y_move (v := .int _ _) rfl) rfl rfl rfl ?_
      refine gop (y_indexAddr Try.underlying55 Try.sizeOf60 rfl rfl rfl (by omega) (by omega)) rfl rfl rfl ?_
      refine gop (y_assign (v := .pointer _) rfl) rfl rfl rfl ?_
      refine gops_nil ?_
      refine hN5 _ _ ?_
      refine gfrom [(4, .pointer _)] ⟨rfl, trivial⟩ fun σ => ?_
      refine gret fun w1 hM => ?_
      refine ⟨_, res1 rfl (rt (v := .pointer _) rfl), ?_⟩
      exact ⟨by rw [hT], hM.low⟩
  · -- guard 7 off
    have hg7d := of_decide_eq_true hg7
    refine gop_off rfl rfl rfl rfl hg7 rfl rfl ?_
    refine gop_off rfl rfl rfl rfl hg7 rfl rfl ?_
    refine gop_off rfl rfl rfl rfl hg7 rfl rfl ?_
    refine gop_off rfl rfl rfl rfl hg7 rfl rfl ?_
    refine gop_off rfl rfl rfl rfl hg7 rfl rfl ?_
    refine gop_off rfl rfl rfl rfl hg7 rfl rfl ?_
    refine gop (y_pick_t (v := .bool _) rfl hg7 rfl) rfl rfl rfl ?_
    refine gops_nil ?_
    refine hN3 _ _ ?_
    refine gfrom [(0, .pointer (some ⟨br, 0, none⟩)), (1, .int _ _), (15, .bool _)] ⟨rfl, rfl, rfl, trivial⟩ fun σ => ?_
    refine gcond (b := _) rfl (fun hc15 => ?_) (fun hc15 => ?_)
    · -- slot 15 t
      have hT : thrP hA n t = none := by rw [thrP, if_neg (by omega)]
      refine gseq fun N6 hN6 => ?_
      refine greg ?_
      refine gop (y_assign (v := .pointer _) rfl) rfl rfl rfl ?_
      refine gops_nil ?_
      refine hN6 _ _ ?_
      refine gfrom [(4, .pointer _)] ⟨rfl, trivial⟩ fun σ => ?_
      refine gret fun w1 hM => ?_
      refine ⟨_, res1 rfl (rt (v := .pointer _) rfl), ?_⟩
      exact ⟨by rw [hT], hM.low⟩
    · -- slot 15 f
      cases hc15
end Go.Proofs.Ytbaojdiccikbiaa
