/- walks, printed by program -/
import Derived.Test.YtijpaljdclhehaaDoorGlobM
import Derived.Test.YtijpaljdclhehaaDoorLibJ
import Derived.Test.YtijpaljdclhehaaDoorCom
import Derived.Test.YtijpaljdclhehaaDoorPlain
import Derived.Test.YtijpaljdclhehaaDoorProg
namespace Go.Proofs.YtijpaljdclhehaaDoor
open Go.RowKit Go.Cf
set_option maxRecDepth 10000

theorem el9 : Elem Tryd.prog 9 1 16 := elem_of (z := .string .empty) (by kernel_rfl) rfl (by decide)

set_option maxHeartbeats 2000000 in
theorem letter_any (w : World) (n : Nat) : Calls Tryd.prog 68 #[.int .u8 (n : Int)] w fun e w' => e = .returned (.bool (letterB n)) ∧ Below w.heap.size w w' := by
  refine gcalls Tryd.func68 rfl Tryd.ntmps68 (Nat.le_of_ble_eq_true rfl) ?_
  refine gfrom [(0, .int _ _)] ⟨rfl, trivial⟩ fun σ => ?_
  refine gseq fun N1 hN1 => ?_
  refine greg ?_
  refine gop (y_assign (v := .bool _) rfl) rfl rfl rfl ?_
  refine gops_nil ?_
  refine hN1 _ _ ?_
  refine gfrom [(0, .int _ _)] ⟨rfl, trivial⟩ fun σ => ?_
  refine gseq fun N2 hN2 => ?_
  refine greg ?_
  refine gop (y_move (v := .int _ _) rfl) rfl rfl rfl ?_
  refine gop (y_geq rfl rfl) rfl rfl rfl ?_
  refine gop (y_move (v := .bool _) rfl) rfl rfl rfl ?_
  refine gop_if (want := true) rfl rfl rfl rfl rfl rfl (fun hg5 => ?_) (fun hg5 => ?_)
  · -- guard 5 on
    have hg5d := of_decide_eq_true hg5
    refine gop (y_bare (y_move (v := .int _ _) rfl)) rfl rfl rfl ?_
    refine gop_on rfl rfl rfl rfl hg5 ?_
    refine gop (y_bare (y_leq rfl rfl)) rfl rfl rfl ?_
    refine gop (y_pick_t (v := .bool _) rfl hg5 rfl) rfl rfl rfl ?_
    refine gop (y_move (v := .bool _) rfl) rfl rfl rfl ?_
    refine gop_if (want := false) rfl rfl rfl rfl rfl rfl (fun hg9 => ?_) (fun hg9 => ?_)
    · -- guard 9 on
      have hg9d := of_decide_eq_false hg9
      refine gop (y_bare (y_move (v := .int _ _) rfl)) rfl rfl rfl ?_
      refine gop_on rfl rfl rfl rfl hg9 ?_
      refine gop (y_bare (y_geq rfl rfl)) rfl rfl rfl ?_
      refine gop_on rfl rfl rfl rfl hg9 ?_
      refine gop (y_bare (y_move (v := .bool _) rfl)) rfl rfl rfl ?_
      refine gop_if (want := true) rfl rfl rfl rfl rfl rfl (fun hg12 => ?_) (fun hg12 => ?_)
      · -- guard 12 on
        have hg12d := of_decide_eq_true hg12
        refine gop (y_bare (y_move (v := .int _ _) rfl)) rfl rfl rfl ?_
        refine gop_on rfl rfl rfl rfl hg12 ?_
        refine gop (y_bare (y_leq rfl rfl)) rfl rfl rfl ?_
        refine gop_on rfl rfl rfl rfl hg9 ?_
        refine gop (y_bare (y_pick_t (v := .bool _) rfl hg12 rfl)) rfl rfl rfl ?_
        refine gop (y_pick_f (v := .bool _) rfl hg9 rfl) rfl rfl rfl ?_
        refine gop (y_move (v := .bool _) rfl) rfl rfl rfl ?_
        refine gop_if (want := false) rfl rfl rfl rfl rfl rfl (fun hg17 => ?_) (fun hg17 => ?_)
        · -- guard 17 on
          have hg17d := of_decide_eq_false hg17
          refine gop (y_bare (y_move (v := .int _ _) rfl)) rfl rfl rfl ?_
          refine gop_on rfl rfl rfl rfl hg17 ?_
          refine gop (y_bare (y_geq rfl rfl)) rfl rfl rfl ?_
          refine gop_on rfl rfl rfl rfl hg17 ?_
          refine gop (y_bare (y_move (v := .bool _) rfl)) rfl rfl rfl ?_
          refine gop_if (want := true) rfl rfl rfl rfl rfl rfl (fun hg20 => ?_) (fun hg20 => ?_)
          · -- guard 20 on
            have hg20d := of_decide_eq_true hg20
            refine gop (y_bare (y_move (v := .int _ _) rfl)) rfl rfl rfl ?_
            refine gop_on rfl rfl rfl rfl hg20 ?_
            refine gop (y_bare (y_leq rfl rfl)) rfl rfl rfl ?_
            refine gop_on rfl rfl rfl rfl hg17 ?_
            refine gop (y_bare (y_pick_t (v := .bool _) rfl hg20 rfl)) rfl rfl rfl ?_
            refine gop (y_pick_f (v := .bool _) rfl hg17 rfl) rfl rfl rfl ?_
            refine gop (y_move (v := .bool _) rfl) rfl rfl rfl ?_
            refine gop_if (want := false) rfl rfl rfl rfl rfl rfl (fun hg25 => ?_) (fun hg25 => ?_)
            · -- guard 25 on
              have hg25d := of_decide_eq_false hg25
              refine gop (y_bare (y_move (v := .int _ _) rfl)) rfl rfl rfl ?_
              refine gop_on rfl rfl rfl rfl hg25 ?_
              refine gop (y_bare (y_eql rfl rfl)) rfl rfl rfl ?_
              refine gop (y_pick_f (v := .bool _) rfl hg25 rfl) rfl rfl rfl ?_
              refine gop (y_move (v := .bool _) rfl) rfl rfl rfl ?_
              refine gop_if (want := false) rfl rfl rfl rfl rfl rfl (fun hg29 => ?_) (fun hg29 => ?_)
              · -- guard 29 on
                have hg29d := of_decide_eq_false hg29
                refine gop (y_bare (y_move (v := .int _ _) rfl)) rfl rfl rfl ?_
                refine gop_on rfl rfl rfl rfl hg29 ?_
                refine gop (y_bare (y_eql rfl rfl)) rfl rfl rfl ?_
                refine gop (y_pick_f (v := .bool _) rfl hg29 rfl) rfl rfl rfl ?_
                refine gop (y_move (v := .bool _) rfl) rfl rfl rfl ?_
                refine gop_if (want := false) rfl rfl rfl rfl rfl rfl (fun hg33 => ?_) (fun hg33 => ?_)
                · -- guard 33 on
                  have hg33d := of_decide_eq_false hg33
                  refine gop (y_bare (y_move (v := .int _ _) rfl)) rfl rfl rfl ?_
                  refine gop_on rfl rfl rfl rfl hg33 ?_
                  refine gop (y_bare (y_eql rfl rfl)) rfl rfl rfl ?_
                  refine gop (y_pick_f (v := .bool _) rfl hg33 rfl) rfl rfl rfl ?_
                  refine gop (y_assign (v := .bool _) rfl) rfl rfl rfl ?_
                  refine gops_nil ?_
                  refine hN2 _ _ ?_
                  refine gfrom [(2, .bool _)] ⟨rfl, trivial⟩ fun σ => ?_
                  refine gret fun w1 hM => ?_
                  refine ⟨_, res1 rfl (rt (v := .bool _) rfl), ?_⟩
                  first | (exfalso; omega) | exact ⟨by rw [show letterB n = true from decide_eq_true (by omega)], hM.low⟩ | exact ⟨by rw [show letterB n = decide ((n : Int) = 45) from decide_eq_decide.2 (by omega)], hM.low⟩
                · -- guard 33 off
                  have hg33d := of_decide_eq_true hg33
                  refine gop_off rfl rfl rfl rfl hg33 rfl rfl ?_
                  refine gop (y_pick_t (v := .bool _) rfl hg33 rfl) rfl rfl rfl ?_
                  refine gop (y_assign (v := .bool _) rfl) rfl rfl rfl ?_
                  refine gops_nil ?_
                  refine hN2 _ _ ?_
                  refine gfrom [(2, .bool _)] ⟨rfl, trivial⟩ fun σ => ?_
                  refine gret fun w1 hM => ?_
                  refine ⟨_, res1 rfl (rt (v := .bool _) rfl), ?_⟩
                  first | (exfalso; omega) | exact ⟨by rw [show letterB n = true from decide_eq_true (by omega)], hM.low⟩ | exact ⟨by rw [show letterB n = decide ((n : Int) = 45) from decide_eq_decide.2 (by omega)], hM.low⟩
              · -- guard 29 off
                have hg29d := of_decide_eq_true hg29
                refine gop_off rfl rfl rfl rfl hg29 rfl rfl ?_
                refine gop (y_pick_t (v := .bool _) rfl hg29 rfl) rfl rfl rfl ?_
                refine gop (y_move (v := .bool _) rfl) rfl rfl rfl ?_
                refine gop_off rfl rfl rfl rfl rfl rfl rfl ?_
                refine gop_off rfl rfl rfl rfl rfl rfl rfl ?_
                refine gop (y_pick_t (v := .bool _) rfl rfl rfl) rfl rfl rfl ?_
                refine gop (y_assign (v := .bool _) rfl) rfl rfl rfl ?_
                refine gops_nil ?_
                refine hN2 _ _ ?_
                refine gfrom [(2, .bool _)] ⟨rfl, trivial⟩ fun σ => ?_
                refine gret fun w1 hM => ?_
                refine ⟨_, res1 rfl (rt (v := .bool _) rfl), ?_⟩
                first | (exfalso; omega) | exact ⟨by rw [show letterB n = true from decide_eq_true (by omega)], hM.low⟩ | exact ⟨by rw [show letterB n = decide ((n : Int) = 45) from decide_eq_decide.2 (by omega)], hM.low⟩
            · -- guard 25 off
              have hg25d := of_decide_eq_true hg25
              refine gop_off rfl rfl rfl rfl hg25 rfl rfl ?_
              refine gop (y_pick_t (v := .bool _) rfl hg25 rfl) rfl rfl rfl ?_
              refine gop (y_move (v := .bool _) rfl) rfl rfl rfl ?_
              refine gop_off rfl rfl rfl rfl rfl rfl rfl ?_
              refine gop_off rfl rfl rfl rfl rfl rfl rfl ?_
              refine gop (y_pick_t (v := .bool _) rfl rfl rfl) rfl rfl rfl ?_
              refine gop (y_move (v := .bool _) rfl) rfl rfl rfl ?_
              refine gop_off rfl rfl rfl rfl rfl rfl rfl ?_
              refine gop_off rfl rfl rfl rfl rfl rfl rfl ?_
              refine gop (y_pick_t (v := .bool _) rfl rfl rfl) rfl rfl rfl ?_
              refine gop (y_assign (v := .bool _) rfl) rfl rfl rfl ?_
              refine gops_nil ?_
              refine hN2 _ _ ?_
              refine gfrom [(2, .bool _)] ⟨rfl, trivial⟩ fun σ => ?_
              refine gret fun w1 hM => ?_
              refine ⟨_, res1 rfl (rt (v := .bool _) rfl), ?_⟩
              first | (exfalso; omega) | exact ⟨by rw [show letterB n = true from decide_eq_true (by omega)], hM.low⟩ | exact ⟨by rw [show letterB n = decide ((n : Int) = 45) from decide_eq_decide.2 (by omega)], hM.low⟩
          · -- guard 20 off
            have hg20d := of_decide_eq_false hg20
            refine gop_off rfl rfl rfl rfl hg20 rfl rfl ?_
            refine gop_on rfl rfl rfl rfl hg17 ?_
            refine gop (y_bare (y_pick_f (v := .bool _) rfl hg20 rfl)) rfl rfl rfl ?_
            refine gop (y_pick_f (v := .bool _) rfl hg17 rfl) rfl rfl rfl ?_
            refine gop (y_move (v := .bool _) rfl) rfl rfl rfl ?_
            refine gop_on rfl rfl rfl rfl rfl ?_
            refine gop (y_bare (y_move (v := .int _ _) rfl)) rfl rfl rfl ?_
            refine gop_on rfl rfl rfl rfl rfl ?_
            refine gop (y_bare (y_eql rfl rfl)) rfl rfl rfl ?_
            refine gop (y_pick_f (v := .bool _) rfl rfl rfl) rfl rfl rfl ?_
            refine gop (y_move (v := .bool _) rfl) rfl rfl rfl ?_
            refine gop_if (want := false) rfl rfl rfl rfl rfl rfl (fun hg29 => ?_) (fun hg29 => ?_)
            · -- guard 29 on
              have hg29d := of_decide_eq_false hg29
              refine gop (y_bare (y_move (v := .int _ _) rfl)) rfl rfl rfl ?_
              refine gop_on rfl rfl rfl rfl hg29 ?_
              refine gop (y_bare (y_eql rfl rfl)) rfl rfl rfl ?_
              refine gop (y_pick_f (v := .bool _) rfl hg29 rfl) rfl rfl rfl ?_
              refine gop (y_move (v := .bool _) rfl) rfl rfl rfl ?_
              refine gop_if (want := false) rfl rfl rfl rfl rfl rfl (fun hg33 => ?_) (fun hg33 => ?_)
              · -- guard 33 on
                have hg33d := of_decide_eq_false hg33
                refine gop (y_bare (y_move (v := .int _ _) rfl)) rfl rfl rfl ?_
                refine gop_on rfl rfl rfl rfl hg33 ?_
                refine gop (y_bare (y_eql rfl rfl)) rfl rfl rfl ?_
                refine gop (y_pick_f (v := .bool _) rfl hg33 rfl) rfl rfl rfl ?_
                refine gop (y_assign (v := .bool _) rfl) rfl rfl rfl ?_
                refine gops_nil ?_
                refine hN2 _ _ ?_
                refine gfrom [(2, .bool _)] ⟨rfl, trivial⟩ fun σ => ?_
                refine gret fun w1 hM => ?_
                refine ⟨_, res1 rfl (rt (v := .bool _) rfl), ?_⟩
                first | (exfalso; omega) | exact ⟨by rw [show letterB n = true from decide_eq_true (by omega)], hM.low⟩ | exact ⟨by rw [show letterB n = decide ((n : Int) = 45) from decide_eq_decide.2 (by omega)], hM.low⟩
              · -- guard 33 off
                have hg33d := of_decide_eq_true hg33
                refine gop_off rfl rfl rfl rfl hg33 rfl rfl ?_
                refine gop (y_pick_t (v := .bool _) rfl hg33 rfl) rfl rfl rfl ?_
                refine gop (y_assign (v := .bool _) rfl) rfl rfl rfl ?_
                refine gops_nil ?_
                refine hN2 _ _ ?_
                refine gfrom [(2, .bool _)] ⟨rfl, trivial⟩ fun σ => ?_
                refine gret fun w1 hM => ?_
                refine ⟨_, res1 rfl (rt (v := .bool _) rfl), ?_⟩
                first | (exfalso; omega) | exact ⟨by rw [show letterB n = true from decide_eq_true (by omega)], hM.low⟩ | exact ⟨by rw [show letterB n = decide ((n : Int) = 45) from decide_eq_decide.2 (by omega)], hM.low⟩
            · -- guard 29 off
              have hg29d := of_decide_eq_true hg29
              refine gop_off rfl rfl rfl rfl hg29 rfl rfl ?_
              refine gop (y_pick_t (v := .bool _) rfl hg29 rfl) rfl rfl rfl ?_
              refine gop (y_move (v := .bool _) rfl) rfl rfl rfl ?_
              refine gop_off rfl rfl rfl rfl rfl rfl rfl ?_
              refine gop_off rfl rfl rfl rfl rfl rfl rfl ?_
              refine gop (y_pick_t (v := .bool _) rfl rfl rfl) rfl rfl rfl ?_
              refine gop (y_assign (v := .bool _) rfl) rfl rfl rfl ?_
              refine gops_nil ?_
              refine hN2 _ _ ?_
              refine gfrom [(2, .bool _)] ⟨rfl, trivial⟩ fun σ => ?_
              refine gret fun w1 hM => ?_
              refine ⟨_, res1 rfl (rt (v := .bool _) rfl), ?_⟩
              first | (exfalso; omega) | exact ⟨by rw [show letterB n = true from decide_eq_true (by omega)], hM.low⟩ | exact ⟨by rw [show letterB n = decide ((n : Int) = 45) from decide_eq_decide.2 (by omega)], hM.low⟩
        · -- guard 17 off
          have hg17d := of_decide_eq_true hg17
          refine gop_off rfl rfl rfl rfl hg17 rfl rfl ?_
          refine gop_off rfl rfl rfl rfl hg17 rfl rfl ?_
          refine gop_offu rfl rfl rfl rfl rfl rfl ?_
          refine gop_offu rfl rfl rfl rfl rfl rfl ?_
          refine gop_off rfl rfl rfl rfl hg17 rfl rfl ?_
          refine gop (y_pick_t (v := .bool _) rfl hg17 rfl) rfl rfl rfl ?_
          refine gop (y_move (v := .bool _) rfl) rfl rfl rfl ?_
          refine gop_off rfl rfl rfl rfl rfl rfl rfl ?_
          refine gop_off rfl rfl rfl rfl rfl rfl rfl ?_
          refine gop (y_pick_t (v := .bool _) rfl rfl rfl) rfl rfl rfl ?_
          refine gop (y_move (v := .bool _) rfl) rfl rfl rfl ?_
          refine gop_off rfl rfl rfl rfl rfl rfl rfl ?_
          refine gop_off rfl rfl rfl rfl rfl rfl rfl ?_
          refine gop (y_pick_t (v := .bool _) rfl rfl rfl) rfl rfl rfl ?_
          refine gop (y_move (v := .bool _) rfl) rfl rfl rfl ?_
          refine gop_off rfl rfl rfl rfl rfl rfl rfl ?_
          refine gop_off rfl rfl rfl rfl rfl rfl rfl ?_
          refine gop (y_pick_t (v := .bool _) rfl rfl rfl) rfl rfl rfl ?_
          refine gop (y_assign (v := .bool _) rfl) rfl rfl rfl ?_
          refine gops_nil ?_
          refine hN2 _ _ ?_
          refine gfrom [(2, .bool _)] ⟨rfl, trivial⟩ fun σ => ?_
          refine gret fun w1 hM => ?_
          refine ⟨_, res1 rfl (rt (v := .bool _) rfl), ?_⟩
          first | (exfalso; omega) | exact ⟨by rw [show letterB n = true from decide_eq_true (by omega)], hM.low⟩ | exact ⟨by rw [show letterB n = decide ((n : Int) = 45) from decide_eq_decide.2 (by omega)], hM.low⟩
      · -- guard 12 off
        have hg12d := of_decide_eq_false hg12
        refine gop_off rfl rfl rfl rfl hg12 rfl rfl ?_
        refine gop_on rfl rfl rfl rfl hg9 ?_
        refine gop (y_bare (y_pick_f (v := .bool _) rfl hg12 rfl)) rfl rfl rfl ?_
        refine gop (y_pick_f (v := .bool _) rfl hg9 rfl) rfl rfl rfl ?_
        refine gop (y_move (v := .bool _) rfl) rfl rfl rfl ?_
        refine gop_on rfl rfl rfl rfl rfl ?_
        refine gop (y_bare (y_move (v := .int _ _) rfl)) rfl rfl rfl ?_
        refine gop_on rfl rfl rfl rfl rfl ?_
        refine gop (y_bare (y_geq rfl rfl)) rfl rfl rfl ?_
        refine gop_on rfl rfl rfl rfl rfl ?_
        refine gop (y_bare (y_move (v := .bool _) rfl)) rfl rfl rfl ?_
        refine gop_if (want := true) rfl rfl rfl rfl rfl rfl (fun hg20 => ?_) (fun hg20 => ?_)
        · -- guard 20 on
          have hg20d := of_decide_eq_true hg20
          refine gop (y_bare (y_move (v := .int _ _) rfl)) rfl rfl rfl ?_
          refine gop_on rfl rfl rfl rfl hg20 ?_
          refine gop (y_bare (y_leq rfl rfl)) rfl rfl rfl ?_
          refine gop_on rfl rfl rfl rfl rfl ?_
          refine gop (y_bare (y_pick_t (v := .bool _) rfl hg20 rfl)) rfl rfl rfl ?_
          refine gop (y_pick_f (v := .bool _) rfl rfl rfl) rfl rfl rfl ?_
          refine gop (y_move (v := .bool _) rfl) rfl rfl rfl ?_
          refine gop_if (want := false) rfl rfl rfl rfl rfl rfl (fun hg25 => ?_) (fun hg25 => ?_)
          · -- guard 25 on
            have hg25d := of_decide_eq_false hg25
            refine gop (y_bare (y_move (v := .int _ _) rfl)) rfl rfl rfl ?_
            refine gop_on rfl rfl rfl rfl hg25 ?_
            refine gop (y_bare (y_eql rfl rfl)) rfl rfl rfl ?_
            refine gop (y_pick_f (v := .bool _) rfl hg25 rfl) rfl rfl rfl ?_
            refine gop (y_move (v := .bool _) rfl) rfl rfl rfl ?_
            refine gop_if (want := false) rfl rfl rfl rfl rfl rfl (fun hg29 => ?_) (fun hg29 => ?_)
            · -- guard 29 on
              have hg29d := of_decide_eq_false hg29
              refine gop (y_bare (y_move (v := .int _ _) rfl)) rfl rfl rfl ?_
              refine gop_on rfl rfl rfl rfl hg29 ?_
              refine gop (y_bare (y_eql rfl rfl)) rfl rfl rfl ?_
              refine gop (y_pick_f (v := .bool _) rfl hg29 rfl) rfl rfl rfl ?_
              refine gop (y_move (v := .bool _) rfl) rfl rfl rfl ?_
              refine gop_if (want := false) rfl rfl rfl rfl rfl rfl (fun hg33 => ?_) (fun hg33 => ?_)
              · -- guard 33 on
                have hg33d := of_decide_eq_false hg33
                refine gop (y_bare (y_move (v := .int _ _) rfl)) rfl rfl rfl ?_
                refine gop_on rfl rfl rfl rfl hg33 ?_
                refine gop (y_bare (y_eql rfl rfl)) rfl rfl rfl ?_
                refine gop (y_pick_f (v := .bool _) rfl hg33 rfl) rfl rfl rfl ?_
                refine gop (y_assign (v := .bool _) rfl) rfl rfl rfl ?_
                refine gops_nil ?_
                refine hN2 _ _ ?_
                refine gfrom [(2, .bool _)] ⟨rfl, trivial⟩ fun σ => ?_
                refine gret fun w1 hM => ?_
                refine ⟨_, res1 rfl (rt (v := .bool _) rfl), ?_⟩
                first | (exfalso; omega) | exact ⟨by rw [show letterB n = true from decide_eq_true (by omega)], hM.low⟩ | exact ⟨by rw [show letterB n = decide ((n : Int) = 45) from decide_eq_decide.2 (by omega)], hM.low⟩
              · -- guard 33 off
                have hg33d := of_decide_eq_true hg33
                refine gop_off rfl rfl rfl rfl hg33 rfl rfl ?_
                refine gop (y_pick_t (v := .bool _) rfl hg33 rfl) rfl rfl rfl ?_
                refine gop (y_assign (v := .bool _) rfl) rfl rfl rfl ?_
                refine gops_nil ?_
                refine hN2 _ _ ?_
                refine gfrom [(2, .bool _)] ⟨rfl, trivial⟩ fun σ => ?_
                refine gret fun w1 hM => ?_
                refine ⟨_, res1 rfl (rt (v := .bool _) rfl), ?_⟩
                first | (exfalso; omega) | exact ⟨by rw [show letterB n = true from decide_eq_true (by omega)], hM.low⟩ | exact ⟨by rw [show letterB n = decide ((n : Int) = 45) from decide_eq_decide.2 (by omega)], hM.low⟩
            · -- guard 29 off
              have hg29d := of_decide_eq_true hg29
              refine gop_off rfl rfl rfl rfl hg29 rfl rfl ?_
              refine gop (y_pick_t (v := .bool _) rfl hg29 rfl) rfl rfl rfl ?_
              refine gop (y_move (v := .bool _) rfl) rfl rfl rfl ?_
              refine gop_off rfl rfl rfl rfl rfl rfl rfl ?_
              refine gop_off rfl rfl rfl rfl rfl rfl rfl ?_
              refine gop (y_pick_t (v := .bool _) rfl rfl rfl) rfl rfl rfl ?_
              refine gop (y_assign (v := .bool _) rfl) rfl rfl rfl ?_
              refine gops_nil ?_
              refine hN2 _ _ ?_
              refine gfrom [(2, .bool _)] ⟨rfl, trivial⟩ fun σ => ?_
              refine gret fun w1 hM => ?_
              refine ⟨_, res1 rfl (rt (v := .bool _) rfl), ?_⟩
              first | (exfalso; omega) | exact ⟨by rw [show letterB n = true from decide_eq_true (by omega)], hM.low⟩ | exact ⟨by rw [show letterB n = decide ((n : Int) = 45) from decide_eq_decide.2 (by omega)], hM.low⟩
          · -- guard 25 off
            have hg25d := of_decide_eq_true hg25
            refine gop_off rfl rfl rfl rfl hg25 rfl rfl ?_
            refine gop (y_pick_t (v := .bool _) rfl hg25 rfl) rfl rfl rfl ?_
            refine gop (y_move (v := .bool _) rfl) rfl rfl rfl ?_
            refine gop_off rfl rfl rfl rfl rfl rfl rfl ?_
            refine gop_off rfl rfl rfl rfl rfl rfl rfl ?_
            refine gop (y_pick_t (v := .bool _) rfl rfl rfl) rfl rfl rfl ?_
            refine gop (y_move (v := .bool _) rfl) rfl rfl rfl ?_
            refine gop_off rfl rfl rfl rfl rfl rfl rfl ?_
            refine gop_off rfl rfl rfl rfl rfl rfl rfl ?_
            refine gop (y_pick_t (v := .bool _) rfl rfl rfl) rfl rfl rfl ?_
            refine gop (y_assign (v := .bool _) rfl) rfl rfl rfl ?_
            refine gops_nil ?_
            refine hN2 _ _ ?_
            refine gfrom [(2, .bool _)] ⟨rfl, trivial⟩ fun σ => ?_
            refine gret fun w1 hM => ?_
            refine ⟨_, res1 rfl (rt (v := .bool _) rfl), ?_⟩
            first | (exfalso; omega) | exact ⟨by rw [show letterB n = true from decide_eq_true (by omega)], hM.low⟩ | exact ⟨by rw [show letterB n = decide ((n : Int) = 45) from decide_eq_decide.2 (by omega)], hM.low⟩
        · -- guard 20 off
          have hg20d := of_decide_eq_false hg20
          refine gop_off rfl rfl rfl rfl hg20 rfl rfl ?_
          refine gop_on rfl rfl rfl rfl rfl ?_
          refine gop (y_bare (y_pick_f (v := .bool _) rfl hg20 rfl)) rfl rfl rfl ?_
          refine gop (y_pick_f (v := .bool _) rfl rfl rfl) rfl rfl rfl ?_
          refine gop (y_move (v := .bool _) rfl) rfl rfl rfl ?_
          refine gop_on rfl rfl rfl rfl rfl ?_
          refine gop (y_bare (y_move (v := .int _ _) rfl)) rfl rfl rfl ?_
          refine gop_on rfl rfl rfl rfl rfl ?_
          refine gop (y_bare (y_eql rfl rfl)) rfl rfl rfl ?_
          refine gop (y_pick_f (v := .bool _) rfl rfl rfl) rfl rfl rfl ?_
          refine gop (y_move (v := .bool _) rfl) rfl rfl rfl ?_
          refine gop_if (want := false) rfl rfl rfl rfl rfl rfl (fun hg29 => ?_) (fun hg29 => ?_)
          · -- guard 29 on
            have hg29d := of_decide_eq_false hg29
            refine gop (y_bare (y_move (v := .int _ _) rfl)) rfl rfl rfl ?_
            refine gop_on rfl rfl rfl rfl hg29 ?_
            refine gop (y_bare (y_eql rfl rfl)) rfl rfl rfl ?_
            refine gop (y_pick_f (v := .bool _) rfl hg29 rfl) rfl rfl rfl ?_
            refine gop (y_move (v := .bool _) rfl) rfl rfl rfl ?_
            refine gop_if (want := false) rfl rfl rfl rfl rfl rfl (fun hg33 => ?_) (fun hg33 => ?_)
            · -- guard 33 on
              have hg33d := of_decide_eq_false hg33
              refine gop (y_bare (y_move (v := .int _ _) rfl)) rfl rfl rfl ?_
              refine gop_on rfl rfl rfl rfl hg33 ?_
              refine gop (y_bare (y_eql rfl rfl)) rfl rfl rfl ?_
              refine gop (y_pick_f (v := .bool _) rfl hg33 rfl) rfl rfl rfl ?_
              refine gop (y_assign (v := .bool _) rfl) rfl rfl rfl ?_
              refine gops_nil ?_
              refine hN2 _ _ ?_
              refine gfrom [(2, .bool _)] ⟨rfl, trivial⟩ fun σ => ?_
              refine gret fun w1 hM => ?_
              refine ⟨_, res1 rfl (rt (v := .bool _) rfl), ?_⟩
              first | (exfalso; omega) | exact ⟨by rw [show letterB n = true from decide_eq_true (by omega)], hM.low⟩ | exact ⟨by rw [show letterB n = decide ((n : Int) = 45) from decide_eq_decide.2 (by omega)], hM.low⟩
            · -- guard 33 off
              have hg33d := of_decide_eq_true hg33
              refine gop_off rfl rfl rfl rfl hg33 rfl rfl ?_
              refine gop (y_pick_t (v := .bool _) rfl hg33 rfl) rfl rfl rfl ?_
              refine gop (y_assign (v := .bool _) rfl) rfl rfl rfl ?_
              refine gops_nil ?_
              refine hN2 _ _ ?_
              refine gfrom [(2, .bool _)] ⟨rfl, trivial⟩ fun σ => ?_
              refine gret fun w1 hM => ?_
              refine ⟨_, res1 rfl (rt (v := .bool _) rfl), ?_⟩
              first | (exfalso; omega) | exact ⟨by rw [show letterB n = true from decide_eq_true (by omega)], hM.low⟩ | exact ⟨by rw [show letterB n = decide ((n : Int) = 45) from decide_eq_decide.2 (by omega)], hM.low⟩
          · -- guard 29 off
            have hg29d := of_decide_eq_true hg29
            refine gop_off rfl rfl rfl rfl hg29 rfl rfl ?_
            refine gop (y_pick_t (v := .bool _) rfl hg29 rfl) rfl rfl rfl ?_
            refine gop (y_move (v := .bool _) rfl) rfl rfl rfl ?_
            refine gop_off rfl rfl rfl rfl rfl rfl rfl ?_
            refine gop_off rfl rfl rfl rfl rfl rfl rfl ?_
            refine gop (y_pick_t (v := .bool _) rfl rfl rfl) rfl rfl rfl ?_
            refine gop (y_assign (v := .bool _) rfl) rfl rfl rfl ?_
            refine gops_nil ?_
            refine hN2 _ _ ?_
            refine gfrom [(2, .bool _)] ⟨rfl, trivial⟩ fun σ => ?_
            refine gret fun w1 hM => ?_
            refine ⟨_, res1 rfl (rt (v := .bool _) rfl), ?_⟩
            first | (exfalso; omega) | exact ⟨by rw [show letterB n = true from decide_eq_true (by omega)], hM.low⟩ | exact ⟨by rw [show letterB n = decide ((n : Int) = 45) from decide_eq_decide.2 (by omega)], hM.low⟩
    · -- guard 9 off
      have hg9d := of_decide_eq_true hg9
      refine gop_off rfl rfl rfl rfl hg9 rfl rfl ?_
      refine gop_off rfl rfl rfl rfl hg9 rfl rfl ?_
      refine gop_offu rfl rfl rfl rfl rfl rfl ?_
      refine gop_offu rfl rfl rfl rfl rfl rfl ?_
      refine gop_off rfl rfl rfl rfl hg9 rfl rfl ?_
      refine gop (y_pick_t (v := .bool _) rfl hg9 rfl) rfl rfl rfl ?_
      refine gop (y_move (v := .bool _) rfl) rfl rfl rfl ?_
      refine gop_off rfl rfl rfl rfl rfl rfl rfl ?_
      refine gop_off rfl rfl rfl rfl rfl rfl rfl ?_
      refine gop_off rfl rfl rfl rfl rfl rfl rfl ?_
      refine gop_offu rfl rfl rfl rfl rfl rfl ?_
      refine gop_offu rfl rfl rfl rfl rfl rfl ?_
      refine gop_off rfl rfl rfl rfl rfl rfl rfl ?_
      refine gop (y_pick_t (v := .bool _) rfl rfl rfl) rfl rfl rfl ?_
      refine gop (y_move (v := .bool _) rfl) rfl rfl rfl ?_
      refine gop_off rfl rfl rfl rfl rfl rfl rfl ?_
      refine gop_off rfl rfl rfl rfl rfl rfl rfl ?_
      refine gop (y_pick_t (v := .bool _) rfl rfl rfl) rfl rfl rfl ?_
      refine gop (y_move (v := .bool _) rfl) rfl rfl rfl ?_
      refine gop_off rfl rfl rfl rfl rfl rfl rfl ?_
      refine gop_off rfl rfl rfl rfl rfl rfl rfl ?_
      refine gop (y_pick_t (v := .bool _) rfl rfl rfl) rfl rfl rfl ?_
      refine gop (y_move (v := .bool _) rfl) rfl rfl rfl ?_
      refine gop_off rfl rfl rfl rfl rfl rfl rfl ?_
      refine gop_off rfl rfl rfl rfl rfl rfl rfl ?_
      refine gop (y_pick_t (v := .bool _) rfl rfl rfl) rfl rfl rfl ?_
      refine gop (y_assign (v := .bool _) rfl) rfl rfl rfl ?_
      refine gops_nil ?_
      refine hN2 _ _ ?_
      refine gfrom [(2, .bool _)] ⟨rfl, trivial⟩ fun σ => ?_
      refine gret fun w1 hM => ?_
      refine ⟨_, res1 rfl (rt (v := .bool _) rfl), ?_⟩
      first | (exfalso; omega) | exact ⟨by rw [show letterB n = true from decide_eq_true (by omega)], hM.low⟩ | exact ⟨by rw [show letterB n = decide ((n : Int) = 45) from decide_eq_decide.2 (by omega)], hM.low⟩
  · -- guard 5 off
    have hg5d := of_decide_eq_false hg5
    refine gop_off rfl rfl rfl rfl hg5 rfl rfl ?_
    refine gop (y_pick_f (v := .bool _) rfl hg5 rfl) rfl rfl rfl ?_
    refine gop (y_move (v := .bool _) rfl) rfl rfl rfl ?_
    refine gop_on rfl rfl rfl rfl rfl ?_
    refine gop (y_bare (y_move (v := .int _ _) rfl)) rfl rfl rfl ?_
    refine gop_on rfl rfl rfl rfl rfl ?_
    refine gop (y_bare (y_geq rfl rfl)) rfl rfl rfl ?_
    refine gop_on rfl rfl rfl rfl rfl ?_
    refine gop (y_bare (y_move (v := .bool _) rfl)) rfl rfl rfl ?_
    refine gop_if (want := true) rfl rfl rfl rfl rfl rfl (fun hg12 => ?_) (fun hg12 => ?_)
    · -- guard 12 on
      have hg12d := of_decide_eq_true hg12
      refine gop (y_bare (y_move (v := .int _ _) rfl)) rfl rfl rfl ?_
      refine gop_on rfl rfl rfl rfl hg12 ?_
      refine gop (y_bare (y_leq rfl rfl)) rfl rfl rfl ?_
      refine gop_on rfl rfl rfl rfl rfl ?_
      refine gop (y_bare (y_pick_t (v := .bool _) rfl hg12 rfl)) rfl rfl rfl ?_
      refine gop (y_pick_f (v := .bool _) rfl rfl rfl) rfl rfl rfl ?_
      refine gop (y_move (v := .bool _) rfl) rfl rfl rfl ?_
      refine gop_if (want := false) rfl rfl rfl rfl rfl rfl (fun hg17 => ?_) (fun hg17 => ?_)
      · -- guard 17 on
        have hg17d := of_decide_eq_false hg17
        refine gop (y_bare (y_move (v := .int _ _) rfl)) rfl rfl rfl ?_
        refine gop_on rfl rfl rfl rfl hg17 ?_
        refine gop (y_bare (y_geq rfl rfl)) rfl rfl rfl ?_
        refine gop_on rfl rfl rfl rfl hg17 ?_
        refine gop (y_bare (y_move (v := .bool _) rfl)) rfl rfl rfl ?_
        refine gop_if (want := true) rfl rfl rfl rfl rfl rfl (fun hg20 => ?_) (fun hg20 => ?_)
        · -- guard 20 on
          have hg20d := of_decide_eq_true hg20
          refine gop (y_bare (y_move (v := .int _ _) rfl)) rfl rfl rfl ?_
          refine gop_on rfl rfl rfl rfl hg20 ?_
          refine gop (y_bare (y_leq rfl rfl)) rfl rfl rfl ?_
          refine gop_on rfl rfl rfl rfl hg17 ?_
          refine gop (y_bare (y_pick_t (v := .bool _) rfl hg20 rfl)) rfl rfl rfl ?_
          refine gop (y_pick_f (v := .bool _) rfl hg17 rfl) rfl rfl rfl ?_
          refine gop (y_move (v := .bool _) rfl) rfl rfl rfl ?_
          refine gop_if (want := false) rfl rfl rfl rfl rfl rfl (fun hg25 => ?_) (fun hg25 => ?_)
          · -- guard 25 on
            have hg25d := of_decide_eq_false hg25
            refine gop (y_bare (y_move (v := .int _ _) rfl)) rfl rfl rfl ?_
            refine gop_on rfl rfl rfl rfl hg25 ?_
            refine gop (y_bare (y_eql rfl rfl)) rfl rfl rfl ?_
            refine gop (y_pick_f (v := .bool _) rfl hg25 rfl) rfl rfl rfl ?_
            refine gop (y_move (v := .bool _) rfl) rfl rfl rfl ?_
            refine gop_if (want := false) rfl rfl rfl rfl rfl rfl (fun hg29 => ?_) (fun hg29 => ?_)
            · -- guard 29 on
              have hg29d := of_decide_eq_false hg29
              refine gop (y_bare (y_move (v := .int _ _) rfl)) rfl rfl rfl ?_
              refine gop_on rfl rfl rfl rfl hg29 ?_
              refine gop (y_bare (y_eql rfl rfl)) rfl rfl rfl ?_
              refine gop (y_pick_f (v := .bool _) rfl hg29 rfl) rfl rfl rfl ?_
              refine gop (y_move (v := .bool _) rfl) rfl rfl rfl ?_
              refine gop_if (want := false) rfl rfl rfl rfl rfl rfl (fun hg33 => ?_) (fun hg33 => ?_)
              · -- guard 33 on
                have hg33d := of_decide_eq_false hg33
                refine gop (y_bare (y_move (v := .int _ _) rfl)) rfl rfl rfl ?_
                refine gop_on rfl rfl rfl rfl hg33 ?_
                refine gop (y_bare (y_eql rfl rfl)) rfl rfl rfl ?_
                refine gop (y_pick_f (v := .bool _) rfl hg33 rfl) rfl rfl rfl ?_
                refine gop (y_assign (v := .bool _) rfl) rfl rfl rfl ?_
                refine gops_nil ?_
                refine hN2 _ _ ?_
                refine gfrom [(2, .bool _)] ⟨rfl, trivial⟩ fun σ => ?_
                refine gret fun w1 hM => ?_
                refine ⟨_, res1 rfl (rt (v := .bool _) rfl), ?_⟩
                first | (exfalso; omega) | exact ⟨by rw [show letterB n = true from decide_eq_true (by omega)], hM.low⟩ | exact ⟨by rw [show letterB n = decide ((n : Int) = 45) from decide_eq_decide.2 (by omega)], hM.low⟩
              · -- guard 33 off
                have hg33d := of_decide_eq_true hg33
                refine gop_off rfl rfl rfl rfl hg33 rfl rfl ?_
                refine gop (y_pick_t (v := .bool _) rfl hg33 rfl) rfl rfl rfl ?_
                refine gop (y_assign (v := .bool _) rfl) rfl rfl rfl ?_
                refine gops_nil ?_
                refine hN2 _ _ ?_
                refine gfrom [(2, .bool _)] ⟨rfl, trivial⟩ fun σ => ?_
                refine gret fun w1 hM => ?_
                refine ⟨_, res1 rfl (rt (v := .bool _) rfl), ?_⟩
                first | (exfalso; omega) | exact ⟨by rw [show letterB n = true from decide_eq_true (by omega)], hM.low⟩ | exact ⟨by rw [show letterB n = decide ((n : Int) = 45) from decide_eq_decide.2 (by omega)], hM.low⟩
            · -- guard 29 off
              have hg29d := of_decide_eq_true hg29
              refine gop_off rfl rfl rfl rfl hg29 rfl rfl ?_
              refine gop (y_pick_t (v := .bool _) rfl hg29 rfl) rfl rfl rfl ?_
              refine gop (y_move (v := .bool _) rfl) rfl rfl rfl ?_
              refine gop_off rfl rfl rfl rfl rfl rfl rfl ?_
              refine gop_off rfl rfl rfl rfl rfl rfl rfl ?_
              refine gop (y_pick_t (v := .bool _) rfl rfl rfl) rfl rfl rfl ?_
              refine gop (y_assign (v := .bool _) rfl) rfl rfl rfl ?_
              refine gops_nil ?_
              refine hN2 _ _ ?_
              refine gfrom [(2, .bool _)] ⟨rfl, trivial⟩ fun σ => ?_
              refine gret fun w1 hM => ?_
              refine ⟨_, res1 rfl (rt (v := .bool _) rfl), ?_⟩
              first | (exfalso; omega) | exact ⟨by rw [show letterB n = true from decide_eq_true (by omega)], hM.low⟩ | exact ⟨by rw [show letterB n = decide ((n : Int) = 45) from decide_eq_decide.2 (by omega)], hM.low⟩
          · -- guard 25 off
            have hg25d := of_decide_eq_true hg25
            refine gop_off rfl rfl rfl rfl hg25 rfl rfl ?_
            refine gop (y_pick_t (v := .bool _) rfl hg25 rfl) rfl rfl rfl ?_
            refine gop (y_move (v := .bool _) rfl) rfl rfl rfl ?_
            refine gop_off rfl rfl rfl rfl rfl rfl rfl ?_
            refine gop_off rfl rfl rfl rfl rfl rfl rfl ?_
            refine gop (y_pick_t (v := .bool _) rfl rfl rfl) rfl rfl rfl ?_
            refine gop (y_move (v := .bool _) rfl) rfl rfl rfl ?_
            refine gop_off rfl rfl rfl rfl rfl rfl rfl ?_
            refine gop_off rfl rfl rfl rfl rfl rfl rfl ?_
            refine gop (y_pick_t (v := .bool _) rfl rfl rfl) rfl rfl rfl ?_
            refine gop (y_assign (v := .bool _) rfl) rfl rfl rfl ?_
            refine gops_nil ?_
            refine hN2 _ _ ?_
            refine gfrom [(2, .bool _)] ⟨rfl, trivial⟩ fun σ => ?_
            refine gret fun w1 hM => ?_
            refine ⟨_, res1 rfl (rt (v := .bool _) rfl), ?_⟩
            first | (exfalso; omega) | exact ⟨by rw [show letterB n = true from decide_eq_true (by omega)], hM.low⟩ | exact ⟨by rw [show letterB n = decide ((n : Int) = 45) from decide_eq_decide.2 (by omega)], hM.low⟩
        · -- guard 20 off
          have hg20d := of_decide_eq_false hg20
          refine gop_off rfl rfl rfl rfl hg20 rfl rfl ?_
          refine gop_on rfl rfl rfl rfl hg17 ?_
          refine gop (y_bare (y_pick_f (v := .bool _) rfl hg20 rfl)) rfl rfl rfl ?_
          refine gop (y_pick_f (v := .bool _) rfl hg17 rfl) rfl rfl rfl ?_
          refine gop (y_move (v := .bool _) rfl) rfl rfl rfl ?_
          refine gop_on rfl rfl rfl rfl rfl ?_
          refine gop (y_bare (y_move (v := .int _ _) rfl)) rfl rfl rfl ?_
          refine gop_on rfl rfl rfl rfl rfl ?_
          refine gop (y_bare (y_eql rfl rfl)) rfl rfl rfl ?_
          refine gop (y_pick_f (v := .bool _) rfl rfl rfl) rfl rfl rfl ?_
          refine gop (y_move (v := .bool _) rfl) rfl rfl rfl ?_
          refine gop_if (want := false) rfl rfl rfl rfl rfl rfl (fun hg29 => ?_) (fun hg29 => ?_)
          · -- guard 29 on
            have hg29d := of_decide_eq_false hg29
            refine gop (y_bare (y_move (v := .int _ _) rfl)) rfl rfl rfl ?_
            refine gop_on rfl rfl rfl rfl hg29 ?_
            refine gop (y_bare (y_eql rfl rfl)) rfl rfl rfl ?_
            refine gop (y_pick_f (v := .bool _) rfl hg29 rfl) rfl rfl rfl ?_
            refine gop (y_move (v := .bool _) rfl) rfl rfl rfl ?_
            refine gop_if (want := false) rfl rfl rfl rfl rfl rfl (fun hg33 => ?_) (fun hg33 => ?_)
            · -- guard 33 on
              have hg33d := of_decide_eq_false hg33
              refine gop (y_bare (y_move (v := .int _ _) rfl)) rfl rfl rfl ?_
              refine gop_on rfl rfl rfl rfl hg33 ?_
              refine gop (y_bare (y_eql rfl rfl)) rfl rfl rfl ?_
              refine gop (y_pick_f (v := .bool _) rfl hg33 rfl) rfl rfl rfl ?_
              refine gop (y_assign (v := .bool _) rfl) rfl rfl rfl ?_
              refine gops_nil ?_
              refine hN2 _ _ ?_
              refine gfrom [(2, .bool _)] ⟨rfl, trivial⟩ fun σ => ?_
              refine gret fun w1 hM => ?_
              refine ⟨_, res1 rfl (rt (v := .bool _) rfl), ?_⟩
              first | (exfalso; omega) | exact ⟨by rw [show letterB n = true from decide_eq_true (by omega)], hM.low⟩ | exact ⟨by rw [show letterB n = decide ((n : Int) = 45) from decide_eq_decide.2 (by omega)], hM.low⟩
            · -- guard 33 off
              have hg33d := of_decide_eq_true hg33
              refine gop_off rfl rfl rfl rfl hg33 rfl rfl ?_
              refine gop (y_pick_t (v := .bool _) rfl hg33 rfl) rfl rfl rfl ?_
              refine gop (y_assign (v := .bool _) rfl) rfl rfl rfl ?_
              refine gops_nil ?_
              refine hN2 _ _ ?_
              refine gfrom [(2, .bool _)] ⟨rfl, trivial⟩ fun σ => ?_
              refine gret fun w1 hM => ?_
              refine ⟨_, res1 rfl (rt (v := .bool _) rfl), ?_⟩
              first | (exfalso; omega) | exact ⟨by rw [show letterB n = true from decide_eq_true (by omega)], hM.low⟩ | exact ⟨by rw [show letterB n = decide ((n : Int) = 45) from decide_eq_decide.2 (by omega)], hM.low⟩
          · -- guard 29 off
            have hg29d := of_decide_eq_true hg29
            refine gop_off rfl rfl rfl rfl hg29 rfl rfl ?_
            refine gop (y_pick_t (v := .bool _) rfl hg29 rfl) rfl rfl rfl ?_
            refine gop (y_move (v := .bool _) rfl) rfl rfl rfl ?_
            refine gop_off rfl rfl rfl rfl rfl rfl rfl ?_
            refine gop_off rfl rfl rfl rfl rfl rfl rfl ?_
            refine gop (y_pick_t (v := .bool _) rfl rfl rfl) rfl rfl rfl ?_
            refine gop (y_assign (v := .bool _) rfl) rfl rfl rfl ?_
            refine gops_nil ?_
            refine hN2 _ _ ?_
            refine gfrom [(2, .bool _)] ⟨rfl, trivial⟩ fun σ => ?_
            refine gret fun w1 hM => ?_
            refine ⟨_, res1 rfl (rt (v := .bool _) rfl), ?_⟩
            first | (exfalso; omega) | exact ⟨by rw [show letterB n = true from decide_eq_true (by omega)], hM.low⟩ | exact ⟨by rw [show letterB n = decide ((n : Int) = 45) from decide_eq_decide.2 (by omega)], hM.low⟩
      · -- guard 17 off
        have hg17d := of_decide_eq_true hg17
        refine gop_off rfl rfl rfl rfl hg17 rfl rfl ?_
        refine gop_off rfl rfl rfl rfl hg17 rfl rfl ?_
        refine gop_offu rfl rfl rfl rfl rfl rfl ?_
        refine gop_offu rfl rfl rfl rfl rfl rfl ?_
        refine gop_off rfl rfl rfl rfl hg17 rfl rfl ?_
        refine gop (y_pick_t (v := .bool _) rfl hg17 rfl) rfl rfl rfl ?_
        refine gop (y_move (v := .bool _) rfl) rfl rfl rfl ?_
        refine gop_off rfl rfl rfl rfl rfl rfl rfl ?_
        refine gop_off rfl rfl rfl rfl rfl rfl rfl ?_
        refine gop (y_pick_t (v := .bool _) rfl rfl rfl) rfl rfl rfl ?_
        refine gop (y_move (v := .bool _) rfl) rfl rfl rfl ?_
        refine gop_off rfl rfl rfl rfl rfl rfl rfl ?_
        refine gop_off rfl rfl rfl rfl rfl rfl rfl ?_
        refine gop (y_pick_t (v := .bool _) rfl rfl rfl) rfl rfl rfl ?_
        refine gop (y_move (v := .bool _) rfl) rfl rfl rfl ?_
        refine gop_off rfl rfl rfl rfl rfl rfl rfl ?_
        refine gop_off rfl rfl rfl rfl rfl rfl rfl ?_
        refine gop (y_pick_t (v := .bool _) rfl rfl rfl) rfl rfl rfl ?_
        refine gop (y_assign (v := .bool _) rfl) rfl rfl rfl ?_
        refine gops_nil ?_
        refine hN2 _ _ ?_
        refine gfrom [(2, .bool _)] ⟨rfl, trivial⟩ fun σ => ?_
        refine gret fun w1 hM => ?_
        refine ⟨_, res1 rfl (rt (v := .bool _) rfl), ?_⟩
        first | (exfalso; omega) | exact ⟨by rw [show letterB n = true from decide_eq_true (by omega)], hM.low⟩ | exact ⟨by rw [show letterB n = decide ((n : Int) = 45) from decide_eq_decide.2 (by omega)], hM.low⟩
    · -- guard 12 off
      have hg12d := of_decide_eq_false hg12
      refine gop_off rfl rfl rfl rfl hg12 rfl rfl ?_
      refine gop_on rfl rfl rfl rfl rfl ?_
      refine gop (y_bare (y_pick_f (v := .bool _) rfl hg12 rfl)) rfl rfl rfl ?_
      refine gop (y_pick_f (v := .bool _) rfl rfl rfl) rfl rfl rfl ?_
      refine gop (y_move (v := .bool _) rfl) rfl rfl rfl ?_
      refine gop_on rfl rfl rfl rfl rfl ?_
      refine gop (y_bare (y_move (v := .int _ _) rfl)) rfl rfl rfl ?_
      refine gop_on rfl rfl rfl rfl rfl ?_
      refine gop (y_bare (y_geq rfl rfl)) rfl rfl rfl ?_
      refine gop_on rfl rfl rfl rfl rfl ?_
      refine gop (y_bare (y_move (v := .bool _) rfl)) rfl rfl rfl ?_
      refine gop_if (want := true) rfl rfl rfl rfl rfl rfl (fun hg20 => ?_) (fun hg20 => ?_)
      · -- guard 20 on
        have hg20d := of_decide_eq_true hg20
        refine gop (y_bare (y_move (v := .int _ _) rfl)) rfl rfl rfl ?_
        refine gop_on rfl rfl rfl rfl hg20 ?_
        refine gop (y_bare (y_leq rfl rfl)) rfl rfl rfl ?_
        refine gop_on rfl rfl rfl rfl rfl ?_
        refine gop (y_bare (y_pick_t (v := .bool _) rfl hg20 rfl)) rfl rfl rfl ?_
        refine gop (y_pick_f (v := .bool _) rfl rfl rfl) rfl rfl rfl ?_
        refine gop (y_move (v := .bool _) rfl) rfl rfl rfl ?_
        refine gop_if (want := false) rfl rfl rfl rfl rfl rfl (fun hg25 => ?_) (fun hg25 => ?_)
        · -- guard 25 on
          have hg25d := of_decide_eq_false hg25
          refine gop (y_bare (y_move (v := .int _ _) rfl)) rfl rfl rfl ?_
          refine gop_on rfl rfl rfl rfl hg25 ?_
          refine gop (y_bare (y_eql rfl rfl)) rfl rfl rfl ?_
          refine gop (y_pick_f (v := .bool _) rfl hg25 rfl) rfl rfl rfl ?_
          refine gop (y_move (v := .bool _) rfl) rfl rfl rfl ?_
          refine gop_if (want := false) rfl rfl rfl rfl rfl rfl (fun hg29 => ?_) (fun hg29 => ?_)
          · -- guard 29 on
            have hg29d := of_decide_eq_false hg29
            refine gop (y_bare (y_move (v := .int _ _) rfl)) rfl rfl rfl ?_
            refine gop_on rfl rfl rfl rfl hg29 ?_
            refine gop (y_bare (y_eql rfl rfl)) rfl rfl rfl ?_
            refine gop (y_pick_f (v := .bool _) rfl hg29 rfl) rfl rfl rfl ?_
            refine gop (y_move (v := .bool _) rfl) rfl rfl rfl ?_
            refine gop_if (want := false) rfl rfl rfl rfl rfl rfl (fun hg33 => ?_) (fun hg33 => ?_)
            · -- guard 33 on
              have hg33d := of_decide_eq_false hg33
              refine gop (y_bare (y_move (v := .int _ _) rfl)) rfl rfl rfl ?_
              refine gop_on rfl rfl rfl rfl hg33 ?_
              refine gop (y_bare (y_eql rfl rfl)) rfl rfl rfl ?_
              refine gop (y_pick_f (v := .bool _) rfl hg33 rfl) rfl rfl rfl ?_
              refine gop (y_assign (v := .bool _) rfl) rfl rfl rfl ?_
              refine gops_nil ?_
              refine hN2 _ _ ?_
              refine gfrom [(2, .bool _)] ⟨rfl, trivial⟩ fun σ => ?_
              refine gret fun w1 hM => ?_
              refine ⟨_, res1 rfl (rt (v := .bool _) rfl), ?_⟩
              first | (exfalso; omega) | exact ⟨by rw [show letterB n = true from decide_eq_true (by omega)], hM.low⟩ | exact ⟨by rw [show letterB n = decide ((n : Int) = 45) from decide_eq_decide.2 (by omega)], hM.low⟩
            · -- guard 33 off
              have hg33d := of_decide_eq_true hg33
              refine gop_off rfl rfl rfl rfl hg33 rfl rfl ?_
              refine gop (y_pick_t (v := .bool _) rfl hg33 rfl) rfl rfl rfl ?_
              refine gop (y_assign (v := .bool _) rfl) rfl rfl rfl ?_
              refine gops_nil ?_
              refine hN2 _ _ ?_
              refine gfrom [(2, .bool _)] ⟨rfl, trivial⟩ fun σ => ?_
              refine gret fun w1 hM => ?_
              refine ⟨_, res1 rfl (rt (v := .bool _) rfl), ?_⟩
              first | (exfalso; omega) | exact ⟨by rw [show letterB n = true from decide_eq_true (by omega)], hM.low⟩ | exact ⟨by rw [show letterB n = decide ((n : Int) = 45) from decide_eq_decide.2 (by omega)], hM.low⟩
          · -- guard 29 off
            have hg29d := of_decide_eq_true hg29
            refine gop_off rfl rfl rfl rfl hg29 rfl rfl ?_
            refine gop (y_pick_t (v := .bool _) rfl hg29 rfl) rfl rfl rfl ?_
            refine gop (y_move (v := .bool _) rfl) rfl rfl rfl ?_
            refine gop_off rfl rfl rfl rfl rfl rfl rfl ?_
            refine gop_off rfl rfl rfl rfl rfl rfl rfl ?_
            refine gop (y_pick_t (v := .bool _) rfl rfl rfl) rfl rfl rfl ?_
            refine gop (y_assign (v := .bool _) rfl) rfl rfl rfl ?_
            refine gops_nil ?_
            refine hN2 _ _ ?_
            refine gfrom [(2, .bool _)] ⟨rfl, trivial⟩ fun σ => ?_
            refine gret fun w1 hM => ?_
            refine ⟨_, res1 rfl (rt (v := .bool _) rfl), ?_⟩
            first | (exfalso; omega) | exact ⟨by rw [show letterB n = true from decide_eq_true (by omega)], hM.low⟩ | exact ⟨by rw [show letterB n = decide ((n : Int) = 45) from decide_eq_decide.2 (by omega)], hM.low⟩
        · -- guard 25 off
          have hg25d := of_decide_eq_true hg25
          refine gop_off rfl rfl rfl rfl hg25 rfl rfl ?_
          refine gop (y_pick_t (v := .bool _) rfl hg25 rfl) rfl rfl rfl ?_
          refine gop (y_move (v := .bool _) rfl) rfl rfl rfl ?_
          refine gop_off rfl rfl rfl rfl rfl rfl rfl ?_
          refine gop_off rfl rfl rfl rfl rfl rfl rfl ?_
          refine gop (y_pick_t (v := .bool _) rfl rfl rfl) rfl rfl rfl ?_
          refine gop (y_move (v := .bool _) rfl) rfl rfl rfl ?_
          refine gop_off rfl rfl rfl rfl rfl rfl rfl ?_
          refine gop_off rfl rfl rfl rfl rfl rfl rfl ?_
          refine gop (y_pick_t (v := .bool _) rfl rfl rfl) rfl rfl rfl ?_
          refine gop (y_assign (v := .bool _) rfl) rfl rfl rfl ?_
          refine gops_nil ?_
          refine hN2 _ _ ?_
          refine gfrom [(2, .bool _)] ⟨rfl, trivial⟩ fun σ => ?_
          refine gret fun w1 hM => ?_
          refine ⟨_, res1 rfl (rt (v := .bool _) rfl), ?_⟩
          first | (exfalso; omega) | exact ⟨by rw [show letterB n = true from decide_eq_true (by omega)], hM.low⟩ | exact ⟨by rw [show letterB n = decide ((n : Int) = 45) from decide_eq_decide.2 (by omega)], hM.low⟩
      · -- guard 20 off
        have hg20d := of_decide_eq_false hg20
        refine gop_off rfl rfl rfl rfl hg20 rfl rfl ?_
        refine gop_on rfl rfl rfl rfl rfl ?_
        refine gop (y_bare (y_pick_f (v := .bool _) rfl hg20 rfl)) rfl rfl rfl ?_
        refine gop (y_pick_f (v := .bool _) rfl rfl rfl) rfl rfl rfl ?_
        refine gop (y_move (v := .bool _) rfl) rfl rfl rfl ?_
        refine gop_on rfl rfl rfl rfl rfl ?_
        refine gop (y_bare (y_move (v := .int _ _) rfl)) rfl rfl rfl ?_
        refine gop_on rfl rfl rfl rfl rfl ?_
        refine gop (y_bare (y_eql rfl rfl)) rfl rfl rfl ?_
        refine gop (y_pick_f (v := .bool _) rfl rfl rfl) rfl rfl rfl ?_
        refine gop (y_move (v := .bool _) rfl) rfl rfl rfl ?_
        refine gop_if (want := false) rfl rfl rfl rfl rfl rfl (fun hg29 => ?_) (fun hg29 => ?_)
        · -- guard 29 on
          have hg29d := of_decide_eq_false hg29
          refine gop (y_bare (y_move (v := .int _ _) rfl)) rfl rfl rfl ?_
          refine gop_on rfl rfl rfl rfl hg29 ?_
          refine gop (y_bare (y_eql rfl rfl)) rfl rfl rfl ?_
          refine gop (y_pick_f (v := .bool _) rfl hg29 rfl) rfl rfl rfl ?_
          refine gop (y_move (v := .bool _) rfl) rfl rfl rfl ?_
          refine gop_if (want := false) rfl rfl rfl rfl rfl rfl (fun hg33 => ?_) (fun hg33 => ?_)
          · -- guard 33 on
            have hg33d := of_decide_eq_false hg33
            refine gop (y_bare (y_move (v := .int _ _) rfl)) rfl rfl rfl ?_
            refine gop_on rfl rfl rfl rfl hg33 ?_
            refine gop (y_bare (y_eql rfl rfl)) rfl rfl rfl ?_
            refine gop (y_pick_f (v := .bool _) rfl hg33 rfl) rfl rfl rfl ?_
            refine gop (y_assign (v := .bool _) rfl) rfl rfl rfl ?_
            refine gops_nil ?_
            refine hN2 _ _ ?_
            refine gfrom [(2, .bool _)] ⟨rfl, trivial⟩ fun σ => ?_
            refine gret fun w1 hM => ?_
            refine ⟨_, res1 rfl (rt (v := .bool _) rfl), ?_⟩
            first | (exfalso; omega) | exact ⟨by rw [show letterB n = true from decide_eq_true (by omega)], hM.low⟩ | exact ⟨by rw [show letterB n = decide ((n : Int) = 45) from decide_eq_decide.2 (by omega)], hM.low⟩
          · -- guard 33 off
            have hg33d := of_decide_eq_true hg33
            refine gop_off rfl rfl rfl rfl hg33 rfl rfl ?_
            refine gop (y_pick_t (v := .bool _) rfl hg33 rfl) rfl rfl rfl ?_
            refine gop (y_assign (v := .bool _) rfl) rfl rfl rfl ?_
            refine gops_nil ?_
            refine hN2 _ _ ?_
            refine gfrom [(2, .bool _)] ⟨rfl, trivial⟩ fun σ => ?_
            refine gret fun w1 hM => ?_
            refine ⟨_, res1 rfl (rt (v := .bool _) rfl), ?_⟩
            first | (exfalso; omega) | exact ⟨by rw [show letterB n = true from decide_eq_true (by omega)], hM.low⟩ | exact ⟨by rw [show letterB n = decide ((n : Int) = 45) from decide_eq_decide.2 (by omega)], hM.low⟩
        · -- guard 29 off
          have hg29d := of_decide_eq_true hg29
          refine gop_off rfl rfl rfl rfl hg29 rfl rfl ?_
          refine gop (y_pick_t (v := .bool _) rfl hg29 rfl) rfl rfl rfl ?_
          refine gop (y_move (v := .bool _) rfl) rfl rfl rfl ?_
          refine gop_off rfl rfl rfl rfl rfl rfl rfl ?_
          refine gop_off rfl rfl rfl rfl rfl rfl rfl ?_
          refine gop (y_pick_t (v := .bool _) rfl rfl rfl) rfl rfl rfl ?_
          refine gop (y_assign (v := .bool _) rfl) rfl rfl rfl ?_
          refine gops_nil ?_
          refine hN2 _ _ ?_
          refine gfrom [(2, .bool _)] ⟨rfl, trivial⟩ fun σ => ?_
          refine gret fun w1 hM => ?_
          refine ⟨_, res1 rfl (rt (v := .bool _) rfl), ?_⟩
          first | (exfalso; omega) | exact ⟨by rw [show letterB n = true from decide_eq_true (by omega)], hM.low⟩ | exact ⟨by rw [show letterB n = decide ((n : Int) = 45) from decide_eq_decide.2 (by omega)], hM.low⟩

set_option maxHeartbeats 2000000 in
theorem isByte_any (w : World) (n : Nat) : Calls Tryd.prog 59 #[.int .u8 (n : Int)] w fun e w' => e = .returned (.bool (letterB n)) ∧ Below w.heap.size w w' := by
  refine gcalls Tryd.func59 rfl Tryd.ntmps59 (Nat.le_of_ble_eq_true rfl) ?_
  refine gfrom [(0, .int _ _)] ⟨rfl, trivial⟩ fun σ => ?_
  refine gseq fun N1 hN1 => ?_
  refine greg ?_
  refine gop (y_assign (v := .bool _) rfl) rfl rfl rfl ?_
  refine gops_nil ?_
  refine hN1 _ _ ?_
  refine gfrom [(0, .int _ _)] ⟨rfl, trivial⟩ fun σ => ?_
  refine gseq fun N2 hN2 => ?_
  refine greg ?_
  refine gop (y_move (v := .int _ _) rfl) rfl rfl rfl ?_
  refine gop (y_geq rfl rfl) rfl rfl rfl ?_
  refine gop (y_move (v := .bool _) rfl) rfl rfl rfl ?_
  refine gop_if (want := true) rfl rfl rfl rfl rfl rfl (fun hg5 => ?_) (fun hg5 => ?_)
  · -- guard 5 on
    have hg5d := of_decide_eq_true hg5
    refine gop (y_bare (y_move (v := .int _ _) rfl)) rfl rfl rfl ?_
    refine gop_on rfl rfl rfl rfl hg5 ?_
    refine gop (y_bare (y_leq rfl rfl)) rfl rfl rfl ?_
    refine gop (y_pick_t (v := .bool _) rfl hg5 rfl) rfl rfl rfl ?_
    refine gop (y_move (v := .bool _) rfl) rfl rfl rfl ?_
    refine gop_if (want := false) rfl rfl rfl rfl rfl rfl (fun hg9 => ?_) (fun hg9 => ?_)
    · -- guard 9 on
      have hg9d := of_decide_eq_false hg9
      refine gop (y_bare (y_move (v := .int _ _) rfl)) rfl rfl rfl ?_
      refine gop_on rfl rfl rfl rfl hg9 ?_
      refine gop (y_bare (y_geq rfl rfl)) rfl rfl rfl ?_
      refine gop_on rfl rfl rfl rfl hg9 ?_
      refine gop (y_bare (y_move (v := .bool _) rfl)) rfl rfl rfl ?_
      refine gop_if (want := true) rfl rfl rfl rfl rfl rfl (fun hg12 => ?_) (fun hg12 => ?_)
      · -- guard 12 on
        have hg12d := of_decide_eq_true hg12
        refine gop (y_bare (y_move (v := .int _ _) rfl)) rfl rfl rfl ?_
        refine gop_on rfl rfl rfl rfl hg12 ?_
        refine gop (y_bare (y_leq rfl rfl)) rfl rfl rfl ?_
        refine gop_on rfl rfl rfl rfl hg9 ?_
        refine gop (y_bare (y_pick_t (v := .bool _) rfl hg12 rfl)) rfl rfl rfl ?_
        refine gop (y_pick_f (v := .bool _) rfl hg9 rfl) rfl rfl rfl ?_
        refine gop (y_move (v := .bool _) rfl) rfl rfl rfl ?_
        refine gop_if (want := false) rfl rfl rfl rfl rfl rfl (fun hg17 => ?_) (fun hg17 => ?_)
        · -- guard 17 on
          have hg17d := of_decide_eq_false hg17
          refine gop (y_bare (y_move (v := .int _ _) rfl)) rfl rfl rfl ?_
          refine gop_on rfl rfl rfl rfl hg17 ?_
          refine gop (y_bare (y_geq rfl rfl)) rfl rfl rfl ?_
          refine gop_on rfl rfl rfl rfl hg17 ?_
          refine gop (y_bare (y_move (v := .bool _) rfl)) rfl rfl rfl ?_
          refine gop_if (want := true) rfl rfl rfl rfl rfl rfl (fun hg20 => ?_) (fun hg20 => ?_)
          · -- guard 20 on
            have hg20d := of_decide_eq_true hg20
            refine gop (y_bare (y_move (v := .int _ _) rfl)) rfl rfl rfl ?_
            refine gop_on rfl rfl rfl rfl hg20 ?_
            refine gop (y_bare (y_leq rfl rfl)) rfl rfl rfl ?_
            refine gop_on rfl rfl rfl rfl hg17 ?_
            refine gop (y_bare (y_pick_t (v := .bool _) rfl hg20 rfl)) rfl rfl rfl ?_
            refine gop (y_pick_f (v := .bool _) rfl hg17 rfl) rfl rfl rfl ?_
            refine gop (y_move (v := .bool _) rfl) rfl rfl rfl ?_
            refine gop_if (want := false) rfl rfl rfl rfl rfl rfl (fun hg25 => ?_) (fun hg25 => ?_)
            · -- guard 25 on
              have hg25d := of_decide_eq_false hg25
              refine gop (y_bare (y_move (v := .int _ _) rfl)) rfl rfl rfl ?_
              refine gop_on rfl rfl rfl rfl hg25 ?_
              refine gop (y_bare (y_eql rfl rfl)) rfl rfl rfl ?_
              refine gop (y_pick_f (v := .bool _) rfl hg25 rfl) rfl rfl rfl ?_
              refine gop (y_move (v := .bool _) rfl) rfl rfl rfl ?_
              refine gop_if (want := false) rfl rfl rfl rfl rfl rfl (fun hg29 => ?_) (fun hg29 => ?_)
              · -- guard 29 on
                have hg29d := of_decide_eq_false hg29
                refine gop (y_bare (y_move (v := .int _ _) rfl)) rfl rfl rfl ?_
                refine gop_on rfl rfl rfl rfl hg29 ?_
                refine gop (y_bare (y_eql rfl rfl)) rfl rfl rfl ?_
                refine gop (y_pick_f (v := .bool _) rfl hg29 rfl) rfl rfl rfl ?_
                refine gop (y_move (v := .bool _) rfl) rfl rfl rfl ?_
                refine gop_if (want := false) rfl rfl rfl rfl rfl rfl (fun hg33 => ?_) (fun hg33 => ?_)
                · -- guard 33 on
                  have hg33d := of_decide_eq_false hg33
                  refine gop (y_bare (y_move (v := .int _ _) rfl)) rfl rfl rfl ?_
                  refine gop_on rfl rfl rfl rfl hg33 ?_
                  refine gop (y_bare (y_eql rfl rfl)) rfl rfl rfl ?_
                  refine gop (y_pick_f (v := .bool _) rfl hg33 rfl) rfl rfl rfl ?_
                  refine gop (y_assign (v := .bool _) rfl) rfl rfl rfl ?_
                  refine gops_nil ?_
                  refine hN2 _ _ ?_
                  refine gfrom [(2, .bool _)] ⟨rfl, trivial⟩ fun σ => ?_
                  refine gret fun w1 hM => ?_
                  refine ⟨_, res1 rfl (rt (v := .bool _) rfl), ?_⟩
                  first | (exfalso; omega) | exact ⟨by rw [show letterB n = true from decide_eq_true (by omega)], hM.low⟩ | exact ⟨by rw [show letterB n = decide ((n : Int) = 45) from decide_eq_decide.2 (by omega)], hM.low⟩
                · -- guard 33 off
                  have hg33d := of_decide_eq_true hg33
                  refine gop_off rfl rfl rfl rfl hg33 rfl rfl ?_
                  refine gop (y_pick_t (v := .bool _) rfl hg33 rfl) rfl rfl rfl ?_
                  refine gop (y_assign (v := .bool _) rfl) rfl rfl rfl ?_
                  refine gops_nil ?_
                  refine hN2 _ _ ?_
                  refine gfrom [(2, .bool _)] ⟨rfl, trivial⟩ fun σ => ?_
                  refine gret fun w1 hM => ?_
                  refine ⟨_, res1 rfl (rt (v := .bool _) rfl), ?_⟩
                  first | (exfalso; omega) | exact ⟨by rw [show letterB n = true from decide_eq_true (by omega)], hM.low⟩ | exact ⟨by rw [show letterB n = decide ((n : Int) = 45) from decide_eq_decide.2 (by omega)], hM.low⟩
              · -- guard 29 off
                have hg29d := of_decide_eq_true hg29
                refine gop_off rfl rfl rfl rfl hg29 rfl rfl ?_
                refine gop (y_pick_t (v := .bool _) rfl hg29 rfl) rfl rfl rfl ?_
                refine gop (y_move (v := .bool _) rfl) rfl rfl rfl ?_
                refine gop_off rfl rfl rfl rfl rfl rfl rfl ?_
                refine gop_off rfl rfl rfl rfl rfl rfl rfl ?_
                refine gop (y_pick_t (v := .bool _) rfl rfl rfl) rfl rfl rfl ?_
                refine gop (y_assign (v := .bool _) rfl) rfl rfl rfl ?_
                refine gops_nil ?_
                refine hN2 _ _ ?_
                refine gfrom [(2, .bool _)] ⟨rfl, trivial⟩ fun σ => ?_
                refine gret fun w1 hM => ?_
                refine ⟨_, res1 rfl (rt (v := .bool _) rfl), ?_⟩
                first | (exfalso; omega) | exact ⟨by rw [show letterB n = true from decide_eq_true (by omega)], hM.low⟩ | exact ⟨by rw [show letterB n = decide ((n : Int) = 45) from decide_eq_decide.2 (by omega)], hM.low⟩
            · -- guard 25 off
              have hg25d := of_decide_eq_true hg25
              refine gop_off rfl rfl rfl rfl hg25 rfl rfl ?_
              refine gop (y_pick_t (v := .bool _) rfl hg25 rfl) rfl rfl rfl ?_
              refine gop (y_move (v := .bool _) rfl) rfl rfl rfl ?_
              refine gop_off rfl rfl rfl rfl rfl rfl rfl ?_
              refine gop_off rfl rfl rfl rfl rfl rfl rfl ?_
              refine gop (y_pick_t (v := .bool _) rfl rfl rfl) rfl rfl rfl ?_
              refine gop (y_move (v := .bool _) rfl) rfl rfl rfl ?_
              refine gop_off rfl rfl rfl rfl rfl rfl rfl ?_
              refine gop_off rfl rfl rfl rfl rfl rfl rfl ?_
              refine gop (y_pick_t (v := .bool _) rfl rfl rfl) rfl rfl rfl ?_
              refine gop (y_assign (v := .bool _) rfl) rfl rfl rfl ?_
              refine gops_nil ?_
              refine hN2 _ _ ?_
              refine gfrom [(2, .bool _)] ⟨rfl, trivial⟩ fun σ => ?_
              refine gret fun w1 hM => ?_
              refine ⟨_, res1 rfl (rt (v := .bool _) rfl), ?_⟩
              first | (exfalso; omega) | exact ⟨by rw [show letterB n = true from decide_eq_true (by omega)], hM.low⟩ | exact ⟨by rw [show letterB n = decide ((n : Int) = 45) from decide_eq_decide.2 (by omega)], hM.low⟩
          · -- guard 20 off
            have hg20d := of_decide_eq_false hg20
            refine gop_off rfl rfl rfl rfl hg20 rfl rfl ?_
            refine gop_on rfl rfl rfl rfl hg17 ?_
            refine gop (y_bare (y_pick_f (v := .bool _) rfl hg20 rfl)) rfl rfl rfl ?_
            refine gop (y_pick_f (v := .bool _) rfl hg17 rfl) rfl rfl rfl ?_
            refine gop (y_move (v := .bool _) rfl) rfl rfl rfl ?_
            refine gop_on rfl rfl rfl rfl rfl ?_
            refine gop (y_bare (y_move (v := .int _ _) rfl)) rfl rfl rfl ?_
            refine gop_on rfl rfl rfl rfl rfl ?_
            refine gop (y_bare (y_eql rfl rfl)) rfl rfl rfl ?_
            refine gop (y_pick_f (v := .bool _) rfl rfl rfl) rfl rfl rfl ?_
            refine gop (y_move (v := .bool _) rfl) rfl rfl rfl ?_
            refine gop_if (want := false) rfl rfl rfl rfl rfl rfl (fun hg29 => ?_) (fun hg29 => ?_)
            · -- guard 29 on
              have hg29d := of_decide_eq_false hg29
              refine gop (y_bare (y_move (v := .int _ _) rfl)) rfl rfl rfl ?_
              refine gop_on rfl rfl rfl rfl hg29 ?_
              refine gop (y_bare (y_eql rfl rfl)) rfl rfl rfl ?_
              refine gop (y_pick_f (v := .bool _) rfl hg29 rfl) rfl rfl rfl ?_
              refine gop (y_move (v := .bool _) rfl) rfl rfl rfl ?_
              refine gop_if (want := false) rfl rfl rfl rfl rfl rfl (fun hg33 => ?_) (fun hg33 => ?_)
              · -- guard 33 on
                have hg33d := of_decide_eq_false hg33
                refine gop (y_bare (y_move (v := .int _ _) rfl)) rfl rfl rfl ?_
                refine gop_on rfl rfl rfl rfl hg33 ?_
                refine gop (y_bare (y_eql rfl rfl)) rfl rfl rfl ?_
                refine gop (y_pick_f (v := .bool _) rfl hg33 rfl) rfl rfl rfl ?_
                refine gop (y_assign (v := .bool _) rfl) rfl rfl rfl ?_
                refine gops_nil ?_
                refine hN2 _ _ ?_
                refine gfrom [(2, .bool _)] ⟨rfl, trivial⟩ fun σ => ?_
                refine gret fun w1 hM => ?_
                refine ⟨_, res1 rfl (rt (v := .bool _) rfl), ?_⟩
                first | (exfalso; omega) | exact ⟨by rw [show letterB n = true from decide_eq_true (by omega)], hM.low⟩ | exact ⟨by rw [show letterB n = decide ((n : Int) = 45) from decide_eq_decide.2 (by omega)], hM.low⟩
              · -- guard 33 off
                have hg33d := of_decide_eq_true hg33
                refine gop_off rfl rfl rfl rfl hg33 rfl rfl ?_
                refine gop (y_pick_t (v := .bool _) rfl hg33 rfl) rfl rfl rfl ?_
                refine gop (y_assign (v := .bool _) rfl) rfl rfl rfl ?_
                refine gops_nil ?_
                refine hN2 _ _ ?_
                refine gfrom [(2, .bool _)] ⟨rfl, trivial⟩ fun σ => ?_
                refine gret fun w1 hM => ?_
                refine ⟨_, res1 rfl (rt (v := .bool _) rfl), ?_⟩
                first | (exfalso; omega) | exact ⟨by rw [show letterB n = true from decide_eq_true (by omega)], hM.low⟩ | exact ⟨by rw [show letterB n = decide ((n : Int) = 45) from decide_eq_decide.2 (by omega)], hM.low⟩
            · -- guard 29 off
              have hg29d := of_decide_eq_true hg29
              refine gop_off rfl rfl rfl rfl hg29 rfl rfl ?_
              refine gop (y_pick_t (v := .bool _) rfl hg29 rfl) rfl rfl rfl ?_
              refine gop (y_move (v := .bool _) rfl) rfl rfl rfl ?_
              refine gop_off rfl rfl rfl rfl rfl rfl rfl ?_
              refine gop_off rfl rfl rfl rfl rfl rfl rfl ?_
              refine gop (y_pick_t (v := .bool _) rfl rfl rfl) rfl rfl rfl ?_
              refine gop (y_assign (v := .bool _) rfl) rfl rfl rfl ?_
              refine gops_nil ?_
              refine hN2 _ _ ?_
              refine gfrom [(2, .bool _)] ⟨rfl, trivial⟩ fun σ => ?_
              refine gret fun w1 hM => ?_
              refine ⟨_, res1 rfl (rt (v := .bool _) rfl), ?_⟩
              first | (exfalso; omega) | exact ⟨by rw [show letterB n = true from decide_eq_true (by omega)], hM.low⟩ | exact ⟨by rw [show letterB n = decide ((n : Int) = 45) from decide_eq_decide.2 (by omega)], hM.low⟩
        · -- guard 17 off
          have hg17d := of_decide_eq_true hg17
          refine gop_off rfl rfl rfl rfl hg17 rfl rfl ?_
          refine gop_off rfl rfl rfl rfl hg17 rfl rfl ?_
          refine gop_offu rfl rfl rfl rfl rfl rfl ?_
          refine gop_offu rfl rfl rfl rfl rfl rfl ?_
          refine gop_off rfl rfl rfl rfl hg17 rfl rfl ?_
          refine gop (y_pick_t (v := .bool _) rfl hg17 rfl) rfl rfl rfl ?_
          refine gop (y_move (v := .bool _) rfl) rfl rfl rfl ?_
          refine gop_off rfl rfl rfl rfl rfl rfl rfl ?_
          refine gop_off rfl rfl rfl rfl rfl rfl rfl ?_
          refine gop (y_pick_t (v := .bool _) rfl rfl rfl) rfl rfl rfl ?_
          refine gop (y_move (v := .bool _) rfl) rfl rfl rfl ?_
          refine gop_off rfl rfl rfl rfl rfl rfl rfl ?_
          refine gop_off rfl rfl rfl rfl rfl rfl rfl ?_
          refine gop (y_pick_t (v := .bool _) rfl rfl rfl) rfl rfl rfl ?_
          refine gop (y_move (v := .bool _) rfl) rfl rfl rfl ?_
          refine gop_off rfl rfl rfl rfl rfl rfl rfl ?_
          refine gop_off rfl rfl rfl rfl rfl rfl rfl ?_
          refine gop (y_pick_t (v := .bool _) rfl rfl rfl) rfl rfl rfl ?_
          refine gop (y_assign (v := .bool _) rfl) rfl rfl rfl ?_
          refine gops_nil ?_
          refine hN2 _ _ ?_
          refine gfrom [(2, .bool _)] ⟨rfl, trivial⟩ fun σ => ?_
          refine gret fun w1 hM => ?_
          refine ⟨_, res1 rfl (rt (v := .bool _) rfl), ?_⟩
          first | (exfalso; omega) | exact ⟨by rw [show letterB n = true from decide_eq_true (by omega)], hM.low⟩ | exact ⟨by rw [show letterB n = decide ((n : Int) = 45) from decide_eq_decide.2 (by omega)], hM.low⟩
      · -- guard 12 off
        have hg12d := of_decide_eq_false hg12
        refine gop_off rfl rfl rfl rfl hg12 rfl rfl ?_
        refine gop_on rfl rfl rfl rfl hg9 ?_
        refine gop (y_bare (y_pick_f (v := .bool _) rfl hg12 rfl)) rfl rfl rfl ?_
        refine gop (y_pick_f (v := .bool _) rfl hg9 rfl) rfl rfl rfl ?_
        refine gop (y_move (v := .bool _) rfl) rfl rfl rfl ?_
        refine gop_on rfl rfl rfl rfl rfl ?_
        refine gop (y_bare (y_move (v := .int _ _) rfl)) rfl rfl rfl ?_
        refine gop_on rfl rfl rfl rfl rfl ?_
        refine gop (y_bare (y_geq rfl rfl)) rfl rfl rfl ?_
        refine gop_on rfl rfl rfl rfl rfl ?_
        refine gop (y_bare (y_move (v := .bool _) rfl)) rfl rfl rfl ?_
        refine gop_if (want := true) rfl rfl rfl rfl rfl rfl (fun hg20 => ?_) (fun hg20 => ?_)
        · -- guard 20 on
          have hg20d := of_decide_eq_true hg20
          refine gop (y_bare (y_move (v := .int _ _) rfl)) rfl rfl rfl ?_
          refine gop_on rfl rfl rfl rfl hg20 ?_
          refine gop (y_bare (y_leq rfl rfl)) rfl rfl rfl ?_
          refine gop_on rfl rfl rfl rfl rfl ?_
          refine gop (y_bare (y_pick_t (v := .bool _) rfl hg20 rfl)) rfl rfl rfl ?_
          refine gop (y_pick_f (v := .bool _) rfl rfl rfl) rfl rfl rfl ?_
          refine gop (y_move (v := .bool _) rfl) rfl rfl rfl ?_
          refine gop_if (want := false) rfl rfl rfl rfl rfl rfl (fun hg25 => ?_) (fun hg25 => ?_)
          · -- guard 25 on
            have hg25d := of_decide_eq_false hg25
            refine gop (y_bare (y_move (v := .int _ _) rfl)) rfl rfl rfl ?_
            refine gop_on rfl rfl rfl rfl hg25 ?_
            refine gop (y_bare (y_eql rfl rfl)) rfl rfl rfl ?_
            refine gop (y_pick_f (v := .bool _) rfl hg25 rfl) rfl rfl rfl ?_
            refine gop (y_move (v := .bool _) rfl) rfl rfl rfl ?_
            refine gop_if (want := false) rfl rfl rfl rfl rfl rfl (fun hg29 => ?_) (fun hg29 => ?_)
            · -- guard 29 on
              have hg29d := of_decide_eq_false hg29
              refine gop (y_bare (y_move (v := .int _ _) rfl)) rfl rfl rfl ?_
              refine gop_on rfl rfl rfl rfl hg29 ?_
              refine gop (y_bare (y_eql rfl rfl)) rfl rfl rfl ?_
              refine gop (y_pick_f (v := .bool _) rfl hg29 rfl) rfl rfl rfl ?_
              refine gop (y_move (v := .bool _) rfl) rfl rfl rfl ?_
              refine gop_if (want := false) rfl rfl rfl rfl rfl rfl (fun hg33 => ?_) (fun hg33 => ?_)
              · -- guard 33 on
                have hg33d := of_decide_eq_false hg33
                refine gop (y_bare (y_move (v := .int _ _) rfl)) rfl rfl rfl ?_
                refine gop_on rfl rfl rfl rfl hg33 ?_
                refine gop (y_bare (y_eql rfl rfl)) rfl rfl rfl ?_
                refine gop (y_pick_f (v := .bool _) rfl hg33 rfl) rfl rfl rfl ?_
                refine gop (y_assign (v := .bool _) rfl) rfl rfl rfl ?_
                refine gops_nil ?_
                refine hN2 _ _ ?_
                refine gfrom [(2, .bool _)] ⟨rfl, trivial⟩ fun σ => ?_
                refine gret fun w1 hM => ?_
                refine ⟨_, res1 rfl (rt (v := .bool _) rfl), ?_⟩
                first | (exfalso; omega) | exact ⟨by rw [show letterB n = true from decide_eq_true (by omega)], hM.low⟩ | exact ⟨by rw [show letterB n = decide ((n : Int) = 45) from decide_eq_decide.2 (by omega)], hM.low⟩
              · -- guard 33 off
                have hg33d := of_decide_eq_true hg33
                refine gop_off rfl rfl rfl rfl hg33 rfl rfl ?_
                refine gop (y_pick_t (v := .bool _) rfl hg33 rfl) rfl rfl rfl ?_
                refine gop (y_assign (v := .bool _) rfl) rfl rfl rfl ?_
                refine gops_nil ?_
                refine hN2 _ _ ?_
                refine gfrom [(2, .bool _)] ⟨rfl, trivial⟩ fun σ => ?_
                refine gret fun w1 hM => ?_
                refine ⟨_, res1 rfl (rt (v := .bool _) rfl), ?_⟩
                first | (exfalso; omega) | exact ⟨by rw [show letterB n = true from decide_eq_true (by omega)], hM.low⟩ | exact ⟨by rw [show letterB n = decide ((n : Int) = 45) from decide_eq_decide.2 (by omega)], hM.low⟩
            · -- guard 29 off
              have hg29d := of_decide_eq_true hg29
              refine gop_off rfl rfl rfl rfl hg29 rfl rfl ?_
              refine gop (y_pick_t (v := .bool _) rfl hg29 rfl) rfl rfl rfl ?_
              refine gop (y_move (v := .bool _) rfl) rfl rfl rfl ?_
              refine gop_off rfl rfl rfl rfl rfl rfl rfl ?_
              refine gop_off rfl rfl rfl rfl rfl rfl rfl ?_
              refine gop (y_pick_t (v := .bool _) rfl rfl rfl) rfl rfl rfl ?_
              refine gop (y_assign (v := .bool _) rfl) rfl rfl rfl ?_
              refine gops_nil ?_
              refine hN2 _ _ ?_
              refine gfrom [(2, .bool _)] ⟨rfl, trivial⟩ fun σ => ?_
              refine gret fun w1 hM => ?_
              refine ⟨_, res1 rfl (rt (v := .bool _) rfl), ?_⟩
              first | (exfalso; omega) | exact ⟨by rw [show letterB n = true from decide_eq_true (by omega)], hM.low⟩ | exact ⟨by rw [show letterB n = decide ((n : Int) = 45) from decide_eq_decide.2 (by omega)], hM.low⟩
          · -- guard 25 off
            have hg25d := of_decide_eq_true hg25
            refine gop_off rfl rfl rfl rfl hg25 rfl rfl ?_
            refine gop (y_pick_t (v := .bool _) rfl hg25 rfl) rfl rfl rfl ?_
            refine gop (y_move (v := .bool _) rfl) rfl rfl rfl ?_
            refine gop_off rfl rfl rfl rfl rfl rfl rfl ?_
            refine gop_off rfl rfl rfl rfl rfl rfl rfl ?_
            refine gop (y_pick_t (v := .bool _) rfl rfl rfl) rfl rfl rfl ?_
            refine gop (y_move (v := .bool _) rfl) rfl rfl rfl ?_
            refine gop_off rfl rfl rfl rfl rfl rfl rfl ?_
            refine gop_off rfl rfl rfl rfl rfl rfl rfl ?_
            refine gop (y_pick_t (v := .bool _) rfl rfl rfl) rfl rfl rfl ?_
            refine gop (y_assign (v := .bool _) rfl) rfl rfl rfl ?_
            refine gops_nil ?_
            refine hN2 _ _ ?_
            refine gfrom [(2, .bool _)] ⟨rfl, trivial⟩ fun σ => ?_
            refine gret fun w1 hM => ?_
            refine ⟨_, res1 rfl (rt (v := .bool _) rfl), ?_⟩
            first | (exfalso; omega) | exact ⟨by rw [show letterB n = true from decide_eq_true (by omega)], hM.low⟩ | exact ⟨by rw [show letterB n = decide ((n : Int) = 45) from decide_eq_decide.2 (by omega)], hM.low⟩
        · -- guard 20 off
          have hg20d := of_decide_eq_false hg20
          refine gop_off rfl rfl rfl rfl hg20 rfl rfl ?_
          refine gop_on rfl rfl rfl rfl rfl ?_
          refine gop (y_bare (y_pick_f (v := .bool _) rfl hg20 rfl)) rfl rfl rfl ?_
          refine gop (y_pick_f (v := .bool _) rfl rfl rfl) rfl rfl rfl ?_
          refine gop (y_move (v := .bool _) rfl) rfl rfl rfl ?_
          refine gop_on rfl rfl rfl rfl rfl ?_
          refine gop (y_bare (y_move (v := .int _ _) rfl)) rfl rfl rfl ?_
          refine gop_on rfl rfl rfl rfl rfl ?_
          refine gop (y_bare (y_eql rfl rfl)) rfl rfl rfl ?_
          refine gop (y_pick_f (v := .bool _) rfl rfl rfl) rfl rfl rfl ?_
          refine gop (y_move (v := .bool _) rfl) rfl rfl rfl ?_
          refine gop_if (want := false) rfl rfl rfl rfl rfl rfl (fun hg29 => ?_) (fun hg29 => ?_)
          · -- guard 29 on
            have hg29d := of_decide_eq_false hg29
            refine gop (y_bare (y_move (v := .int _ _) rfl)) rfl rfl rfl ?_
            refine gop_on rfl rfl rfl rfl hg29 ?_
            refine gop (y_bare (y_eql rfl rfl)) rfl rfl rfl ?_
            refine gop (y_pick_f (v := .bool _) rfl hg29 rfl) rfl rfl rfl ?_
            refine gop (y_move (v := .bool _) rfl) rfl rfl rfl ?_
            refine gop_if (want := false) rfl rfl rfl rfl rfl rfl (fun hg33 => ?_) (fun hg33 => ?_)
            · -- guard 33 on
              have hg33d := of_decide_eq_false hg33
              refine gop (y_bare (y_move (v := .int _ _) rfl)) rfl rfl rfl ?_
              refine gop_on rfl rfl rfl rfl hg33 ?_
              refine gop (y_bare (y_eql rfl rfl)) rfl rfl rfl ?_
              refine gop (y_pick_f (v := .bool _) rfl hg33 rfl) rfl rfl rfl ?_
              refine gop (y_assign (v := .bool _) rfl) rfl rfl rfl ?_
              refine gops_nil ?_
              refine hN2 _ _ ?_
              refine gfrom [(2, .bool _)] ⟨rfl, trivial⟩ fun σ => ?_
              refine gret fun w1 hM => ?_
              refine ⟨_, res1 rfl (rt (v := .bool _) rfl), ?_⟩
              first | (exfalso; omega) | exact ⟨by rw [show letterB n = true from decide_eq_true (by omega)], hM.low⟩ | exact ⟨by rw [show letterB n = decide ((n : Int) = 45) from decide_eq_decide.2 (by omega)], hM.low⟩
            · -- guard 33 off
              have hg33d := of_decide_eq_true hg33
              refine gop_off rfl rfl rfl rfl hg33 rfl rfl ?_
              refine gop (y_pick_t (v := .bool _) rfl hg33 rfl) rfl rfl rfl ?_
              refine gop (y_assign (v := .bool _) rfl) rfl rfl rfl ?_
              refine gops_nil ?_
              refine hN2 _ _ ?_
              refine gfrom [(2, .bool _)] ⟨rfl, trivial⟩ fun σ => ?_
              refine gret fun w1 hM => ?_
              refine ⟨_, res1 rfl (rt (v := .bool _) rfl), ?_⟩
              first | (exfalso; omega) | exact ⟨by rw [show letterB n = true from decide_eq_true (by omega)], hM.low⟩ | exact ⟨by rw [show letterB n = decide ((n : Int) = 45) from decide_eq_decide.2 (by omega)], hM.low⟩
          · -- guard 29 off
            have hg29d := of_decide_eq_true hg29
            refine gop_off rfl rfl rfl rfl hg29 rfl rfl ?_
            refine gop (y_pick_t (v := .bool _) rfl hg29 rfl) rfl rfl rfl ?_
            refine gop (y_move (v := .bool _) rfl) rfl rfl rfl ?_
            refine gop_off rfl rfl rfl rfl rfl rfl rfl ?_
            refine gop_off rfl rfl rfl rfl rfl rfl rfl ?_
            refine gop (y_pick_t (v := .bool _) rfl rfl rfl) rfl rfl rfl ?_
            refine gop (y_assign (v := .bool _) rfl) rfl rfl rfl ?_
            refine gops_nil ?_
            refine hN2 _ _ ?_
            refine gfrom [(2, .bool _)] ⟨rfl, trivial⟩ fun σ => ?_
            refine gret fun w1 hM => ?_
            refine ⟨_, res1 rfl (rt (v := .bool _) rfl), ?_⟩
            first | (exfalso; omega) | exact ⟨by rw [show letterB n = true from decide_eq_true (by omega)], hM.low⟩ | exact ⟨by rw [show letterB n = decide ((n : Int) = 45) from decide_eq_decide.2 (by omega)], hM.low⟩
    · -- guard 9 off
      have hg9d := of_decide_eq_true hg9
      refine gop_off rfl rfl rfl rfl hg9 rfl rfl ?_
      refine gop_off rfl rfl rfl rfl hg9 rfl rfl ?_
      refine gop_offu rfl rfl rfl rfl rfl rfl ?_
      refine gop_offu rfl rfl rfl rfl rfl rfl ?_
      refine gop_off rfl rfl rfl rfl hg9 rfl rfl ?_
      refine gop (y_pick_t (v := .bool _) rfl hg9 rfl) rfl rfl rfl ?_
      refine gop (y_move (v := .bool _) rfl) rfl rfl rfl ?_
      refine gop_off rfl rfl rfl rfl rfl rfl rfl ?_
      refine gop_off rfl rfl rfl rfl rfl rfl rfl ?_
      refine gop_off rfl rfl rfl rfl rfl rfl rfl ?_
      refine gop_offu rfl rfl rfl rfl rfl rfl ?_
      refine gop_offu rfl rfl rfl rfl rfl rfl ?_
      refine gop_off rfl rfl rfl rfl rfl rfl rfl ?_
      refine gop (y_pick_t (v := .bool _) rfl rfl rfl) rfl rfl rfl ?_
      refine gop (y_move (v := .bool _) rfl) rfl rfl rfl ?_
      refine gop_off rfl rfl rfl rfl rfl rfl rfl ?_
      refine gop_off rfl rfl rfl rfl rfl rfl rfl ?_
      refine gop (y_pick_t (v := .bool _) rfl rfl rfl) rfl rfl rfl ?_
      refine gop (y_move (v := .bool _) rfl) rfl rfl rfl ?_
      refine gop_off rfl rfl rfl rfl rfl rfl rfl ?_
      refine gop_off rfl rfl rfl rfl rfl rfl rfl ?_
      refine gop (y_pick_t (v := .bool _) rfl rfl rfl) rfl rfl rfl ?_
      refine gop (y_move (v := .bool _) rfl) rfl rfl rfl ?_
      refine gop_off rfl rfl rfl rfl rfl rfl rfl ?_
      refine gop_off rfl rfl rfl rfl rfl rfl rfl ?_
      refine gop (y_pick_t (v := .bool _) rfl rfl rfl) rfl rfl rfl ?_
      refine gop (y_assign (v := .bool _) rfl) rfl rfl rfl ?_
      refine gops_nil ?_
      refine hN2 _ _ ?_
      refine gfrom [(2, .bool _)] ⟨rfl, trivial⟩ fun σ => ?_
      refine gret fun w1 hM => ?_
      refine ⟨_, res1 rfl (rt (v := .bool _) rfl), ?_⟩
      first | (exfalso; omega) | exact ⟨by rw [show letterB n = true from decide_eq_true (by omega)], hM.low⟩ | exact ⟨by rw [show letterB n = decide ((n : Int) = 45) from decide_eq_decide.2 (by omega)], hM.low⟩
  · -- guard 5 off
    have hg5d := of_decide_eq_false hg5
    refine gop_off rfl rfl rfl rfl hg5 rfl rfl ?_
    refine gop (y_pick_f (v := .bool _) rfl hg5 rfl) rfl rfl rfl ?_
    refine gop (y_move (v := .bool _) rfl) rfl rfl rfl ?_
    refine gop_on rfl rfl rfl rfl rfl ?_
    refine gop (y_bare (y_move (v := .int _ _) rfl)) rfl rfl rfl ?_
    refine gop_on rfl rfl rfl rfl rfl ?_
    refine gop (y_bare (y_geq rfl rfl)) rfl rfl rfl ?_
    refine gop_on rfl rfl rfl rfl rfl ?_
    refine gop (y_bare (y_move (v := .bool _) rfl)) rfl rfl rfl ?_
    refine gop_if (want := true) rfl rfl rfl rfl rfl rfl (fun hg12 => ?_) (fun hg12 => ?_)
    · -- guard 12 on
      have hg12d := of_decide_eq_true hg12
      refine gop (y_bare (y_move (v := .int _ _) rfl)) rfl rfl rfl ?_
      refine gop_on rfl rfl rfl rfl hg12 ?_
      refine gop (y_bare (y_leq rfl rfl)) rfl rfl rfl ?_
      refine gop_on rfl rfl rfl rfl rfl ?_
      refine gop (y_bare (y_pick_t (v := .bool _) rfl hg12 rfl)) rfl rfl rfl ?_
      refine gop (y_pick_f (v := .bool _) rfl rfl rfl) rfl rfl rfl ?_
      refine gop (y_move (v := .bool _) rfl) rfl rfl rfl ?_
      refine gop_if (want := false) rfl rfl rfl rfl rfl rfl (fun hg17 => ?_) (fun hg17 => ?_)
      · -- guard 17 on
        have hg17d := of_decide_eq_false hg17
        refine gop (y_bare (y_move (v := .int _ _) rfl)) rfl rfl rfl ?_
        refine gop_on rfl rfl rfl rfl hg17 ?_
        refine gop (y_bare (y_geq rfl rfl)) rfl rfl rfl ?_
        refine gop_on rfl rfl rfl rfl hg17 ?_
        refine gop (y_bare (y_move (v := .bool _) rfl)) rfl rfl rfl ?_
        refine gop_if (want := true) rfl rfl rfl rfl rfl rfl (fun hg20 => ?_) (fun hg20 => ?_)
        · -- guard 20 on
          have hg20d := of_decide_eq_true hg20
          refine gop (y_bare (y_move (v := .int _ _) rfl)) rfl rfl rfl ?_
          refine gop_on rfl rfl rfl rfl hg20 ?_
          refine gop (y_bare (y_leq rfl rfl)) rfl rfl rfl ?_
          refine gop_on rfl rfl rfl rfl hg17 ?_
          refine gop (y_bare (y_pick_t (v := .bool _) rfl hg20 rfl)) rfl rfl rfl ?_
          refine gop (y_pick_f (v := .bool _) rfl hg17 rfl) rfl rfl rfl ?_
          refine gop (y_move (v := .bool _) rfl) rfl rfl rfl ?_
          refine gop_if (want := false) rfl rfl rfl rfl rfl rfl (fun hg25 => ?_) (fun hg25 => ?_)
          · -- guard 25 on
            have hg25d := of_decide_eq_false hg25
            refine gop (y_bare (y_move (v := .int _ _) rfl)) rfl rfl rfl ?_
            refine gop_on rfl rfl rfl rfl hg25 ?_
            refine gop (y_bare (y_eql rfl rfl)) rfl rfl rfl ?_
            refine gop (y_pick_f (v := .bool _) rfl hg25 rfl) rfl rfl rfl ?_
            refine gop (y_move (v := .bool _) rfl) rfl rfl rfl ?_
            refine gop_if (want := false) rfl rfl rfl rfl rfl rfl (fun hg29 => ?_) (fun hg29 => ?_)
            · -- guard 29 on
              have hg29d := of_decide_eq_false hg29
              refine gop (y_bare (y_move (v := .int _ _) rfl)) rfl rfl rfl ?_
              refine gop_on rfl rfl rfl rfl hg29 ?_
              refine gop (y_bare (y_eql rfl rfl)) rfl rfl rfl ?_
              refine gop (y_pick_f (v := .bool _) rfl hg29 rfl) rfl rfl rfl ?_
              refine gop (y_move (v := .bool _) rfl) rfl rfl rfl ?_
              refine gop_if (want := false) rfl rfl rfl rfl rfl rfl (fun hg33 => ?_) (fun hg33 => ?_)
              · -- guard 33 on
                have hg33d := of_decide_eq_false hg33
                refine gop (y_bare (y_move (v := .int _ _) rfl)) rfl rfl rfl ?_
                refine gop_on rfl rfl rfl rfl hg33 ?_
                refine gop (y_bare (y_eql rfl rfl)) rfl rfl rfl ?_
                refine gop (y_pick_f (v := .bool _) rfl hg33 rfl) rfl rfl rfl ?_
                refine gop (y_assign (v := .bool _) rfl) rfl rfl rfl ?_
                refine gops_nil ?_
                refine hN2 _ _ ?_
                refine gfrom [(2, .bool _)] ⟨rfl, trivial⟩ fun σ => ?_
                refine gret fun w1 hM => ?_
                refine ⟨_, res1 rfl (rt (v := .bool _) rfl), ?_⟩
                first | (exfalso; omega) | exact ⟨by rw [show letterB n = true from decide_eq_true (by omega)], hM.low⟩ | exact ⟨by rw [show letterB n = decide ((n : Int) = 45) from decide_eq_decide.2 (by omega)], hM.low⟩
              · -- guard 33 off
                have hg33d := of_decide_eq_true hg33
                refine gop_off rfl rfl rfl rfl hg33 rfl rfl ?_
                refine gop (y_pick_t (v := .bool _) rfl hg33 rfl) rfl rfl rfl ?_
                refine gop (y_assign (v := .bool _) rfl) rfl rfl rfl ?_
                refine gops_nil ?_
                refine hN2 _ _ ?_
                refine gfrom [(2, .bool _)] ⟨rfl, trivial⟩ fun σ => ?_
                refine gret fun w1 hM => ?_
                refine ⟨_, res1 rfl (rt (v := .bool _) rfl), ?_⟩
                first | (exfalso; omega) | exact ⟨by rw [show letterB n = true from decide_eq_true (by omega)], hM.low⟩ | exact ⟨by rw [show letterB n = decide ((n : Int) = 45) from decide_eq_decide.2 (by omega)], hM.low⟩
            · -- guard 29 off
              have hg29d := of_decide_eq_true hg29
              refine gop_off rfl rfl rfl rfl hg29 rfl rfl ?_
              refine gop (y_pick_t (v := .bool _) rfl hg29 rfl) rfl rfl rfl ?_
              refine gop (y_move (v := .bool _) rfl) rfl rfl rfl ?_
              refine gop_off rfl rfl rfl rfl rfl rfl rfl ?_
              refine gop_off rfl rfl rfl rfl rfl rfl rfl ?_
              refine gop (y_pick_t (v := .bool _) rfl rfl rfl) rfl rfl rfl ?_
              refine gop (y_assign (v := .bool _) rfl) rfl rfl rfl ?_
              refine gops_nil ?_
              refine hN2 _ _ ?_
              refine gfrom [(2, .bool _)] ⟨rfl, trivial⟩ fun σ => ?_
              refine gret fun w1 hM => ?_
              refine ⟨_, res1 rfl (rt (v := .bool _) rfl), ?_⟩
              first | (exfalso; omega) | exact ⟨by rw [show letterB n = true from decide_eq_true (by omega)], hM.low⟩ | exact ⟨by rw [show letterB n = decide ((n : Int) = 45) from decide_eq_decide.2 (by omega)], hM.low⟩
          · -- guard 25 off
            have hg25d := of_decide_eq_true hg25
            refine gop_off rfl rfl rfl rfl hg25 rfl rfl ?_
            refine gop (y_pick_t (v := .bool _) rfl hg25 rfl) rfl rfl rfl ?_
            refine gop (y_move (v := .bool _) rfl) rfl rfl rfl ?_
            refine gop_off rfl rfl rfl rfl rfl rfl rfl ?_
            refine gop_off rfl rfl rfl rfl rfl rfl rfl ?_
            refine gop (y_pick_t (v := .bool _) rfl rfl rfl) rfl rfl rfl ?_
            refine gop (y_move (v := .bool _) rfl) rfl rfl rfl ?_
            refine gop_off rfl rfl rfl rfl rfl rfl rfl ?_
            refine gop_off rfl rfl rfl rfl rfl rfl rfl ?_
            refine gop (y_pick_t (v := .bool _) rfl rfl rfl) rfl rfl rfl ?_
            refine gop (y_assign (v := .bool _) rfl) rfl rfl rfl ?_
            refine gops_nil ?_
            refine hN2 _ _ ?_
            refine gfrom [(2, .bool _)] ⟨rfl, trivial⟩ fun σ => ?_
            refine gret fun w1 hM => ?_
            refine ⟨_, res1 rfl (rt (v := .bool _) rfl), ?_⟩
            first | (exfalso; omega) | exact ⟨by rw [show letterB n = true from decide_eq_true (by omega)], hM.low⟩ | exact ⟨by rw [show letterB n = decide ((n : Int) = 45) from decide_eq_decide.2 (by omega)], hM.low⟩
        · -- guard 20 off
          have hg20d := of_decide_eq_false hg20
          refine gop_off rfl rfl rfl rfl hg20 rfl rfl ?_
          refine gop_on rfl rfl rfl rfl hg17 ?_
          refine gop (y_bare (y_pick_f (v := .bool _) rfl hg20 rfl)) rfl rfl rfl ?_
          refine gop (y_pick_f (v := .bool _) rfl hg17 rfl) rfl rfl rfl ?_
          refine gop (y_move (v := .bool _) rfl) rfl rfl rfl ?_
          refine gop_on rfl rfl rfl rfl rfl ?_
          refine gop (y_bare (y_move (v := .int _ _) rfl)) rfl rfl rfl ?_
          refine gop_on rfl rfl rfl rfl rfl ?_
          refine gop (y_bare (y_eql rfl rfl)) rfl rfl rfl ?_
          refine gop (y_pick_f (v := .bool _) rfl rfl rfl) rfl rfl rfl ?_
          refine gop (y_move (v := .bool _) rfl) rfl rfl rfl ?_
          refine gop_if (want := false) rfl rfl rfl rfl rfl rfl (fun hg29 => ?_) (fun hg29 => ?_)
          · -- guard 29 on
            have hg29d := of_decide_eq_false hg29
            refine gop (y_bare (y_move (v := .int _ _) rfl)) rfl rfl rfl ?_
            refine gop_on rfl rfl rfl rfl hg29 ?_
            refine gop (y_bare (y_eql rfl rfl)) rfl rfl rfl ?_
            refine gop (y_pick_f (v := .bool _) rfl hg29 rfl) rfl rfl rfl ?_
            refine gop (y_move (v := .bool _) rfl) rfl rfl rfl ?_
            refine gop_if (want := false) rfl rfl rfl rfl rfl rfl (fun hg33 => ?_) (fun hg33 => ?_)
            · -- guard 33 on
              have hg33d := of_decide_eq_false hg33
              refine gop (y_bare (y_move (v := .int _ _) rfl)) rfl rfl rfl ?_
              refine gop_on rfl rfl rfl rfl hg33 ?_
              refine gop (y_bare (y_eql rfl rfl)) rfl rfl rfl ?_
              refine gop (y_pick_f (v := .bool _) rfl hg33 rfl) rfl rfl rfl ?_
              refine gop (y_assign (v := .bool _) rfl) rfl rfl rfl ?_
              refine gops_nil ?_
              refine hN2 _ _ ?_
              refine gfrom [(2, .bool _)] ⟨rfl, trivial⟩ fun σ => ?_
              refine gret fun w1 hM => ?_
              refine ⟨_, res1 rfl (rt (v := .bool _) rfl), ?_⟩
              first | (exfalso; omega) | exact ⟨by rw [show letterB n = true from decide_eq_true (by omega)], hM.low⟩ | exact ⟨by rw [show letterB n = decide ((n : Int) = 45) from decide_eq_decide.2 (by omega)], hM.low⟩
            · -- guard 33 off
              have hg33d := of_decide_eq_true hg33
              refine gop_off rfl rfl rfl rfl hg33 rfl rfl ?_
              refine gop (y_pick_t (v := .bool _) rfl hg33 rfl) rfl rfl rfl ?_
              refine gop (y_assign (v := .bool _) rfl) rfl rfl rfl ?_
              refine gops_nil ?_
              refine hN2 _ _ ?_
              refine gfrom [(2, .bool _)] ⟨rfl, trivial⟩ fun σ => ?_
              refine gret fun w1 hM => ?_
              refine ⟨_, res1 rfl (rt (v := .bool _) rfl), ?_⟩
              first | (exfalso; omega) | exact ⟨by rw [show letterB n = true from decide_eq_true (by omega)], hM.low⟩ | exact ⟨by rw [show letterB n = decide ((n : Int) = 45) from decide_eq_decide.2 (by omega)], hM.low⟩
          · -- guard 29 off
            have hg29d := of_decide_eq_true hg29
            refine gop_off rfl rfl rfl rfl hg29 rfl rfl ?_
            refine gop (y_pick_t (v := .bool _) rfl hg29 rfl) rfl rfl rfl ?_
            refine gop (y_move (v := .bool _) rfl) rfl rfl rfl ?_
            refine gop_off rfl rfl rfl rfl rfl rfl rfl ?_
            refine gop_off rfl rfl rfl rfl rfl rfl rfl ?_
            refine gop (y_pick_t (v := .bool _) rfl rfl rfl) rfl rfl rfl ?_
            refine gop (y_assign (v := .bool _) rfl) rfl rfl rfl ?_
            refine gops_nil ?_
            refine hN2 _ _ ?_
            refine gfrom [(2, .bool _)] ⟨rfl, trivial⟩ fun σ => ?_
            refine gret fun w1 hM => ?_
            refine ⟨_, res1 rfl (rt (v := .bool _) rfl), ?_⟩
            first | (exfalso; omega) | exact ⟨by rw [show letterB n = true from decide_eq_true (by omega)], hM.low⟩ | exact ⟨by rw [show letterB n = decide ((n : Int) = 45) from decide_eq_decide.2 (by omega)], hM.low⟩
      · -- guard 17 off
        have hg17d := of_decide_eq_true hg17
        refine gop_off rfl rfl rfl rfl hg17 rfl rfl ?_
        refine gop_off rfl rfl rfl rfl hg17 rfl rfl ?_
        refine gop_offu rfl rfl rfl rfl rfl rfl ?_
        refine gop_offu rfl rfl rfl rfl rfl rfl ?_
        refine gop_off rfl rfl rfl rfl hg17 rfl rfl ?_
        refine gop (y_pick_t (v := .bool _) rfl hg17 rfl) rfl rfl rfl ?_
        refine gop (y_move (v := .bool _) rfl) rfl rfl rfl ?_
        refine gop_off rfl rfl rfl rfl rfl rfl rfl ?_
        refine gop_off rfl rfl rfl rfl rfl rfl rfl ?_
        refine gop (y_pick_t (v := .bool _) rfl rfl rfl) rfl rfl rfl ?_
        refine gop (y_move (v := .bool _) rfl) rfl rfl rfl ?_
        refine gop_off rfl rfl rfl rfl rfl rfl rfl ?_
        refine gop_off rfl rfl rfl rfl rfl rfl rfl ?_
        refine gop (y_pick_t (v := .bool _) rfl rfl rfl) rfl rfl rfl ?_
        refine gop (y_move (v := .bool _) rfl) rfl rfl rfl ?_
        refine gop_off rfl rfl rfl rfl rfl rfl rfl ?_
        refine gop_off rfl rfl rfl rfl rfl rfl rfl ?_
        refine gop (y_pick_t (v := .bool _) rfl rfl rfl) rfl rfl rfl ?_
        refine gop (y_assign (v := .bool _) rfl) rfl rfl rfl ?_
        refine gops_nil ?_
        refine hN2 _ _ ?_
        refine gfrom [(2, .bool _)] ⟨rfl, trivial⟩ fun σ => ?_
        refine gret fun w1 hM => ?_
        refine ⟨_, res1 rfl (rt (v := .bool _) rfl), ?_⟩
        first | (exfalso; omega) | exact ⟨by rw [show letterB n = true from decide_eq_true (by omega)], hM.low⟩ | exact ⟨by rw [show letterB n = decide ((n : Int) = 45) from decide_eq_decide.2 (by omega)], hM.low⟩
    · -- guard 12 off
      have hg12d := of_decide_eq_false hg12
      refine gop_off rfl rfl rfl rfl hg12 rfl rfl ?_
      refine gop_on rfl rfl rfl rfl rfl ?_
      refine gop (y_bare (y_pick_f (v := .bool _) rfl hg12 rfl)) rfl rfl rfl ?_
      refine gop (y_pick_f (v := .bool _) rfl rfl rfl) rfl rfl rfl ?_
      refine gop (y_move (v := .bool _) rfl) rfl rfl rfl ?_
      refine gop_on rfl rfl rfl rfl rfl ?_
      refine gop (y_bare (y_move (v := .int _ _) rfl)) rfl rfl rfl ?_
      refine gop_on rfl rfl rfl rfl rfl ?_
      refine gop (y_bare (y_geq rfl rfl)) rfl rfl rfl ?_
      refine gop_on rfl rfl rfl rfl rfl ?_
      refine gop (y_bare (y_move (v := .bool _) rfl)) rfl rfl rfl ?_
      refine gop_if (want := true) rfl rfl rfl rfl rfl rfl (fun hg20 => ?_) (fun hg20 => ?_)
      · -- guard 20 on
        have hg20d := of_decide_eq_true hg20
        refine gop (y_bare (y_move (v := .int _ _) rfl)) rfl rfl rfl ?_
        refine gop_on rfl rfl rfl rfl hg20 ?_
        refine gop (y_bare (y_leq rfl rfl)) rfl rfl rfl ?_
        refine gop_on rfl rfl rfl rfl rfl ?_
        refine gop (y_bare (y_pick_t (v := .bool _) rfl hg20 rfl)) rfl rfl rfl ?_
        refine gop (y_pick_f (v := .bool _) rfl rfl rfl) rfl rfl rfl ?_
        refine gop (y_move (v := .bool _) rfl) rfl rfl rfl ?_
        refine gop_if (want := false) rfl rfl rfl rfl rfl rfl (fun hg25 => ?_) (fun hg25 => ?_)
        · -- guard 25 on
          have hg25d := of_decide_eq_false hg25
          refine gop (y_bare (y_move (v := .int _ _) rfl)) rfl rfl rfl ?_
          refine gop_on rfl rfl rfl rfl hg25 ?_
          refine gop (y_bare (y_eql rfl rfl)) rfl rfl rfl ?_
          refine gop (y_pick_f (v := .bool _) rfl hg25 rfl) rfl rfl rfl ?_
          refine gop (y_move (v := .bool _) rfl) rfl rfl rfl ?_
          refine gop_if (want := false) rfl rfl rfl rfl rfl rfl (fun hg29 => ?_) (fun hg29 => ?_)
          · -- guard 29 on
            have hg29d := of_decide_eq_false hg29
            refine gop (y_bare (y_move (v := .int _ _) rfl)) rfl rfl rfl ?_
            refine gop_on rfl rfl rfl rfl hg29 ?_
            refine gop (y_bare (y_eql rfl rfl)) rfl rfl rfl ?_
            refine gop (y_pick_f (v := .bool _) rfl hg29 rfl) rfl rfl rfl ?_
            refine gop (y_move (v := .bool _) rfl) rfl rfl rfl ?_
            refine gop_if (want := false) rfl rfl rfl rfl rfl rfl (fun hg33 => ?_) (fun hg33 => ?_)
            · -- guard 33 on
              have hg33d := of_decide_eq_false hg33
              refine gop (y_bare (y_move (v := .int _ _) rfl)) rfl rfl rfl ?_
              refine gop_on rfl rfl rfl rfl hg33 ?_
              refine gop (y_bare (y_eql rfl rfl)) rfl rfl rfl ?_
              refine gop (y_pick_f (v := .bool _) rfl hg33 rfl) rfl rfl rfl ?_
              refine gop (y_assign (v := .bool _) rfl) rfl rfl rfl ?_
              refine gops_nil ?_
              refine hN2 _ _ ?_
              refine gfrom [(2, .bool _)] ⟨rfl, trivial⟩ fun σ => ?_
              refine gret fun w1 hM => ?_
              refine ⟨_, res1 rfl (rt (v := .bool _) rfl), ?_⟩
              first | (exfalso; omega) | exact ⟨by rw [show letterB n = true from decide_eq_true (by omega)], hM.low⟩ | exact ⟨by rw [show letterB n = decide ((n : Int) = 45) from decide_eq_decide.2 (by omega)], hM.low⟩
            · -- guard 33 off
              have hg33d := of_decide_eq_true hg33
              refine gop_off rfl rfl rfl rfl hg33 rfl rfl ?_
              refine gop (y_pick_t (v := .bool _) rfl hg33 rfl) rfl rfl rfl ?_
              refine gop (y_assign (v := .bool _) rfl) rfl rfl rfl ?_
              refine gops_nil ?_
              refine hN2 _ _ ?_
              refine gfrom [(2, .bool _)] ⟨rfl, trivial⟩ fun σ => ?_
              refine gret fun w1 hM => ?_
              refine ⟨_, res1 rfl (rt (v := .bool _) rfl), ?_⟩
              first | (exfalso; omega) | exact ⟨by rw [show letterB n = true from decide_eq_true (by omega)], hM.low⟩ | exact ⟨by rw [show letterB n = decide ((n : Int) = 45) from decide_eq_decide.2 (by omega)], hM.low⟩
          · -- guard 29 off
            have hg29d := of_decide_eq_true hg29
            refine gop_off rfl rfl rfl rfl hg29 rfl rfl ?_
            refine gop (y_pick_t (v := .bool _) rfl hg29 rfl) rfl rfl rfl ?_
            refine gop (y_move (v := .bool _) rfl) rfl rfl rfl ?_
            refine gop_off rfl rfl rfl rfl rfl rfl rfl ?_
            refine gop_off rfl rfl rfl rfl rfl rfl rfl ?_
            refine gop (y_pick_t (v := .bool _) rfl rfl rfl) rfl rfl rfl ?_
            refine gop (y_assign (v := .bool _) rfl) rfl rfl rfl ?_
            refine gops_nil ?_
            refine hN2 _ _ ?_
            refine gfrom [(2, .bool _)] ⟨rfl, trivial⟩ fun σ => ?_
            refine gret fun w1 hM => ?_
            refine ⟨_, res1 rfl (rt (v := .bool _) rfl), ?_⟩
            first | (exfalso; omega) | exact ⟨by rw [show letterB n = true from decide_eq_true (by omega)], hM.low⟩ | exact ⟨by rw [show letterB n = decide ((n : Int) = 45) from decide_eq_decide.2 (by omega)], hM.low⟩
        · -- guard 25 off
          have hg25d := of_decide_eq_true hg25
          refine gop_off rfl rfl rfl rfl hg25 rfl rfl ?_
          refine gop (y_pick_t (v := .bool _) rfl hg25 rfl) rfl rfl rfl ?_
          refine gop (y_move (v := .bool _) rfl) rfl rfl rfl ?_
          refine gop_off rfl rfl rfl rfl rfl rfl rfl ?_
          refine gop_off rfl rfl rfl rfl rfl rfl rfl ?_
          refine gop (y_pick_t (v := .bool _) rfl rfl rfl) rfl rfl rfl ?_
          refine gop (y_move (v := .bool _) rfl) rfl rfl rfl ?_
          refine gop_off rfl rfl rfl rfl rfl rfl rfl ?_
          refine gop_off rfl rfl rfl rfl rfl rfl rfl ?_
          refine gop (y_pick_t (v := .bool _) rfl rfl rfl) rfl rfl rfl ?_
          refine gop (y_assign (v := .bool _) rfl) rfl rfl rfl ?_
          refine gops_nil ?_
          refine hN2 _ _ ?_
          refine gfrom [(2, .bool _)] ⟨rfl, trivial⟩ fun σ => ?_
          refine gret fun w1 hM => ?_
          refine ⟨_, res1 rfl (rt (v := .bool _) rfl), ?_⟩
          first | (exfalso; omega) | exact ⟨by rw [show letterB n = true from decide_eq_true (by omega)], hM.low⟩ | exact ⟨by rw [show letterB n = decide ((n : Int) = 45) from decide_eq_decide.2 (by omega)], hM.low⟩
      · -- guard 20 off
        have hg20d := of_decide_eq_false hg20
        refine gop_off rfl rfl rfl rfl hg20 rfl rfl ?_
        refine gop_on rfl rfl rfl rfl rfl ?_
        refine gop (y_bare (y_pick_f (v := .bool _) rfl hg20 rfl)) rfl rfl rfl ?_
        refine gop (y_pick_f (v := .bool _) rfl rfl rfl) rfl rfl rfl ?_
        refine gop (y_move (v := .bool _) rfl) rfl rfl rfl ?_
        refine gop_on rfl rfl rfl rfl rfl ?_
        refine gop (y_bare (y_move (v := .int _ _) rfl)) rfl rfl rfl ?_
        refine gop_on rfl rfl rfl rfl rfl ?_
        refine gop (y_bare (y_eql rfl rfl)) rfl rfl rfl ?_
        refine gop (y_pick_f (v := .bool _) rfl rfl rfl) rfl rfl rfl ?_
        refine gop (y_move (v := .bool _) rfl) rfl rfl rfl ?_
        refine gop_if (want := false) rfl rfl rfl rfl rfl rfl (fun hg29 => ?_) (fun hg29 => ?_)
        · -- guard 29 on
          have hg29d := of_decide_eq_false hg29
          refine gop (y_bare (y_move (v := .int _ _) rfl)) rfl rfl rfl ?_
          refine gop_on rfl rfl rfl rfl hg29 ?_
          refine gop (y_bare (y_eql rfl rfl)) rfl rfl rfl ?_
          refine gop (y_pick_f (v := .bool _) rfl hg29 rfl) rfl rfl rfl ?_
          refine gop (y_move (v := .bool _) rfl) rfl rfl rfl ?_
          refine gop_if (want := false) rfl rfl rfl rfl rfl rfl (fun hg33 => ?_) (fun hg33 => ?_)
          · -- guard 33 on
            have hg33d := of_decide_eq_false hg33
            refine gop (y_bare (y_move (v := .int _ _) rfl)) rfl rfl rfl ?_
            refine gop_on rfl rfl rfl rfl hg33 ?_
            refine gop (y_bare (y_eql rfl rfl)) rfl rfl rfl ?_
            refine gop (y_pick_f (v := .bool _) rfl hg33 rfl) rfl rfl rfl ?_
            refine gop (y_assign (v := .bool _) rfl) rfl rfl rfl ?_
            refine gops_nil ?_
            refine hN2 _ _ ?_
            refine gfrom [(2, .bool _)] ⟨rfl, trivial⟩ fun σ => ?_
            refine gret fun w1 hM => ?_
            refine ⟨_, res1 rfl (rt (v := .bool _) rfl), ?_⟩
            first | (exfalso; omega) | exact ⟨by rw [show letterB n = true from decide_eq_true (by omega)], hM.low⟩ | exact ⟨by rw [show letterB n = decide ((n : Int) = 45) from decide_eq_decide.2 (by omega)], hM.low⟩
          · -- guard 33 off
            have hg33d := of_decide_eq_true hg33
            refine gop_off rfl rfl rfl rfl hg33 rfl rfl ?_
            refine gop (y_pick_t (v := .bool _) rfl hg33 rfl) rfl rfl rfl ?_
            refine gop (y_assign (v := .bool _) rfl) rfl rfl rfl ?_
            refine gops_nil ?_
            refine hN2 _ _ ?_
            refine gfrom [(2, .bool _)] ⟨rfl, trivial⟩ fun σ => ?_
            refine gret fun w1 hM => ?_
            refine ⟨_, res1 rfl (rt (v := .bool _) rfl), ?_⟩
            first | (exfalso; omega) | exact ⟨by rw [show letterB n = true from decide_eq_true (by omega)], hM.low⟩ | exact ⟨by rw [show letterB n = decide ((n : Int) = 45) from decide_eq_decide.2 (by omega)], hM.low⟩
        · -- guard 29 off
          have hg29d := of_decide_eq_true hg29
          refine gop_off rfl rfl rfl rfl hg29 rfl rfl ?_
          refine gop (y_pick_t (v := .bool _) rfl hg29 rfl) rfl rfl rfl ?_
          refine gop (y_move (v := .bool _) rfl) rfl rfl rfl ?_
          refine gop_off rfl rfl rfl rfl rfl rfl rfl ?_
          refine gop_off rfl rfl rfl rfl rfl rfl rfl ?_
          refine gop (y_pick_t (v := .bool _) rfl rfl rfl) rfl rfl rfl ?_
          refine gop (y_assign (v := .bool _) rfl) rfl rfl rfl ?_
          refine gops_nil ?_
          refine hN2 _ _ ?_
          refine gfrom [(2, .bool _)] ⟨rfl, trivial⟩ fun σ => ?_
          refine gret fun w1 hM => ?_
          refine ⟨_, res1 rfl (rt (v := .bool _) rfl), ?_⟩
          first | (exfalso; omega) | exact ⟨by rw [show letterB n = true from decide_eq_true (by omega)], hM.low⟩ | exact ⟨by rw [show letterB n = decide ((n : Int) = 45) from decide_eq_decide.2 (by omega)], hM.low⟩

set_option maxHeartbeats 1000000 in
theorem isName_any (w : World) (s : ByteArray) (hs : s.size ≤ 4000000) : Calls Tryd.prog 48 #[.string s] w fun e w' => e = .returned (.bool (nameOk s)) ∧ Below w.heap.size w w' := by
  refine gcalls Tryd.func48 rfl Tryd.ntmps48 (Nat.le_of_ble_eq_true rfl) ?_
  refine gfrom [(0, .string _)] ⟨rfl, trivial⟩ fun σ => ?_
  refine gseq fun N1 hN1 => ?_
  refine greg ?_
  refine gop (y_assign (v := .bool _) rfl) rfl rfl rfl ?_
  refine gops_nil ?_
  refine hN1 _ _ ?_
  refine gfrom [(0, .string _)] ⟨rfl, trivial⟩ fun σ => ?_
  refine gseq fun N2 hN2 => ?_
  refine gseq fun N3 hN3 => ?_
  refine greg ?_
  refine gop (y_assign (v := .int _ _) rfl) rfl rfl rfl ?_
  refine gops_nil ?_
  refine hN3 _ _ ?_
  refine gfrom [(0, .string _), (3, .int _ _)] ⟨rfl, rfl, trivial⟩ fun σ => ?_
  refine gblock ?_
  refine gfrom2 [(3, .int _ _)] [(0, .string _)] ⟨rfl, trivial⟩ ⟨rfl, trivial⟩ fun σ => ?_
  refine gloop2 (G := Nat) (fun k => k ≤ s.size ∧ ∀ j, j < k → letterB (byteAt s j) = true) (fun k => s.size - k) (fun k => [(3, .int .i64 (k : Int))]) (fun k => []) (0) ?h0 ⟨rfl, trivial⟩ ⟨rfl, trivial⟩ rfl ?round
  case h0 => exact ⟨Nat.zero_le _, fun _ h => absurd h (by omega)⟩
  case round =>
    intro k hφ σ
    obtain ⟨hk, hz⟩ := hφ
    refine gseq fun N4 hN4 => ?_
    refine gseq fun N5 hN5 => ?_
    refine greg ?_
    refine gop (y_move (v := .int _ _) rfl) rfl rfl rfl ?_
    refine gop (y_move (v := .string _) rfl) rfl rfl rfl ?_
    refine gop (y_lens Tryd.underlying9 rfl) rfl rfl rfl ?_
    refine gop (y_lss rfl rfl) rfl rfl rfl ?_
    refine gops_nil ?_
    refine hN5 _ _ ?_
    refine gfrom [(0, .string _), (3, .int _ _), (7, .bool _)] ⟨rfl, rfl, rfl, trivial⟩ fun σ => ?_
    refine gcond (b := _) rfl (fun hc7 => ?_) (fun hc7 => ?_)
    · -- slot 7 t
      replace hc7 := of_decide_eq_true hc7
      refine gskip ?_
      refine hN4 _ _ ?_
      refine gfrom [(0, .string _), (3, .int _ _)] ⟨rfl, rfl, trivial⟩ fun σ => ?_
      refine gseq fun N6 hN6 => ?_
      refine gblock ?_
      refine gseq fun N7 hN7 => ?_
      refine greg ?_
      refine gop (y_move (v := .string _) rfl) rfl rfl rfl ?_
      refine gop (y_move (v := .int _ _) rfl) rfl rfl rfl ?_
      refine gop (y_stridx (m := k) Tryd.underlying9 rfl rfl (by omega) (by omega) (by omega)) rfl rfl rfl ?_
      refine gop_pure (e_call (vs := [.int _ _]) Tryd.func59 rfl (by kernel_rfl) rfl) (fun w hM => isByte_any w _) rfl rfl rfl ?_
      refine gop (y_not rfl) rfl rfl rfl ?_
      refine gops_nil ?_
      refine hN7 _ _ ?_
      refine gfrom [(0, .string _), (3, .int _ _), (14, .bool _)] ⟨rfl, rfl, rfl, trivial⟩ fun σ => ?_
      refine gcond (b := _) rfl (fun hc14 => ?_) (fun hc14 => ?_)
      · -- slot 14 t
        replace hc14 := not_t hc14
        have hB : nameOk s = false := nameOk_bad (k := k) (by omega) hc14
        refine gseq fun N8 hN8 => ?_
        refine greg ?_
        refine gop (y_assign (v := .bool _) rfl) rfl rfl rfl ?_
        refine gops_nil ?_
        refine hN8 _ _ ?_
        refine gfrom [(2, .bool _)] ⟨rfl, trivial⟩ fun σ => ?_
        refine gret fun w1 hM => ?_
        refine ⟨_, res1 rfl (rt (v := .bool _) rfl), ?_⟩
        exact ⟨by rw [hB], hM.low⟩
      · -- slot 14 f
        replace hc14 := not_f hc14
        refine gskip ?_
        refine hN6 _ _ ?_
        refine gfrom [(0, .string _), (3, .int _ _)] ⟨rfl, rfl, trivial⟩ fun σ => ?_
        refine greg ?_
        refine gop (y_move (v := .int _ _) rfl) rfl rfl rfl ?_
        refine gop (y_add rfl rfl ⟨by omega, by omega⟩) rfl rfl rfl ?_
        refine gop (y_assign (v := .int _ _) rfl) rfl rfl rfl ?_
        refine gops_nil ?_
        refine gnext2 (k + 1) (by omega) (⟨by omega, fun j hj => by rcases Nat.lt_succ_iff_lt_or_eq.1 hj with h1 | rfl; exact hz j h1; exact hc14⟩) ⟨rfl, trivial⟩ ⟨rfl, trivial⟩ ⟨_, rfl⟩
    · -- slot 7 f
      replace hc7 := of_decide_eq_false hc7
      have hN := nameOk_all (s := s) (fun j hj => hz j (by omega))
      refine gexit ?_
      refine hN2 _ _ ?_
      refine gfrom [(0, .string _)] ⟨rfl, trivial⟩ fun σ => ?_
      refine gseq fun N9 hN9 => ?_
      refine greg ?_
      refine gop (y_move (v := .string _) rfl) rfl rfl rfl ?_
      refine gop (y_neqs rfl rfl) rfl rfl rfl ?_
      refine gop (y_move (v := .bool _) rfl) rfl rfl rfl ?_
      refine gop_if (want := true) rfl rfl rfl rfl rfl rfl (fun hg17 => ?_) (fun hg17 => ?_)
      · -- guard 17 on
        have hg17d := hg17
        refine gop (y_bare (y_move (v := .string _) rfl)) rfl rfl rfl ?_
        refine gop_on rfl rfl rfl rfl hg17 ?_
        refine gop (y_bare (y_neqs rfl rfl)) rfl rfl rfl ?_
        refine gop (y_pick_t (v := .bool _) rfl hg17 rfl) rfl rfl rfl ?_
        refine gop (y_move (v := .bool _) rfl) rfl rfl rfl ?_
        refine gop_if (want := true) rfl rfl rfl rfl rfl rfl (fun hg21 => ?_) (fun hg21 => ?_)
        · -- guard 21 on
          have hg21d := hg21
          refine gop (y_bare (y_move (v := .string _) rfl)) rfl rfl rfl ?_
          refine gop_on rfl rfl rfl rfl hg21 ?_
          refine gop (y_bare (y_neqs rfl rfl)) rfl rfl rfl ?_
          refine gop (y_pick_t (v := .bool _) rfl hg21 rfl) rfl rfl rfl ?_
          refine gop (y_assign (v := .bool _) rfl) rfl rfl rfl ?_
          refine gops_nil ?_
          refine hN9 _ _ ?_
          refine gfrom [(2, .bool _)] ⟨rfl, trivial⟩ fun σ => ?_
          refine gret fun w1 hM => ?_
          refine ⟨_, res1 rfl (rt (v := .bool _) rfl), ?_⟩
          exact ⟨by rw [hN]; unfold strEq; simp_all, hM.low⟩
        · -- guard 21 off
          have hg21d := hg21
          refine gop_off rfl rfl rfl rfl hg21 rfl rfl ?_
          refine gop (y_pick_f (v := .bool _) rfl hg21 rfl) rfl rfl rfl ?_
          refine gop (y_assign (v := .bool _) rfl) rfl rfl rfl ?_
          refine gops_nil ?_
          refine hN9 _ _ ?_
          refine gfrom [(2, .bool _)] ⟨rfl, trivial⟩ fun σ => ?_
          refine gret fun w1 hM => ?_
          refine ⟨_, res1 rfl (rt (v := .bool _) rfl), ?_⟩
          exact ⟨by rw [hN]; unfold strEq; simp_all, hM.low⟩
      · -- guard 17 off
        have hg17d := hg17
        refine gop_off rfl rfl rfl rfl hg17 rfl rfl ?_
        refine gop (y_pick_f (v := .bool _) rfl hg17 rfl) rfl rfl rfl ?_
        refine gop (y_move (v := .bool _) rfl) rfl rfl rfl ?_
        refine gop_off rfl rfl rfl rfl rfl rfl rfl ?_
        refine gop_off rfl rfl rfl rfl rfl rfl rfl ?_
        refine gop (y_pick_f (v := .bool _) rfl rfl rfl) rfl rfl rfl ?_
        refine gop (y_assign (v := .bool _) rfl) rfl rfl rfl ?_
        refine gops_nil ?_
        refine hN9 _ _ ?_
        refine gfrom [(2, .bool _)] ⟨rfl, trivial⟩ fun σ => ?_
        refine gret fun w1 hM => ?_
        refine ⟨_, res1 rfl (rt (v := .bool _) rfl), ?_⟩
        exact ⟨by rw [hN]; unfold strEq; simp_all, hM.low⟩

set_option maxHeartbeats 2000000 in
theorem cut_any (w : World) (s : ByteArray) (hs : s.size ≤ 4000000) :
    Calls Tryd.prog 47 #[.string s] w fun e w' => ∃ v T', e = .returned v ∧ T' = [rowl strCells w.heap.size 9 1 v (cutS s)] ∧ Mem w T' w' := by
  refine gcalls Tryd.func47 rfl Tryd.ntmps47 (Nat.le_of_ble_eq_true rfl) ?_
  refine gfrom [(0, .string _)] ⟨rfl, trivial⟩ fun σ => ?_
  refine gseq fun N1 hN1 => ?_
  refine greg ?_
  refine gop (y_assign (v := .slice _ _ _) rfl) rfl rfl rfl ?_
  refine gops_nil ?_
  refine hN1 _ _ ?_
  refine gfrom [(0, .string _)] ⟨rfl, trivial⟩ fun σ => ?_
  refine gseq fun N2 hN2 => ?_
  refine greg ?_
  refine gop (y_assign (v := .slice _ _ _) rfl) rfl rfl rfl ?_
  refine gops_nil ?_
  refine hN2 _ _ ?_
  refine gfrom [(0, .string _), (3, .slice _ _ _)] ⟨rfl, rfl, trivial⟩ fun σ => ?_
  refine gseq fun N3 hN3 => ?_
  refine greg ?_
  refine gop (y_assign (v := .int _ _) rfl) rfl rfl rfl ?_
  refine gops_nil ?_
  refine hN3 _ _ ?_
  refine gfrom [(0, .string _), (3, .slice _ _ _), (4, .int _ _)] ⟨rfl, rfl, rfl, trivial⟩ fun σ => ?_
  refine gseq fun N4 hN4 => ?_
  refine gseq fun N5 hN5 => ?_
  refine greg ?_
  refine gop (y_assign (v := .int _ _) rfl) rfl rfl rfl ?_
  refine gops_nil ?_
  refine hN5 _ _ ?_
  refine gfrom [(0, .string _), (3, .slice _ _ _), (4, .int _ _), (5, .int _ _)] ⟨rfl, rfl, rfl, rfl, trivial⟩ fun σ => ?_
  refine gblock ?_
  refine gnilrow strCells 9 1 ?_
  refine gfrom2 [(3, .slice _ _ _), (4, .int _ _), (5, .int _ _)] [(0, .string _)] ⟨rfl, rfl, rfl, trivial⟩ ⟨rfl, trivial⟩ fun σ => ?_
  refine gloop2 (G := Nat × Nat × Option Addr × Nat × List ByteArray) (fun (i, p, Av, cv, l) => i ≤ s.size + 1 ∧ p ≤ i ∧ l.length ≤ i ∧ (∀ j, p ≤ j → j < i → byteAt s j ≠ 47) ∧ (i ≤ s.size → l ++ (splitL ((bsOf s).drop p)).map baOf = cutS s) ∧ (i = s.size + 1 → l = cutS s)) (fun (i, p, Av, cv, l) => s.size + 1 - i) (fun (i, p, Av, cv, l) => [(3, .slice Av l.length cv), (4, .int .i64 (p : Int)), (5, .int .i64 (i : Int))]) (fun (i, p, Av, cv, l) => [(0, rowl strCells w.heap.size 9 1 (.slice Av l.length cv) l)]) ((0, 0, none, 0, [])) ?h0 ⟨rfl, rfl, rfl, trivial⟩ ⟨rfl, trivial⟩ rfl ?round
  case h0 => exact ⟨Nat.zero_le _, Nat.le_refl _, Nat.le_refl _, fun _ _ h => absurd h (by omega), fun _ => rfl, fun h => by simp at h⟩
  case round =>
    rintro ⟨i, p, Av, cv, l⟩ hφ σ
    obtain ⟨hi, hpi, hll, hno, hl1, hl2⟩ := hφ
    refine gT [rowl _ _ _ _ _ _] rfl ?_
    refine gseq fun N6 hN6 => ?_
    refine gseq fun N7 hN7 => ?_
    refine greg ?_
    refine gop (y_move (v := .int _ _) rfl) rfl rfl rfl ?_
    refine gop (y_move (v := .string _) rfl) rfl rfl rfl ?_
    refine gop (y_lens Tryd.underlying9 rfl) rfl rfl rfl ?_
    refine gop (y_leq rfl rfl) rfl rfl rfl ?_
    refine gops_nil ?_
    refine hN7 _ _ ?_
    refine gfrom [(0, .string _), (3, .slice Av _ cv), (4, .int _ _), (5, .int _ _), (9, .bool _)] ⟨rfl, rfl, rfl, rfl, rfl, trivial⟩ fun σ => ?_
    refine gcond (b := _) rfl (fun hc9 => ?_) (fun hc9 => ?_)
    · -- slot 9 t
      replace hc9 := of_decide_eq_true hc9
      have hi1 : i ≤ s.size := by omega
      have hlst := hl1 hi1
      refine gskip ?_
      refine hN6 _ _ ?_
      refine gfrom [(0, .string _), (3, .slice Av _ cv), (4, .int _ _), (5, .int _ _)] ⟨rfl, rfl, rfl, rfl, trivial⟩ fun σ => ?_
      refine gseq fun N8 hN8 => ?_
      refine gblock ?_
      refine gseq fun N9 hN9 => ?_
      refine greg ?_
      refine gop (y_move (v := .int _ _) rfl) rfl rfl rfl ?_
      refine gop (y_move (v := .string _) rfl) rfl rfl rfl ?_
      refine gop (y_lens Tryd.underlying9 rfl) rfl rfl rfl ?_
      refine gop (y_eql rfl rfl) rfl rfl rfl ?_
      refine gop (y_move (v := .bool _) rfl) rfl rfl rfl ?_
      refine gop_if (want := false) rfl rfl rfl rfl rfl rfl (fun hg16 => ?_) (fun hg16 => ?_)
      · -- guard 16 on
        have hg16d := of_decide_eq_false hg16
        refine gop (y_bare (y_move (v := .string _) rfl)) rfl rfl rfl ?_
        refine gop_on rfl rfl rfl rfl hg16 ?_
        refine gop (y_bare (y_move (v := .int _ _) rfl)) rfl rfl rfl ?_
        refine gop_on rfl rfl rfl rfl hg16 ?_
        refine gop (y_bare (y_stridx (m := i) Tryd.underlying9 rfl rfl (by omega) (by omega) (by omega))) rfl rfl rfl ?_
        refine gop_on rfl rfl rfl rfl hg16 ?_
        refine gop (y_bare (y_eql rfl rfl)) rfl rfl rfl ?_
        refine gop (y_pick_f (v := .bool _) rfl hg16 rfl) rfl rfl rfl ?_
        refine gops_nil ?_
        refine hN9 _ _ ?_
        refine gfrom [(0, .string _), (3, .slice Av _ cv), (4, .int _ _), (5, .int _ _), (21, .bool _)] ⟨rfl, rfl, rfl, rfl, rfl, trivial⟩ fun σ => ?_
        refine gcond (b := _) rfl (fun hc21 => ?_) (fun hc21 => ?_)
        · -- slot 21 t
          replace hc21 := of_decide_eq_true hc21
          refine gseq fun N10 hN10 => ?_
          refine greg ?_
          refine gop (y_move (v := .slice Av _ cv) rfl) rfl rfl rfl ?_
          refine gop (y_move (v := .string _) rfl) rfl rfl rfl ?_
          refine gop (y_move (v := .int _ _) rfl) rfl rfl rfl ?_
          refine gop (y_move (v := .int _ _) rfl) rfl rfl rfl ?_
          refine gop (y_strslice Tryd.underlying9 rfl rfl rfl (by omega) (by omega) (by omega)) rfl rfl rfl ?_
          refine gop_lit (vs := [.string _]) (cells := #[_]) Tryd.underlying37 Tryd.sizeOf9 Tryd.zeroValue9 rfl (by decide) (by decide) rfl rfl rfl rfl (fun b27 hb27 => ?_)
          refine gop_append 0 (f := strCells) (l2 := [s.extract p i]) Tryd.underlying37 el9 wide_str (v := .slice Av _ cv) rfl rfl rfl rfl (fun h => by cases h) (by simp [maxLen]; omega) (by simp; omega) (src_box 1 rfl rfl) rfl (fun v28 => ?_)
          refine gops_fact (fun w hM => own_form (hM.own 0 rfl)) ?_
          rintro ⟨A28, c28, rfl, hc28, hm28⟩
          refine gop (y_assign (v := .slice A28 _ c28) rfl) rfl rfl rfl ?_
          refine gops_nil ?_
          refine hN10 _ _ ?_
          refine gT [rowl _ _ _ _ _ _, box b27 _] rfl ?_
          refine gfrom [(0, .string _), (3, .slice A28 _ c28), (5, .int _ _)] ⟨rfl, rfl, rfl, trivial⟩ fun σ => ?_
          refine greg ?_
          refine gop (y_move (v := .int _ _) rfl) rfl rfl rfl ?_
          refine gop (y_add rfl rfl ⟨by omega, by omega⟩) rfl rfl rfl ?_
          refine gop (y_assign (v := .int _ _) rfl) rfl rfl rfl ?_
          refine gops_nil ?_
          refine hN8 _ _ ?_
          refine gfrom [(0, .string _), (3, .slice A28 _ c28), (4, .int _ _), (5, .int _ _)] ⟨rfl, rfl, rfl, rfl, trivial⟩ fun σ => ?_
          refine greg ?_
          refine gop (y_move (v := .int _ _) rfl) rfl rfl rfl ?_
          refine gop (y_add rfl rfl ⟨by omega, by omega⟩) rfl rfl rfl ?_
          refine gop (y_assign (v := .int _ _) rfl) rfl rfl rfl ?_
          refine gops_nil ?_
          refine gnext2 ((i + 1, i + 1, A28, c28, l ++ [s.extract p i])) (by show s.size + 1 - (i + 1) < s.size + 1 - i; omega) (⟨show i + 1 ≤ _ by omega, Nat.le_refl _, by simp; omega, fun j h1 h2 => absurd h1 (by omega), fun _ => by rw [← hlst, cut_next hpi (by omega) (by omega) hno]; simp, fun h => absurd h (by show ¬ i + 1 = _; omega)⟩) ⟨rfl, rfl, rfl, trivial⟩ ⟨rfl, trivial⟩ ⟨_, rfl⟩
        · -- slot 21 f
          replace hc21 := of_decide_eq_false hc21
          refine gskip ?_
          refine hN8 _ _ ?_
          refine gfrom [(0, .string _), (3, .slice Av _ cv), (4, .int _ _), (5, .int _ _)] ⟨rfl, rfl, rfl, rfl, trivial⟩ fun σ => ?_
          refine greg ?_
          refine gop (y_move (v := .int _ _) rfl) rfl rfl rfl ?_
          refine gop (y_add rfl rfl ⟨by omega, by omega⟩) rfl rfl rfl ?_
          refine gop (y_assign (v := .int _ _) rfl) rfl rfl rfl ?_
          refine gops_nil ?_
          refine gnext2 ((i + 1, p, Av, cv, l)) (by show s.size + 1 - (i + 1) < s.size + 1 - i; omega) (⟨show i + 1 ≤ _ by omega, by show p ≤ i + 1; omega, by show l.length ≤ i + 1; omega, fun j h1 h2 => by rcases Nat.lt_succ_iff_lt_or_eq.1 h2 with h3 | rfl; exact hno j h1 h3; intro h; exact hc21 (by omega), fun _ => hlst, fun h => absurd h (by show ¬ i + 1 = _; omega)⟩) ⟨rfl, rfl, rfl, trivial⟩ ⟨rfl, trivial⟩ ⟨_, rfl⟩
      · -- guard 16 off
        have hg16d := of_decide_eq_true hg16
        refine gop_off rfl rfl rfl rfl hg16 rfl rfl ?_
        refine gop_off rfl rfl rfl rfl hg16 rfl rfl ?_
        refine gop_off rfl rfl rfl rfl hg16 rfl rfl ?_
        refine gop (y_pick_t (v := .bool _) rfl hg16 rfl) rfl rfl rfl ?_
        refine gops_nil ?_
        refine hN9 _ _ ?_
        refine gfrom [(0, .string _), (3, .slice Av _ cv), (4, .int _ _), (5, .int _ _), (21, .bool _)] ⟨rfl, rfl, rfl, rfl, rfl, trivial⟩ fun σ => ?_
        refine gcond (b := _) rfl (fun hc21 => ?_) (fun hc21 => ?_)
        · -- slot 21 t
          refine gseq fun N11 hN11 => ?_
          refine greg ?_
          refine gop (y_move (v := .slice Av _ cv) rfl) rfl rfl rfl ?_
          refine gop (y_move (v := .string _) rfl) rfl rfl rfl ?_
          refine gop (y_move (v := .int _ _) rfl) rfl rfl rfl ?_
          refine gop (y_move (v := .int _ _) rfl) rfl rfl rfl ?_
          refine gop (y_strslice Tryd.underlying9 rfl rfl rfl (by omega) (by omega) (by omega)) rfl rfl rfl ?_
          refine gop_lit (vs := [.string _]) (cells := #[_]) Tryd.underlying37 Tryd.sizeOf9 Tryd.zeroValue9 rfl (by decide) (by decide) rfl rfl rfl rfl (fun b27 hb27 => ?_)
          refine gop_append 0 (f := strCells) (l2 := [s.extract p i]) Tryd.underlying37 el9 wide_str (v := .slice Av _ cv) rfl rfl rfl rfl (fun h => by cases h) (by simp [maxLen]; omega) (by simp; omega) (src_box 1 rfl rfl) rfl (fun v28 => ?_)
          refine gops_fact (fun w hM => own_form (hM.own 0 rfl)) ?_
          rintro ⟨A28, c28, rfl, hc28, hm28⟩
          refine gop (y_assign (v := .slice A28 _ c28) rfl) rfl rfl rfl ?_
          refine gops_nil ?_
          refine hN11 _ _ ?_
          refine gT [rowl _ _ _ _ _ _, box b27 _] rfl ?_
          refine gfrom [(0, .string _), (3, .slice A28 _ c28), (5, .int _ _)] ⟨rfl, rfl, rfl, trivial⟩ fun σ => ?_
          refine greg ?_
          refine gop (y_move (v := .int _ _) rfl) rfl rfl rfl ?_
          refine gop (y_add rfl rfl ⟨by omega, by omega⟩) rfl rfl rfl ?_
          refine gop (y_assign (v := .int _ _) rfl) rfl rfl rfl ?_
          refine gops_nil ?_
          refine hN8 _ _ ?_
          refine gfrom [(0, .string _), (3, .slice A28 _ c28), (4, .int _ _), (5, .int _ _)] ⟨rfl, rfl, rfl, rfl, trivial⟩ fun σ => ?_
          refine greg ?_
          refine gop (y_move (v := .int _ _) rfl) rfl rfl rfl ?_
          refine gop (y_add rfl rfl ⟨by omega, by omega⟩) rfl rfl rfl ?_
          refine gop (y_assign (v := .int _ _) rfl) rfl rfl rfl ?_
          refine gops_nil ?_
          refine gnext2 ((i + 1, i + 1, A28, c28, l ++ [s.extract p i])) (by show s.size + 1 - (i + 1) < s.size + 1 - i; omega) (⟨show i + 1 ≤ _ by omega, Nat.le_refl _, by simp; omega, fun j h1 h2 => absurd h1 (by omega), fun h => absurd h (by show ¬ i + 1 ≤ _; omega), fun _ => by rw [← hlst, cut_last (fun j h1 h2 => hno j h1 (by omega)), show i = s.size by omega]⟩) ⟨rfl, rfl, rfl, trivial⟩ ⟨rfl, trivial⟩ ⟨_, rfl⟩
        · -- slot 21 f
          cases hc21
    · -- slot 9 f
      replace hc9 := of_decide_eq_false hc9
      have hfin := hl2 (by omega)
      refine gexit ?_
      refine hN4 _ _ ?_
      refine gfrom [(3, .slice Av _ cv)] ⟨rfl, trivial⟩ fun σ => ?_
      refine gseq fun N12 hN12 => ?_
      refine greg ?_
      refine gop (y_move (v := .slice Av _ cv) rfl) rfl rfl rfl ?_
      refine gop (y_assign (v := .slice Av _ cv) rfl) rfl rfl rfl ?_
      refine gops_nil ?_
      refine hN12 _ _ ?_
      refine gfrom [(2, .slice Av _ cv)] ⟨rfl, trivial⟩ fun σ => ?_
      refine gret fun w1 hM => ?_
      refine ⟨_, res1 rfl (rt (v := .slice Av _ cv) rfl), ?_⟩
      rw [hfin] at hM
      exact ⟨_, _, by rw [hfin], rfl, hM⟩

set_option maxHeartbeats 1000000 in
theorem isPath_any (w : World) (s : ByteArray) (hs : s.size ≤ 4000000) : Calls Tryd.prog 17 #[.string s] w fun e w' => e = .returned (.bool (pathOk s)) ∧ Below w.heap.size w w' := by
  have hcl := cutS_len s
  refine gcalls Tryd.func17 rfl Tryd.ntmps17 (Nat.le_of_ble_eq_true rfl) ?_
  refine gfrom [(0, .string _)] ⟨rfl, trivial⟩ fun σ => ?_
  refine gseq fun N1 hN1 => ?_
  refine greg ?_
  refine gop (y_assign (v := .bool _) rfl) rfl rfl rfl ?_
  refine gops_nil ?_
  refine hN1 _ _ ?_
  refine gfrom [(0, .string _)] ⟨rfl, trivial⟩ fun σ => ?_
  refine gseq fun N2 hN2 => ?_
  refine greg ?_
  refine gop (y_move (v := .string _) rfl) rfl rfl rfl ?_
  refine gop_got (fun v T' => ∃ lo, w.heap.size ≤ lo ∧ T' = [rowl strCells lo 9 1 v (cutS s)]) (e_call (vs := [.string _]) Tryd.func47 rfl (by kernel_rfl) rfl) (fun w hM => (cut_any w s hs).mono fun _ _ ⟨v, T1, h1, h2, h3⟩ => ⟨v, T1, h1, ⟨_, hM.low.size, h2⟩, h3⟩) rfl rfl rfl ?_
  rintro v6 _ ⟨lo6, hlo6, rfl⟩
  refine gops_fact (fun w hM => row_form (hM.ok _ (List.mem_of_getElem? (i := 0) rfl))) ?_
  rintro ⟨A6, c6, rfl, hc6, hm6, hn6⟩
  refine gop (y_assign (v := .slice A6 _ c6) rfl) rfl rfl rfl ?_
  refine gops_nil ?_
  refine hN2 _ _ ?_
  refine gT [rowl _ _ _ _ _ _] rfl ?_
  refine gfrom [(0, .string _), (3, .slice A6 _ c6)] ⟨rfl, rfl, trivial⟩ fun σ => ?_
  refine gseq fun N3 hN3 => ?_
  refine gseq fun N4 hN4 => ?_
  refine greg ?_
  refine gop (y_assign (v := .int _ _) rfl) rfl rfl rfl ?_
  refine gops_nil ?_
  refine hN4 _ _ ?_
  refine gfrom [(0, .string _), (3, .slice A6 _ c6), (4, .int _ _)] ⟨rfl, rfl, rfl, trivial⟩ fun σ => ?_
  refine gblock ?_
  refine gfrom2 [(4, .int _ _)] [(0, .string _), (3, .slice A6 _ c6)] ⟨rfl, trivial⟩ ⟨rfl, rfl, trivial⟩ fun σ => ?_
  refine gloop2 (G := Nat) (fun k => k ≤ (cutS s).length ∧ ∀ j (h : j < (cutS s).length), j < k → nameOk (cutS s)[j] = true) (fun k => (cutS s).length - k) (fun k => [(4, .int .i64 (k : Int))]) (fun k => []) (0) ?h0 ⟨rfl, trivial⟩ ⟨rfl, rfl, trivial⟩ rfl ?round
  case h0 => exact ⟨Nat.zero_le _, fun _ _ h => absurd h (by omega)⟩
  case round =>
    intro k hφ σ
    obtain ⟨hk, hz⟩ := hφ
    refine gseq fun N5 hN5 => ?_
    refine gseq fun N6 hN6 => ?_
    refine greg ?_
    refine gop (y_move (v := .int _ _) rfl) rfl rfl rfl ?_
    refine gop (y_move (v := .slice A6 _ c6) rfl) rfl rfl rfl ?_
    refine gop (y_len Tryd.underlying37 rfl) rfl rfl rfl ?_
    refine gop (y_lss rfl rfl) rfl rfl rfl ?_
    refine gops_nil ?_
    refine hN6 _ _ ?_
    refine gfrom [(0, .string _), (3, .slice A6 _ c6), (4, .int _ _), (10, .bool _)] ⟨rfl, rfl, rfl, rfl, trivial⟩ fun σ => ?_
    refine gcond (b := _) rfl (fun hc10 => ?_) (fun hc10 => ?_)
    · -- slot 10 t
      replace hc10 := of_decide_eq_true hc10
      have hk1 : k < (cutS s).length := by omega
      refine g_fact (fun w hM => own_some (hM.own 0 rfl) (by omega)) ?_
      rintro ⟨rg0, cg0, hvg, -, -⟩
      simp only [Value.slice.injEq] at hvg
      obtain ⟨rfl, -, rfl⟩ := hvg
      refine gskip ?_
      refine hN5 _ _ ?_
      refine gfrom [(0, .string _), (3, .slice (some ⟨rg0, 0, none⟩) _ _), (4, .int _ _)] ⟨rfl, rfl, rfl, trivial⟩ fun σ => ?_
      refine gseq fun N7 hN7 => ?_
      refine gblock ?_
      refine gseq fun N8 hN8 => ?_
      refine greg ?_
      refine gop (y_move (v := .slice (some ⟨rg0, 0, none⟩) _ _) rfl) rfl rfl rfl ?_
      refine gop (y_move (v := .int _ _) rfl) rfl rfl rfl ?_
      refine gop (y_indexAddr Tryd.underlying37 Tryd.sizeOf9 rfl rfl rfl (by omega) (by omega)) rfl rfl rfl ?_
      refine gop (y_load Tryd.isAgg9 rfl (cells_rowl 0 (f := strCells) (l := cutS s) rfl rfl (fun _ => rfl) (List.getElem?_eq_getElem hk1) 0 _ rfl)) rfl rfl rfl ?_
      refine gop_pure (e_call (vs := [.string _]) Tryd.func48 rfl (by kernel_rfl) rfl) (fun w hM => isName_any w _ (cutS_size (List.getElem_mem hk1) hs)) rfl rfl rfl ?_
      refine gop (y_not rfl) rfl rfl rfl ?_
      refine gops_nil ?_
      refine hN8 _ _ ?_
      refine gfrom [(0, .string _), (3, .slice (some ⟨rg0, 0, none⟩) _ _), (4, .int _ _), (18, .bool _)] ⟨rfl, rfl, rfl, rfl, trivial⟩ fun σ => ?_
      refine gcond (b := _) rfl (fun hc18 => ?_) (fun hc18 => ?_)
      · -- slot 18 t
        replace hc18 := not_t hc18
        have hB : pathOk s = false := by unfold pathOk; rw [Bool.and_eq_false_iff]; left; rw [List.all_eq_false]; exact ⟨_, List.getElem_mem hk1, by simp [hc18]⟩
        refine gseq fun N9 hN9 => ?_
        refine greg ?_
        refine gop (y_assign (v := .bool _) rfl) rfl rfl rfl ?_
        refine gops_nil ?_
        refine hN9 _ _ ?_
        refine gfrom [(2, .bool _)] ⟨rfl, trivial⟩ fun σ => ?_
        refine gret fun w1 hM => ?_
        refine ⟨_, res1 rfl (rt (v := .bool _) rfl), ?_⟩
        exact ⟨by rw [hB], hM.low⟩
      · -- slot 18 f
        replace hc18 := not_f hc18
        refine gskip ?_
        refine hN7 _ _ ?_
        refine gfrom [(0, .string _), (3, .slice (some ⟨rg0, 0, none⟩) _ _), (4, .int _ _)] ⟨rfl, rfl, rfl, trivial⟩ fun σ => ?_
        refine greg ?_
        refine gop (y_move (v := .int _ _) rfl) rfl rfl rfl ?_
        refine gop (y_add rfl rfl ⟨by omega, by omega⟩) rfl rfl rfl ?_
        refine gop (y_assign (v := .int _ _) rfl) rfl rfl rfl ?_
        refine gops_nil ?_
        refine gnext2 (k + 1) (by omega) (⟨by omega, fun j h hj => by rcases Nat.lt_succ_iff_lt_or_eq.1 hj with h1 | rfl; exact hz j h h1; exact hc18⟩) ⟨rfl, trivial⟩ ⟨rfl, rfl, trivial⟩ ⟨_, rfl⟩
    · -- slot 10 f
      replace hc10 := of_decide_eq_false hc10
      have hB : pathOk s = decide (s.size ≤ 60) := by unfold pathOk; rw [List.all_eq_true.2 (fun x hx => by obtain ⟨j, hj, rfl⟩ := List.getElem_of_mem hx; exact hz j hj (by omega)), Bool.true_and]
      refine gexit ?_
      refine hN3 _ _ ?_
      refine gfrom [(0, .string _)] ⟨rfl, trivial⟩ fun σ => ?_
      refine gseq fun N10 hN10 => ?_
      refine greg ?_
      refine gop (y_move (v := .string _) rfl) rfl rfl rfl ?_
      refine gop (y_lens Tryd.underlying9 rfl) rfl rfl rfl ?_
      refine gop (y_leq rfl rfl) rfl rfl rfl ?_
      refine gop (y_assign (v := .bool _) rfl) rfl rfl rfl ?_
      refine gops_nil ?_
      refine hN10 _ _ ?_
      refine gfrom [(2, .bool _)] ⟨rfl, trivial⟩ fun σ => ?_
      refine gret fun w1 hM => ?_
      refine ⟨_, res1 rfl (rt (v := .bool _) rfl), ?_⟩
      exact ⟨by rw [hB, show decide ((s.size : Int) ≤ 60) = decide (s.size ≤ 60) from decide_eq_decide.2 (by omega)], hM.low⟩
end Go.Proofs.YtijpaljdclhehaaDoor
