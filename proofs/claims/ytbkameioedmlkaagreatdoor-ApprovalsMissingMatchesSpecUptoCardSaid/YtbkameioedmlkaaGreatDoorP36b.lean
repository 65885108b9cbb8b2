/- Own frame, plain models and walks, part 2 (texts of this claim put together). -/
import Derived.Test.YtbkameioedmlkaaGreatDoorP36a
import Derived.Test.YtbkameioedmlkaaGreatDoorChecked
namespace Go.Proofs.YtbkameioedmlkaaGreatDoor
open Go.RowKit Go.Cf
set_option maxRecDepth 10000
theorem el9 : Elem Tryz.prog 9 1 16 := elem_of (z := .string .empty) (by kernel_rfl) rfl (by decide)
set_option maxHeartbeats 2000000 in
theorem letter_any (w : World) (n : Nat) : Calls Tryz.prog 82 #[.int .u8 (n : Int)] w fun e w' => e = .returned (.bool (letterB n)) ∧ Below w.heap.size w w' := by
  refine gcalls Tryz.func82 rfl Tryz.ntmps82 (Nat.le_of_ble_eq_true rfl) ?_
  refine gfrom [(0, .int _ _)] ⟨rfl, trivial⟩ fun σ => ?_
  refine gseq fun N1 hN1 => ?_
  refine greg ?_
  refine gop (y_assign (v := .bool _) rfl) rfl rfl rfl ?_
  refine gops_nil ?_
  refine hN1 _ _ ?_
  refine gfrom [(0, .int _ _)] ⟨rfl, trivial⟩ fun σ => ?_
  refine gseq fun N2 hN2 => ?_
  refine greg ?_
  refine gop (y_move (v := .int _ _) rfl) rfl rfl rfl ?_
  refine gop (y_geq rfl rfl) rfl rfl rfl ?_
  refine gop (y_move (v := .bool _) rfl) rfl rfl rfl ?_
  refine gop_if (want := true) rfl rfl rfl rfl rfl rfl (fun hg5 => ?_) (fun hg5 => ?_)
  · 
    have hg5d := of_decide_eq_true hg5
    refine gop (y_bare (y_move (v := .int _ _) rfl)) rfl rfl rfl ?_
    refine gop_on rfl rfl rfl rfl hg5 ?_
    refine gop (y_bare (y_leq rfl rfl)) rfl rfl rfl ?_
    refine gop (y_pick_t (v := .bool _) rfl hg5 rfl) rfl rfl rfl ?_
    refine gop (y_move (v := .bool _) rfl) rfl rfl rfl ?_
    refine gop_if (want := false) rfl rfl rfl rfl rfl rfl (fun hg9 => ?_) (fun hg9 => ?_)
    · 
      have hg9d := of_decide_eq_false hg9
      refine gop (y_bare (y_move (v := .int _ _) rfl)) rfl rfl rfl ?_
      refine gop_on rfl rfl rfl rfl hg9 ?_
      refine gop (y_bare (y_geq rfl rfl)) rfl rfl rfl ?_
      refine gop_on rfl rfl rfl rfl hg9 ?_
      refine gop (y_bare (y_move (v := .bool _) rfl)) rfl rfl rfl ?_
      refine gop_if (want := true) rfl rfl rfl rfl rfl rfl (fun hg12 => ?_) (fun hg12 => ?_)
      · 
        have hg12d := of_decide_eq_true hg12
        refine gop (y_bare (y_move (v := .int _ _) rfl)) rfl rfl rfl ?_
        refine gop_on rfl rfl rfl rfl hg12 ?_
        refine gop (y_bare (y_leq rfl rfl)) rfl rfl rfl ?_
        refine gop_on rfl rfl rfl rfl hg9 ?_
        refine gop (y_bare (y_pick_t (v := .bool _) rfl hg12 rfl)) rfl rfl rfl ?_
        refine gop (y_pick_f (v := .bool _) rfl hg9 rfl) rfl rfl rfl ?_
        refine gop (y_move (v := .bool _) rfl) rfl rfl rfl ?_
        refine gop_if (want := false) rfl rfl rfl rfl rfl rfl (fun hg17 => ?_) (fun hg17 => ?_)
        · 
          have hg17d := of_decide_eq_false hg17
          refine gop (y_bare (y_move (v := .int _ _) rfl)) rfl rfl rfl ?_
          refine gop_on rfl rfl rfl rfl hg17 ?_
          refine gop (y_bare (y_geq rfl rfl)) rfl rfl rfl ?_
          refine gop_on rfl rfl rfl rfl hg17 ?_
          refine gop (y_bare (y_move (v := .bool _) rfl)) rfl rfl rfl ?_
          refine gop_if (want := true) rfl rfl rfl rfl rfl rfl (fun hg20 => ?_) (fun hg20 => ?_)
          · 
            have hg20d := of_decide_eq_true hg20
            refine gop (y_bare (y_move (v := .int _ _) rfl)) rfl rfl rfl ?_
            refine gop_on rfl rfl rfl rfl hg20 ?_
            refine gop (y_bare (y_leq rfl rfl)) rfl rfl rfl ?_
            refine gop_on rfl rfl rfl rfl hg17 ?_
            refine gop (y_bare (y_pick_t (v := .bool _) rfl hg20 rfl)) rfl rfl rfl ?_
            refine gop (y_pick_f (v := .bool _) rfl hg17 rfl) rfl rfl rfl ?_
            refine gop (y_move (v := .bool _) rfl) rfl rfl rfl ?_
            refine gop_if (want := false) rfl rfl rfl rfl rfl rfl (fun hg25 => ?_) (fun hg25 => ?_)
            · 
              have hg25d := of_decide_eq_false hg25
              refine gop (y_bare (y_move (v := .int _ _) rfl)) rfl rfl rfl ?_
              refine gop_on rfl rfl rfl rfl hg25 ?_
              refine gop (y_bare (y_eql rfl rfl)) rfl rfl rfl ?_
              refine gop (y_pick_f (v := .bool _) rfl hg25 rfl) rfl rfl rfl ?_
              refine gop (y_move (v := .bool _) rfl) rfl rfl rfl ?_
              refine gop_if (want := false) rfl rfl rfl rfl rfl rfl (fun hg29 => ?_) (fun hg29 => ?_)
              · 
                have hg29d := of_decide_eq_false hg29
                refine gop (y_bare (y_move (v := .int _ _) rfl)) rfl rfl rfl ?_
                refine gop_on rfl rfl rfl rfl hg29 ?_
                refine gop (y_bare (y_eql rfl rfl)) rfl rfl rfl ?_
                refine gop (y_pick_f (v := .bool _) rfl hg29 rfl) rfl rfl rfl ?_
                refine gop (y_move (v := .bool _) rfl) rfl rfl rfl ?_
                refine gop_if (want := false) rfl rfl rfl rfl rfl rfl (fun hg33 => ?_) (fun hg33 => ?_)
                · 
                  have hg33d := of_decide_eq_false hg33
                  refine gop (y_bare (y_move (v := .int _ _) rfl)) rfl rfl rfl ?_
                  refine gop_on rfl rfl rfl rfl hg33 ?_
                  refine gop (y_bare (y_eql rfl rfl)) rfl rfl rfl ?_
                  refine gop (y_pick_f (v := .bool _) rfl hg33 rfl) rfl rfl rfl ?_
                  refine gop (y_assign (v := .bool _) rfl) rfl rfl rfl ?_
                  refine gops_nil ?_
                  refine hN2 _ _ ?_
                  refine gfrom [(2, .bool _)] ⟨rfl, trivial⟩ fun σ => ?_
                  refine gret fun w1 hM => ?_
                  refine ⟨_, res1 rfl (rt (v := .bool _) rfl), ?_⟩
                  first | (exfalso; omega) | exact ⟨by rw [show letterB n = true from decide_eq_true (by omega)], hM.low⟩ | exact ⟨by rw [show letterB n = decide ((n : Int) = 45) from decide_eq_decide.2 (by omega)], hM.low⟩
                · 
                  have hg33d := of_decide_eq_true hg33
                  refine gop_off rfl rfl rfl rfl hg33 rfl rfl ?_
                  refine gop (y_pick_t (v := .bool _) rfl hg33 rfl) rfl rfl rfl ?_
                  refine gop (y_assign (v := .bool _) rfl) rfl rfl rfl ?_
                  refine gops_nil ?_
                  refine hN2 _ _ ?_
                  refine gfrom [(2, .bool _)] ⟨rfl, trivial⟩ fun σ => ?_
                  refine gret fun w1 hM => ?_
                  refine ⟨_, res1 rfl (rt (v := .bool _) rfl), ?_⟩
                  first | (exfalso; omega) | exact ⟨by rw [show letterB n = true from decide_eq_true (by omega)], hM.low⟩ | exact ⟨by rw [show letterB n = decide ((n : Int) = 45) from decide_eq_decide.2 (by omega)], hM.low⟩
              · 
                have hg29d := of_decide_eq_true hg29
                refine gop_off rfl rfl rfl rfl hg29 rfl rfl ?_
                refine gop (y_pick_t (v := .bool _) rfl hg29 rfl) rfl rfl rfl ?_
                refine gop (y_move (v := .bool _) rfl) rfl rfl rfl ?_
                refine gop_off rfl rfl rfl rfl rfl rfl rfl ?_
                refine gop_off rfl rfl rfl rfl rfl rfl rfl ?_
                refine gop (y_pick_t (v := .bool _) rfl rfl rfl) rfl rfl rfl ?_
                refine gop (y_assign (v := .bool _) rfl) rfl rfl rfl ?_
                refine gops_nil ?_
                refine hN2 _ _ ?_
                refine gfrom [(2, .bool _)] ⟨rfl, trivial⟩ fun σ => ?_
                refine gret fun w1 hM => ?_
                refine ⟨_, res1 rfl (rt (v := .bool _) rfl), ?_⟩
                first | (exfalso; omega) | exact ⟨by rw [show letterB n = true from decide_eq_true (by omega)], hM.low⟩ | exact ⟨by rw [show letterB n = decide ((n : Int) = 45) from decide_eq_decide.2 (by omega)], hM.low⟩
            · 
              have hg25d := of_decide_eq_true hg25
              refine gop_off rfl rfl rfl rfl hg25 rfl rfl ?_
              refine gop (y_pick_t (v := .bool _) rfl hg25 rfl) rfl rfl rfl ?_
              refine gop (y_move (v := .bool _) rfl) rfl rfl rfl ?_
              refine gop_off rfl rfl rfl rfl rfl rfl rfl ?_
              refine gop_off rfl rfl rfl rfl rfl rfl rfl ?_
              refine gop (y_pick_t (v := .bool _) rfl rfl rfl) rfl rfl rfl ?_
              refine gop (y_move (v := .bool _) rfl) rfl rfl rfl ?_
              refine gop_off rfl rfl rfl rfl rfl rfl rfl ?_
              refine gop_off rfl rfl rfl rfl rfl rfl rfl ?_
              refine gop (y_pick_t (v := .bool _) rfl rfl rfl) rfl rfl rfl ?_
              refine gop (y_assign (v := .bool _) rfl) rfl rfl rfl ?_
              refine gops_nil ?_
              refine hN2 _ _ ?_
              refine gfrom [(2, .bool _)] ⟨rfl, trivial⟩ fun σ => ?_
              refine gret fun w1 hM => ?_
              refine ⟨_, res1 rfl (rt (v := .bool _) rfl), ?_⟩
              first | (exfalso; omega) | exact ⟨by rw [show letterB n = true from decide_eq_true (by omega)], hM.low⟩ | exact ⟨by rw [show letterB n = decide ((n : Int) = 45) from decide_eq_decide.2 (by omega)], hM.low⟩
          · 
            have hg20d := of_decide_eq_false hg20
            refine gop_off rfl rfl rfl rfl hg20 rfl rfl ?_
            refine gop_on rfl rfl rfl rfl hg17 ?_
            refine gop (y_bare (y_pick_f (v := .bool _) rfl hg20 rfl)) rfl rfl rfl ?_
            refine gop (y_pick_f (v := .bool _) rfl hg17 rfl) rfl rfl rfl ?_
            refine gop (y_move (v := .bool _) rfl) rfl rfl rfl ?_
            refine gop_on rfl rfl rfl rfl rfl ?_
            refine gop (y_bare (y_move (v := .int _ _) rfl)) rfl rfl rfl ?_
            refine gop_on rfl rfl rfl rfl rfl ?_
            refine gop (y_bare (y_eql rfl rfl)) rfl rfl rfl ?_
            refine gop (y_pick_f (v := .bool _) rfl rfl rfl) rfl rfl rfl ?_
            refine gop (y_move (v := .bool _) rfl) rfl rfl rfl ?_
            refine gop_if (want := false) rfl rfl rfl rfl rfl rfl (fun hg29 => ?_) (fun hg29 => ?_)
            · 
              have hg29d := of_decide_eq_false hg29
              refine gop (y_bare (y_move (v := .int _ _) rfl)) rfl rfl rfl ?_
              refine gop_on rfl rfl rfl rfl hg29 ?_
              refine gop (y_bare (y_eql rfl rfl)) rfl rfl rfl ?_
              refine gop (y_pick_f (v := .bool _) rfl hg29 rfl) rfl rfl rfl ?_
              refine gop (y_move (v := .bool _) rfl) rfl rfl rfl ?_
              refine gop_if (want := false) rfl rfl rfl rfl rfl rfl (fun hg33 => ?_) (fun hg33 => ?_)
              · 
                have hg33d := of_decide_eq_false hg33
                refine gop (y_bare (y_move (v := .int _ _) rfl)) rfl rfl rfl ?_
                refine gop_on rfl rfl rfl rfl hg33 ?_
                refine gop (y_bare (y_eql rfl rfl)) rfl rfl rfl ?_
                refine gop (y_pick_f (v := .bool _) rfl hg33 rfl) rfl rfl rfl ?_
                refine gop (y_assign (v := .bool _) rfl) rfl rfl rfl ?_
                refine gops_nil ?_
                refine hN2 _ _ ?_
                refine gfrom [(2, .bool _)] ⟨rfl, trivial⟩ fun σ => ?_
                refine gret fun w1 hM => ?_
                refine ⟨_, res1 rfl (rt (v := .bool _) rfl), ?_⟩
                first | (exfalso; omega) | exact ⟨by rw [show letterB n = true from decide_eq_true (by omega)], hM.low⟩ | exact ⟨by rw [show letterB n = decide ((n : Int) = 45) from decide_eq_decide.2 (by omega)], hM.low⟩
              · 
                have hg33d := of_decide_eq_true hg33
                refine gop_off rfl rfl rfl rfl hg33 rfl rfl ?_
                refine gop (y_pick_t (v := .bool _) rfl hg33 rfl) rfl rfl rfl ?_
                refine gop (y_assign (v := .bool _) rfl) rfl rfl rfl ?_
                refine gops_nil ?_
                refine hN2 _ _ ?_
                refine gfrom [(2, .bool _)] ⟨rfl, trivial⟩ fun σ => ?_
                refine gret fun w1 hM => ?_
                refine ⟨_, res1 rfl (rt (v := .bool _) rfl), ?_⟩
                first | (exfalso; omega) | exact ⟨by rw [show letterB n = true from decide_eq_true (by omega)], hM.low⟩ | exact ⟨by rw [show letterB n = decide ((n : Int) = 45) from decide_eq_decide.2 (by omega)], hM.low⟩
            · 
              have hg29d := of_decide_eq_true hg29
              refine gop_off rfl rfl rfl rfl hg29 rfl rfl ?_
              refine gop (y_pick_t (v := .bool _) rfl hg29 rfl) rfl rfl rfl ?_
              refine gop (y_move (v := .bool _) rfl) rfl rfl rfl ?_
              refine gop_off rfl rfl rfl rfl rfl rfl rfl ?_
              refine gop_off rfl rfl rfl rfl rfl rfl rfl ?_
              refine gop (y_pick_t (v := .bool _) rfl rfl rfl) rfl rfl rfl ?_
              refine gop (y_assign (v := .bool _) rfl) rfl rfl rfl ?_
              refine gops_nil ?_
              refine hN2 _ _ ?_
              refine gfrom [(2, .bool _)] ⟨rfl, trivial⟩ fun σ => ?_
              refine gret fun w1 hM => ?_
              refine ⟨_, res1 rfl (rt (v := .bool _) rfl), ?_⟩
              first | (exfalso; omega) | exact ⟨by rw [show letterB n = true from decide_eq_true (by omega)], hM.low⟩ | exact ⟨by rw [show letterB n = decide ((n : Int) = 45) from decide_eq_decide.2 (by omega)], hM.low⟩
        · 
          have hg17d := of_decide_eq_true hg17
          refine gop_off rfl rfl rfl rfl hg17 rfl rfl ?_
          refine gop_off rfl rfl rfl rfl hg17 rfl rfl ?_
          refine gop_offu rfl rfl rfl rfl rfl rfl ?_
          refine gop_offu rfl rfl rfl rfl rfl rfl ?_
          refine gop_off rfl rfl rfl rfl hg17 rfl rfl ?_
          refine gop (y_pick_t (v := .bool _) rfl hg17 rfl) rfl rfl rfl ?_
          refine gop (y_move (v := .bool _) rfl) rfl rfl rfl ?_
          refine gop_off rfl rfl rfl rfl rfl rfl rfl ?_
          refine gop_off rfl rfl rfl rfl rfl rfl rfl ?_
          refine gop (y_pick_t (v := .bool _) rfl rfl rfl) rfl rfl rfl ?_
          refine gop (y_move (v := .bool _) rfl) rfl rfl rfl ?_
          refine gop_off rfl rfl rfl rfl rfl rfl rfl ?_
          refine gop_off rfl rfl rfl rfl rfl rfl rfl ?_
          refine gop (y_pick_t (v := .bool _) rfl rfl rfl) rfl rfl rfl ?_
          refine gop (y_move (v := .bool _) rfl) rfl rfl rfl ?_
          refine gop_off rfl rfl rfl rfl rfl rfl rfl ?_
          refine gop_off rfl rfl rfl rfl rfl rfl rfl ?_
          refine gop (y_pick_t (v := .bool _) rfl rfl rfl) rfl rfl rfl ?_
          refine gop (y_assign (v := .bool _) rfl) rfl rfl rfl ?_
          refine gops_nil ?_
          refine hN2 _ _ ?_
          refine gfrom [(2, .bool _)] ⟨rfl, trivial⟩ fun σ => ?_
          refine gret fun w1 hM => ?_
          refine ⟨_, res1 rfl (rt (v := .bool _) rfl), ?_⟩
          first | (exfalso; omega) | exact ⟨by rw [show letterB n = true from decide_eq_true (by omega)], hM.low⟩ | exact ⟨by rw [show letterB n = decide ((n : Int) = 45) from decide_eq_decide.2 (by omega)], hM.low⟩
      · 
        have hg12d := of_decide_eq_false hg12
        refine gop_off rfl rfl rfl rfl hg12 rfl rfl ?_
        refine gop_on rfl rfl rfl rfl hg9 ?_
        refine gop (y_bare (y_pick_f (v := .bool _) rfl hg12 rfl)) rfl rfl rfl ?_
        refine gop (y_pick_f (v := .bool _) rfl hg9 rfl) rfl rfl rfl ?_
        refine gop (y_move (v := .bool _) rfl) rfl rfl rfl ?_
        refine gop_on rfl rfl rfl rfl rfl ?_
        refine gop (y_bare (y_move (v := .int _ _) rfl)) rfl rfl rfl ?_
        refine gop_on rfl rfl rfl rfl rfl ?_
        refine gop (y_bare (y_geq rfl rfl)) rfl rfl rfl ?_
        refine gop_on rfl rfl rfl rfl rfl ?_
        refine gop (y_bare (y_move (v := .bool _) rfl)) rfl rfl rfl ?_
        refine gop_if (want := true) rfl rfl rfl rfl rfl rfl (fun hg20 => ?_) (fun hg20 => ?_)
        · 
          have hg20d := of_decide_eq_true hg20
          refine gop (y_bare (y_move (v := .int _ _) rfl)) rfl rfl rfl ?_
          refine gop_on rfl rfl rfl rfl hg20 ?_
          refine gop (y_bare (y_leq rfl rfl)) rfl rfl rfl ?_
          refine gop_on rfl rfl rfl rfl rfl ?_
          refine gop (y_bare (y_pick_t (v := .bool _) rfl hg20 rfl)) rfl rfl rfl ?_
          refine gop (y_pick_f (v := .bool _) rfl rfl rfl) rfl rfl rfl ?_
          refine gop (y_move (v := .bool _) rfl) rfl rfl rfl ?_
          refine gop_if (want := false) rfl rfl rfl rfl rfl rfl (fun hg25 => ?_) (fun hg25 => ?_)
          · 
            have hg25d := of_decide_eq_false hg25
            refine gop (y_bare (y_move (v := .int _ _) rfl)) rfl rfl rfl ?_
            refine gop_on rfl rfl rfl rfl hg25 ?_
            refine gop (y_bare (y_eql rfl rfl)) rfl rfl rfl ?_
            refine gop (y_pick_f (v := .bool _) rfl hg25 rfl) rfl rfl rfl ?_
            refine gop (y_move (v := .bool _) rfl) rfl rfl rfl ?_
            refine gop_if (want := false) rfl rfl rfl rfl rfl rfl (fun hg29 => ?_) (fun hg29 => ?_)
            · 
              have hg29d := of_decide_eq_false hg29
              refine gop (y_bare (y_move (v := .int _ _) rfl)) rfl rfl rfl ?_
              refine gop_on rfl rfl rfl rfl hg29 ?_
              refine gop (y_bare (y_eql rfl rfl)) rfl rfl rfl ?_
              refine gop (y_pick_f (v := .bool _) rfl hg29 rfl) rfl rfl rfl ?_
              refine gop (y_move (v := .bool _) rfl) rfl rfl rfl ?_
              refine gop_if (want := false) rfl rfl rfl rfl rfl rfl (fun hg33 => ?_) (fun hg33 => ?_)
              · 
                have hg33d := of_decide_eq_false hg33
                refine gop (y_bare (y_move (v := .int _ _) rfl)) rfl rfl rfl ?_
                refine gop_on rfl rfl rfl rfl hg33 ?_
                refine gop (y_bare (y_eql rfl rfl)) rfl rfl rfl ?_
                refine gop (y_pick_f (v := .bool _) rfl hg33 rfl) rfl rfl rfl ?_
                refine gop (y_assign (v := .bool _) rfl) rfl rfl rfl ?_
                refine gops_nil ?_
                refine hN2 _ _ ?_
                refine gfrom [(2, .bool _)] ⟨rfl, trivial⟩ fun σ => ?_
                refine gret fun w1 hM => ?_
                refine ⟨_, res1 rfl (rt (v := .bool _) rfl), ?_⟩
                first | (exfalso; omega) | exact ⟨by rw [show letterB n = true from decide_eq_true (by omega)], hM.low⟩ | exact ⟨by rw [show letterB n = decide ((n : Int) = 45) from decide_eq_decide.2 (by omega)], hM.low⟩
              · 
                have hg33d := of_decide_eq_true hg33
                refine gop_off rfl rfl rfl rfl hg33 rfl rfl ?_
                refine gop (y_pick_t (v := .bool _) rfl hg33 rfl) rfl rfl rfl ?_
                refine gop (y_assign (v := .bool _) rfl) rfl rfl rfl ?_
                refine gops_nil ?_
                refine hN2 _ _ ?_
                refine gfrom [(2, .bool _)] ⟨rfl, trivial⟩ fun σ => ?_
                refine gret fun w1 hM => ?_
                refine ⟨_, res1 rfl (rt (v := .bool _) rfl), ?_⟩
                first | (exfalso; omega) | exact ⟨by rw [show letterB n = true from decide_eq_true (by omega)], hM.low⟩ | exact ⟨by rw [show letterB n = decide ((n : Int) = 45) from decide_eq_decide.2 (by omega)], hM.low⟩
            · 
              have hg29d := of_decide_eq_true hg29
              refine gop_off rfl rfl rfl rfl hg29 rfl rfl ?_
              refine gop (y_pick_t (v := .bool _) rfl hg29 rfl) rfl rfl rfl ?_
              refine gop (y_move (v := .bool _) rfl) rfl rfl rfl ?_
              refine gop_off rfl rfl rfl rfl rfl rfl rfl ?_
              refine gop_off rfl rfl rfl rfl rfl rfl rfl ?_
              refine gop (y_pick_t (v := .bool _) rfl rfl rfl) rfl rfl rfl ?_
              refine gop (y_assign (v := .bool _) rfl) rfl rfl rfl ?_
              refine gops_nil ?_
              refine hN2 _ _ ?_
              refine gfrom [(2, .bool _)] ⟨rfl, trivial⟩ fun σ => ?_
              refine gret fun w1 hM => ?_
              refine ⟨_, res1 rfl (rt (v := .bool _) rfl), ?_⟩
              first | (exfalso; omega) | exact ⟨by rw [show letterB n = true from decide_eq_true (by omega)], hM.low⟩ | exact ⟨by rw [show letterB n = decide ((n : Int) = 45) from decide_eq_decide.2 (by omega)], hM.low⟩
          · 
            have hg25d := of_decide_eq_true hg25
            refine gop_off rfl rfl rfl rfl hg25 rfl rfl ?_
            refine gop (y_pick_t (v := .bool _) rfl hg25 rfl) rfl rfl rfl ?_
            refine gop (y_move (v := .bool _) rfl) rfl rfl rfl ?_
            refine gop_off rfl rfl rfl rfl rfl rfl rfl ?_
            refine gop_off rfl rfl rfl rfl rfl rfl rfl ?_
            refine gop (y_pick_t (v := .bool _) rfl rfl rfl) rfl rfl rfl ?_
            refine gop (y_move (v := .bool _) rfl) rfl rfl rfl ?_
            refine gop_off rfl rfl rfl rfl rfl rfl rfl ?_
            refine gop_off rfl rfl rfl rfl rfl rfl rfl ?_
            refine gop (y_pick_t (v := .bool _) rfl rfl rfl) rfl rfl rfl ?_
            refine gop (y_assign (v := .bool _) rfl) rfl rfl rfl ?_
            refine gops_nil ?_
            refine hN2 _ _ ?_
            refine gfrom [(2, .bool _)] ⟨rfl, trivial⟩ fun σ => ?_
            refine gret fun w1 hM => ?_
            refine ⟨_, res1 rfl (rt (v := .bool _) rfl), ?_⟩
            first | (exfalso; omega) | exact ⟨by rw [show letterB n = true from decide_eq_true (by omega)], hM.low⟩ | exact ⟨by rw [show letterB n = decide ((n : Int) = 45) from decide_eq_decide.2 (by omega)], hM.low⟩
        · 
          have hg20d := of_decide_eq_false hg20
          refine gop_off rfl rfl rfl rfl hg20 rfl rfl ?_
          refine gop_on rfl rfl rfl rfl rfl ?_
          refine gop (y_bare (y_pick_f (v := .bool _) rfl hg20 rfl)) rfl rfl rfl ?_
          refine gop (y_pick_f (v := .bool _) rfl rfl rfl) rfl rfl rfl ?_
          refine gop (y_move (v := .bool _) rfl) rfl rfl rfl ?_
          refine gop_on rfl rfl rfl rfl rfl ?_
          refine gop (y_bare (y_move (v := .int _ _) rfl)) rfl rfl rfl ?_
          refine gop_on rfl rfl rfl rfl rfl ?_
          refine gop (y_bare (y_eql rfl rfl)) rfl rfl rfl ?_
          refine gop (y_pick_f (v := .bool _) rfl rfl rfl) rfl rfl rfl ?_
          refine gop (y_move (v := .bool _) rfl) rfl rfl rfl ?_
          refine gop_if (want := false) rfl rfl rfl rfl rfl rfl (fun hg29 => ?_) (fun hg29 => ?_)
          · 
            have hg29d := of_decide_eq_false hg29
            refine gop (y_bare (y_move (v := .int _ _) rfl)) rfl rfl rfl ?_
            refine gop_on rfl rfl rfl rfl hg29 ?_
            refine gop (y_bare (y_eql rfl rfl)) rfl rfl rfl ?_
            refine gop (y_pick_f (v := .bool _) rfl hg29 rfl) rfl rfl rfl ?_
            refine gop (y_move (v := .bool _) rfl) rfl rfl rfl ?_
            refine gop_if (want := false) rfl rfl rfl rfl rfl rfl (fun hg33 => ?_) (fun hg33 => ?_)
            · 
              have hg33d := of_decide_eq_false hg33
              refine gop (y_bare (y_move (v := .int _ _) rfl)) rfl rfl rfl ?_
              refine gop_on rfl rfl rfl rfl hg33 ?_
              refine gop (y_bare (y_eql rfl rfl)) rfl rfl rfl ?_
              refine gop (y_pick_f (v := .bool _) rfl hg33 rfl) rfl rfl rfl ?_
              refine gop (y_assign (v := .bool _) rfl) rfl rfl rfl ?_
              refine gops_nil ?_
              refine hN2 _ _ ?_
              refine gfrom [(2, .bool _)] ⟨rfl, trivial⟩ fun σ => ?_
              refine gret fun w1 hM => ?_
              refine ⟨_, res1 rfl (rt (v := .bool _) rfl), ?_⟩
              first | (exfalso; omega) | exact ⟨by rw [show letterB n = true from decide_eq_true (by omega)], hM.low⟩ | exact ⟨by rw [show letterB n = decide ((n : Int) = 45) from decide_eq_decide.2 (by omega)], hM.low⟩
            · 
              have hg33d := of_decide_eq_true hg33
              refine gop_off rfl rfl rfl rfl hg33 rfl rfl ?_
              refine gop (y_pick_t (v := .bool _) rfl hg33 rfl) rfl rfl rfl ?_
              refine gop (y_assign (v := .bool _) rfl) rfl rfl rfl ?_
              refine gops_nil ?_
              refine hN2 _ _ ?_
              refine gfrom [(2, .bool _)] ⟨rfl, trivial⟩ fun σ => ?_
              refine gret fun w1 hM => ?_
              refine ⟨_, res1 rfl (rt (v := .bool _) rfl), ?_⟩
              first | (exfalso; omega) | exact ⟨by rw [show letterB n = true from decide_eq_true (by omega)], hM.low⟩ | exact ⟨by rw [show letterB n = decide ((n : Int) = 45) from decide_eq_decide.2 (by omega)], hM.low⟩
          · 
            have hg29d := of_decide_eq_true hg29
            refine gop_off rfl rfl rfl rfl hg29 rfl rfl ?_
            refine gop (y_pick_t (v := .bool _) rfl hg29 rfl) rfl rfl rfl ?_
            refine gop (y_move (v := .bool _) rfl) rfl rfl rfl ?_
            refine gop_off rfl rfl rfl rfl rfl rfl rfl ?_
            refine gop_off rfl rfl rfl rfl rfl rfl rfl ?_
            refine gop (y_pick_t (v := .bool _) rfl rfl rfl) rfl rfl rfl ?_
            refine gop (y_assign (v := .bool _) rfl) rfl rfl rfl ?_
            refine gops_nil ?_
            refine hN2 _ _ ?_
            refine gfrom [(2, .bool _)] ⟨rfl, trivial⟩ fun σ => ?_
            refine gret fun w1 hM => ?_
            refine ⟨_, res1 rfl (rt (v := .bool _) rfl), ?_⟩
            first | (exfalso; omega) | exact ⟨by rw [show letterB n = true from decide_eq_true (by omega)], hM.low⟩ | exact ⟨by rw [show letterB n = decide ((n : Int) = 45) from decide_eq_decide.2 (by omega)], hM.low⟩
    · 
      have hg9d := of_decide_eq_true hg9
      refine gop_off rfl rfl rfl rfl hg9 rfl rfl ?_
      refine gop_off rfl rfl rfl rfl hg9 rfl rfl ?_
      refine gop_offu rfl rfl rfl rfl rfl rfl ?_
      refine gop_offu rfl rfl rfl rfl rfl rfl ?_
      refine gop_off rfl rfl rfl rfl hg9 rfl rfl ?_
      refine gop (y_pick_t (v := .bool _) rfl hg9 rfl) rfl rfl rfl ?_
      refine gop (y_move (v := .bool _) rfl) rfl rfl rfl ?_
      refine gop_off rfl rfl rfl rfl rfl rfl rfl ?_
      refine gop_off rfl rfl rfl rfl rfl rfl rfl ?_
      refine gop_off rfl rfl rfl rfl rfl rfl rfl ?_
      refine gop_offu rfl rfl rfl rfl rfl rfl ?_
      refine gop_offu rfl rfl rfl rfl rfl rfl ?_
      refine gop_off rfl rfl rfl rfl rfl rfl rfl ?_
      refine gop (y_pick_t (v := .bool _) rfl rfl rfl) rfl rfl rfl ?_
      refine gop (y_move (v := .bool _) rfl) rfl rfl rfl ?_
      refine gop_off rfl rfl rfl rfl rfl rfl rfl ?_
      refine gop_off rfl rfl rfl rfl rfl rfl rfl ?_
      refine gop (y_pick_t (v := .bool _) rfl rfl rfl) rfl rfl rfl ?_
      refine gop (y_move (v := .bool _) rfl) rfl rfl rfl ?_
      refine gop_off rfl rfl rfl rfl rfl rfl rfl ?_
      refine gop_off rfl rfl rfl rfl rfl rfl rfl ?_
      refine gop (y_pick_t (v := .bool _) rfl rfl rfl) rfl rfl rfl ?_
      refine gop (y_move (v := .bool _) rfl) rfl rfl rfl ?_
      refine gop_off rfl rfl rfl rfl rfl rfl rfl ?_
      refine gop_off rfl rfl rfl rfl rfl rfl rfl ?_
      refine gop (y_pick_t (v := .bool _) rfl rfl rfl) rfl rfl rfl ?_
      refine gop (y_assign (v := .bool _) rfl) rfl rfl rfl ?_
      refine gops_nil ?_
      refine hN2 _ _ ?_
      refine gfrom [(2, .bool _)] ⟨rfl, trivial⟩ fun σ => ?_
      refine gret fun w1 hM => ?_
      refine ⟨_, res1 rfl (rt (v := .bool _) rfl), ?_⟩
      first | (exfalso; omega) | exact ⟨by rw [show letterB n = true from decide_eq_true (by omega)], hM.low⟩ | exact ⟨by rw [show letterB n = decide ((n : Int) = 45) from decide_eq_decide.2 (by omega)], hM.low⟩
  · 
    have hg5d := of_decide_eq_false hg5
    refine gop_off rfl rfl rfl rfl hg5 rfl rfl ?_
    refine gop (y_pick_f (v := .bool _) rfl hg5 rfl) rfl rfl rfl ?_
    refine gop (y_move (v := .bool _) rfl) rfl rfl rfl ?_
    refine gop_on rfl rfl rfl rfl rfl ?_
    refine gop (y_bare (y_move (v := .int _ _) rfl)) rfl rfl rfl ?_
    refine gop_on rfl rfl rfl rfl rfl ?_
    refine gop (y_bare (y_geq rfl rfl)) rfl rfl rfl ?_
    refine gop_on rfl rfl rfl rfl rfl ?_
    refine gop (y_bare (y_move (v := .bool _) rfl)) rfl rfl rfl ?_
    refine gop_if (want := true) rfl rfl rfl rfl rfl rfl (fun hg12 => ?_) (fun hg12 => ?_)
    · 
      have hg12d := of_decide_eq_true hg12
      refine gop (y_bare (y_move (v := .int _ _) rfl)) rfl rfl rfl ?_
      refine gop_on rfl rfl rfl rfl hg12 ?_
      refine gop (y_bare (y_leq rfl rfl)) rfl rfl rfl ?_
      refine gop_on rfl rfl rfl rfl rfl ?_
      refine gop (y_bare (y_pick_t (v := .bool _) rfl hg12 rfl)) rfl rfl rfl ?_
      refine gop (y_pick_f (v := .bool _) rfl rfl rfl) rfl rfl rfl ?_
      refine gop (y_move (v := .bool _) rfl) rfl rfl rfl ?_
      refine gop_if (want := false) rfl rfl rfl rfl rfl rfl (fun hg17 => ?_) (fun hg17 => ?_)
      · 
        have hg17d := of_decide_eq_false hg17
        refine gop (y_bare (y_move (v := .int _ _) rfl)) rfl rfl rfl ?_
        refine gop_on rfl rfl rfl rfl hg17 ?_
        refine gop (y_bare (y_geq rfl rfl)) rfl rfl rfl ?_
        refine gop_on rfl rfl rfl rfl hg17 ?_
        refine gop (y_bare (y_move (v := .bool _) rfl)) rfl rfl rfl ?_
        refine gop_if (want := true) rfl rfl rfl rfl rfl rfl (fun hg20 => ?_) (fun hg20 => ?_)
        · 
          have hg20d := of_decide_eq_true hg20
          refine gop (y_bare (y_move (v := .int _ _) rfl)) rfl rfl rfl ?_
          refine gop_on rfl rfl rfl rfl hg20 ?_
          refine gop (y_bare (y_leq rfl rfl)) rfl rfl rfl ?_
          refine gop_on rfl rfl rfl rfl hg17 ?_
          refine gop (y_bare (y_pick_t (v := .bool _) rfl hg20 rfl)) rfl rfl rfl ?_
          refine gop (y_pick_f (v := .bool _) rfl hg17 rfl) rfl rfl rfl ?_
          refine gop (y_move (v := .bool _) rfl) rfl rfl rfl ?_
          refine gop_if (want := false) rfl rfl rfl rfl rfl rfl (fun hg25 => ?_) (fun hg25 => ?_)
          · 
            have hg25d := of_decide_eq_false hg25
            refine gop (y_bare (y_move (v := .int _ _) rfl)) rfl rfl rfl ?_
            refine gop_on rfl rfl rfl rfl hg25 ?_
            refine gop (y_bare (y_eql rfl rfl)) rfl rfl rfl ?_
            refine gop (y_pick_f (v := .bool _) rfl hg25 rfl) rfl rfl rfl ?_
            refine gop (y_move (v := .bool _) rfl) rfl rfl rfl ?_
            refine gop_if (want := false) rfl rfl rfl rfl rfl rfl (fun hg29 => ?_) (fun hg29 => ?_)
            · 
              have hg29d := of_decide_eq_false hg29
              refine gop (y_bare (y_move (v := .int _ _) rfl)) rfl rfl rfl ?_
              refine gop_on rfl rfl rfl rfl hg29 ?_
              refine gop (y_bare (y_eql rfl rfl)) rfl rfl rfl ?_
              refine gop (y_pick_f (v := .bool _) rfl hg29 rfl) rfl rfl rfl ?_
              refine gop (y_move (v := .bool _) rfl) rfl rfl rfl ?_
              refine gop_if (want := false) rfl rfl rfl rfl rfl rfl (fun hg33 => ?_) (fun hg33 => ?_)
              · 
                have hg33d := of_decide_eq_false hg33
                refine gop (y_bare (y_move (v := .int _ _) rfl)) rfl rfl rfl ?_
                refine gop_on rfl rfl rfl rfl hg33 ?_
                refine gop (y_bare (y_eql rfl rfl)) rfl rfl rfl ?_
                refine gop (y_pick_f (v := .bool _) rfl hg33 rfl) rfl rfl rfl ?_
                refine gop (y_assign (v := .bool _) rfl) rfl rfl rfl ?_
                refine gops_nil ?_
                refine hN2 _ _ ?_
                refine gfrom [(2, .bool _)] ⟨rfl, trivial⟩ fun σ => ?_
                refine gret fun w1 hM => ?_
                refine ⟨_, res1 rfl (rt (v := .bool _) rfl), ?_⟩
                first | (exfalso; omega) | exact ⟨by rw [show letterB n = true from decide_eq_true (by omega)], hM.low⟩ | exact ⟨by rw [show letterB n = decide ((n : Int) = 45) from decide_eq_decide.2 (by omega)], hM.low⟩
              · 
                have hg33d := of_decide_eq_true hg33
                refine gop_off rfl rfl rfl rfl hg33 rfl rfl ?_
                refine gop (y_pick_t (v := .bool _) rfl hg33 rfl) rfl rfl rfl ?_
                refine gop (y_assign (v := .bool _) rfl) rfl rfl rfl ?_
                refine gops_nil ?_
                refine hN2 _ _ ?_
                refine gfrom [(2, .bool _)] ⟨rfl, trivial⟩ fun σ => ?_
                refine gret fun w1 hM => ?_
                refine ⟨_, res1 rfl (rt (v := .bool _) rfl), ?_⟩
                first | (exfalso; omega) | exact ⟨by rw [show letterB n = true from decide_eq_true (by omega)], hM.low⟩ | exact ⟨by rw [show letterB n = decide ((n : Int) = 45) from decide_eq_decide.2 (by omega)], hM.low⟩
            · 
              have hg29d := of_decide_eq_true hg29
              refine gop_off rfl rfl rfl rfl hg29 rfl rfl ?_
              refine gop (y_pick_t (v := .bool _) rfl hg29 rfl) rfl rfl rfl ?_
              refine gop (y_move (v := .bool _) rfl) rfl rfl rfl ?_
              refine gop_off rfl rfl rfl rfl rfl rfl rfl ?_
              refine gop_off rfl rfl rfl rfl rfl rfl rfl ?_
              refine gop (y_pick_t (v := .bool _) rfl rfl rfl) rfl rfl rfl ?_
              refine gop (y_assign (v := .bool _) rfl) rfl rfl rfl ?_
              refine gops_nil ?_
              refine hN2 _ _ ?_
              refine gfrom [(2, .bool _)] ⟨rfl, trivial⟩ fun σ => ?_
              refine gret fun w1 hM => ?_
              refine ⟨_, res1 rfl (rt (v := .bool _) rfl), ?_⟩
              first | (exfalso; omega) | exact ⟨by rw [show letterB n = true from decide_eq_true (by omega)], hM.low⟩ | exact ⟨by rw [show letterB n = decide ((n : Int) = 45) from decide_eq_decide.2 (by omega)], hM.low⟩
          · 
            have hg25d := of_decide_eq_true hg25
            refine gop_off rfl rfl rfl rfl hg25 rfl rfl ?_
            refine gop (y_pick_t (v := .bool _) rfl hg25 rfl) rfl rfl rfl ?_
            refine gop (y_move (v := .bool _) rfl) rfl rfl rfl ?_
            refine gop_off rfl rfl rfl rfl rfl rfl rfl ?_
            refine gop_off rfl rfl rfl rfl rfl rfl rfl ?_
            refine gop (y_pick_t (v := .bool _) rfl rfl rfl) rfl rfl rfl ?_
            refine gop (y_move (v := .bool _) rfl) rfl rfl rfl ?_
            refine gop_off rfl rfl rfl rfl rfl rfl rfl ?_
            refine gop_off rfl rfl rfl rfl rfl rfl rfl ?_
            refine gop (y_pick_t (v := .bool _) rfl rfl rfl) rfl rfl rfl ?_
            refine gop (y_assign (v := .bool _) rfl) rfl rfl rfl ?_
            refine gops_nil ?_
            refine hN2 _ _ ?_
            refine gfrom [(2, .bool _)] ⟨rfl, trivial⟩ fun σ => ?_
            refine gret fun w1 hM => ?_
            refine ⟨_, res1 rfl (rt (v := .bool _) rfl), ?_⟩
            first | (exfalso; omega) | exact ⟨by rw [show letterB n = true from decide_eq_true (by omega)], hM.low⟩ | exact ⟨by rw [show letterB n = decide ((n : Int) = 45) from decide_eq_decide.2 (by omega)], hM.low⟩
        · 
          have hg20d := of_decide_eq_false hg20
          refine gop_off rfl rfl rfl rfl hg20 rfl rfl ?_
          refine gop_on rfl rfl rfl rfl hg17 ?_
          refine gop (y_bare (y_pick_f (v := .bool _) rfl hg20 rfl)) rfl rfl rfl ?_
          refine gop (y_pick_f (v := .bool _) rfl hg17 rfl) rfl rfl rfl ?_
          refine gop (y_move (v := .bool _) rfl) rfl rfl rfl ?_
          refine gop_on rfl rfl rfl rfl rfl ?_
          refine gop (y_bare (y_move (v := .int _ _) rfl)) rfl rfl rfl ?_
          refine gop_on rfl rfl rfl rfl rfl ?_
          refine gop (y_bare (y_eql rfl rfl)) rfl rfl rfl ?_
          refine gop (y_pick_f (v := .bool _) rfl rfl rfl) rfl rfl rfl ?_
          refine gop (y_move (v := .bool _) rfl) rfl rfl rfl ?_
          refine gop_if (want := false) rfl rfl rfl rfl rfl rfl (fun hg29 => ?_) (fun hg29 => ?_)
          · 
            have hg29d := of_decide_eq_false hg29
            refine gop (y_bare (y_move (v := .int _ _) rfl)) rfl rfl rfl ?_
            refine gop_on rfl rfl rfl rfl hg29 ?_
            refine gop (y_bare (y_eql rfl rfl)) rfl rfl rfl ?_
            refine gop (y_pick_f (v := .bool _) rfl hg29 rfl) rfl rfl rfl ?_
            refine gop (y_move (v := .bool _) rfl) rfl rfl rfl ?_
            refine gop_if (want := false) rfl rfl rfl rfl rfl rfl (fun hg33 => ?_) (fun hg33 => ?_)
            · 
              have hg33d := of_decide_eq_false hg33
              refine gop (y_bare (y_move (v := .int _ _) rfl)) rfl rfl rfl ?_
              refine gop_on rfl rfl rfl rfl hg33 ?_
              refine gop (y_bare (y_eql rfl rfl)) rfl rfl rfl ?_
              refine gop (y_pick_f (v := .bool _) rfl hg33 rfl) rfl rfl rfl ?_
              refine gop (y_assign (v := .bool _) rfl) rfl rfl rfl ?_
              refine gops_nil ?_
              refine hN2 _ _ ?_
              refine gfrom [(2, .bool _)] ⟨rfl, trivial⟩ fun σ => ?_
              refine gret fun w1 hM => ?_
              refine ⟨_, res1 rfl (rt (v := .bool _) rfl), ?_⟩
              first | (exfalso; omega) | exact ⟨by rw [show letterB n = true from decide_eq_true (by omega)], hM.low⟩ | exact ⟨by rw [show letterB n = decide ((n : Int) = 45) from decide_eq_decide.2 (by omega)], hM.low⟩
            · 
              have hg33d := of_decide_eq_true hg33
              refine gop_off rfl rfl rfl rfl hg33 rfl rfl ?_
              refine gop (y_pick_t (v := .bool _) rfl hg33 rfl) rfl rfl rfl ?_
              refine gop (y_assign (v := .bool _) rfl) rfl rfl rfl ?_
              refine gops_nil ?_
              refine hN2 _ _ ?_
              refine gfrom [(2, .bool _)] ⟨rfl, trivial⟩ fun σ => ?_
              refine gret fun w1 hM => ?_
              refine ⟨_, res1 rfl (rt (v := .bool _) rfl), ?_⟩
              first | (exfalso; omega) | exact ⟨by rw [show letterB n = true from decide_eq_true (by omega)], hM.low⟩ | exact ⟨by rw [show letterB n = decide ((n : Int) = 45) from decide_eq_decide.2 (by omega)], hM.low⟩
          · 
            have hg29d := of_decide_eq_true hg29
            refine gop_off rfl rfl rfl rfl hg29 rfl rfl ?_
            refine gop (y_pick_t (v := .bool _) rfl hg29 rfl) rfl rfl rfl ?_
            refine gop (y_move (v := .bool _) rfl) rfl rfl rfl ?_
            refine gop_off rfl rfl rfl rfl rfl rfl rfl ?_
            refine gop_off rfl rfl rfl rfl rfl rfl rfl ?_
            refine gop (y_pick_t (v := .bool _) rfl rfl rfl) rfl rfl rfl ?_
            refine gop (y_assign (v := .bool _) rfl) rfl rfl rfl ?_
            refine gops_nil ?_
            refine hN2 _ _ ?_
            refine gfrom [(2, .bool _)] ⟨rfl, trivial⟩ fun σ => ?_
            refine gret fun w1 hM => ?_
            refine ⟨_, res1 rfl (rt (v := .bool _) rfl), ?_⟩
            first | (exfalso; omega) | exact ⟨by rw [show letterB n = true from decide_eq_true (by omega)], hM.low⟩ | exact ⟨by rw [show letterB n = decide ((n : Int) = 45) from decide_eq_decide.2 (by omega)], hM.low⟩
      · 
        have hg17d := of_decide_eq_true hg17
        refine gop_off rfl rfl rfl rfl hg17 rfl rfl ?_
        refine gop_off rfl rfl rfl rfl hg17 rfl rfl ?_
        refine gop_offu rfl rfl rfl rfl rfl rfl ?_
        refine gop_offu rfl rfl rfl rfl rfl rfl ?_
        refine gop_off rfl rfl rfl rfl hg17 rfl rfl ?_
        refine gop (y_pick_t (v := .bool _) rfl hg17 rfl) rfl rfl rfl ?_
        refine gop (y_move (v := .bool _) rfl) rfl rfl rfl ?_
        refine gop_off rfl rfl rfl rfl rfl rfl rfl ?_
        refine gop_off rfl rfl rfl rfl rfl rfl rfl ?_
        refine gop (y_pick_t (v := .bool _) rfl rfl rfl) rfl rfl rfl ?_
        refine gop (y_move (v := .bool _) rfl) rfl rfl rfl ?_
        refine gop_off rfl rfl rfl rfl rfl rfl rfl ?_
        refine gop_off rfl rfl rfl rfl rfl rfl rfl ?_
        refine gop (y_pick_t (v := .bool _) rfl rfl rfl) rfl rfl rfl ?_
        refine gop (y_move (v := .bool _) rfl) rfl rfl rfl ?_
        refine gop_off rfl rfl rfl rfl rfl rfl rfl ?_
        refine gop_off rfl rfl rfl rfl rfl rfl rfl ?_
        refine gop (y_pick_t (v := .bool _) rfl rfl rfl) rfl rfl rfl ?_
        refine gop (y_assign (v := .bool _) rfl) rfl rfl rfl ?_
        refine gops_nil ?_
        refine hN2 _ _ ?_
        refine gfrom [(2, .bool _)] ⟨rfl, trivial⟩ fun σ => ?_
        refine gret fun w1 hM => ?_
        refine ⟨_, res1 rfl (rt (v := .bool _) rfl), ?_⟩
        first | (exfalso; omega) | exact ⟨by rw [show letterB n = true from decide_eq_true (by omega)], hM.low⟩ | exact ⟨by rw [show letterB n = decide ((n : Int) = 45) from decide_eq_decide.2 (by omega)], hM.low⟩
    · 
      have hg12d := of_decide_eq_false hg12
      refine gop_off rfl rfl rfl rfl hg12 rfl rfl ?_
      refine gop_on rfl rfl rfl rfl rfl ?_
      refine gop (y_bare (y_pick_f (v := .bool _) rfl hg12 rfl)) rfl rfl rfl ?_
      refine gop (y_pick_f (v := .bool _) rfl rfl rfl) rfl rfl rfl ?_
      refine gop (y_move (v := .bool _) rfl) rfl rfl rfl ?_
      refine gop_on rfl rfl rfl rfl rfl ?_
      refine gop (y_bare (y_move (v := .int _ _) rfl)) rfl rfl rfl ?_
      refine gop_on rfl rfl rfl rfl rfl ?_
      refine gop (y_bare (y_geq rfl rfl)) rfl rfl rfl ?_
      refine gop_on rfl rfl rfl rfl rfl ?_
      refine gop (y_bare (y_move (v := .bool _) rfl)) rfl rfl rfl ?_
      refine gop_if (want := true) rfl rfl rfl rfl rfl rfl (fun hg20 => ?_) (fun hg20 => ?_)
      · 
        have hg20d := of_decide_eq_true hg20
        refine gop (y_bare (y_move (v := .int _ _) rfl)) rfl rfl rfl ?_
        refine gop_on rfl rfl rfl rfl hg20 ?_
        refine gop (y_bare (y_leq rfl rfl)) rfl rfl rfl ?_
        refine gop_on rfl rfl rfl rfl rfl ?_
        refine gop (y_bare (y_pick_t (v := .bool _) rfl hg20 rfl)) rfl rfl rfl ?_
        refine gop (y_pick_f (v := .bool _) rfl rfl rfl) rfl rfl rfl ?_
        refine gop (y_move (v := .bool _) rfl) rfl rfl rfl ?_
        refine gop_if (want := false) rfl rfl rfl rfl rfl rfl (fun hg25 => ?_) (fun hg25 => ?_)
        · 
          have hg25d := of_decide_eq_false hg25
          refine gop (y_bare (y_move (v := .int _ _) rfl)) rfl rfl rfl ?_
          refine gop_on rfl rfl rfl rfl hg25 ?_
          refine gop (y_bare (y_eql rfl rfl)) rfl rfl rfl ?_
          refine gop (y_pick_f (v := .bool _) rfl hg25 rfl) rfl rfl rfl ?_
          refine gop (y_move (v := .bool _) rfl) rfl rfl rfl ?_
          refine gop_if (want := false) rfl rfl rfl rfl rfl rfl (fun hg29 => ?_) (fun hg29 => ?_)
          · 
            have hg29d := of_decide_eq_false hg29
            refine gop (y_bare (y_move (v := .int _ _) rfl)) rfl rfl rfl ?_
            refine gop_on rfl rfl rfl rfl hg29 ?_
            refine gop (y_bare (y_eql rfl rfl)) rfl rfl rfl ?_
            refine gop (y_pick_f (v := .bool _) rfl hg29 rfl) rfl rfl rfl ?_
            refine gop (y_move (v := .bool _) rfl) rfl rfl rfl ?_
            refine gop_if (want := false) rfl rfl rfl rfl rfl rfl (fun hg33 => ?_) (fun hg33 => ?_)
            · 
              have hg33d := of_decide_eq_false hg33
              refine gop (y_bare (y_move (v := .int _ _) rfl)) rfl rfl rfl ?_
              refine gop_on rfl rfl rfl rfl hg33 ?_
              refine gop (y_bare (y_eql rfl rfl)) rfl rfl rfl ?_
              refine gop (y_pick_f (v := .bool _) rfl hg33 rfl) rfl rfl rfl ?_
              refine gop (y_assign (v := .bool _) rfl) rfl rfl rfl ?_
              refine gops_nil ?_
              refine hN2 _ _ ?_
              refine gfrom [(2, .bool _)] ⟨rfl, trivial⟩ fun σ => ?_
              refine gret fun w1 hM => ?_
              refine ⟨_, res1 rfl (rt (v := .bool _) rfl), ?_⟩
              first | (exfalso; omega) | exact ⟨by rw [show letterB n = true from decide_eq_true (by omega)], hM.low⟩ | exact ⟨by rw [show letterB n = decide ((n : Int) = 45) from decide_eq_decide.2 (by omega)], hM.low⟩
            · 
              have hg33d := of_decide_eq_true hg33
              refine gop_off rfl rfl rfl rfl hg33 rfl rfl ?_
              refine gop (y_pick_t (v := .bool _) rfl hg33 rfl) rfl rfl rfl ?_
              refine gop (y_assign (v := .bool _) rfl) rfl rfl rfl ?_
              refine gops_nil ?_
              refine hN2 _ _ ?_
              refine gfrom [(2, .bool _)] ⟨rfl, trivial⟩ fun σ => ?_
              refine gret fun w1 hM => ?_
              refine ⟨_, res1 rfl (rt (v := .bool _) rfl), ?_⟩
              first | (exfalso; omega) | exact ⟨by rw [show letterB n = true from decide_eq_true (by omega)], hM.low⟩ | exact ⟨by rw [show letterB n = decide ((n : Int) = 45) from decide_eq_decide.2 (by omega)], hM.low⟩
          · 
            have hg29d := of_decide_eq_true hg29
            refine gop_off rfl rfl rfl rfl hg29 rfl rfl ?_
            refine gop (y_pick_t (v := .bool _) rfl hg29 rfl) rfl rfl rfl ?_
            refine gop (y_move (v := .bool _) rfl) rfl rfl rfl ?_
            refine gop_off rfl rfl rfl rfl rfl rfl rfl ?_
            refine gop_off rfl rfl rfl rfl rfl rfl rfl ?_
            refine gop (y_pick_t (v := .bool _) rfl rfl rfl) rfl rfl rfl ?_
            refine gop (y_assign (v := .bool _) rfl) rfl rfl rfl ?_
            refine gops_nil ?_
            refine hN2 _ _ ?_
            refine gfrom [(2, .bool _)] ⟨rfl, trivial⟩ fun σ => ?_
            refine gret fun w1 hM => ?_
            refine ⟨_, res1 rfl (rt (v := .bool _) rfl), ?_⟩
            first | (exfalso; omega) | exact ⟨by rw [show letterB n = true from decide_eq_true (by omega)], hM.low⟩ | exact ⟨by rw [show letterB n = decide ((n : Int) = 45) from decide_eq_decide.2 (by omega)], hM.low⟩
        · 
          have hg25d := of_decide_eq_true hg25
          refine gop_off rfl rfl rfl rfl hg25 rfl rfl ?_
          refine gop (y_pick_t (v := .bool _) rfl hg25 rfl) rfl rfl rfl ?_
          refine gop (y_move (v := .bool _) rfl) rfl rfl rfl ?_
          refine gop_off rfl rfl rfl rfl rfl rfl rfl ?_
          refine gop_off rfl rfl rfl rfl rfl rfl rfl ?_
          refine gop (y_pick_t (v := .bool _) rfl rfl rfl) rfl rfl rfl ?_
          refine gop (y_move (v := .bool _) rfl) rfl rfl rfl ?_
          refine gop_off rfl rfl rfl rfl rfl rfl rfl ?_
          refine gop_off rfl rfl rfl rfl rfl rfl rfl ?_
          refine gop (y_pick_t (v := .bool _) rfl rfl rfl) rfl rfl rfl ?_
          refine gop (y_assign (v := .bool _) rfl) rfl rfl rfl ?_
          refine gops_nil ?_
          refine hN2 _ _ ?_
          refine gfrom [(2, .bool _)] ⟨rfl, trivial⟩ fun σ => ?_
          refine gret fun w1 hM => ?_
          refine ⟨_, res1 rfl (rt (v := .bool _) rfl), ?_⟩
          first | (exfalso; omega) | exact ⟨by rw [show letterB n = true from decide_eq_true (by omega)], hM.low⟩ | exact ⟨by rw [show letterB n = decide ((n : Int) = 45) from decide_eq_decide.2 (by omega)], hM.low⟩
      · 
        have hg20d := of_decide_eq_false hg20
        refine gop_off rfl rfl rfl rfl hg20 rfl rfl ?_
        refine gop_on rfl rfl rfl rfl rfl ?_
        refine gop (y_bare (y_pick_f (v := .bool _) rfl hg20 rfl)) rfl rfl rfl ?_
        refine gop (y_pick_f (v := .bool _) rfl rfl rfl) rfl rfl rfl ?_
        refine gop (y_move (v := .bool _) rfl) rfl rfl rfl ?_
        refine gop_on rfl rfl rfl rfl rfl ?_
        refine gop (y_bare (y_move (v := .int _ _) rfl)) rfl rfl rfl ?_
        refine gop_on rfl rfl rfl rfl rfl ?_
        refine gop (y_bare (y_eql rfl rfl)) rfl rfl rfl ?_
        refine gop (y_pick_f (v := .bool _) rfl rfl rfl) rfl rfl rfl ?_
        refine gop (y_move (v := .bool _) rfl) rfl rfl rfl ?_
        refine gop_if (want := false) rfl rfl rfl rfl rfl rfl (fun hg29 => ?_) (fun hg29 => ?_)
        · 
          have hg29d := of_decide_eq_false hg29
          refine gop (y_bare (y_move (v := .int _ _) rfl)) rfl rfl rfl ?_
          refine gop_on rfl rfl rfl rfl hg29 ?_
          refine gop (y_bare (y_eql rfl rfl)) rfl rfl rfl ?_
          refine gop (y_pick_f (v := .bool _) rfl hg29 rfl) rfl rfl rfl ?_
          refine gop (y_move (v := .bool _) rfl) rfl rfl rfl ?_
          refine gop_if (want := false) rfl rfl rfl rfl rfl rfl (fun hg33 => ?_) (fun hg33 => ?_)
          · 
            have hg33d := of_decide_eq_false hg33
            refine gop (y_bare (y_move (v := .int _ _) rfl)) rfl rfl rfl ?_
            refine gop_on rfl rfl rfl rfl hg33 ?_
            refine gop (y_bare (y_eql rfl rfl)) rfl rfl rfl ?_
            refine gop (y_pick_f (v := .bool _) rfl hg33 rfl) rfl rfl rfl ?_
            refine gop (y_assign (v := .bool _) rfl) rfl rfl rfl ?_
            refine gops_nil ?_
            refine hN2 _ _ ?_
            refine gfrom [(2, .bool _)] ⟨rfl, trivial⟩ fun σ => ?_
            refine gret fun w1 hM => ?_
            refine ⟨_, res1 rfl (rt (v := .bool _) rfl), ?_⟩
            first | (exfalso; omega) | exact ⟨by rw [show letterB n = true from decide_eq_true (by omega)], hM.low⟩ | exact ⟨by rw [show letterB n = decide ((n : Int) = 45) from decide_eq_decide.2 (by omega)], hM.low⟩
          · 
            have hg33d := of_decide_eq_true hg33
            refine gop_off rfl rfl rfl rfl hg33 rfl rfl ?_
            refine gop (y_pick_t (v := .bool _) rfl hg33 rfl) rfl rfl rfl ?_
            refine gop (y_assign (v := .bool _) rfl) rfl rfl rfl ?_
            refine gops_nil ?_
            refine hN2 _ _ ?_
            refine gfrom [(2, .bool _)] ⟨rfl, trivial⟩ fun σ => ?_
            refine gret fun w1 hM => ?_
            refine ⟨_, res1 rfl (rt (v := .bool _) rfl), ?_⟩
            first | (exfalso; omega) | exact ⟨by rw [show letterB n = true from decide_eq_true (by omega)], hM.low⟩ | exact ⟨by rw [show letterB n = decide ((n : Int) = 45) from decide_eq_decide.2 (by omega)], hM.low⟩
        · 
          have hg29d := of_decide_eq_true hg29
          refine gop_off rfl rfl rfl rfl hg29 rfl rfl ?_
          refine gop (y_pick_t (v := .bool _) rfl hg29 rfl) rfl rfl rfl ?_
          refine gop (y_move (v := .bool _) rfl) rfl rfl rfl ?_
          refine gop_off rfl rfl rfl rfl rfl rfl rfl ?_
          refine gop_off rfl rfl rfl rfl rfl rfl rfl ?_
          refine gop (y_pick_t (v := .bool _) rfl rfl rfl) rfl rfl rfl ?_
          refine gop (y_assign (v := .bool _) rfl) rfl rfl rfl ?_
          refine gops_nil ?_
          refine hN2 _ _ ?_
          refine gfrom [(2, .bool _)] ⟨rfl, trivial⟩ fun σ => ?_
          refine gret fun w1 hM => ?_
          refine ⟨_, res1 rfl (rt (v := .bool _) rfl), ?_⟩
          first | (exfalso; omega) | exact ⟨by rw [show letterB n = true from decide_eq_true (by omega)], hM.low⟩ | exact ⟨by rw [show letterB n = decide ((n : Int) = 45) from decide_eq_decide.2 (by omega)], hM.low⟩
set_option maxHeartbeats 2000000 in
theorem isByte_any (w : World) (n : Nat) : Calls Tryz.prog 109 #[.int .u8 (n : Int)] w fun e w' => e = .returned (.bool (letterB n)) ∧ Below w.heap.size w w' := by
  refine gcalls Tryz.func109 rfl Tryz.ntmps109 (Nat.le_of_ble_eq_true rfl) ?_
  refine gfrom [(0, .int _ _)] ⟨rfl, trivial⟩ fun σ => ?_
  refine gseq fun N1 hN1 => ?_
  refine greg ?_
  refine gop (y_assign (v := .bool _) rfl) rfl rfl rfl ?_
  refine gops_nil ?_
  refine hN1 _ _ ?_
  refine gfrom [(0, .int _ _)] ⟨rfl, trivial⟩ fun σ => ?_
  refine gseq fun N2 hN2 => ?_
  refine greg ?_
  refine gop (y_move (v := .int _ _) rfl) rfl rfl rfl ?_
  refine gop (y_geq rfl rfl) rfl rfl rfl ?_
  refine gop (y_move (v := .bool _) rfl) rfl rfl rfl ?_
  refine gop_if (want := true) rfl rfl rfl rfl rfl rfl (fun hg5 => ?_) (fun hg5 => ?_)
  · 
    have hg5d := of_decide_eq_true hg5
    refine gop (y_bare (y_move (v := .int _ _) rfl)) rfl rfl rfl ?_
    refine gop_on rfl rfl rfl rfl hg5 ?_
    refine gop (y_bare (y_leq rfl rfl)) rfl rfl rfl ?_
    refine gop (y_pick_t (v := .bool _) rfl hg5 rfl) rfl rfl rfl ?_
    refine gop (y_move (v := .bool _) rfl) rfl rfl rfl ?_
    refine gop_if (want := false) rfl rfl rfl rfl rfl rfl (fun hg9 => ?_) (fun hg9 => ?_)
    · 
      have hg9d := of_decide_eq_false hg9
      refine gop (y_bare (y_move (v := .int _ _) rfl)) rfl rfl rfl ?_
      refine gop_on rfl rfl rfl rfl hg9 ?_
      refine gop (y_bare (y_geq rfl rfl)) rfl rfl rfl ?_
      refine gop_on rfl rfl rfl rfl hg9 ?_
      refine gop (y_bare (y_move (v := .bool _) rfl)) rfl rfl rfl ?_
      refine gop_if (want := true) rfl rfl rfl rfl rfl rfl (fun hg12 => ?_) (fun hg12 => ?_)
      · 
        have hg12d := of_decide_eq_true hg12
        refine gop (y_bare (y_move (v := .int _ _) rfl)) rfl rfl rfl ?_
        refine gop_on rfl rfl rfl rfl hg12 ?_
        refine gop (y_bare (y_leq rfl rfl)) rfl rfl rfl ?_
        refine gop_on rfl rfl rfl rfl hg9 ?_
        refine gop (y_bare (y_pick_t (v := .bool _) rfl hg12 rfl)) rfl rfl rfl ?_
        refine gop (y_pick_f (v := .bool _) rfl hg9 rfl) rfl rfl rfl ?_
        refine gop (y_move (v := .bool _) rfl) rfl rfl rfl ?_
        refine gop_if (want := false) rfl rfl rfl rfl rfl rfl (fun hg17 => ?_) (fun hg17 => ?_)
        · 
          have hg17d := of_decide_eq_false hg17
          refine gop (y_bare (y_move (v := .int _ _) rfl)) rfl rfl rfl ?_
          refine gop_on rfl rfl rfl rfl hg17 ?_
          refine gop (y_bare (y_geq rfl rfl)) rfl rfl rfl ?_
          refine gop_on rfl rfl rfl rfl hg17 ?_
          refine gop (y_bare (y_move (v := .bool _) rfl)) rfl rfl rfl ?_
          refine gop_if (want := true) rfl rfl rfl rfl rfl rfl (fun hg20 => ?_) (fun hg20 => ?_)
          · 
            have hg20d := of_decide_eq_true hg20
            refine gop (y_bare (y_move (v := .int _ _) rfl)) rfl rfl rfl ?_
            refine gop_on rfl rfl rfl rfl hg20 ?_
            refine gop (y_bare (y_leq rfl rfl)) rfl rfl rfl ?_
            refine gop_on rfl rfl rfl rfl hg17 ?_
            refine gop (y_bare (y_pick_t (v := .bool _) rfl hg20 rfl)) rfl rfl rfl ?_
            refine gop (y_pick_f (v := .bool _) rfl hg17 rfl) rfl rfl rfl ?_
            refine gop (y_move (v := .bool _) rfl) rfl rfl rfl ?_
            refine gop_if (want := false) rfl rfl rfl rfl rfl rfl (fun hg25 => ?_) (fun hg25 => ?_)
            · 
              have hg25d := of_decide_eq_false hg25
              refine gop (y_bare (y_move (v := .int _ _) rfl)) rfl rfl rfl ?_
              refine gop_on rfl rfl rfl rfl hg25 ?_
              refine gop (y_bare (y_eql rfl rfl)) rfl rfl rfl ?_
              refine gop (y_pick_f (v := .bool _) rfl hg25 rfl) rfl rfl rfl ?_
              refine gop (y_move (v := .bool _) rfl) rfl rfl rfl ?_
              refine gop_if (want := false) rfl rfl rfl rfl rfl rfl (fun hg29 => ?_) (fun hg29 => ?_)
              · 
                have hg29d := of_decide_eq_false hg29
                refine gop (y_bare (y_move (v := .int _ _) rfl)) rfl rfl rfl ?_
                refine gop_on rfl rfl rfl rfl hg29 ?_
                refine gop (y_bare (y_eql rfl rfl)) rfl rfl rfl ?_
                refine gop (y_pick_f (v := .bool _) rfl hg29 rfl) rfl rfl rfl ?_
                refine gop (y_move (v := .bool _) rfl) rfl rfl rfl ?_
                refine gop_if (want := false) rfl rfl rfl rfl rfl rfl (fun hg33 => ?_) (fun hg33 => ?_)
                · 
                  have hg33d := of_decide_eq_false hg33
                  refine gop (y_bare (y_move (v := .int _ _) rfl)) rfl rfl rfl ?_
                  refine gop_on rfl rfl rfl rfl hg33 ?_
                  refine gop (y_bare (y_eql rfl rfl)) rfl rfl rfl ?_
                  refine gop (y_pick_f (v := .bool _) rfl hg33 rfl) rfl rfl rfl ?_
                  refine gop (y_assign (v := .bool _) rfl) rfl rfl rfl ?_
                  refine gops_nil ?_
                  refine hN2 _ _ ?_
                  refine gfrom [(2, .bool _)] ⟨rfl, trivial⟩ fun σ => ?_
                  refine gret fun w1 hM => ?_
                  refine ⟨_, res1 rfl (rt (v := .bool _) rfl), ?_⟩
                  first | (exfalso; omega) | exact ⟨by rw [show letterB n = true from decide_eq_true (by omega)], hM.low⟩ | exact ⟨by rw [show letterB n = decide ((n : Int) = 45) from decide_eq_decide.2 (by omega)], hM.low⟩
                · 
                  have hg33d := of_decide_eq_true hg33
                  refine gop_off rfl rfl rfl rfl hg33 rfl rfl ?_
                  refine gop (y_pick_t (v := .bool _) rfl hg33 rfl) rfl rfl rfl ?_
                  refine gop (y_assign (v := .bool _) rfl) rfl rfl rfl ?_
                  refine gops_nil ?_
                  refine hN2 _ _ ?_
                  refine gfrom [(2, .bool _)] ⟨rfl, trivial⟩ fun σ => ?_
                  refine gret fun w1 hM => ?_
                  refine ⟨_, res1 rfl (rt (v := .bool _) rfl), ?_⟩
                  first | (exfalso; omega) | exact ⟨by rw [show letterB n = true from decide_eq_true (by omega)], hM.low⟩ | exact ⟨by rw [show letterB n = decide ((n : Int) = 45) from decide_eq_decide.2 (by omega)], hM.low⟩
              · 
                have hg29d := of_decide_eq_true hg29
                refine gop_off rfl rfl rfl rfl hg29 rfl rfl ?_
                refine gop (y_pick_t (v := .bool _) rfl hg29 rfl) rfl rfl rfl ?_
                refine gop (y_move (v := .bool _) rfl) rfl rfl rfl ?_
                refine gop_off rfl rfl rfl rfl rfl rfl rfl ?_
                refine gop_off rfl rfl rfl rfl rfl rfl rfl ?_
                refine gop (y_pick_t (v := .bool _) rfl rfl rfl) rfl rfl rfl ?_
                refine gop (y_assign (v := .bool _) rfl) rfl rfl rfl ?_
                refine gops_nil ?_
                refine hN2 _ _ ?_
                refine gfrom [(2, .bool _)] ⟨rfl, trivial⟩ fun σ => ?_
                refine gret fun w1 hM => ?_
                refine ⟨_, res1 rfl (rt (v := .bool _) rfl), ?_⟩
                first | (exfalso; omega) | exact ⟨by rw [show letterB n = true from decide_eq_true (by omega)], hM.low⟩ | exact ⟨by rw [show letterB n = decide ((n : Int) = 45) from decide_eq_decide.2 (by omega)], hM.low⟩
            · 
              have hg25d := of_decide_eq_true hg25
              refine gop_off rfl rfl rfl rfl hg25 rfl rfl ?_
              refine gop (y_pick_t (v := .bool _) rfl hg25 rfl) rfl rfl rfl ?_
              refine gop (y_move (v := .bool _) rfl) rfl rfl rfl ?_
              refine gop_off rfl rfl rfl rfl rfl rfl rfl ?_
              refine gop_off rfl rfl rfl rfl rfl rfl rfl ?_
              refine gop (y_pick_t (v := .bool _) rfl rfl rfl) rfl rfl rfl ?_
              refine gop (y_move (v := .bool _) rfl) rfl rfl rfl ?_
              refine gop_off rfl rfl rfl rfl rfl rfl rfl ?_
              refine gop_off rfl rfl rfl rfl rfl rfl rfl ?_
              refine gop (y_pick_t (v := .bool _) rfl rfl rfl) rfl rfl rfl ?_
              refine gop (y_assign (v := .bool _) rfl) rfl rfl rfl ?_
              refine gops_nil ?_
              refine hN2 _ _ ?_
              refine gfrom [(2, .bool _)] ⟨rfl, trivial⟩ fun σ => ?_
              refine gret fun w1 hM => ?_
              refine ⟨_, res1 rfl (rt (v := .bool _) rfl), ?_⟩
              first | (exfalso; omega) | exact ⟨by rw [show letterB n = true from decide_eq_true (by omega)], hM.low⟩ | exact ⟨by rw [show letterB n = decide ((n : Int) = 45) from decide_eq_decide.2 (by omega)], hM.low⟩
          · 
            have hg20d := of_decide_eq_false hg20
            refine gop_off rfl rfl rfl rfl hg20 rfl rfl ?_
            refine gop_on rfl rfl rfl rfl hg17 ?_
            refine gop (y_bare (y_pick_f (v := .bool _) rfl hg20 rfl)) rfl rfl rfl ?_
            refine gop (y_pick_f (v := .bool _) rfl hg17 rfl) rfl rfl rfl ?_
            refine gop (y_move (v := .bool _) rfl) rfl rfl rfl ?_
            refine gop_on rfl rfl rfl rfl rfl ?_
            refine gop (y_bare (y_move (v := .int _ _) rfl)) rfl rfl rfl ?_
            refine gop_on rfl rfl rfl rfl rfl ?_
            refine gop (y_bare (y_eql rfl rfl)) rfl rfl rfl ?_
            refine gop (y_pick_f (v := .bool _) rfl rfl rfl) rfl rfl rfl ?_
            refine gop (y_move (v := .bool _) rfl) rfl rfl rfl ?_
            refine gop_if (want := false) rfl rfl rfl rfl rfl rfl (fun hg29 => ?_) (fun hg29 => ?_)
            · 
              have hg29d := of_decide_eq_false hg29
              refine gop (y_bare (y_move (v := .int _ _) rfl)) rfl rfl rfl ?_
              refine gop_on rfl rfl rfl rfl hg29 ?_
              refine gop (y_bare (y_eql rfl rfl)) rfl rfl rfl ?_
              refine gop (y_pick_f (v := .bool _) rfl hg29 rfl) rfl rfl rfl ?_
              refine gop (y_move (v := .bool _) rfl) rfl rfl rfl ?_
              refine gop_if (want := false) rfl rfl rfl rfl rfl rfl (fun hg33 => ?_) (fun hg33 => ?_)
              · 
                have hg33d := of_decide_eq_false hg33
                refine gop (y_bare (y_move (v := .int _ _) rfl)) rfl rfl rfl ?_
                refine gop_on rfl rfl rfl rfl hg33 ?_
                refine gop (y_bare (y_eql rfl rfl)) rfl rfl rfl ?_
                refine gop (y_pick_f (v := .bool _) rfl hg33 rfl) rfl rfl rfl ?_
                refine gop (y_assign (v := .bool _) rfl) rfl rfl rfl ?_
                refine gops_nil ?_
                refine hN2 _ _ ?_
                refine gfrom [(2, .bool _)] ⟨rfl, trivial⟩ fun σ => ?_
                refine gret fun w1 hM => ?_
                refine ⟨_, res1 rfl (rt (v := .bool _) rfl), ?_⟩
                first | (exfalso; omega) | exact ⟨by rw [show letterB n = true from decide_eq_true (by omega)], hM.low⟩ | exact ⟨by rw [show letterB n = decide ((n : Int) = 45) from decide_eq_decide.2 (by omega)], hM.low⟩
              · 
                have hg33d := of_decide_eq_true hg33
                refine gop_off rfl rfl rfl rfl hg33 rfl rfl ?_
                refine gop (y_pick_t (v := .bool _) rfl hg33 rfl) rfl rfl rfl ?_
                refine gop (y_assign (v := .bool _) rfl) rfl rfl rfl ?_
                refine gops_nil ?_
                refine hN2 _ _ ?_
                refine gfrom [(2, .bool _)] ⟨rfl, trivial⟩ fun σ => ?_
                refine gret fun w1 hM => ?_
                refine ⟨_, res1 rfl (rt (v := .bool _) rfl), ?_⟩
                first | (exfalso; omega) | exact ⟨by rw [show letterB n = true from decide_eq_true (by omega)], hM.low⟩ | exact ⟨by rw [show letterB n = decide ((n : Int) = 45) from decide_eq_decide.2 (by omega)], hM.low⟩
            · 
              have hg29d := of_decide_eq_true hg29
              refine gop_off rfl rfl rfl rfl hg29 rfl rfl ?_
              refine gop (y_pick_t (v := .bool _) rfl hg29 rfl) rfl rfl rfl ?_
              refine gop (y_move (v := .bool _) rfl) rfl rfl rfl ?_
              refine gop_off rfl rfl rfl rfl rfl rfl rfl ?_
              refine gop_off rfl rfl rfl rfl rfl rfl rfl ?_
              refine gop (y_pick_t (v := .bool _) rfl rfl rfl) rfl rfl rfl ?_
              refine gop (y_assign (v := .bool _) rfl) rfl rfl rfl ?_
              refine gops_nil ?_
              refine hN2 _ _ ?_
              refine gfrom [(2, .bool _)] ⟨rfl, trivial⟩ fun σ => ?_
              refine gret fun w1 hM => ?_
              refine ⟨_, res1 rfl (rt (v := .bool _) rfl), ?_⟩
              first | (exfalso; omega) | exact ⟨by rw [show letterB n = true from decide_eq_true (by omega)], hM.low⟩ | exact ⟨by rw [show letterB n = decide ((n : Int) = 45) from decide_eq_decide.2 (by omega)], hM.low⟩
        · 
          have hg17d := of_decide_eq_true hg17
          refine gop_off rfl rfl rfl rfl hg17 rfl rfl ?_
          refine gop_off rfl rfl rfl rfl hg17 rfl rfl ?_
          refine gop_offu rfl rfl rfl rfl rfl rfl ?_
          refine gop_offu rfl rfl rfl rfl rfl rfl ?_
          refine gop_off rfl rfl rfl rfl hg17 rfl rfl ?_
          refine gop (y_pick_t (v := .bool _) rfl hg17 rfl) rfl rfl rfl ?_
          refine gop (y_move (v := .bool _) rfl) rfl rfl rfl ?_
          refine gop_off rfl rfl rfl rfl rfl rfl rfl ?_
          refine gop_off rfl rfl rfl rfl rfl rfl rfl ?_
          refine gop (y_pick_t (v := .bool _) rfl rfl rfl) rfl rfl rfl ?_
          refine gop (y_move (v := .bool _) rfl) rfl rfl rfl ?_
          refine gop_off rfl rfl rfl rfl rfl rfl rfl ?_
          refine gop_off rfl rfl rfl rfl rfl rfl rfl ?_
          refine gop (y_pick_t (v := .bool _) rfl rfl rfl) rfl rfl rfl ?_
          refine gop (y_move (v := .bool _) rfl) rfl rfl rfl ?_
          refine gop_off rfl rfl rfl rfl rfl rfl rfl ?_
          refine gop_off rfl rfl rfl rfl rfl rfl rfl ?_
          refine gop (y_pick_t (v := .bool _) rfl rfl rfl) rfl rfl rfl ?_
          refine gop (y_assign (v := .bool _) rfl) rfl rfl rfl ?_
          refine gops_nil ?_
          refine hN2 _ _ ?_
          refine gfrom [(2, .bool _)] ⟨rfl, trivial⟩ fun σ => ?_
          refine gret fun w1 hM => ?_
          refine ⟨_, res1 rfl (rt (v := .bool _) rfl), ?_⟩
          first | (exfalso; omega) | exact ⟨by rw [show letterB n = true from decide_eq_true (by omega)], hM.low⟩ | exact ⟨by rw [show letterB n = decide ((n : Int) = 45) from decide_eq_decide.2 (by omega)], hM.low⟩
      · 
        have hg12d := of_decide_eq_false hg12
        refine gop_off rfl rfl rfl rfl hg12 rfl rfl ?_
        refine gop_on rfl rfl rfl rfl hg9 ?_
        refine gop (y_bare (y_pick_f (v := .bool _) rfl hg12 rfl)) rfl rfl rfl ?_
        refine gop (y_pick_f (v := .bool _) rfl hg9 rfl) rfl rfl rfl ?_
        refine gop (y_move (v := .bool _) rfl) rfl rfl rfl ?_
        refine gop_on rfl rfl rfl rfl rfl ?_
        refine gop (y_bare (y_move (v := .int _ _) rfl)) rfl rfl rfl ?_
        refine gop_on rfl rfl rfl rfl rfl ?_
        refine gop (y_bare (y_geq rfl rfl)) rfl rfl rfl ?_
        refine gop_on rfl rfl rfl rfl rfl ?_
        refine gop (y_bare (y_move (v := .bool _) rfl)) rfl rfl rfl ?_
        refine gop_if (want := true) rfl rfl rfl rfl rfl rfl (fun hg20 => ?_) (fun hg20 => ?_)
        · 
          have hg20d := of_decide_eq_true hg20
          refine gop (y_bare (y_move (v := .int _ _) rfl)) rfl rfl rfl ?_
          refine gop_on rfl rfl rfl rfl hg20 ?_
          refine gop (y_bare (y_leq rfl rfl)) rfl rfl rfl ?_
          refine gop_on rfl rfl rfl rfl rfl ?_
          refine gop (y_bare (y_pick_t (v := .bool _) rfl hg20 rfl)) rfl rfl rfl ?_
          refine gop (y_pick_f (v := .bool _) rfl rfl rfl) rfl rfl rfl ?_
          refine gop (y_move (v := .bool _) rfl) rfl rfl rfl ?_
          refine gop_if (want := false) rfl rfl rfl rfl rfl rfl (fun hg25 => ?_) (fun hg25 => ?_)
          · 
            have hg25d := of_decide_eq_false hg25
            refine gop (y_bare (y_move (v := .int _ _) rfl)) rfl rfl rfl ?_
            refine gop_on rfl rfl rfl rfl hg25 ?_
            refine gop (y_bare (y_eql rfl rfl)) rfl rfl rfl ?_
            refine gop (y_pick_f (v := .bool _) rfl hg25 rfl) rfl rfl rfl ?_
            refine gop (y_move (v := .bool _) rfl) rfl rfl rfl ?_
            refine gop_if (want := false) rfl rfl rfl rfl rfl rfl (fun hg29 => ?_) (fun hg29 => ?_)
            · 
              have hg29d := of_decide_eq_false hg29
              refine gop (y_bare (y_move (v := .int _ _) rfl)) rfl rfl rfl ?_
              refine gop_on rfl rfl rfl rfl hg29 ?_
              refine gop (y_bare (y_eql rfl rfl)) rfl rfl rfl ?_
              refine gop (y_pick_f (v := .bool _) rfl hg29 rfl) rfl rfl rfl ?_
              refine gop (y_move (v := .bool _) rfl) rfl rfl rfl ?_
              refine gop_if (want := false) rfl rfl rfl rfl rfl rfl (fun hg33 => ?_) (fun hg33 => ?_)
              · 
                have hg33d := of_decide_eq_false hg33
                refine gop (y_bare (y_move (v := .int _ _) rfl)) rfl rfl rfl ?_
                refine gop_on rfl rfl rfl rfl hg33 ?_
                refine gop (y_bare (y_eql rfl rfl)) rfl rfl rfl ?_
                refine gop (y_pick_f (v := .bool _) rfl hg33 rfl) rfl rfl rfl ?_
                refine gop (y_assign (v := .bool _) rfl) rfl rfl rfl ?_
                refine gops_nil ?_
                refine hN2 _ _ ?_
                refine gfrom [(2, .bool _)] ⟨rfl, trivial⟩ fun σ => ?_
                refine gret fun w1 hM => ?_
                refine ⟨_, res1 rfl (rt (v := .bool _) rfl), ?_⟩
                first | (exfalso; omega) | exact ⟨by rw [show letterB n = true from decide_eq_true (by omega)], hM.low⟩ | exact ⟨by rw [show letterB n = decide ((n : Int) = 45) from decide_eq_decide.2 (by omega)], hM.low⟩
              · 
                have hg33d := of_decide_eq_true hg33
                refine gop_off rfl rfl rfl rfl hg33 rfl rfl ?_
                refine gop (y_pick_t (v := .bool _) rfl hg33 rfl) rfl rfl rfl ?_
                refine gop (y_assign (v := .bool _) rfl) rfl rfl rfl ?_
                refine gops_nil ?_
                refine hN2 _ _ ?_
                refine gfrom [(2, .bool _)] ⟨rfl, trivial⟩ fun σ => ?_
                refine gret fun w1 hM => ?_
                refine ⟨_, res1 rfl (rt (v := .bool _) rfl), ?_⟩
                first | (exfalso; omega) | exact ⟨by rw [show letterB n = true from decide_eq_true (by omega)], hM.low⟩ | exact ⟨by rw [show letterB n = decide ((n : Int) = 45) from decide_eq_decide.2 (by omega)], hM.low⟩
            · 
              have hg29d := of_decide_eq_true hg29
              refine gop_off rfl rfl rfl rfl hg29 rfl rfl ?_
              refine gop (y_pick_t (v := .bool _) rfl hg29 rfl) rfl rfl rfl ?_
              refine gop (y_move (v := .bool _) rfl) rfl rfl rfl ?_
              refine gop_off rfl rfl rfl rfl rfl rfl rfl ?_
              refine gop_off rfl rfl rfl rfl rfl rfl rfl ?_
              refine gop (y_pick_t (v := .bool _) rfl rfl rfl) rfl rfl rfl ?_
              refine gop (y_assign (v := .bool _) rfl) rfl rfl rfl ?_
              refine gops_nil ?_
              refine hN2 _ _ ?_
              refine gfrom [(2, .bool _)] ⟨rfl, trivial⟩ fun σ => ?_
              refine gret fun w1 hM => ?_
              refine ⟨_, res1 rfl (rt (v := .bool _) rfl), ?_⟩
              first | (exfalso; omega) | exact ⟨by rw [show letterB n = true from decide_eq_true (by omega)], hM.low⟩ | exact ⟨by rw [show letterB n = decide ((n : Int) = 45) from decide_eq_decide.2 (by omega)], hM.low⟩
          · 
            have hg25d := of_decide_eq_true hg25
            refine gop_off rfl rfl rfl rfl hg25 rfl rfl ?_
            refine gop (y_pick_t (v := .bool _) rfl hg25 rfl) rfl rfl rfl ?_
            refine gop (y_move (v := .bool _) rfl) rfl rfl rfl ?_
            refine gop_off rfl rfl rfl rfl rfl rfl rfl ?_
            refine gop_off rfl rfl rfl rfl rfl rfl rfl ?_
            refine gop (y_pick_t (v := .bool _) rfl rfl rfl) rfl rfl rfl ?_
            refine gop (y_move (v := .bool _) rfl) rfl rfl rfl ?_
            refine gop_off rfl rfl rfl rfl rfl rfl rfl ?_
            refine gop_off rfl rfl rfl rfl rfl rfl rfl ?_
            refine gop (y_pick_t (v := .bool _) rfl rfl rfl) rfl rfl rfl ?_
            refine gop (y_assign (v := .bool _) rfl) rfl rfl rfl ?_
            refine gops_nil ?_
            refine hN2 _ _ ?_
            refine gfrom [(2, .bool _)] ⟨rfl, trivial⟩ fun σ => ?_
            refine gret fun w1 hM => ?_
            refine ⟨_, res1 rfl (rt (v := .bool _) rfl), ?_⟩
            first | (exfalso; omega) | exact ⟨by rw [show letterB n = true from decide_eq_true (by omega)], hM.low⟩ | exact ⟨by rw [show letterB n = decide ((n : Int) = 45) from decide_eq_decide.2 (by omega)], hM.low⟩
        · 
          have hg20d := of_decide_eq_false hg20
          refine gop_off rfl rfl rfl rfl hg20 rfl rfl ?_
          refine gop_on rfl rfl rfl rfl rfl ?_
          refine gop (y_bare (y_pick_f (v := .bool _) rfl hg20 rfl)) rfl rfl rfl ?_
          refine gop (y_pick_f (v := .bool _) rfl rfl rfl) rfl rfl rfl ?_
          refine gop (y_move (v := .bool _) rfl) rfl rfl rfl ?_
          refine gop_on rfl rfl rfl rfl rfl ?_
          refine gop (y_bare (y_move (v := .int _ _) rfl)) rfl rfl rfl ?_
          refine gop_on rfl rfl rfl rfl rfl ?_
          refine gop (y_bare (y_eql rfl rfl)) rfl rfl rfl ?_
          refine gop (y_pick_f (v := .bool _) rfl rfl rfl) rfl rfl rfl ?_
          refine gop (y_move (v := .bool _) rfl) rfl rfl rfl ?_
          refine gop_if (want := false) rfl rfl rfl rfl rfl rfl (fun hg29 => ?_) (fun hg29 => ?_)
          · 
            have hg29d := of_decide_eq_false hg29
            refine gop (y_bare (y_move (v := .int _ _) rfl)) rfl rfl rfl ?_
            refine gop_on rfl rfl rfl rfl hg29 ?_
            refine gop (y_bare (y_eql rfl rfl)) rfl rfl rfl ?_
            refine gop (y_pick_f (v := .bool _) rfl hg29 rfl) rfl rfl rfl ?_
            refine gop (y_move (v := .bool _) rfl) rfl rfl rfl ?_
            refine gop_if (want := false) rfl rfl rfl rfl rfl rfl (fun hg33 => ?_) (fun hg33 => ?_)
            · 
              have hg33d := of_decide_eq_false hg33
              refine gop (y_bare (y_move (v := .int _ _) rfl)) rfl rfl rfl ?_
              refine gop_on rfl rfl rfl rfl hg33 ?_
              refine gop (y_bare (y_eql rfl rfl)) rfl rfl rfl ?_
              refine gop (y_pick_f (v := .bool _) rfl hg33 rfl) rfl rfl rfl ?_
              refine gop (y_assign (v := .bool _) rfl) rfl rfl rfl ?_
              refine gops_nil ?_
              refine hN2 _ _ ?_
              refine gfrom [(2, .bool _)] ⟨rfl, trivial⟩ fun σ => ?_
              refine gret fun w1 hM => ?_
              refine ⟨_, res1 rfl (rt (v := .bool _) rfl), ?_⟩
              first | (exfalso; omega) | exact ⟨by rw [show letterB n = true from decide_eq_true (by omega)], hM.low⟩ | exact ⟨by rw [show letterB n = decide ((n : Int) = 45) from decide_eq_decide.2 (by omega)], hM.low⟩
            · 
              have hg33d := of_decide_eq_true hg33
              refine gop_off rfl rfl rfl rfl hg33 rfl rfl ?_
              refine gop (y_pick_t (v := .bool _) rfl hg33 rfl) rfl rfl rfl ?_
              refine gop (y_assign (v := .bool _) rfl) rfl rfl rfl ?_
              refine gops_nil ?_
              refine hN2 _ _ ?_
              refine gfrom [(2, .bool _)] ⟨rfl, trivial⟩ fun σ => ?_
              refine gret fun w1 hM => ?_
              refine ⟨_, res1 rfl (rt (v := .bool _) rfl), ?_⟩
              first | (exfalso; omega) | exact ⟨by rw [show letterB n = true from decide_eq_true (by omega)], hM.low⟩ | exact ⟨by rw [show letterB n = decide ((n : Int) = 45) from decide_eq_decide.2 (by omega)], hM.low⟩
          · 
            have hg29d := of_decide_eq_true hg29
            refine gop_off rfl rfl rfl rfl hg29 rfl rfl ?_
            refine gop (y_pick_t (v := .bool _) rfl hg29 rfl) rfl rfl rfl ?_
            refine gop (y_move (v := .bool _) rfl) rfl rfl rfl ?_
            refine gop_off rfl rfl rfl rfl rfl rfl rfl ?_
            refine gop_off rfl rfl rfl rfl rfl rfl rfl ?_
            refine gop (y_pick_t (v := .bool _) rfl rfl rfl) rfl rfl rfl ?_
            refine gop (y_assign (v := .bool _) rfl) rfl rfl rfl ?_
            refine gops_nil ?_
            refine hN2 _ _ ?_
            refine gfrom [(2, .bool _)] ⟨rfl, trivial⟩ fun σ => ?_
            refine gret fun w1 hM => ?_
            refine ⟨_, res1 rfl (rt (v := .bool _) rfl), ?_⟩
            first | (exfalso; omega) | exact ⟨by rw [show letterB n = true from decide_eq_true (by omega)], hM.low⟩ | exact ⟨by rw [show letterB n = decide ((n : Int) = 45) from decide_eq_decide.2 (by omega)], hM.low⟩
    · 
      have hg9d := of_decide_eq_true hg9
      refine gop_off rfl rfl rfl rfl hg9 rfl rfl ?_
      refine gop_off rfl rfl rfl rfl hg9 rfl rfl ?_
      refine gop_offu rfl rfl rfl rfl rfl rfl ?_
      refine gop_offu rfl rfl rfl rfl rfl rfl ?_
      refine gop_off rfl rfl rfl rfl hg9 rfl rfl ?_
      refine gop (y_pick_t (v := .bool _) rfl hg9 rfl) rfl rfl rfl ?_
      refine gop (y_move (v := .bool _) rfl) rfl rfl rfl ?_
      refine gop_off rfl rfl rfl rfl rfl rfl rfl ?_
      refine gop_off rfl rfl rfl rfl rfl rfl rfl ?_
      refine gop_off rfl rfl rfl rfl rfl rfl rfl ?_
      refine gop_offu rfl rfl rfl rfl rfl rfl ?_
      refine gop_offu rfl rfl rfl rfl rfl rfl ?_
      refine gop_off rfl rfl rfl rfl rfl rfl rfl ?_
      refine gop (y_pick_t (v := .bool _) rfl rfl rfl) rfl rfl rfl ?_
      refine gop (y_move (v := .bool _) rfl) rfl rfl rfl ?_
      refine gop_off rfl rfl rfl rfl rfl rfl rfl ?_
      refine gop_off rfl rfl rfl rfl rfl rfl rfl ?_
      refine gop (y_pick_t (v := .bool _) rfl rfl rfl) rfl rfl rfl ?_
      refine gop (y_move (v := .bool _) rfl) rfl rfl rfl ?_
      refine gop_off rfl rfl rfl rfl rfl rfl rfl ?_
      refine gop_off rfl rfl rfl rfl rfl rfl rfl ?_
      refine gop (y_pick_t (v := .bool _) rfl rfl rfl) rfl rfl rfl ?_
      refine gop (y_move (v := .bool _) rfl) rfl rfl rfl ?_
      refine gop_off rfl rfl rfl rfl rfl rfl rfl ?_
      refine gop_off rfl rfl rfl rfl rfl rfl rfl ?_
      refine gop (y_pick_t (v := .bool _) rfl rfl rfl) rfl rfl rfl ?_
      refine gop (y_assign (v := .bool _) rfl) rfl rfl rfl ?_
      refine gops_nil ?_
      refine hN2 _ _ ?_
      refine gfrom [(2, .bool _)] ⟨rfl, trivial⟩ fun σ => ?_
      refine gret fun w1 hM => ?_
      refine ⟨_, res1 rfl (rt (v := .bool _) rfl), ?_⟩
      first | (exfalso; omega) | exact ⟨by rw [show letterB n = true from decide_eq_true (by omega)], hM.low⟩ | exact ⟨by rw [show letterB n = decide ((n : Int) = 45) from decide_eq_decide.2 (by omega)], hM.low⟩
  · 
    have hg5d := of_decide_eq_false hg5
    refine gop_off rfl rfl rfl rfl hg5 rfl rfl ?_
    refine gop (y_pick_f (v := .bool _) rfl hg5 rfl) rfl rfl rfl ?_
    refine gop (y_move (v := .bool _) rfl) rfl rfl rfl ?_
    refine gop_on rfl rfl rfl rfl rfl ?_
    refine gop (y_bare (y_move (v := .int _ _) rfl)) rfl rfl rfl ?_
    refine gop_on rfl rfl rfl rfl rfl ?_
    refine gop (y_bare (y_geq rfl rfl)) rfl rfl rfl ?_
    refine gop_on rfl rfl rfl rfl rfl ?_
    refine gop (y_bare (y_move (v := .bool _) rfl)) rfl rfl rfl ?_
    refine gop_if (want := true) rfl rfl rfl rfl rfl rfl (fun hg12 => ?_) (fun hg12 => ?_)
    · 
      have hg12d := of_decide_eq_true hg12
      refine gop (y_bare (y_move (v := .int _ _) rfl)) rfl rfl rfl ?_
      refine gop_on rfl rfl rfl rfl hg12 ?_
      refine gop (y_bare (y_leq rfl rfl)) rfl rfl rfl ?_
      refine gop_on rfl rfl rfl rfl rfl ?_
      refine gop (y_bare (y_pick_t (v := .bool _) rfl hg12 rfl)) rfl rfl rfl ?_
      refine gop (y_pick_f (v := .bool _) rfl rfl rfl) rfl rfl rfl ?_
      refine gop (y_move (v := .bool _) rfl) rfl rfl rfl ?_
      refine gop_if (want := false) rfl rfl rfl rfl rfl rfl (fun hg17 => ?_) (fun hg17 => ?_)
      · 
        have hg17d := of_decide_eq_false hg17
        refine gop (y_bare (y_move (v := .int _ _) rfl)) rfl rfl rfl ?_
        refine gop_on rfl rfl rfl rfl hg17 ?_
        refine gop (y_bare (y_geq rfl rfl)) rfl rfl rfl ?_
        refine gop_on rfl rfl rfl rfl hg17 ?_
        refine gop (y_bare (y_move (v := .bool _) rfl)) rfl rfl rfl ?_
        refine gop_if (want := true) rfl rfl rfl rfl rfl rfl (fun hg20 => ?_) (fun hg20 => ?_)
        · 
          have hg20d := of_decide_eq_true hg20
          refine gop (y_bare (y_move (v := .int _ _) rfl)) rfl rfl rfl ?_
          refine gop_on rfl rfl rfl rfl hg20 ?_
          refine gop (y_bare (y_leq rfl rfl)) rfl rfl rfl ?_
          refine gop_on rfl rfl rfl rfl hg17 ?_
          refine gop (y_bare (y_pick_t (v := .bool _) rfl hg20 rfl)) rfl rfl rfl ?_
          refine gop (y_pick_f (v := .bool _) rfl hg17 rfl) rfl rfl rfl ?_
          refine gop (y_move (v := .bool _) rfl) rfl rfl rfl ?_
          refine gop_if (want := false) rfl rfl rfl rfl rfl rfl (fun hg25 => ?_) (fun hg25 => ?_)
          · 
            have hg25d := of_decide_eq_false hg25
            refine gop (y_bare (y_move (v := .int _ _) rfl)) rfl rfl rfl ?_
            refine gop_on rfl rfl rfl rfl hg25 ?_
            refine gop (y_bare (y_eql rfl rfl)) rfl rfl rfl ?_
            refine gop (y_pick_f (v := .bool _) rfl hg25 rfl) rfl rfl rfl ?_
            refine gop (y_move (v := .bool _) rfl) rfl rfl rfl ?_
            refine gop_if (want := false) rfl rfl rfl rfl rfl rfl (fun hg29 => ?_) (fun hg29 => ?_)
            · 
              have hg29d := of_decide_eq_false hg29
              refine gop (y_bare (y_move (v := .int _ _) rfl)) rfl rfl rfl ?_
              refine gop_on rfl rfl rfl rfl hg29 ?_
              refine gop (y_bare (y_eql rfl rfl)) rfl rfl rfl ?_
              refine gop (y_pick_f (v := .bool _) rfl hg29 rfl) rfl rfl rfl ?_
              refine gop (y_move (v := .bool _) rfl) rfl rfl rfl ?_
              refine gop_if (want := false) rfl rfl rfl rfl rfl rfl (fun hg33 => ?_) (fun hg33 => ?_)
              · 
                have hg33d := of_decide_eq_false hg33
                refine gop (y_bare (y_move (v := .int _ _) rfl)) rfl rfl rfl ?_
                refine gop_on rfl rfl rfl rfl hg33 ?_
                refine gop (y_bare (y_eql rfl rfl)) rfl rfl rfl ?_
                refine gop (y_pick_f (v := .bool _) rfl hg33 rfl) rfl rfl rfl ?_
                refine gop (y_assign (v := .bool _) rfl) rfl rfl rfl ?_
                refine gops_nil ?_
                refine hN2 _ _ ?_
                refine gfrom [(2, .bool _)] ⟨rfl, trivial⟩ fun σ => ?_
                refine gret fun w1 hM => ?_
                refine ⟨_, res1 rfl (rt (v := .bool _) rfl), ?_⟩
                first | (exfalso; omega) | exact ⟨by rw [show letterB n = true from decide_eq_true (by omega)], hM.low⟩ | exact ⟨by rw [show letterB n = decide ((n : Int) = 45) from decide_eq_decide.2 (by omega)], hM.low⟩
              · 
                have hg33d := of_decide_eq_true hg33
                refine gop_off rfl rfl rfl rfl hg33 rfl rfl ?_
                refine gop (y_pick_t (v := .bool _) rfl hg33 rfl) rfl rfl rfl ?_
                refine gop (y_assign (v := .bool _) rfl) rfl rfl rfl ?_
                refine gops_nil ?_
                refine hN2 _ _ ?_
                refine gfrom [(2, .bool _)] ⟨rfl, trivial⟩ fun σ => ?_
                refine gret fun w1 hM => ?_
                refine ⟨_, res1 rfl (rt (v := .bool _) rfl), ?_⟩
                first | (exfalso; omega) | exact ⟨by rw [show letterB n = true from decide_eq_true (by omega)], hM.low⟩ | exact ⟨by rw [show letterB n = decide ((n : Int) = 45) from decide_eq_decide.2 (by omega)], hM.low⟩
            · 
              have hg29d := of_decide_eq_true hg29
              refine gop_off rfl rfl rfl rfl hg29 rfl rfl ?_
              refine gop (y_pick_t (v := .bool _) rfl hg29 rfl) rfl rfl rfl ?_
              refine gop (y_move (v := .bool _) rfl) rfl rfl rfl ?_
              refine gop_off rfl rfl rfl rfl rfl rfl rfl ?_
              refine gop_off rfl rfl rfl rfl rfl rfl rfl ?_
              refine gop (y_pick_t (v := .bool _) rfl rfl rfl) rfl rfl rfl ?_
              refine gop (y_assign (v := .bool _) rfl) rfl rfl rfl ?_
              refine gops_nil ?_
              refine hN2 _ _ ?_
              refine gfrom [(2, .bool _)] ⟨rfl, trivial⟩ fun σ => ?_
              refine gret fun w1 hM => ?_
              refine ⟨_, res1 rfl (rt (v := .bool _) rfl), ?_⟩
              first | (exfalso; omega) | exact ⟨by rw [show letterB n = true from decide_eq_true (by omega)], hM.low⟩ | exact ⟨by rw [show letterB n = decide ((n : Int) = 45) from decide_eq_decide.2 (by omega)], hM.low⟩
          · 
            have hg25d := of_decide_eq_true hg25
            refine gop_off rfl rfl rfl rfl hg25 rfl rfl ?_
            refine gop (y_pick_t (v := .bool _) rfl hg25 rfl) rfl rfl rfl ?_
            refine gop (y_move (v := .bool _) rfl) rfl rfl rfl ?_
            refine gop_off rfl rfl rfl rfl rfl rfl rfl ?_
            refine gop_off rfl rfl rfl rfl rfl rfl rfl ?_
            refine gop (y_pick_t (v := .bool _) rfl rfl rfl) rfl rfl rfl ?_
            refine gop (y_move (v := .bool _) rfl) rfl rfl rfl ?_
            refine gop_off rfl rfl rfl rfl rfl rfl rfl ?_
            refine gop_off rfl rfl rfl rfl rfl rfl rfl ?_
            refine gop (y_pick_t (v := .bool _) rfl rfl rfl) rfl rfl rfl ?_
            refine gop (y_assign (v := .bool _) rfl) rfl rfl rfl ?_
            refine gops_nil ?_
            refine hN2 _ _ ?_
            refine gfrom [(2, .bool _)] ⟨rfl, trivial⟩ fun σ => ?_
            refine gret fun w1 hM => ?_
            refine ⟨_, res1 rfl (rt (v := .bool _) rfl), ?_⟩
            first | (exfalso; omega) | exact ⟨by rw [show letterB n = true from decide_eq_true (by omega)], hM.low⟩ | exact ⟨by rw [show letterB n = decide ((n : Int) = 45) from decide_eq_decide.2 (by omega)], hM.low⟩
        · 
          have hg20d := of_decide_eq_false hg20
          refine gop_off rfl rfl rfl rfl hg20 rfl rfl ?_
          refine gop_on rfl rfl rfl rfl hg17 ?_
          refine gop (y_bare (y_pick_f (v := .bool _) rfl hg20 rfl)) rfl rfl rfl ?_
          refine gop (y_pick_f (v := .bool _) rfl hg17 rfl) rfl rfl rfl ?_
          refine gop (y_move (v := .bool _) rfl) rfl rfl rfl ?_
          refine gop_on rfl rfl rfl rfl rfl ?_
          refine gop (y_bare (y_move (v := .int _ _) rfl)) rfl rfl rfl ?_
          refine gop_on rfl rfl rfl rfl rfl ?_
          refine gop (y_bare (y_eql rfl rfl)) rfl rfl rfl ?_
          refine gop (y_pick_f (v := .bool _) rfl rfl rfl) rfl rfl rfl ?_
          refine gop (y_move (v := .bool _) rfl) rfl rfl rfl ?_
          refine gop_if (want := false) rfl rfl rfl rfl rfl rfl (fun hg29 => ?_) (fun hg29 => ?_)
          · 
            have hg29d := of_decide_eq_false hg29
            refine gop (y_bare (y_move (v := .int _ _) rfl)) rfl rfl rfl ?_
            refine gop_on rfl rfl rfl rfl hg29 ?_
            refine gop (y_bare (y_eql rfl rfl)) rfl rfl rfl ?_
            refine gop (y_pick_f (v := .bool _) rfl hg29 rfl) rfl rfl rfl ?_
            refine gop (y_move (v := .bool _) rfl) rfl rfl rfl ?_
            refine gop_if (want := false) rfl rfl rfl rfl rfl rfl (fun hg33 => ?_) (fun hg33 => ?_)
            · 
              have hg33d := of_decide_eq_false hg33
              refine gop (y_bare (y_move (v := .int _ _) rfl)) rfl rfl rfl ?_
              refine gop_on rfl rfl rfl rfl hg33 ?_
              refine gop (y_bare (y_eql rfl rfl)) rfl rfl rfl ?_
              refine gop (y_pick_f (v := .bool _) rfl hg33 rfl) rfl rfl rfl ?_
              refine gop (y_assign (v := .bool _) rfl) rfl rfl rfl ?_
              refine gops_nil ?_
              refine hN2 _ _ ?_
              refine gfrom [(2, .bool _)] ⟨rfl, trivial⟩ fun σ => ?_
              refine gret fun w1 hM => ?_
              refine ⟨_, res1 rfl (rt (v := .bool _) rfl), ?_⟩
              first | (exfalso; omega) | exact ⟨by rw [show letterB n = true from decide_eq_true (by omega)], hM.low⟩ | exact ⟨by rw [show letterB n = decide ((n : Int) = 45) from decide_eq_decide.2 (by omega)], hM.low⟩
            · 
              have hg33d := of_decide_eq_true hg33
              refine gop_off rfl rfl rfl rfl hg33 rfl rfl ?_
              refine gop (y_pick_t (v := .bool _) rfl hg33 rfl) rfl rfl rfl ?_
              refine gop (y_assign (v := .bool _) rfl) rfl rfl rfl ?_
              refine gops_nil ?_
              refine hN2 _ _ ?_
              refine gfrom [(2, .bool _)] ⟨rfl, trivial⟩ fun σ => ?_
              refine gret fun w1 hM => ?_
              refine ⟨_, res1 rfl (rt (v := .bool _) rfl), ?_⟩
              first | (exfalso; omega) | exact ⟨by rw [show letterB n = true from decide_eq_true (by omega)], hM.low⟩ | exact ⟨by rw [show letterB n = decide ((n : Int) = 45) from decide_eq_decide.2 (by omega)], hM.low⟩
          · 
            have hg29d := of_decide_eq_true hg29
            refine gop_off rfl rfl rfl rfl hg29 rfl rfl ?_
            refine gop (y_pick_t (v := .bool _) rfl hg29 rfl) rfl rfl rfl ?_
            refine gop (y_move (v := .bool _) rfl) rfl rfl rfl ?_
            refine gop_off rfl rfl rfl rfl rfl rfl rfl ?_
            refine gop_off rfl rfl rfl rfl rfl rfl rfl ?_
            refine gop (y_pick_t (v := .bool _) rfl rfl rfl) rfl rfl rfl ?_
            refine gop (y_assign (v := .bool _) rfl) rfl rfl rfl ?_
            refine gops_nil ?_
            refine hN2 _ _ ?_
            refine gfrom [(2, .bool _)] ⟨rfl, trivial⟩ fun σ => ?_
            refine gret fun w1 hM => ?_
            refine ⟨_, res1 rfl (rt (v := .bool _) rfl), ?_⟩
            first | (exfalso; omega) | exact ⟨by rw [show letterB n = true from decide_eq_true (by omega)], hM.low⟩ | exact ⟨by rw [show letterB n = decide ((n : Int) = 45) from decide_eq_decide.2 (by omega)], hM.low⟩
      · 
        have hg17d := of_decide_eq_true hg17
        refine gop_off rfl rfl rfl rfl hg17 rfl rfl ?_
        refine gop_off rfl rfl rfl rfl hg17 rfl rfl ?_
        refine gop_offu rfl rfl rfl rfl rfl rfl ?_
        refine gop_offu rfl rfl rfl rfl rfl rfl ?_
        refine gop_off rfl rfl rfl rfl hg17 rfl rfl ?_
        refine gop (y_pick_t (v := .bool _) rfl hg17 rfl) rfl rfl rfl ?_
        refine gop (y_move (v := .bool _) rfl) rfl rfl rfl ?_
        refine gop_off rfl rfl rfl rfl rfl rfl rfl ?_
        refine gop_off rfl rfl rfl rfl rfl rfl rfl ?_
        refine gop (y_pick_t (v := .bool _) rfl rfl rfl) rfl rfl rfl ?_
        refine gop (y_move (v := .bool _) rfl) rfl rfl rfl ?_
        refine gop_off rfl rfl rfl rfl rfl rfl rfl ?_
        refine gop_off rfl rfl rfl rfl rfl rfl rfl ?_
        refine gop (y_pick_t (v := .bool _) rfl rfl rfl) rfl rfl rfl ?_
        refine gop (y_move (v := .bool _) rfl) rfl rfl rfl ?_
        refine gop_off rfl rfl rfl rfl rfl rfl rfl ?_
        refine gop_off rfl rfl rfl rfl rfl rfl rfl ?_
        refine gop (y_pick_t (v := .bool _) rfl rfl rfl) rfl rfl rfl ?_
        refine gop (y_assign (v := .bool _) rfl) rfl rfl rfl ?_
        refine gops_nil ?_
        refine hN2 _ _ ?_
        refine gfrom [(2, .bool _)] ⟨rfl, trivial⟩ fun σ => ?_
        refine gret fun w1 hM => ?_
        refine ⟨_, res1 rfl (rt (v := .bool _) rfl), ?_⟩
        first | (exfalso; omega) | exact ⟨by rw [show letterB n = true from decide_eq_true (by omega)], hM.low⟩ | exact ⟨by rw [show letterB n = decide ((n : Int) = 45) from decide_eq_decide.2 (by omega)], hM.low⟩
    · 
      have hg12d := of_decide_eq_false hg12
      refine gop_off rfl rfl rfl rfl hg12 rfl rfl ?_
      refine gop_on rfl rfl rfl rfl rfl ?_
      refine gop (y_bare (y_pick_f (v := .bool _) rfl hg12 rfl)) rfl rfl rfl ?_
      refine gop (y_pick_f (v := .bool _) rfl rfl rfl) rfl rfl rfl ?_
      refine gop (y_move (v := .bool _) rfl) rfl rfl rfl ?_
      refine gop_on rfl rfl rfl rfl rfl ?_
      refine gop (y_bare (y_move (v := .int _ _) rfl)) rfl rfl rfl ?_
      refine gop_on rfl rfl rfl rfl rfl ?_
      refine gop (y_bare (y_geq rfl rfl)) rfl rfl rfl ?_
      refine gop_on rfl rfl rfl rfl rfl ?_
      refine gop (y_bare (y_move (v := .bool _) rfl)) rfl rfl rfl ?_
      refine gop_if (want := true) rfl rfl rfl rfl rfl rfl (fun hg20 => ?_) (fun hg20 => ?_)
      · 
        have hg20d := of_decide_eq_true hg20
        refine gop (y_bare (y_move (v := .int _ _) rfl)) rfl rfl rfl ?_
        refine gop_on rfl rfl rfl rfl hg20 ?_
        refine gop (y_bare (y_leq rfl rfl)) rfl rfl rfl ?_
        refine gop_on rfl rfl rfl rfl rfl ?_
        refine gop (y_bare (y_pick_t (v := .bool _) rfl hg20 rfl)) rfl rfl rfl ?_
        refine gop (y_pick_f (v := .bool _) rfl rfl rfl) rfl rfl rfl ?_
        refine gop (y_move (v := .bool _) rfl) rfl rfl rfl ?_
        refine gop_if (want := false) rfl rfl rfl rfl rfl rfl (fun hg25 => ?_) (fun hg25 => ?_)
        · 
          have hg25d := of_decide_eq_false hg25
          refine gop (y_bare (y_move (v := .int _ _) rfl)) rfl rfl rfl ?_
          refine gop_on rfl rfl rfl rfl hg25 ?_
          refine gop (y_bare (y_eql rfl rfl)) rfl rfl rfl ?_
          refine gop (y_pick_f (v := .bool _) rfl hg25 rfl) rfl rfl rfl ?_
          refine gop (y_move (v := .bool _) rfl) rfl rfl rfl ?_
          refine gop_if (want := false) rfl rfl rfl rfl rfl rfl (fun hg29 => ?_) (fun hg29 => ?_)
          · 
            have hg29d := of_decide_eq_false hg29
            refine gop (y_bare (y_move (v := .int _ _) rfl)) rfl rfl rfl ?_
            refine gop_on rfl rfl rfl rfl hg29 ?_
            refine gop (y_bare (y_eql rfl rfl)) rfl rfl rfl ?_
            refine gop (y_pick_f (v := .bool _) rfl hg29 rfl) rfl rfl rfl ?_
            refine gop (y_move (v := .bool _) rfl) rfl rfl rfl ?_
            refine gop_if (want := false) rfl rfl rfl rfl rfl rfl (fun hg33 => ?_) (fun hg33 => ?_)
            · 
              have hg33d := of_decide_eq_false hg33
              refine gop (y_bare (y_move (v := .int _ _) rfl)) rfl rfl rfl ?_
              refine gop_on rfl rfl rfl rfl hg33 ?_
              refine gop (y_bare (y_eql rfl rfl)) rfl rfl rfl ?_
              refine gop (y_pick_f (v := .bool _) rfl hg33 rfl) rfl rfl rfl ?_
              refine gop (y_assign (v := .bool _) rfl) rfl rfl rfl ?_
              refine gops_nil ?_
              refine hN2 _ _ ?_
              refine gfrom [(2, .bool _)] ⟨rfl, trivial⟩ fun σ => ?_
              refine gret fun w1 hM => ?_
              refine ⟨_, res1 rfl (rt (v := .bool _) rfl), ?_⟩
              first | (exfalso; omega) | exact ⟨by rw [show letterB n = true from decide_eq_true (by omega)], hM.low⟩ | exact ⟨by rw [show letterB n = decide ((n : Int) = 45) from decide_eq_decide.2 (by omega)], hM.low⟩
            · 
              have hg33d := of_decide_eq_true hg33
              refine gop_off rfl rfl rfl rfl hg33 rfl rfl ?_
              refine gop (y_pick_t (v := .bool _) rfl hg33 rfl) rfl rfl rfl ?_
              refine gop (y_assign (v := .bool _) rfl) rfl rfl rfl ?_
              refine gops_nil ?_
              refine hN2 _ _ ?_
              refine gfrom [(2, .bool _)] ⟨rfl, trivial⟩ fun σ => ?_
              refine gret fun w1 hM => ?_
              refine ⟨_, res1 rfl (rt (v := .bool _) rfl), ?_⟩
              first | (exfalso; omega) | exact ⟨by rw [show letterB n = true from decide_eq_true (by omega)], hM.low⟩ | exact ⟨by rw [show letterB n = decide ((n : Int) = 45) from decide_eq_decide.2 (by omega)], hM.low⟩
          · 
            have hg29d := of_decide_eq_true hg29
            refine gop_off rfl rfl rfl rfl hg29 rfl rfl ?_
            refine gop (y_pick_t (v := .bool _) rfl hg29 rfl) rfl rfl rfl ?_
            refine gop (y_move (v := .bool _) rfl) rfl rfl rfl ?_
            refine gop_off rfl rfl rfl rfl rfl rfl rfl ?_
            refine gop_off rfl rfl rfl rfl rfl rfl rfl ?_
            refine gop (y_pick_t (v := .bool _) rfl rfl rfl) rfl rfl rfl ?_
            refine gop (y_assign (v := .bool _) rfl) rfl rfl rfl ?_
            refine gops_nil ?_
            refine hN2 _ _ ?_
            refine gfrom [(2, .bool _)] ⟨rfl, trivial⟩ fun σ => ?_
            refine gret fun w1 hM => ?_
            refine ⟨_, res1 rfl (rt (v := .bool _) rfl), ?_⟩
            first | (exfalso; omega) | exact ⟨by rw [show letterB n = true from decide_eq_true (by omega)], hM.low⟩ | exact ⟨by rw [show letterB n = decide ((n : Int) = 45) from decide_eq_decide.2 (by omega)], hM.low⟩
        · 
          have hg25d := of_decide_eq_true hg25
          refine gop_off rfl rfl rfl rfl hg25 rfl rfl ?_
          refine gop (y_pick_t (v := .bool _) rfl hg25 rfl) rfl rfl rfl ?_
          refine gop (y_move (v := .bool _) rfl) rfl rfl rfl ?_
          refine gop_off rfl rfl rfl rfl rfl rfl rfl ?_
          refine gop_off rfl rfl rfl rfl rfl rfl rfl ?_
          refine gop (y_pick_t (v := .bool _) rfl rfl rfl) rfl rfl rfl ?_
          refine gop (y_move (v := .bool _) rfl) rfl rfl rfl ?_
          refine gop_off rfl rfl rfl rfl rfl rfl rfl ?_
          refine gop_off rfl rfl rfl rfl rfl rfl rfl ?_
          refine gop (y_pick_t (v := .bool _) rfl rfl rfl) rfl rfl rfl ?_
          refine gop (y_assign (v := .bool _) rfl) rfl rfl rfl ?_
          refine gops_nil ?_
          refine hN2 _ _ ?_
          refine gfrom [(2, .bool _)] ⟨rfl, trivial⟩ fun σ => ?_
          refine gret fun w1 hM => ?_
          refine ⟨_, res1 rfl (rt (v := .bool _) rfl), ?_⟩
          first | (exfalso; omega) | exact ⟨by rw [show letterB n = true from decide_eq_true (by omega)], hM.low⟩ | exact ⟨by rw [show letterB n = decide ((n : Int) = 45) from decide_eq_decide.2 (by omega)], hM.low⟩
      · 
        have hg20d := of_decide_eq_false hg20
        refine gop_off rfl rfl rfl rfl hg20 rfl rfl ?_
        refine gop_on rfl rfl rfl rfl rfl ?_
        refine gop (y_bare (y_pick_f (v := .bool _) rfl hg20 rfl)) rfl rfl rfl ?_
        refine gop (y_pick_f (v := .bool _) rfl rfl rfl) rfl rfl rfl ?_
        refine gop (y_move (v := .bool _) rfl) rfl rfl rfl ?_
        refine gop_on rfl rfl rfl rfl rfl ?_
        refine gop (y_bare (y_move (v := .int _ _) rfl)) rfl rfl rfl ?_
        refine gop_on rfl rfl rfl rfl rfl ?_
        refine gop (y_bare (y_eql rfl rfl)) rfl rfl rfl ?_
        refine gop (y_pick_f (v := .bool _) rfl rfl rfl) rfl rfl rfl ?_
        refine gop (y_move (v := .bool _) rfl) rfl rfl rfl ?_
        refine gop_if (want := false) rfl rfl rfl rfl rfl rfl (fun hg29 => ?_) (fun hg29 => ?_)
        · 
          have hg29d := of_decide_eq_false hg29
          refine gop (y_bare (y_move (v := .int _ _) rfl)) rfl rfl rfl ?_
          refine gop_on rfl rfl rfl rfl hg29 ?_
          refine gop (y_bare (y_eql rfl rfl)) rfl rfl rfl ?_
          refine gop (y_pick_f (v := .bool _) rfl hg29 rfl) rfl rfl rfl ?_
          refine gop (y_move (v := .bool _) rfl) rfl rfl rfl ?_
          refine gop_if (want := false) rfl rfl rfl rfl rfl rfl (fun hg33 => ?_) (fun hg33 => ?_)
          · 
            have hg33d := of_decide_eq_false hg33
            refine gop (y_bare (y_move (v := .int _ _) rfl)) rfl rfl rfl ?_
            refine gop_on rfl rfl rfl rfl hg33 ?_
            refine gop (y_bare (y_eql rfl rfl)) rfl rfl rfl ?_
            refine gop (y_pick_f (v := .bool _) rfl hg33 rfl) rfl rfl rfl ?_
            refine gop (y_assign (v := .bool _) rfl) rfl rfl rfl ?_
            refine gops_nil ?_
            refine hN2 _ _ ?_
            refine gfrom [(2, .bool _)] ⟨rfl, trivial⟩ fun σ => ?_
            refine gret fun w1 hM => ?_
            refine ⟨_, res1 rfl (rt (v := .bool _) rfl), ?_⟩
            first | (exfalso; omega) | exact ⟨by rw [show letterB n = true from decide_eq_true (by omega)], hM.low⟩ | exact ⟨by rw [show letterB n = decide ((n : Int) = 45) from decide_eq_decide.2 (by omega)], hM.low⟩
          · 
            have hg33d := of_decide_eq_true hg33
            refine gop_off rfl rfl rfl rfl hg33 rfl rfl ?_
            refine gop (y_pick_t (v := .bool _) rfl hg33 rfl) rfl rfl rfl ?_
            refine gop (y_assign (v := .bool _) rfl) rfl rfl rfl ?_
            refine gops_nil ?_
            refine hN2 _ _ ?_
            refine gfrom [(2, .bool _)] ⟨rfl, trivial⟩ fun σ => ?_
            refine gret fun w1 hM => ?_
            refine ⟨_, res1 rfl (rt (v := .bool _) rfl), ?_⟩
            first | (exfalso; omega) | exact ⟨by rw [show letterB n = true from decide_eq_true (by omega)], hM.low⟩ | exact ⟨by rw [show letterB n = decide ((n : Int) = 45) from decide_eq_decide.2 (by omega)], hM.low⟩
        · 
          have hg29d := of_decide_eq_true hg29
          refine gop_off rfl rfl rfl rfl hg29 rfl rfl ?_
          refine gop (y_pick_t (v := .bool _) rfl hg29 rfl) rfl rfl rfl ?_
          refine gop (y_move (v := .bool _) rfl) rfl rfl rfl ?_
          refine gop_off rfl rfl rfl rfl rfl rfl rfl ?_
          refine gop_off rfl rfl rfl rfl rfl rfl rfl ?_
          refine gop (y_pick_t (v := .bool _) rfl rfl rfl) rfl rfl rfl ?_
          refine gop (y_assign (v := .bool _) rfl) rfl rfl rfl ?_
          refine gops_nil ?_
          refine hN2 _ _ ?_
          refine gfrom [(2, .bool _)] ⟨rfl, trivial⟩ fun σ => ?_
          refine gret fun w1 hM => ?_
          refine ⟨_, res1 rfl (rt (v := .bool _) rfl), ?_⟩
          first | (exfalso; omega) | exact ⟨by rw [show letterB n = true from decide_eq_true (by omega)], hM.low⟩ | exact ⟨by rw [show letterB n = decide ((n : Int) = 45) from decide_eq_decide.2 (by omega)], hM.low⟩
set_option maxHeartbeats 1000000 in
theorem isName_any (w : World) (s : ByteArray) (hs : s.size ≤ 4000000) : Calls Tryz.prog 80 #[.string s] w fun e w' => e = .returned (.bool (nameOk s)) ∧ Below w.heap.size w w' := by
  refine gcalls Tryz.func80 rfl Tryz.ntmps80 (Nat.le_of_ble_eq_true rfl) ?_
  refine gfrom [(0, .string _)] ⟨rfl, trivial⟩ fun σ => ?_
  refine gseq fun N1 hN1 => ?_
  refine greg ?_
  refine gop (y_assign (v := .bool _) rfl) rfl rfl rfl ?_
  refine gops_nil ?_
  refine hN1 _ _ ?_
  refine gfrom [(0, .string _)] ⟨rfl, trivial⟩ fun σ => ?_
  refine gseq fun N2 hN2 => ?_
  refine gseq fun N3 hN3 => ?_
  refine greg ?_
  refine gop (y_assign (v := .int _ _) rfl) rfl rfl rfl ?_
  refine gops_nil ?_
  refine hN3 _ _ ?_
  refine gfrom [(0, .string _), (3, .int _ _)] ⟨rfl, rfl, trivial⟩ fun σ => ?_
  refine gblock ?_
  refine gfrom2 [(3, .int _ _)] [(0, .string _)] ⟨rfl, trivial⟩ ⟨rfl, trivial⟩ fun σ => ?_
  refine gloop2 (G := Nat) (fun k => k ≤ s.size ∧ ∀ j, j < k → letterB (byteAt s j) = true) (fun k => s.size - k) (fun k => [(3, .int .i64 (k : Int))]) (fun k => []) (0) ?h0 ⟨rfl, trivial⟩ ⟨rfl, trivial⟩ rfl ?round
  case h0 => exact ⟨Nat.zero_le _, fun _ h => absurd h (by omega)⟩
  case round =>
    intro k hφ σ
    obtain ⟨hk, hz⟩ := hφ
    refine gseq fun N4 hN4 => ?_
    refine gseq fun N5 hN5 => ?_
    refine greg ?_
    refine gop (y_move (v := .int _ _) rfl) rfl rfl rfl ?_
    refine gop (y_move (v := .string _) rfl) rfl rfl rfl ?_
    refine gop (y_lens Tryz.underlying9 rfl) rfl rfl rfl ?_
    refine gop (y_lss rfl rfl) rfl rfl rfl ?_
    refine gops_nil ?_
    refine hN5 _ _ ?_
    refine gfrom [(0, .string _), (3, .int _ _), (7, .bool _)] ⟨rfl, rfl, rfl, trivial⟩ fun σ => ?_
    refine gcond (b := _) rfl (fun hc7 => ?_) (fun hc7 => ?_)
    · 
      replace hc7 := of_decide_eq_true hc7
      refine gskip ?_
      refine hN4 _ _ ?_
      refine gfrom [(0, .string _), (3, .int _ _)] ⟨rfl, rfl, trivial⟩ fun σ => ?_
      refine gseq fun N6 hN6 => ?_
      refine gblock ?_
      refine gseq fun N7 hN7 => ?_
      refine greg ?_
      refine gop (y_move (v := .string _) rfl) rfl rfl rfl ?_
      refine gop (y_move (v := .int _ _) rfl) rfl rfl rfl ?_
      refine gop (y_stridx (m := k) Tryz.underlying9 rfl rfl (by omega) (by omega) (by omega)) rfl rfl rfl ?_
      refine gop_pure (e_call (vs := [.int _ _]) Tryz.func109 rfl (by kernel_rfl) rfl) (fun w hM => isByte_any w _) rfl rfl rfl ?_
      refine gop (y_not rfl) rfl rfl rfl ?_
      refine gops_nil ?_
      refine hN7 _ _ ?_
      refine gfrom [(0, .string _), (3, .int _ _), (14, .bool _)] ⟨rfl, rfl, rfl, trivial⟩ fun σ => ?_
      refine gcond (b := _) rfl (fun hc14 => ?_) (fun hc14 => ?_)
      · 
        replace hc14 := not_t hc14
        have hB : nameOk s = false := nameOk_bad (k := k) (by omega) hc14
        refine gseq fun N8 hN8 => ?_
        refine greg ?_
        refine gop (y_assign (v := .bool _) rfl) rfl rfl rfl ?_
        refine gops_nil ?_
        refine hN8 _ _ ?_
        refine gfrom [(2, .bool _)] ⟨rfl, trivial⟩ fun σ => ?_
        refine gret fun w1 hM => ?_
        refine ⟨_, res1 rfl (rt (v := .bool _) rfl), ?_⟩
        exact ⟨by rw [hB], hM.low⟩
      · 
        replace hc14 := not_f hc14
        refine gskip ?_
        refine hN6 _ _ ?_
        refine gfrom [(0, .string _), (3, .int _ _)] ⟨rfl, rfl, trivial⟩ fun σ => ?_
        refine greg ?_
        refine gop (y_move (v := .int _ _) rfl) rfl rfl rfl ?_
        refine gop (y_add rfl rfl ⟨by omega, by omega⟩) rfl rfl rfl ?_
        refine gop (y_assign (v := .int _ _) rfl) rfl rfl rfl ?_
        refine gops_nil ?_
        refine gnext2 (k + 1) (by omega) (⟨by omega, fun j hj => by rcases Nat.lt_succ_iff_lt_or_eq.1 hj with h1 | rfl; exact hz j h1; exact hc14⟩) ⟨rfl, trivial⟩ ⟨rfl, trivial⟩ ⟨_, rfl⟩
    · 
      replace hc7 := of_decide_eq_false hc7
      have hN := nameOk_all (s := s) (fun j hj => hz j (by omega))
      refine gexit ?_
      refine hN2 _ _ ?_
      refine gfrom [(0, .string _)] ⟨rfl, trivial⟩ fun σ => ?_
      refine gseq fun N9 hN9 => ?_
      refine greg ?_
      refine gop (y_move (v := .string _) rfl) rfl rfl rfl ?_
      refine gop (y_neqs rfl rfl) rfl rfl rfl ?_
      refine gop (y_move (v := .bool _) rfl) rfl rfl rfl ?_
      refine gop_if (want := true) rfl rfl rfl rfl rfl rfl (fun hg17 => ?_) (fun hg17 => ?_)
      · 
        have hg17d := hg17
        refine gop (y_bare (y_move (v := .string _) rfl)) rfl rfl rfl ?_
        refine gop_on rfl rfl rfl rfl hg17 ?_
        refine gop (y_bare (y_neqs rfl rfl)) rfl rfl rfl ?_
        refine gop (y_pick_t (v := .bool _) rfl hg17 rfl) rfl rfl rfl ?_
        refine gop (y_move (v := .bool _) rfl) rfl rfl rfl ?_
        refine gop_if (want := true) rfl rfl rfl rfl rfl rfl (fun hg21 => ?_) (fun hg21 => ?_)
        · 
          have hg21d := hg21
          refine gop (y_bare (y_move (v := .string _) rfl)) rfl rfl rfl ?_
          refine gop_on rfl rfl rfl rfl hg21 ?_
          refine gop (y_bare (y_neqs rfl rfl)) rfl rfl rfl ?_
          refine gop (y_pick_t (v := .bool _) rfl hg21 rfl) rfl rfl rfl ?_
          refine gop (y_assign (v := .bool _) rfl) rfl rfl rfl ?_
          refine gops_nil ?_
          refine hN9 _ _ ?_
          refine gfrom [(2, .bool _)] ⟨rfl, trivial⟩ fun σ => ?_
          refine gret fun w1 hM => ?_
          refine ⟨_, res1 rfl (rt (v := .bool _) rfl), ?_⟩
          exact ⟨by rw [hN]; unfold strEq; simp_all, hM.low⟩
        · 
          have hg21d := hg21
          refine gop_off rfl rfl rfl rfl hg21 rfl rfl ?_
          refine gop (y_pick_f (v := .bool _) rfl hg21 rfl) rfl rfl rfl ?_
          refine gop (y_assign (v := .bool _) rfl) rfl rfl rfl ?_
          refine gops_nil ?_
          refine hN9 _ _ ?_
          refine gfrom [(2, .bool _)] ⟨rfl, trivial⟩ fun σ => ?_
          refine gret fun w1 hM => ?_
          refine ⟨_, res1 rfl (rt (v := .bool _) rfl), ?_⟩
          exact ⟨by rw [hN]; unfold strEq; simp_all, hM.low⟩
      · 
        have hg17d := hg17
        refine gop_off rfl rfl rfl rfl hg17 rfl rfl ?_
        refine gop (y_pick_f (v := .bool _) rfl hg17 rfl) rfl rfl rfl ?_
        refine gop (y_move (v := .bool _) rfl) rfl rfl rfl ?_
        refine gop_off rfl rfl rfl rfl rfl rfl rfl ?_
        refine gop_off rfl rfl rfl rfl rfl rfl rfl ?_
        refine gop (y_pick_f (v := .bool _) rfl rfl rfl) rfl rfl rfl ?_
        refine gop (y_assign (v := .bool _) rfl) rfl rfl rfl ?_
        refine gops_nil ?_
        refine hN9 _ _ ?_
        refine gfrom [(2, .bool _)] ⟨rfl, trivial⟩ fun σ => ?_
        refine gret fun w1 hM => ?_
        refine ⟨_, res1 rfl (rt (v := .bool _) rfl), ?_⟩
        exact ⟨by rw [hN]; unfold strEq; simp_all, hM.low⟩
set_option maxHeartbeats 2000000 in
theorem cut_any (w : World) (s : ByteArray) (hs : s.size ≤ 4000000) :
    Calls Tryz.prog 79 #[.string s] w fun e w' => ∃ v T', e = .returned v ∧ T' = [rowl strCells w.heap.size 9 1 v (cutS s)] ∧ Mem w T' w' := by
  refine gcalls Tryz.func79 rfl Tryz.ntmps79 (Nat.le_of_ble_eq_true rfl) ?_
  refine gfrom [(0, .string _)] ⟨rfl, trivial⟩ fun σ => ?_
  refine gseq fun N1 hN1 => ?_
  refine greg ?_
  refine gop (y_assign (v := .slice _ _ _) rfl) rfl rfl rfl ?_
  refine gops_nil ?_
  refine hN1 _ _ ?_
  refine gfrom [(0, .string _)] ⟨rfl, trivial⟩ fun σ => ?_
  refine gseq fun N2 hN2 => ?_
  refine greg ?_
  refine gop (y_assign (v := .slice _ _ _) rfl) rfl rfl rfl ?_
  refine gops_nil ?_
  refine hN2 _ _ ?_
  refine gfrom [(0, .string _), (3, .slice _ _ _)] ⟨rfl, rfl, trivial⟩ fun σ => ?_
  refine gseq fun N3 hN3 => ?_
  refine greg ?_
  refine gop (y_assign (v := .int _ _) rfl) rfl rfl rfl ?_
  refine gops_nil ?_
  refine hN3 _ _ ?_
  refine gfrom [(0, .string _), (3, .slice _ _ _), (4, .int _ _)] ⟨rfl, rfl, rfl, trivial⟩ fun σ => ?_
  refine gseq fun N4 hN4 => ?_
  refine gseq fun N5 hN5 => ?_
  refine greg ?_
  refine gop (y_assign (v := .int _ _) rfl) rfl rfl rfl ?_
  refine gops_nil ?_
  refine hN5 _ _ ?_
  refine gfrom [(0, .string _), (3, .slice _ _ _), (4, .int _ _), (5, .int _ _)] ⟨rfl, rfl, rfl, rfl, trivial⟩ fun σ => ?_
  refine gblock ?_
  refine gnilrow strCells 9 1 ?_
  refine gfrom2 [(3, .slice _ _ _), (4, .int _ _), (5, .int _ _)] [(0, .string _)] ⟨rfl, rfl, rfl, trivial⟩ ⟨rfl, trivial⟩ fun σ => ?_
  refine gloop2 (G := Nat × Nat × Option Addr × Nat × List ByteArray) (fun (i, p, Av, cv, l) => i ≤ s.size + 1 ∧ p ≤ i ∧ l.length ≤ i ∧ (∀ j, p ≤ j → j < i → byteAt s j ≠ 47) ∧ (i ≤ s.size → l ++ (splitL ((bsOf s).drop p)).map baOf = cutS s) ∧ (i = s.size + 1 → l = cutS s)) (fun (i, p, Av, cv, l) => s.size + 1 - i) (fun (i, p, Av, cv, l) => [(3, .slice Av l.length cv), (4, .int .i64 (p : Int)), (5, .int .i64 (i : Int))]) (fun (i, p, Av, cv, l) => [(0, rowl strCells w.heap.size 9 1 (.slice Av l.length cv) l)]) ((0, 0, none, 0, [])) ?h0 ⟨rfl, rfl, rfl, trivial⟩ ⟨rfl, trivial⟩ rfl ?round
  case h0 => exact ⟨Nat.zero_le _, Nat.le_refl _, Nat.le_refl _, fun _ _ h => absurd h (by omega), fun _ => rfl, fun h => by simp at h⟩
  case round =>
    rintro ⟨i, p, Av, cv, l⟩ hφ σ
    obtain ⟨hi, hpi, hll, hno, hl1, hl2⟩ := hφ
    refine gT [rowl _ _ _ _ _ _] rfl ?_
    refine gseq fun N6 hN6 => ?_
    refine gseq fun N7 hN7 => ?_
    refine greg ?_
    refine gop (y_move (v := .int _ _) rfl) rfl rfl rfl ?_
    refine gop (y_move (v := .string _) rfl) rfl rfl rfl ?_
    refine gop (y_lens Tryz.underlying9 rfl) rfl rfl rfl ?_
    refine gop (y_leq rfl rfl) rfl rfl rfl ?_
    refine gops_nil ?_
    refine hN7 _ _ ?_
    refine gfrom [(0, .string _), (3, .slice Av _ cv), (4, .int _ _), (5, .int _ _), (9, .bool _)] ⟨rfl, rfl, rfl, rfl, rfl, trivial⟩ fun σ => ?_
    refine gcond (b := _) rfl (fun hc9 => ?_) (fun hc9 => ?_)
    · 
      replace hc9 := of_decide_eq_true hc9
      have hi1 : i ≤ s.size := by omega
      have hlst := hl1 hi1
      refine gskip ?_
      refine hN6 _ _ ?_
      refine gfrom [(0, .string _), (3, .slice Av _ cv), (4, .int _ _), (5, .int _ _)] ⟨rfl, rfl, rfl, rfl, trivial⟩ fun σ => ?_
      refine gseq fun N8 hN8 => ?_
      refine gblock ?_
      refine gseq fun N9 hN9 => ?_
      refine greg ?_
      refine gop (y_move (v := .int _ _) rfl) rfl rfl rfl ?_
      refine gop (y_move (v := .string _) rfl) rfl rfl rfl ?_
      refine gop (y_lens Tryz.underlying9 rfl) rfl rfl rfl ?_
      refine gop (y_eql rfl rfl) rfl rfl rfl ?_
      refine gop (y_move (v := .bool _) rfl) rfl rfl rfl ?_
      refine gop_if (want := false) rfl rfl rfl rfl rfl rfl (fun hg16 => ?_) (fun hg16 => ?_)
      · 
        have hg16d := of_decide_eq_false hg16
        refine gop (y_bare (y_move (v := .string _) rfl)) rfl rfl rfl ?_
        refine gop_on rfl rfl rfl rfl hg16 ?_
        refine gop (y_bare (y_move (v := .int _ _) rfl)) rfl rfl rfl ?_
        refine gop_on rfl rfl rfl rfl hg16 ?_
        refine gop (y_bare (y_stridx (m := i) Tryz.underlying9 rfl rfl (by omega) (by omega) (by omega))) rfl rfl rfl ?_
        refine gop_on rfl rfl rfl rfl hg16 ?_
        refine gop (y_bare (y_eql rfl rfl)) rfl rfl rfl ?_
        refine gop (y_pick_f (v := .bool _) rfl hg16 rfl) rfl rfl rfl ?_
        refine gops_nil ?_
        refine hN9 _ _ ?_
        refine gfrom [(0, .string _), (3, .slice Av _ cv), (4, .int _ _), (5, .int _ _), (21, .bool _)] ⟨rfl, rfl, rfl, rfl, rfl, trivial⟩ fun σ => ?_
        refine gcond (b := _) rfl (fun hc21 => ?_) (fun hc21 => ?_)
        · 
          replace hc21 := of_decide_eq_true hc21
          refine gseq fun N10 hN10 => ?_
          refine greg ?_
          refine gop (y_move (v := .slice Av _ cv) rfl) rfl rfl rfl ?_
          refine gop (y_move (v := .string _) rfl) rfl rfl rfl ?_
          refine gop (y_move (v := .int _ _) rfl) rfl rfl rfl ?_
          refine gop (y_move (v := .int _ _) rfl) rfl rfl rfl ?_
          refine gop (y_strslice Tryz.underlying9 rfl rfl rfl (by omega) (by omega) (by omega)) rfl rfl rfl ?_
          refine gop_lit (vs := [.string _]) (cells := #[_]) Tryz.underlying22 Tryz.sizeOf9 Tryz.zeroValue9 rfl (by decide) (by decide) rfl rfl rfl rfl (fun b27 hb27 => ?_)
          refine gop_append 0 (f := strCells) (l2 := [s.extract p i]) Tryz.underlying22 el9 wide_str (v := .slice Av _ cv) rfl rfl rfl rfl (fun h => by cases h) (by simp [maxLen]; omega) (by simp; omega) (src_box 1 rfl rfl) rfl (fun v28 => ?_)
          refine gops_fact (fun w hM => own_form (hM.own 0 rfl)) ?_
          rintro ⟨A28, c28, rfl, hc28, hm28⟩
          refine gop (y_assign (v := .slice A28 _ c28) rfl) rfl rfl rfl ?_
          refine gops_nil ?_
          refine hN10 _ _ ?_
          refine gT [rowl _ _ _ _ _ _, box b27 _] rfl ?_
          refine gfrom [(0, .string _), (3, .slice A28 _ c28), (5, .int _ _)] ⟨rfl, rfl, rfl, trivial⟩ fun σ => ?_
          refine greg ?_
          refine gop (y_move (v := .int _ _) rfl) rfl rfl rfl ?_
          refine gop (y_add rfl rfl ⟨by omega, by omega⟩) rfl rfl rfl ?_
          refine gop (y_assign (v := .int _ _) rfl) rfl rfl rfl ?_
          refine gops_nil ?_
          refine hN8 _ _ ?_
          refine gfrom [(0, .string _), (3, .slice A28 _ c28), (4, .int _ _), (5, .int _ _)] ⟨rfl, rfl, rfl, rfl, trivial⟩ fun σ => ?_
          refine greg ?_
          refine gop (y_move (v := .int _ _) rfl) rfl rfl rfl ?_
          refine gop (y_add rfl rfl ⟨by omega, by omega⟩) rfl rfl rfl ?_
          refine gop (y_assign (v := .int _ _) rfl) rfl rfl rfl ?_
          refine gops_nil ?_
          refine gnext2 ((i + 1, i + 1, A28, c28, l ++ [s.extract p i])) (by show s.size + 1 - (i + 1) < s.size + 1 - i; omega) (⟨show i + 1 ≤ _ by omega, Nat.le_refl _, by simp; omega, fun j h1 h2 => absurd h1 (by omega), fun _ => by rw [← hlst, cut_next hpi (by omega) (by omega) hno]; simp, fun h => absurd h (by show ¬ i + 1 = _; omega)⟩) ⟨rfl, rfl, rfl, trivial⟩ ⟨rfl, trivial⟩ ⟨_, rfl⟩
        · 
          replace hc21 := of_decide_eq_false hc21
          refine gskip ?_
          refine hN8 _ _ ?_
          refine gfrom [(0, .string _), (3, .slice Av _ cv), (4, .int _ _), (5, .int _ _)] ⟨rfl, rfl, rfl, rfl, trivial⟩ fun σ => ?_
          refine greg ?_
          refine gop (y_move (v := .int _ _) rfl) rfl rfl rfl ?_
          refine gop (y_add rfl rfl ⟨by omega, by omega⟩) rfl rfl rfl ?_
          refine gop (y_assign (v := .int _ _) rfl) rfl rfl rfl ?_
          refine gops_nil ?_
          refine gnext2 ((i + 1, p, Av, cv, l)) (by show s.size + 1 - (i + 1) < s.size + 1 - i; omega) (⟨show i + 1 ≤ _ by omega, by show p ≤ i + 1; omega, by show l.length ≤ i + 1; omega, fun j h1 h2 => by rcases Nat.lt_succ_iff_lt_or_eq.1 h2 with h3 | rfl; exact hno j h1 h3; intro h; exact hc21 (by omega), fun _ => hlst, fun h => absurd h (by show ¬ i + 1 = _; omega)⟩) ⟨rfl, rfl, rfl, trivial⟩ ⟨rfl, trivial⟩ ⟨_, rfl⟩
      · 
        have hg16d := of_decide_eq_true hg16
        refine gop_off rfl rfl rfl rfl hg16 rfl rfl ?_
        refine gop_off rfl rfl rfl rfl hg16 rfl rfl ?_
        refine gop_off rfl rfl rfl rfl hg16 rfl rfl ?_
        refine gop (y_pick_t (v := .bool _) rfl hg16 rfl) rfl rfl rfl ?_
        refine gops_nil ?_
        refine hN9 _ _ ?_
        refine gfrom [(0, .string _), (3, .slice Av _ cv), (4, .int _ _), (5, .int _ _), (21, .bool _)] ⟨rfl, rfl, rfl, rfl, rfl, trivial⟩ fun σ => ?_
        refine gcond (b := _) rfl (fun hc21 => ?_) (fun hc21 => ?_)
        · 
          refine gseq fun N11 hN11 => ?_
          refine greg ?_
          refine gop (y_move (v := .slice Av _ cv) rfl) rfl rfl rfl ?_
          refine gop (y_move (v := .string _) rfl) rfl rfl rfl ?_
          refine gop (y_move (v := .int _ _) rfl) rfl rfl rfl ?_
          refine gop (y_move (v := .int _ _) rfl) rfl rfl rfl ?_
          refine gop (y_strslice Tryz.underlying9 rfl rfl rfl (by omega) (by omega) (by omega)) rfl rfl rfl ?_
          refine gop_lit (vs := [.string _]) (cells := #[_]) Tryz.underlying22 Tryz.sizeOf9 Tryz.zeroValue9 rfl (by decide) (by decide) rfl rfl rfl rfl (fun b27 hb27 => ?_)
          refine gop_append 0 (f := strCells) (l2 := [s.extract p i]) Tryz.underlying22 el9 wide_str (v := .slice Av _ cv) rfl rfl rfl rfl (fun h => by cases h) (by simp [maxLen]; omega) (by simp; omega) (src_box 1 rfl rfl) rfl (fun v28 => ?_)
          refine gops_fact (fun w hM => own_form (hM.own 0 rfl)) ?_
          rintro ⟨A28, c28, rfl, hc28, hm28⟩
          refine gop (y_assign (v := .slice A28 _ c28) rfl) rfl rfl rfl ?_
          refine gops_nil ?_
          refine hN11 _ _ ?_
          refine gT [rowl _ _ _ _ _ _, box b27 _] rfl ?_
          refine gfrom [(0, .string _), (3, .slice A28 _ c28), (5, .int _ _)] ⟨rfl, rfl, rfl, trivial⟩ fun σ => ?_
          refine greg ?_
          refine gop (y_move (v := .int _ _) rfl) rfl rfl rfl ?_
          refine gop (y_add rfl rfl ⟨by omega, by omega⟩) rfl rfl rfl ?_
          refine gop (y_assign (v := .int _ _) rfl) rfl rfl rfl ?_
          refine gops_nil ?_
          refine hN8 _ _ ?_
          refine gfrom [(0, .string _), (3, .slice A28 _ c28), (4, .int _ _), (5, .int _ _)] ⟨rfl, rfl, rfl, rfl, trivial⟩ fun σ => ?_
          refine greg ?_
          refine gop (y_move (v := .int _ _) rfl) rfl rfl rfl ?_
          refine gop (y_add rfl rfl ⟨by omega, by omega⟩) rfl rfl rfl ?_
          refine gop (y_assign (v := .int _ _) rfl) rfl rfl rfl ?_
          refine gops_nil ?_
          refine gnext2 ((i + 1, i + 1, A28, c28, l ++ [s.extract p i])) (by show s.size + 1 - (i + 1) < s.size + 1 - i; omega) (⟨show i + 1 ≤ _ by omega, Nat.le_refl _, by simp; omega, fun j h1 h2 => absurd h1 (by omega), fun h => absurd h (by show ¬ i + 1 ≤ _; omega), fun _ => by rw [← hlst, cut_last (fun j h1 h2 => hno j h1 (by omega)), show i = s.size by omega]⟩) ⟨rfl, rfl, rfl, trivial⟩ ⟨rfl, trivial⟩ ⟨_, rfl⟩
        · 
          cases hc21
    · 
      replace hc9 := of_decide_eq_false hc9
      have hfin := hl2 (by omega)
      refine gexit ?_
      refine hN4 _ _ ?_
      refine gfrom [(3, .slice Av _ cv)] ⟨rfl, trivial⟩ fun σ => ?_
      refine gseq fun N12 hN12 => ?_
      refine greg ?_
      refine gop (y_move (v := .slice Av _ cv) rfl) rfl rfl rfl ?_
      refine gop (y_assign (v := .slice Av _ cv) rfl) rfl rfl rfl ?_
      refine gops_nil ?_
      refine hN12 _ _ ?_
      refine gfrom [(2, .slice Av _ cv)] ⟨rfl, trivial⟩ fun σ => ?_
      refine gret fun w1 hM => ?_
      refine ⟨_, res1 rfl (rt (v := .slice Av _ cv) rfl), ?_⟩
      rw [hfin] at hM
      exact ⟨_, _, by rw [hfin], rfl, hM⟩
set_option maxHeartbeats 1000000 in
theorem isPath_any (w : World) (s : ByteArray) (hs : s.size ≤ 4000000) : Calls Tryz.prog 42 #[.string s] w fun e w' => e = .returned (.bool (pathOk s)) ∧ Below w.heap.size w w' := by
  have hcl := cutS_len s
  refine gcalls Tryz.func42 rfl Tryz.ntmps42 (Nat.le_of_ble_eq_true rfl) ?_
  refine gfrom [(0, .string _)] ⟨rfl, trivial⟩ fun σ => ?_
  refine gseq fun N1 hN1 => ?_
  refine greg ?_
  refine gop (y_assign (v := .bool _) rfl) rfl rfl rfl ?_
  refine gops_nil ?_
  refine hN1 _ _ ?_
  refine gfrom [(0, .string _)] ⟨rfl, trivial⟩ fun σ => ?_
  refine gseq fun N2 hN2 => ?_
  refine greg ?_
  refine gop (y_move (v := .string _) rfl) rfl rfl rfl ?_
  refine gop_got (fun v T' => ∃ lo, w.heap.size ≤ lo ∧ T' = [rowl strCells lo 9 1 v (cutS s)]) (e_call (vs := [.string _]) Tryz.func79 rfl (by kernel_rfl) rfl) (fun w hM => (cut_any w s hs).mono fun _ _ ⟨v, T1, h1, h2, h3⟩ => ⟨v, T1, h1, ⟨_, hM.low.size, h2⟩, h3⟩) rfl rfl rfl ?_
  rintro v6 _ ⟨lo6, hlo6, rfl⟩
  refine gops_fact (fun w hM => row_form (hM.ok _ (List.mem_of_getElem? (i := 0) rfl))) ?_
  rintro ⟨A6, c6, rfl, hc6, hm6, hn6⟩
  refine gop (y_assign (v := .slice A6 _ c6) rfl) rfl rfl rfl ?_
  refine gops_nil ?_
  refine hN2 _ _ ?_
  refine gT [rowl _ _ _ _ _ _] rfl ?_
  refine gfrom [(0, .string _), (3, .slice A6 _ c6)] ⟨rfl, rfl, trivial⟩ fun σ => ?_
  refine gseq fun N3 hN3 => ?_
  refine gseq fun N4 hN4 => ?_
  refine greg ?_
  refine gop (y_assign (v := .int _ _) rfl) rfl rfl rfl ?_
  refine gops_nil ?_
  refine hN4 _ _ ?_
  refine gfrom [(0, .string _), (3, .slice A6 _ c6), (4, .int _ _)] ⟨rfl, rfl, rfl, trivial⟩ fun σ => ?_
  refine gblock ?_
  refine gfrom2 [(4, .int _ _)] [(0, .string _), (3, .slice A6 _ c6)] ⟨rfl, trivial⟩ ⟨rfl, rfl, trivial⟩ fun σ => ?_
  refine gloop2 (G := Nat) (fun k => k ≤ (cutS s).length ∧ ∀ j (h : j < (cutS s).length), j < k → nameOk (cutS s)[j] = true) (fun k => (cutS s).length - k) (fun k => [(4, .int .i64 (k : Int))]) (fun k => []) (0) ?h0 ⟨rfl, trivial⟩ ⟨rfl, rfl, trivial⟩ rfl ?round
  case h0 => exact ⟨Nat.zero_le _, fun _ _ h => absurd h (by omega)⟩
  case round =>
    intro k hφ σ
    obtain ⟨hk, hz⟩ := hφ
    refine gseq fun N5 hN5 => ?_
    refine gseq fun N6 hN6 => ?_
    refine greg ?_
    refine gop (y_move (v := .int _ _) rfl) rfl rfl rfl ?_
    refine gop (y_move (v := .slice A6 _ c6) rfl) rfl rfl rfl ?_
    refine gop (y_len Tryz.underlying22 rfl) rfl rfl rfl ?_
    refine gop (y_lss rfl rfl) rfl rfl rfl ?_
    refine gops_nil ?_
    refine hN6 _ _ ?_
    refine gfrom [(0, .string _), (3, .slice A6 _ c6), (4, .int _ _), (10, .bool _)] ⟨rfl, rfl, rfl, rfl, trivial⟩ fun σ => ?_
    refine gcond (b := _) rfl (fun hc10 => ?_) (fun hc10 => ?_)
    · 
      replace hc10 := of_decide_eq_true hc10
      have hk1 : k < (cutS s).length := by omega
      refine g_fact (fun w hM => own_some (hM.own 0 rfl) (by omega)) ?_
      rintro ⟨rg0, cg0, hvg, -, -⟩
      simp only [Value.slice.injEq] at hvg
      obtain ⟨rfl, -, rfl⟩ := hvg
      refine gskip ?_
      refine hN5 _ _ ?_
      refine gfrom [(0, .string _), (3, .slice (some ⟨rg0, 0, none⟩) _ _), (4, .int _ _)] ⟨rfl, rfl, rfl, trivial⟩ fun σ => ?_
      refine gseq fun N7 hN7 => ?_
      refine gblock ?_
      refine gseq fun N8 hN8 => ?_
      refine greg ?_
      refine gop (y_move (v := .slice (some ⟨rg0, 0, none⟩) _ _) rfl) rfl rfl rfl ?_
      refine gop (y_move (v := .int _ _) rfl) rfl rfl rfl ?_
      refine gop (y_indexAddr Tryz.underlying22 Tryz.sizeOf9 rfl rfl rfl (by omega) (by omega)) rfl rfl rfl ?_
      refine gop (y_load Tryz.isAgg9 rfl (cells_rowl 0 (f := strCells) (l := cutS s) rfl rfl (fun _ => rfl) (List.getElem?_eq_getElem hk1) 0 _ rfl)) rfl rfl rfl ?_
      refine gop_pure (e_call (vs := [.string _]) Tryz.func80 rfl (by kernel_rfl) rfl) (fun w hM => isName_any w _ (cutS_size (List.getElem_mem hk1) hs)) rfl rfl rfl ?_
      refine gop (y_not rfl) rfl rfl rfl ?_
      refine gops_nil ?_
      refine hN8 _ _ ?_
      refine gfrom [(0, .string _), (3, .slice (some ⟨rg0, 0, none⟩) _ _), (4, .int _ _), (18, .bool _)] ⟨rfl, rfl, rfl, rfl, trivial⟩ fun σ => ?_
      refine gcond (b := _) rfl (fun hc18 => ?_) (fun hc18 => ?_)
      · 
        replace hc18 := not_t hc18
        have hB : pathOk s = false := by unfold pathOk; rw [Bool.and_eq_false_iff]; left; rw [List.all_eq_false]; exact ⟨_, List.getElem_mem hk1, by simp [hc18]⟩
        refine gseq fun N9 hN9 => ?_
        refine greg ?_
        refine gop (y_assign (v := .bool _) rfl) rfl rfl rfl ?_
        refine gops_nil ?_
        refine hN9 _ _ ?_
        refine gfrom [(2, .bool _)] ⟨rfl, trivial⟩ fun σ => ?_
        refine gret fun w1 hM => ?_
        refine ⟨_, res1 rfl (rt (v := .bool _) rfl), ?_⟩
        exact ⟨by rw [hB], hM.low⟩
      · 
        replace hc18 := not_f hc18
        refine gskip ?_
        refine hN7 _ _ ?_
        refine gfrom [(0, .string _), (3, .slice (some ⟨rg0, 0, none⟩) _ _), (4, .int _ _)] ⟨rfl, rfl, rfl, trivial⟩ fun σ => ?_
        refine greg ?_
        refine gop (y_move (v := .int _ _) rfl) rfl rfl rfl ?_
        refine gop (y_add rfl rfl ⟨by omega, by omega⟩) rfl rfl rfl ?_
        refine gop (y_assign (v := .int _ _) rfl) rfl rfl rfl ?_
        refine gops_nil ?_
        refine gnext2 (k + 1) (by omega) (⟨by omega, fun j h hj => by rcases Nat.lt_succ_iff_lt_or_eq.1 hj with h1 | rfl; exact hz j h h1; exact hc18⟩) ⟨rfl, trivial⟩ ⟨rfl, rfl, trivial⟩ ⟨_, rfl⟩
    · 
      replace hc10 := of_decide_eq_false hc10
      have hB : pathOk s = decide (s.size ≤ 60) := by unfold pathOk; rw [List.all_eq_true.2 (fun x hx => by obtain ⟨j, hj, rfl⟩ := List.getElem_of_mem hx; exact hz j hj (by omega)), Bool.true_and]
      refine gexit ?_
      refine hN3 _ _ ?_
      refine gfrom [(0, .string _)] ⟨rfl, trivial⟩ fun σ => ?_
      refine gseq fun N10 hN10 => ?_
      refine greg ?_
      refine gop (y_move (v := .string _) rfl) rfl rfl rfl ?_
      refine gop (y_lens Tryz.underlying9 rfl) rfl rfl rfl ?_
      refine gop (y_leq rfl rfl) rfl rfl rfl ?_
      refine gop (y_assign (v := .bool _) rfl) rfl rfl rfl ?_
      refine gops_nil ?_
      refine hN10 _ _ ?_
      refine gfrom [(2, .bool _)] ⟨rfl, trivial⟩ fun σ => ?_
      refine gret fun w1 hM => ?_
      refine ⟨_, res1 rfl (rt (v := .bool _) rfl), ?_⟩
      exact ⟨by rw [hB, show decide ((s.size : Int) ≤ 60) = decide (s.size ≤ 60) from decide_eq_decide.2 (by omega)], hM.low⟩
end Go.Proofs.YtbkameioedmlkaaGreatDoor
namespace Go.Proofs.YtbkameioedmlkaaGreatDoor
open Go.RowKit Go.Cf
set_option maxRecDepth 10000
set_option maxHeartbeats 2000000 in
theorem part_any (w : World) (s : ByteArray) (hs : s.size ≤ 4000000) : Calls Tryz.prog 120 #[.string s] w fun e w' => e = .returned (.int .i64 (partCode s : Nat)) ∧ Below w.heap.size w w' := by
  refine gcalls Tryz.func120 rfl Tryz.ntmps120 (Nat.le_of_ble_eq_true rfl) ?_
  refine gfrom [(0, .string _)] ⟨rfl, trivial⟩ fun σ => ?_
  refine gseq fun N1 hN1 => ?_
  refine greg ?_
  refine gop (y_assign (v := .int _ _) rfl) rfl rfl rfl ?_
  refine gops_nil ?_
  refine hN1 _ _ ?_
  refine gfrom [(0, .string _)] ⟨rfl, trivial⟩ fun σ => ?_
  refine gseq fun N2 hN2 => ?_
  refine gseq fun N3 hN3 => ?_
  refine greg ?_
  refine gop (y_move (v := .string _) rfl) rfl rfl rfl ?_
  refine gop (y_eqls rfl rfl) rfl rfl rfl ?_
  refine gop (y_move (v := .bool _) rfl) rfl rfl rfl ?_
  refine gop_if (want := false) rfl rfl rfl rfl rfl rfl (fun hg7 => ?_) (fun hg7 => ?_)
  · 
    have hg7d := hg7
    refine gop (y_bare (y_move (v := .string _) rfl)) rfl rfl rfl ?_
    refine gop_on rfl rfl rfl rfl hg7 ?_
    refine gop (y_bare (y_eqls rfl rfl)) rfl rfl rfl ?_
    refine gop (y_pick_f (v := .bool _) rfl hg7 rfl) rfl rfl rfl ?_
    refine gop (y_move (v := .bool _) rfl) rfl rfl rfl ?_
    refine gop_if (want := false) rfl rfl rfl rfl rfl rfl (fun hg11 => ?_) (fun hg11 => ?_)
    · 
      have hg11d := hg11
      refine gop (y_bare (y_move (v := .string _) rfl)) rfl rfl rfl ?_
      refine gop_on rfl rfl rfl rfl hg11 ?_
      refine gop (y_bare (y_eqls rfl rfl)) rfl rfl rfl ?_
      refine gop (y_pick_f (v := .bool _) rfl hg11 rfl) rfl rfl rfl ?_
      refine gops_nil ?_
      refine hN3 _ _ ?_
      refine gfrom [(0, .string _), (14, .bool _)] ⟨rfl, rfl, trivial⟩ fun σ => ?_
      refine gcond (b := _) rfl (fun hc14 => ?_) (fun hc14 => ?_)
      · 
        refine gseq fun N4 hN4 => ?_
        refine greg ?_
        refine gop (y_assign (v := .int _ _) rfl) rfl rfl rfl ?_
        refine gops_nil ?_
        refine hN4 _ _ ?_
        refine gfrom [(2, .int _ _)] ⟨rfl, trivial⟩ fun σ => ?_
        refine gret fun w1 hM => ?_
        refine ⟨_, res1 rfl (rt (v := .int _ _) rfl), ?_⟩
        exact ⟨by rw [show partCode s = 12 by simp_all [partCode, dotty, strEq]]; rfl, hM.low⟩
      · 
        refine gskip ?_
        refine hN2 _ _ ?_
        refine gfrom [(0, .string _)] ⟨rfl, trivial⟩ fun σ => ?_
        refine gseq fun N5 hN5 => ?_
        refine gseq fun N6 hN6 => ?_
        refine greg ?_
        refine gop (y_move (v := .string _) rfl) rfl rfl rfl ?_
        refine gop (y_lens Tryz.underlying9 rfl) rfl rfl rfl ?_
        refine gop (y_move (v := .int _ _) rfl) rfl rfl rfl ?_
        refine gops_nil ?_
        refine hN6 _ _ ?_
        refine gfrom [(0, .string _), (16, .int _ _), (17, .int _ _)] ⟨rfl, rfl, rfl, trivial⟩ fun σ => ?_
        refine gblock ?_
        refine gfrom2 [(17, .int _ _)] [(0, .string _), (16, .int _ _)] ⟨rfl, trivial⟩ ⟨rfl, rfl, trivial⟩ fun σ => ?_
        refine gloop2 (G := Nat) (fun k => k ≤ s.size ∧ (strEq s sStars = false → scanP s (s.size - k) = scanP s s.size)) (fun k => s.size - k) (fun k => [(17, .int .i64 (k : Int))]) (fun k => []) (0) ?h0 ⟨rfl, trivial⟩ ⟨rfl, rfl, trivial⟩ rfl ?round
        case h0 => exact ⟨Nat.zero_le _, fun _ => rfl⟩
        case round =>
          intro k hφ σ
          obtain ⟨hk, hz⟩ := hφ
          refine gseq fun N7 hN7 => ?_
          refine greg ?_
          refine gop (y_lss rfl rfl) rfl rfl rfl ?_
          refine gops_nil ?_
          refine hN7 _ _ ?_
          refine gfrom [(0, .string _), (16, .int _ _), (17, .int _ _), (18, .bool _)] ⟨rfl, rfl, rfl, rfl, trivial⟩ fun σ => ?_
          refine gseq fun N8 hN8 => ?_
          refine gcond (b := _) rfl (fun hc18 => ?_) (fun hc18 => ?_)
          · 
            replace hc18 := of_decide_eq_true hc18
            refine gskip ?_
            refine hN8 _ _ ?_
            refine gfrom [(0, .string _), (16, .int _ _), (17, .int _ _)] ⟨rfl, rfl, rfl, trivial⟩ fun σ => ?_
            refine gseq fun N9 hN9 => ?_
            refine gblock ?_
            refine gseq fun N10 hN10 => ?_
            refine greg ?_
            refine gop (y_move (v := .int _ _) rfl) rfl rfl rfl ?_
            refine gop (y_assign (v := .int _ _) rfl) rfl rfl rfl ?_
            refine gops_nil ?_
            refine hN10 _ _ ?_
            refine gfrom [(0, .string _), (3, .int _ _), (16, .int _ _), (17, .int _ _)] ⟨rfl, rfl, rfl, rfl, trivial⟩ fun σ => ?_
            refine gseq fun N11 hN11 => ?_
            refine greg ?_
            refine gop (y_move (v := .string _) rfl) rfl rfl rfl ?_
            refine gop (y_move (v := .int _ _) rfl) rfl rfl rfl ?_
            refine gop (y_stridx (m := k) Tryz.underlying9 rfl rfl (by omega) (by omega) (by omega)) rfl rfl rfl ?_
            refine gop (y_assign (v := .int _ _) rfl) rfl rfl rfl ?_
            refine gops_nil ?_
            refine hN11 _ _ ?_
            refine gfrom [(0, .string _), (3, .int _ _), (4, .int _ _), (16, .int _ _), (17, .int _ _)] ⟨rfl, rfl, rfl, rfl, rfl, trivial⟩ fun σ => ?_
            refine gblock ?_
            refine gseq fun N12 hN12 => ?_
            refine greg ?_
            refine gop (y_move (v := .string _) rfl) rfl rfl rfl ?_
            refine gop (y_eqls rfl rfl) rfl rfl rfl ?_
            refine gop (y_assign (v := .bool _) rfl) rfl rfl rfl ?_
            refine gops_nil ?_
            refine hN12 _ _ ?_
            refine gfrom [(0, .string _), (3, .int _ _), (4, .int _ _), (16, .int _ _), (17, .int _ _), (23, .bool _)] ⟨rfl, rfl, rfl, rfl, rfl, rfl, trivial⟩ fun σ => ?_
            refine gcond (b := _) rfl (fun hc23 => ?_) (fun hc23 => ?_)
            · 
              refine gskip ?_
              refine hN9 _ _ ?_
              refine gfrom [(0, .string _), (16, .int _ _), (17, .int _ _)] ⟨rfl, rfl, rfl, trivial⟩ fun σ => ?_
              refine greg ?_
              refine gop (y_add rfl rfl ⟨by omega, by omega⟩) rfl rfl rfl ?_
              refine gop (y_move (v := .int _ _) rfl) rfl rfl rfl ?_
              refine gops_nil ?_
              refine gnext2 (k + 1) (by omega) (⟨by omega, fun hss => by first | exact (scanP_step (by omega) (by simp [wildBad]; omega) (by first | (simp [charBad]; omega) | simp_all [charBad])).trans (hz hss) | (exfalso; simp_all [strEq]; done)⟩) ⟨rfl, trivial⟩ ⟨rfl, rfl, trivial⟩ ⟨_, rfl⟩
            · 
              refine gseq fun N13 hN13 => ?_
              refine greg ?_
              refine gop (y_move (v := .int _ _) rfl) rfl rfl rfl ?_
              refine gop (y_eql rfl rfl) rfl rfl rfl ?_
              refine gop (y_move (v := .bool _) rfl) rfl rfl rfl ?_
              refine gop_if (want := true) rfl rfl rfl rfl rfl rfl (fun hg29 => ?_) (fun hg29 => ?_)
              · 
                have hg29d := of_decide_eq_true hg29
                refine gop (y_bare (y_move (v := .int _ _) rfl)) rfl rfl rfl ?_
                refine gop_on rfl rfl rfl rfl hg29 ?_
                refine gop (y_bare (y_gtr rfl rfl)) rfl rfl rfl ?_
                refine gop (y_pick_t (v := .bool _) rfl hg29 rfl) rfl rfl rfl ?_
                refine gop (y_move (v := .bool _) rfl) rfl rfl rfl ?_
                refine gop_if (want := true) rfl rfl rfl rfl rfl rfl (fun hg33 => ?_) (fun hg33 => ?_)
                · 
                  have hg33d := of_decide_eq_true hg33
                  refine gop (y_bare (y_move (v := .string _) rfl)) rfl rfl rfl ?_
                  refine gop_on rfl rfl rfl rfl hg33 ?_
                  refine gop (y_bare (y_move (v := .int _ _) rfl)) rfl rfl rfl ?_
                  refine gop_on rfl rfl rfl rfl hg33 ?_
                  refine gop (y_bare (y_sub rfl rfl ⟨by omega, by omega⟩)) rfl rfl rfl ?_
                  refine gop_on rfl rfl rfl rfl hg33 ?_
                  refine gop (y_bare (y_stridx (m := k - 1) Tryz.underlying9 rfl rfl (by omega) (by omega) (by omega))) rfl rfl rfl ?_
                  refine gop_on rfl rfl rfl rfl hg33 ?_
                  refine gop (y_bare (y_eql rfl rfl)) rfl rfl rfl ?_
                  refine gop (y_pick_t (v := .bool _) rfl hg33 rfl) rfl rfl rfl ?_
                  refine gop (y_assign (v := .bool _) rfl) rfl rfl rfl ?_
                  refine gops_nil ?_
                  refine hN13 _ _ ?_
                  refine gfrom [(0, .string _), (4, .int _ _), (16, .int _ _), (17, .int _ _), (26, .bool _)] ⟨rfl, rfl, rfl, rfl, rfl, trivial⟩ fun σ => ?_
                  refine gcond (b := _) rfl (fun hc26 => ?_) (fun hc26 => ?_)
                  · 
                    replace hc26 := of_decide_eq_true hc26
                    refine gseq fun N14 hN14 => ?_
                    refine greg ?_
                    refine gop (y_assign (v := .int _ _) rfl) rfl rfl rfl ?_
                    refine gops_nil ?_
                    refine hN14 _ _ ?_
                    refine gfrom [(2, .int _ _)] ⟨rfl, trivial⟩ fun σ => ?_
                    refine gret fun w1 hM => ?_
                    refine ⟨_, res1 rfl (rt (v := .int _ _) rfl), ?_⟩
                    have hss : strEq s sStars = false := by simp_all [strEq]
                    exact ⟨by rw [show partCode s = 1 by rw [← scanP_wild (s := s) (k := k) (by omega) (by simp [wildBad]; omega), hz hss]; simp_all [partCode, dotty, strEq]]; rfl, hM.low⟩
                  · 
                    replace hc26 := of_decide_eq_false hc26
                    refine gseq fun N15 hN15 => ?_
                    refine greg ?_
                    refine gop (y_move (v := .int _ _) rfl) rfl rfl rfl ?_
                    refine gop (y_neq rfl rfl) rfl rfl rfl ?_
                    refine gop (y_move (v := .bool _) rfl) rfl rfl rfl ?_
                    refine gop_if (want := true) rfl rfl rfl rfl rfl rfl (fun hg43 => ?_) (fun hg43 => ?_)
                    · 
                      have hg43d := of_decide_eq_true hg43
                      refine gop (y_bare (y_move (v := .int _ _) rfl)) rfl rfl rfl ?_
                      refine gop_on rfl rfl rfl rfl hg43 ?_
                      refine gop (y_bare (y_neq rfl rfl)) rfl rfl rfl ?_
                      refine gop (y_pick_t (v := .bool _) rfl hg43 rfl) rfl rfl rfl ?_
                      refine gop (y_move (v := .bool _) rfl) rfl rfl rfl ?_
                      refine gop_if (want := true) rfl rfl rfl rfl rfl rfl (fun hg47 => ?_) (fun hg47 => ?_)
                      · 
                        have hg47d := of_decide_eq_true hg47
                        refine gop (y_bare (y_move (v := .int _ _) rfl)) rfl rfl rfl ?_
                        refine gop_on rfl rfl rfl rfl hg47 ?_
                        refine gop_pure (e_call (vs := [.int _ _]) Tryz.func82 rfl (by kernel_rfl) rfl) (fun w hM => letter_any w _) rfl rfl rfl ?_
                        refine gop_on rfl rfl rfl rfl hg47 ?_
                        refine gop (y_bare (y_not rfl)) rfl rfl rfl ?_
                        refine gop (y_pick_t (v := .bool _) rfl hg47 rfl) rfl rfl rfl ?_
                        refine gop (y_assign (v := .bool _) rfl) rfl rfl rfl ?_
                        refine gops_nil ?_
                        refine hN15 _ _ ?_
                        refine gfrom [(0, .string _), (16, .int _ _), (17, .int _ _), (40, .bool _)] ⟨rfl, rfl, rfl, rfl, trivial⟩ fun σ => ?_
                        refine gcond (b := _) rfl (fun hc40 => ?_) (fun hc40 => ?_)
                        · 
                          replace hc40 := not_t hc40
                          refine gseq fun N16 hN16 => ?_
                          refine greg ?_
                          refine gop (y_assign (v := .int _ _) rfl) rfl rfl rfl ?_
                          refine gops_nil ?_
                          refine hN16 _ _ ?_
                          refine gfrom [(2, .int _ _)] ⟨rfl, trivial⟩ fun σ => ?_
                          refine gret fun w1 hM => ?_
                          refine ⟨_, res1 rfl (rt (v := .int _ _) rfl), ?_⟩
                          have hss : strEq s sStars = false := by simp_all [strEq]
                          exact ⟨by rw [show partCode s = 12 by rw [← scanP_char (s := s) (k := k) (by omega) (by simp [wildBad]; omega) (by first | (simp_all [charBad]; done) | (simp_all [charBad]; omega)), hz hss]; simp_all [partCode, dotty, strEq]]; rfl, hM.low⟩
                        · 
                          replace hc40 := not_f hc40
                          refine gskip ?_
                          refine hN9 _ _ ?_
                          refine gfrom [(0, .string _), (16, .int _ _), (17, .int _ _)] ⟨rfl, rfl, rfl, trivial⟩ fun σ => ?_
                          refine greg ?_
                          refine gop (y_add rfl rfl ⟨by omega, by omega⟩) rfl rfl rfl ?_
                          refine gop (y_move (v := .int _ _) rfl) rfl rfl rfl ?_
                          refine gops_nil ?_
                          refine gnext2 (k + 1) (by omega) (⟨by omega, fun hss => by first | exact (scanP_step (by omega) (by simp [wildBad]; omega) (by first | (simp [charBad]; omega) | simp_all [charBad])).trans (hz hss) | (exfalso; simp_all [strEq]; done)⟩) ⟨rfl, trivial⟩ ⟨rfl, rfl, trivial⟩ ⟨_, rfl⟩
                      · 
                        have hg47d := Decidable.not_not.1 (of_decide_eq_false hg47)
                        refine gop_off rfl rfl rfl rfl hg47 rfl rfl ?_
                        refine gop_off rfl rfl rfl rfl hg47 rfl rfl ?_
                        refine gop (y_pick_f (v := .bool _) rfl hg47 rfl) rfl rfl rfl ?_
                        refine gop (y_assign (v := .bool _) rfl) rfl rfl rfl ?_
                        refine gops_nil ?_
                        refine hN15 _ _ ?_
                        refine gfrom [(0, .string _), (16, .int _ _), (17, .int _ _), (40, .bool _)] ⟨rfl, rfl, rfl, rfl, trivial⟩ fun σ => ?_
                        refine gcond (b := _) rfl (fun hc40 => ?_) (fun hc40 => ?_)
                        · 
                          cases hc40
                        · 
                          refine gskip ?_
                          refine hN9 _ _ ?_
                          refine gfrom [(0, .string _), (16, .int _ _), (17, .int _ _)] ⟨rfl, rfl, rfl, trivial⟩ fun σ => ?_
                          refine greg ?_
                          refine gop (y_add rfl rfl ⟨by omega, by omega⟩) rfl rfl rfl ?_
                          refine gop (y_move (v := .int _ _) rfl) rfl rfl rfl ?_
                          refine gops_nil ?_
                          refine gnext2 (k + 1) (by omega) (⟨by omega, fun hss => by first | exact (scanP_step (by omega) (by simp [wildBad]; omega) (by first | (simp [charBad]; omega) | simp_all [charBad])).trans (hz hss) | (exfalso; simp_all [strEq]; done)⟩) ⟨rfl, trivial⟩ ⟨rfl, rfl, trivial⟩ ⟨_, rfl⟩
                    · 
                      have hg43d := Decidable.not_not.1 (of_decide_eq_false hg43)
                      refine gop_off rfl rfl rfl rfl hg43 rfl rfl ?_
                      refine gop (y_pick_f (v := .bool _) rfl hg43 rfl) rfl rfl rfl ?_
                      refine gop (y_move (v := .bool _) rfl) rfl rfl rfl ?_
                      refine gop_off rfl rfl rfl rfl rfl rfl rfl ?_
                      refine gop_off rfl rfl rfl rfl rfl rfl rfl ?_
                      refine gop_off rfl rfl rfl rfl rfl rfl rfl ?_
                      refine gop (y_pick_f (v := .bool _) rfl rfl rfl) rfl rfl rfl ?_
                      refine gop (y_assign (v := .bool _) rfl) rfl rfl rfl ?_
                      refine gops_nil ?_
                      refine hN15 _ _ ?_
                      refine gfrom [(0, .string _), (16, .int _ _), (17, .int _ _), (40, .bool _)] ⟨rfl, rfl, rfl, rfl, trivial⟩ fun σ => ?_
                      refine gcond (b := _) rfl (fun hc40 => ?_) (fun hc40 => ?_)
                      · 
                        cases hc40
                      · 
                        refine gskip ?_
                        refine hN9 _ _ ?_
                        refine gfrom [(0, .string _), (16, .int _ _), (17, .int _ _)] ⟨rfl, rfl, rfl, trivial⟩ fun σ => ?_
                        refine greg ?_
                        refine gop (y_add rfl rfl ⟨by omega, by omega⟩) rfl rfl rfl ?_
                        refine gop (y_move (v := .int _ _) rfl) rfl rfl rfl ?_
                        refine gops_nil ?_
                        refine gnext2 (k + 1) (by omega) (⟨by omega, fun hss => by first | exact (scanP_step (by omega) (by simp [wildBad]; omega) (by first | (simp [charBad]; omega) | simp_all [charBad])).trans (hz hss) | (exfalso; simp_all [strEq]; done)⟩) ⟨rfl, trivial⟩ ⟨rfl, rfl, trivial⟩ ⟨_, rfl⟩
                · 
                  have hg33d := of_decide_eq_false hg33
                  refine gop_off rfl rfl rfl rfl hg33 rfl rfl ?_
                  refine gop_off rfl rfl rfl rfl hg33 rfl rfl ?_
                  refine gop_off rfl rfl rfl rfl hg33 rfl rfl ?_
                  refine gop_off rfl rfl rfl rfl hg33 rfl rfl ?_
                  refine gop (y_pick_f (v := .bool _) rfl hg33 rfl) rfl rfl rfl ?_
                  refine gop (y_assign (v := .bool _) rfl) rfl rfl rfl ?_
                  refine gops_nil ?_
                  refine hN13 _ _ ?_
                  refine gfrom [(0, .string _), (4, .int _ _), (16, .int _ _), (17, .int _ _), (26, .bool _)] ⟨rfl, rfl, rfl, rfl, rfl, trivial⟩ fun σ => ?_
                  refine gcond (b := _) rfl (fun hc26 => ?_) (fun hc26 => ?_)
                  · 
                    cases hc26
                  · 
                    refine gseq fun N17 hN17 => ?_
                    refine greg ?_
                    refine gop (y_move (v := .int _ _) rfl) rfl rfl rfl ?_
                    refine gop (y_neq rfl rfl) rfl rfl rfl ?_
                    refine gop (y_move (v := .bool _) rfl) rfl rfl rfl ?_
                    refine gop_if (want := true) rfl rfl rfl rfl rfl rfl (fun hg43 => ?_) (fun hg43 => ?_)
                    · 
                      have hg43d := of_decide_eq_true hg43
                      refine gop (y_bare (y_move (v := .int _ _) rfl)) rfl rfl rfl ?_
                      refine gop_on rfl rfl rfl rfl hg43 ?_
                      refine gop (y_bare (y_neq rfl rfl)) rfl rfl rfl ?_
                      refine gop (y_pick_t (v := .bool _) rfl hg43 rfl) rfl rfl rfl ?_
                      refine gop (y_move (v := .bool _) rfl) rfl rfl rfl ?_
                      refine gop_if (want := true) rfl rfl rfl rfl rfl rfl (fun hg47 => ?_) (fun hg47 => ?_)
                      · 
                        have hg47d := of_decide_eq_true hg47
                        refine gop (y_bare (y_move (v := .int _ _) rfl)) rfl rfl rfl ?_
                        refine gop_on rfl rfl rfl rfl hg47 ?_
                        refine gop_pure (e_call (vs := [.int _ _]) Tryz.func82 rfl (by kernel_rfl) rfl) (fun w hM => letter_any w _) rfl rfl rfl ?_
                        refine gop_on rfl rfl rfl rfl hg47 ?_
                        refine gop (y_bare (y_not rfl)) rfl rfl rfl ?_
                        refine gop (y_pick_t (v := .bool _) rfl hg47 rfl) rfl rfl rfl ?_
                        refine gop (y_assign (v := .bool _) rfl) rfl rfl rfl ?_
                        refine gops_nil ?_
                        refine hN17 _ _ ?_
                        refine gfrom [(0, .string _), (16, .int _ _), (17, .int _ _), (40, .bool _)] ⟨rfl, rfl, rfl, rfl, trivial⟩ fun σ => ?_
                        refine gcond (b := _) rfl (fun hc40 => ?_) (fun hc40 => ?_)
                        · 
                          replace hc40 := not_t hc40
                          refine gseq fun N18 hN18 => ?_
                          refine greg ?_
                          refine gop (y_assign (v := .int _ _) rfl) rfl rfl rfl ?_
                          refine gops_nil ?_
                          refine hN18 _ _ ?_
                          refine gfrom [(2, .int _ _)] ⟨rfl, trivial⟩ fun σ => ?_
                          refine gret fun w1 hM => ?_
                          refine ⟨_, res1 rfl (rt (v := .int _ _) rfl), ?_⟩
                          have hss : strEq s sStars = false := by simp_all [strEq]
                          exact ⟨by rw [show partCode s = 12 by rw [← scanP_char (s := s) (k := k) (by omega) (by simp [wildBad]; omega) (by first | (simp_all [charBad]; done) | (simp_all [charBad]; omega)), hz hss]; simp_all [partCode, dotty, strEq]]; rfl, hM.low⟩
                        · 
                          replace hc40 := not_f hc40
                          refine gskip ?_
                          refine hN9 _ _ ?_
                          refine gfrom [(0, .string _), (16, .int _ _), (17, .int _ _)] ⟨rfl, rfl, rfl, trivial⟩ fun σ => ?_
                          refine greg ?_
                          refine gop (y_add rfl rfl ⟨by omega, by omega⟩) rfl rfl rfl ?_
                          refine gop (y_move (v := .int _ _) rfl) rfl rfl rfl ?_
                          refine gops_nil ?_
                          refine gnext2 (k + 1) (by omega) (⟨by omega, fun hss => by first | exact (scanP_step (by omega) (by simp [wildBad]; omega) (by first | (simp [charBad]; omega) | simp_all [charBad])).trans (hz hss) | (exfalso; simp_all [strEq]; done)⟩) ⟨rfl, trivial⟩ ⟨rfl, rfl, trivial⟩ ⟨_, rfl⟩
                      · 
                        have hg47d := Decidable.not_not.1 (of_decide_eq_false hg47)
                        refine gop_off rfl rfl rfl rfl hg47 rfl rfl ?_
                        refine gop_off rfl rfl rfl rfl hg47 rfl rfl ?_
                        refine gop (y_pick_f (v := .bool _) rfl hg47 rfl) rfl rfl rfl ?_
                        refine gop (y_assign (v := .bool _) rfl) rfl rfl rfl ?_
                        refine gops_nil ?_
                        refine hN17 _ _ ?_
                        refine gfrom [(0, .string _), (16, .int _ _), (17, .int _ _), (40, .bool _)] ⟨rfl, rfl, rfl, rfl, trivial⟩ fun σ => ?_
                        refine gcond (b := _) rfl (fun hc40 => ?_) (fun hc40 => ?_)
                        · 
                          cases hc40
                        · 
                          refine gskip ?_
                          refine hN9 _ _ ?_
                          refine gfrom [(0, .string _), (16, .int _ _), (17, .int _ _)] ⟨rfl, rfl, rfl, trivial⟩ fun σ => ?_
                          refine greg ?_
                          refine gop (y_add rfl rfl ⟨by omega, by omega⟩) rfl rfl rfl ?_
                          refine gop (y_move (v := .int _ _) rfl) rfl rfl rfl ?_
                          refine gops_nil ?_
                          refine gnext2 (k + 1) (by omega) (⟨by omega, fun hss => by first | exact (scanP_step (by omega) (by simp [wildBad]; omega) (by first | (simp [charBad]; omega) | simp_all [charBad])).trans (hz hss) | (exfalso; simp_all [strEq]; done)⟩) ⟨rfl, trivial⟩ ⟨rfl, rfl, trivial⟩ ⟨_, rfl⟩
                    · 
                      have hg43d := Decidable.not_not.1 (of_decide_eq_false hg43)
                      refine gop_off rfl rfl rfl rfl hg43 rfl rfl ?_
                      refine gop (y_pick_f (v := .bool _) rfl hg43 rfl) rfl rfl rfl ?_
                      refine gop (y_move (v := .bool _) rfl) rfl rfl rfl ?_
                      refine gop_off rfl rfl rfl rfl rfl rfl rfl ?_
                      refine gop_off rfl rfl rfl rfl rfl rfl rfl ?_
                      refine gop_off rfl rfl rfl rfl rfl rfl rfl ?_
                      refine gop (y_pick_f (v := .bool _) rfl rfl rfl) rfl rfl rfl ?_
                      refine gop (y_assign (v := .bool _) rfl) rfl rfl rfl ?_
                      refine gops_nil ?_
                      refine hN17 _ _ ?_
                      refine gfrom [(0, .string _), (16, .int _ _), (17, .int _ _), (40, .bool _)] ⟨rfl, rfl, rfl, rfl, trivial⟩ fun σ => ?_
                      refine gcond (b := _) rfl (fun hc40 => ?_) (fun hc40 => ?_)
                      · 
                        cases hc40
                      · 
                        refine gskip ?_
                        refine hN9 _ _ ?_
                        refine gfrom [(0, .string _), (16, .int _ _), (17, .int _ _)] ⟨rfl, rfl, rfl, trivial⟩ fun σ => ?_
                        refine greg ?_
                        refine gop (y_add rfl rfl ⟨by omega, by omega⟩) rfl rfl rfl ?_
                        refine gop (y_move (v := .int _ _) rfl) rfl rfl rfl ?_
                        refine gops_nil ?_
                        refine gnext2 (k + 1) (by omega) (⟨by omega, fun hss => by first | exact (scanP_step (by omega) (by simp [wildBad]; omega) (by first | (simp [charBad]; omega) | simp_all [charBad])).trans (hz hss) | (exfalso; simp_all [strEq]; done)⟩) ⟨rfl, trivial⟩ ⟨rfl, rfl, trivial⟩ ⟨_, rfl⟩
              · 
                have hg29d := of_decide_eq_false hg29
                refine gop_off rfl rfl rfl rfl hg29 rfl rfl ?_
                refine gop (y_pick_f (v := .bool _) rfl hg29 rfl) rfl rfl rfl ?_
                refine gop (y_move (v := .bool _) rfl) rfl rfl rfl ?_
                refine gop_off rfl rfl rfl rfl rfl rfl rfl ?_
                refine gop_off rfl rfl rfl rfl rfl rfl rfl ?_
                refine gop_off rfl rfl rfl rfl rfl rfl rfl ?_
                refine gop_off rfl rfl rfl rfl rfl rfl rfl ?_
                refine gop_off rfl rfl rfl rfl rfl rfl rfl ?_
                refine gop (y_pick_f (v := .bool _) rfl rfl rfl) rfl rfl rfl ?_
                refine gop (y_assign (v := .bool _) rfl) rfl rfl rfl ?_
                refine gops_nil ?_
                refine hN13 _ _ ?_
                refine gfrom [(0, .string _), (4, .int _ _), (16, .int _ _), (17, .int _ _), (26, .bool _)] ⟨rfl, rfl, rfl, rfl, rfl, trivial⟩ fun σ => ?_
                refine gcond (b := _) rfl (fun hc26 => ?_) (fun hc26 => ?_)
                · 
                  cases hc26
                · 
                  refine gseq fun N19 hN19 => ?_
                  refine greg ?_
                  refine gop (y_move (v := .int _ _) rfl) rfl rfl rfl ?_
                  refine gop (y_neq rfl rfl) rfl rfl rfl ?_
                  refine gop (y_move (v := .bool _) rfl) rfl rfl rfl ?_
                  refine gop_if (want := true) rfl rfl rfl rfl rfl rfl (fun hg43 => ?_) (fun hg43 => ?_)
                  · 
                    have hg43d := of_decide_eq_true hg43
                    refine gop (y_bare (y_move (v := .int _ _) rfl)) rfl rfl rfl ?_
                    refine gop_on rfl rfl rfl rfl hg43 ?_
                    refine gop (y_bare (y_neq rfl rfl)) rfl rfl rfl ?_
                    refine gop (y_pick_t (v := .bool _) rfl hg43 rfl) rfl rfl rfl ?_
                    refine gop (y_move (v := .bool _) rfl) rfl rfl rfl ?_
                    refine gop_if (want := true) rfl rfl rfl rfl rfl rfl (fun hg47 => ?_) (fun hg47 => ?_)
                    · 
                      have hg47d := of_decide_eq_true hg47
                      refine gop (y_bare (y_move (v := .int _ _) rfl)) rfl rfl rfl ?_
                      refine gop_on rfl rfl rfl rfl hg47 ?_
                      refine gop_pure (e_call (vs := [.int _ _]) Tryz.func82 rfl (by kernel_rfl) rfl) (fun w hM => letter_any w _) rfl rfl rfl ?_
                      refine gop_on rfl rfl rfl rfl hg47 ?_
                      refine gop (y_bare (y_not rfl)) rfl rfl rfl ?_
                      refine gop (y_pick_t (v := .bool _) rfl hg47 rfl) rfl rfl rfl ?_
                      refine gop (y_assign (v := .bool _) rfl) rfl rfl rfl ?_
                      refine gops_nil ?_
                      refine hN19 _ _ ?_
                      refine gfrom [(0, .string _), (16, .int _ _), (17, .int _ _), (40, .bool _)] ⟨rfl, rfl, rfl, rfl, trivial⟩ fun σ => ?_
                      refine gcond (b := _) rfl (fun hc40 => ?_) (fun hc40 => ?_)
                      · 
                        replace hc40 := not_t hc40
                        refine gseq fun N20 hN20 => ?_
                        refine greg ?_
                        refine gop (y_assign (v := .int _ _) rfl) rfl rfl rfl ?_
                        refine gops_nil ?_
                        refine hN20 _ _ ?_
                        refine gfrom [(2, .int _ _)] ⟨rfl, trivial⟩ fun σ => ?_
                        refine gret fun w1 hM => ?_
                        refine ⟨_, res1 rfl (rt (v := .int _ _) rfl), ?_⟩
                        have hss : strEq s sStars = false := by simp_all [strEq]
                        exact ⟨by rw [show partCode s = 12 by rw [← scanP_char (s := s) (k := k) (by omega) (by simp [wildBad]; omega) (by first | (simp_all [charBad]; done) | (simp_all [charBad]; omega)), hz hss]; simp_all [partCode, dotty, strEq]]; rfl, hM.low⟩
                      · 
                        replace hc40 := not_f hc40
                        refine gskip ?_
                        refine hN9 _ _ ?_
                        refine gfrom [(0, .string _), (16, .int _ _), (17, .int _ _)] ⟨rfl, rfl, rfl, trivial⟩ fun σ => ?_
                        refine greg ?_
                        refine gop (y_add rfl rfl ⟨by omega, by omega⟩) rfl rfl rfl ?_
                        refine gop (y_move (v := .int _ _) rfl) rfl rfl rfl ?_
                        refine gops_nil ?_
                        refine gnext2 (k + 1) (by omega) (⟨by omega, fun hss => by first | exact (scanP_step (by omega) (by simp [wildBad]; omega) (by first | (simp [charBad]; omega) | simp_all [charBad])).trans (hz hss) | (exfalso; simp_all [strEq]; done)⟩) ⟨rfl, trivial⟩ ⟨rfl, rfl, trivial⟩ ⟨_, rfl⟩
                    · 
                      have hg47d := Decidable.not_not.1 (of_decide_eq_false hg47)
                      refine gop_off rfl rfl rfl rfl hg47 rfl rfl ?_
                      refine gop_off rfl rfl rfl rfl hg47 rfl rfl ?_
                      refine gop (y_pick_f (v := .bool _) rfl hg47 rfl) rfl rfl rfl ?_
                      refine gop (y_assign (v := .bool _) rfl) rfl rfl rfl ?_
                      refine gops_nil ?_
                      refine hN19 _ _ ?_
                      refine gfrom [(0, .string _), (16, .int _ _), (17, .int _ _), (40, .bool _)] ⟨rfl, rfl, rfl, rfl, trivial⟩ fun σ => ?_
                      refine gcond (b := _) rfl (fun hc40 => ?_) (fun hc40 => ?_)
                      · 
                        cases hc40
                      · 
                        refine gskip ?_
                        refine hN9 _ _ ?_
                        refine gfrom [(0, .string _), (16, .int _ _), (17, .int _ _)] ⟨rfl, rfl, rfl, trivial⟩ fun σ => ?_
                        refine greg ?_
                        refine gop (y_add rfl rfl ⟨by omega, by omega⟩) rfl rfl rfl ?_
                        refine gop (y_move (v := .int _ _) rfl) rfl rfl rfl ?_
                        refine gops_nil ?_
                        refine gnext2 (k + 1) (by omega) (⟨by omega, fun hss => by first | exact (scanP_step (by omega) (by simp [wildBad]; omega) (by first | (simp [charBad]; omega) | simp_all [charBad])).trans (hz hss) | (exfalso; simp_all [strEq]; done)⟩) ⟨rfl, trivial⟩ ⟨rfl, rfl, trivial⟩ ⟨_, rfl⟩
                  · 
                    have hg43d := Decidable.not_not.1 (of_decide_eq_false hg43)
                    refine gop_off rfl rfl rfl rfl hg43 rfl rfl ?_
                    refine gop (y_pick_f (v := .bool _) rfl hg43 rfl) rfl rfl rfl ?_
                    refine gop (y_move (v := .bool _) rfl) rfl rfl rfl ?_
                    refine gop_off rfl rfl rfl rfl rfl rfl rfl ?_
                    refine gop_off rfl rfl rfl rfl rfl rfl rfl ?_
                    refine gop_off rfl rfl rfl rfl rfl rfl rfl ?_
                    refine gop (y_pick_f (v := .bool _) rfl rfl rfl) rfl rfl rfl ?_
                    refine gop (y_assign (v := .bool _) rfl) rfl rfl rfl ?_
                    refine gops_nil ?_
                    refine hN19 _ _ ?_
                    refine gfrom [(0, .string _), (16, .int _ _), (17, .int _ _), (40, .bool _)] ⟨rfl, rfl, rfl, rfl, trivial⟩ fun σ => ?_
                    refine gcond (b := _) rfl (fun hc40 => ?_) (fun hc40 => ?_)
                    · 
                      cases hc40
                    · 
                      refine gskip ?_
                      refine hN9 _ _ ?_
                      refine gfrom [(0, .string _), (16, .int _ _), (17, .int _ _)] ⟨rfl, rfl, rfl, trivial⟩ fun σ => ?_
                      refine greg ?_
                      refine gop (y_add rfl rfl ⟨by omega, by omega⟩) rfl rfl rfl ?_
                      refine gop (y_move (v := .int _ _) rfl) rfl rfl rfl ?_
                      refine gops_nil ?_
                      refine gnext2 (k + 1) (by omega) (⟨by omega, fun hss => by first | exact (scanP_step (by omega) (by simp [wildBad]; omega) (by first | (simp [charBad]; omega) | simp_all [charBad])).trans (hz hss) | (exfalso; simp_all [strEq]; done)⟩) ⟨rfl, trivial⟩ ⟨rfl, rfl, trivial⟩ ⟨_, rfl⟩
          · 
            replace hc18 := of_decide_eq_false hc18
            refine gexit ?_
            refine hN5 _ _ ?_
            refine gfrom [] trivial fun σ => ?_
            refine gseq fun N21 hN21 => ?_
            refine greg ?_
            refine gop (y_assign (v := .int _ _) rfl) rfl rfl rfl ?_
            refine gops_nil ?_
            refine hN21 _ _ ?_
            refine gfrom [(2, .int _ _)] ⟨rfl, trivial⟩ fun σ => ?_
            refine gret fun w1 hM => ?_
            refine ⟨_, res1 rfl (rt (v := .int _ _) rfl), ?_⟩
            have hke : k = s.size := by omega
            subst hke
            exact ⟨by rw [show partCode s = 0 by rw [scanP_end] at hz; by_cases hss : strEq s sStars = true; simp_all [partCode, dotty, strEq]; have hz2 := hz (by simpa using hss); simp_all [partCode, dotty, strEq]]; rfl, hM.low⟩
    · 
      have hg11d := hg11
      refine gop_off rfl rfl rfl rfl hg11 rfl rfl ?_
      refine gop (y_pick_t (v := .bool _) rfl hg11 rfl) rfl rfl rfl ?_
      refine gops_nil ?_
      refine hN3 _ _ ?_
      refine gfrom [(0, .string _), (14, .bool _)] ⟨rfl, rfl, trivial⟩ fun σ => ?_
      refine gcond (b := _) rfl (fun hc14 => ?_) (fun hc14 => ?_)
      · 
        refine gseq fun N22 hN22 => ?_
        refine greg ?_
        refine gop (y_assign (v := .int _ _) rfl) rfl rfl rfl ?_
        refine gops_nil ?_
        refine hN22 _ _ ?_
        refine gfrom [(2, .int _ _)] ⟨rfl, trivial⟩ fun σ => ?_
        refine gret fun w1 hM => ?_
        refine ⟨_, res1 rfl (rt (v := .int _ _) rfl), ?_⟩
        exact ⟨by rw [show partCode s = 12 by simp_all [partCode, dotty, strEq]]; rfl, hM.low⟩
      · 
        cases hc14
  · 
    have hg7d := hg7
    refine gop_off rfl rfl rfl rfl hg7 rfl rfl ?_
    refine gop (y_pick_t (v := .bool _) rfl hg7 rfl) rfl rfl rfl ?_
    refine gop (y_move (v := .bool _) rfl) rfl rfl rfl ?_
    refine gop_off rfl rfl rfl rfl rfl rfl rfl ?_
    refine gop_off rfl rfl rfl rfl rfl rfl rfl ?_
    refine gop (y_pick_t (v := .bool _) rfl rfl rfl) rfl rfl rfl ?_
    refine gops_nil ?_
    refine hN3 _ _ ?_
    refine gfrom [(0, .string _), (14, .bool _)] ⟨rfl, rfl, trivial⟩ fun σ => ?_
    refine gcond (b := _) rfl (fun hc14 => ?_) (fun hc14 => ?_)
    · 
      refine gseq fun N23 hN23 => ?_
      refine greg ?_
      refine gop (y_assign (v := .int _ _) rfl) rfl rfl rfl ?_
      refine gops_nil ?_
      refine hN23 _ _ ?_
      refine gfrom [(2, .int _ _)] ⟨rfl, trivial⟩ fun σ => ?_
      refine gret fun w1 hM => ?_
      refine ⟨_, res1 rfl (rt (v := .int _ _) rfl), ?_⟩
      exact ⟨by rw [show partCode s = 12 by simp_all [partCode, dotty, strEq]]; rfl, hM.low⟩
    · 
      cases hc14
end Go.Proofs.YtbkameioedmlkaaGreatDoor
namespace Go.Proofs.YtbkameioedmlkaaGreatDoor
open Go.RowKit Go.Cf
set_option maxRecDepth 10000
set_option maxHeartbeats 1000000 in
theorem sIndexByte_any (w : World) (s : ByteArray) (c : Int) : Calls Tryz.prog 116 #[.string s, .int .u8 c] w fun e w' => e = .returned (.int .i64 (Lib.indexByte s.data.toList c.toNat.toUInt8)) ∧ Below w.heap.size w w' := by
  refine gcalls Tryz.func116 rfl Tryz.ntmps116 (Nat.le_of_ble_eq_true rfl) ?_
  refine gfrom [(0, .string _), (1, .int _ _)] ⟨rfl, rfl, trivial⟩ fun σ => ?_
  refine gseq fun N1 hN1 => ?_
  refine greg ?_
  refine gop (y_assign (v := .int _ _) rfl) rfl rfl rfl ?_
  refine gops_nil ?_
  refine hN1 _ _ ?_
  refine gfrom [(0, .string _), (1, .int _ _)] ⟨rfl, rfl, trivial⟩ fun σ => ?_
  refine gseq fun N2 hN2 => ?_
  refine greg ?_
  refine gop (y_move (v := .string _) rfl) rfl rfl rfl ?_
  refine gop (y_move (v := .int _ _) rfl) rfl rfl rfl ?_
  refine gop (y_extern (vs := [.string _, .int _ _]) Tryz.func142 (by kernel_rfl) (by kernel_rfl) (by kernel_rfl) (e := Extern.BytealgIndexByte.indexByte) (by kernel_rfl) rfl (fun w => Lib.run_indexByteString _ _ w)) rfl rfl rfl ?_
  refine gop (y_assign (v := .int _ _) rfl) rfl rfl rfl ?_
  refine gops_nil ?_
  refine hN2 _ _ ?_
  refine gfrom [(4, .int _ _)] ⟨rfl, trivial⟩ fun σ => ?_
  refine gret fun w1 hM => ?_
  refine ⟨_, res1 rfl (rt (v := .int _ _) rfl), ?_⟩
  exact ⟨rfl, hM.low⟩
set_option maxHeartbeats 1000000 in
theorem sCount_any (w : World) (s : ByteArray) : Calls Tryz.prog 154 #[.string s, .string ⟨#[47]⟩] w fun e w' => e = .returned (.int .i64 (slashes s : Nat)) ∧ Below w.heap.size w w' := by
  refine gcalls Tryz.func154 rfl Tryz.ntmps154 (Nat.le_of_ble_eq_true rfl) ?_
  refine gfrom [(0, .string _), (1, .string _)] ⟨rfl, rfl, trivial⟩ fun σ => ?_
  refine gseq fun N1 hN1 => ?_
  refine greg ?_
  refine gop (y_assign (v := .int _ _) rfl) rfl rfl rfl ?_
  refine gops_nil ?_
  refine hN1 _ _ ?_
  refine gfrom [(0, .string _), (1, .string _)] ⟨rfl, rfl, trivial⟩ fun σ => ?_
  refine gseq fun N2 hN2 => ?_
  refine gseq fun N3 hN3 => ?_
  refine greg ?_
  refine gop (y_move (v := .string _) rfl) rfl rfl rfl ?_
  refine gop (y_lens Tryz.underlying9 rfl) rfl rfl rfl ?_
  refine gop (y_eql rfl rfl) rfl rfl rfl ?_
  refine gops_nil ?_
  refine hN3 _ _ ?_
  refine gfrom [(0, .string _), (1, .string _), (9, .bool _)] ⟨rfl, rfl, rfl, trivial⟩ fun σ => ?_
  refine gcond (b := _) rfl (fun hc9 => ?_) (fun hc9 => ?_)
  · 
     exact absurd hc9 (by decide)
  · 
    replace hc9 := of_decide_eq_false hc9
    refine gskip ?_
    refine hN2 _ _ ?_
    refine gfrom [(0, .string _), (1, .string _)] ⟨rfl, rfl, trivial⟩ fun σ => ?_
    refine gseq fun N4 hN4 => ?_
    refine gseq fun N5 hN5 => ?_
    refine greg ?_
    refine gop (y_move (v := .string _) rfl) rfl rfl rfl ?_
    refine gop (y_lens Tryz.underlying9 rfl) rfl rfl rfl ?_
    refine gop (y_eql rfl rfl) rfl rfl rfl ?_
    refine gops_nil ?_
    refine hN5 _ _ ?_
    refine gfrom [(0, .string _), (1, .string _), (15, .bool _)] ⟨rfl, rfl, rfl, trivial⟩ fun σ => ?_
    refine gcond (b := _) rfl (fun hc15 => ?_) (fun hc15 => ?_)
    · 
      replace hc15 := of_decide_eq_true hc15
      refine gseq fun N6 hN6 => ?_
      refine greg ?_
      refine gop (y_move (v := .string _) rfl) rfl rfl rfl ?_
      refine gop (y_move (v := .string _) rfl) rfl rfl rfl ?_
      refine gop (y_stridx (m := 0) Tryz.underlying9 rfl rfl (by omega) (by omega) (by omega)) rfl rfl rfl ?_
      refine gop (y_extern (vs := [.string _, .int _ _]) Tryz.func164 (by kernel_rfl) (by kernel_rfl) (by kernel_rfl) (e := Extern.BytealgCount.count) (by kernel_rfl) rfl (fun w => Lib.run_countString _ _ w)) rfl rfl rfl ?_
      refine gop (y_assign (v := .int _ _) rfl) rfl rfl rfl ?_
      refine gops_nil ?_
      refine hN6 _ _ ?_
      refine gfrom [(4, .int _ _)] ⟨rfl, trivial⟩ fun σ => ?_
      refine gret fun w1 hM => ?_
      refine ⟨_, res1 rfl (rt (v := .int _ _) rfl), ?_⟩
      exact ⟨rfl, hM.low⟩
    · 
       exact absurd hc15 (by decide)
set_option maxHeartbeats 1000000 in
theorem slIndex_any (w : World) (s : ByteArray) : Calls Tryz.prog 156 #[.string s, .string ⟨#[47]⟩] w fun e w' => e = .returned (.int .i64 (Lib.indexByte s.data.toList 47)) ∧ Below w.heap.size w w' := by
  refine gcalls Tryz.func156 rfl Tryz.ntmps156 (Nat.le_of_ble_eq_true rfl) ?_
  refine gfrom [(0, .string _), (1, .string _)] ⟨rfl, rfl, trivial⟩ fun σ => ?_
  refine gseq fun N1 hN1 => ?_
  refine greg ?_
  refine gop (y_assign (v := .int _ _) rfl) rfl rfl rfl ?_
  refine gops_nil ?_
  refine hN1 _ _ ?_
  refine gfrom [(0, .string _), (1, .string _)] ⟨rfl, rfl, trivial⟩ fun σ => ?_
  refine gseq fun N2 hN2 => ?_
  refine greg ?_
  refine gop (y_move (v := .string _) rfl) rfl rfl rfl ?_
  refine gop (y_lens Tryz.underlying9 rfl) rfl rfl rfl ?_
  refine gop (y_assign (v := .int _ _) rfl) rfl rfl rfl ?_
  refine gops_nil ?_
  refine hN2 _ _ ?_
  refine gfrom [(0, .string _), (1, .string _), (5, .int _ _)] ⟨rfl, rfl, rfl, trivial⟩ fun σ => ?_
  refine gseq fun N3 hN3 => ?_
  refine gblock ?_
  refine gseq fun N4 hN4 => ?_
  refine greg ?_
  refine gop (y_move (v := .int _ _) rfl) rfl rfl rfl ?_
  refine gop (y_eql rfl rfl) rfl rfl rfl ?_
  refine gop (y_move (v := .bool _) rfl) rfl rfl rfl ?_
  refine gop_if (want := false) rfl rfl rfl rfl rfl rfl (fun hg19 => ?_) (fun hg19 => ?_)
  · 
    have hg19d := of_decide_eq_false hg19
    refine gop (y_bare (y_move (v := .string _) rfl)) rfl rfl rfl ?_
    refine gop_on rfl rfl rfl rfl hg19 ?_
    refine gop (y_bare (y_move (v := .string _) rfl)) rfl rfl rfl ?_
    refine gop_on rfl rfl rfl rfl hg19 ?_
    refine gop (y_bare (y_eqls rfl rfl)) rfl rfl rfl ?_
    refine gop (y_pick_f (v := .bool _) rfl hg19 rfl) rfl rfl rfl ?_
    refine gop (y_assign (v := .bool _) rfl) rfl rfl rfl ?_
    refine gops_nil ?_
    refine hN4 _ _ ?_
    refine gfrom [(0, .string _), (1, .string _), (5, .int _ _), (16, .bool _)] ⟨rfl, rfl, rfl, rfl, trivial⟩ fun σ => ?_
    refine gcond (b := _) rfl (fun hc16 => ?_) (fun hc16 => ?_)
    · 
      refine gseq fun N5 hN5 => ?_
      refine greg ?_
      refine gop (y_assign (v := .int _ _) rfl) rfl rfl rfl ?_
      refine gops_nil ?_
      refine hN5 _ _ ?_
      refine gfrom [(4, .int _ _)] ⟨rfl, trivial⟩ fun σ => ?_
      refine gret fun w1 hM => ?_
      refine ⟨_, res1 rfl (rt (v := .int _ _) rfl), ?_⟩
      exact ⟨by rw [← ByteArray.toList_eq, ← show _ = s.toList by simpa using hc16]; rfl, hM.low⟩
    · 
      refine gseq fun N6 hN6 => ?_
      refine greg ?_
      refine gop (y_move (v := .int _ _) rfl) rfl rfl rfl ?_
      refine gop (y_eql rfl rfl) rfl rfl rfl ?_
      refine gop (y_assign (v := .bool _) rfl) rfl rfl rfl ?_
      refine gops_nil ?_
      refine hN6 _ _ ?_
      refine gfrom [(0, .string _), (1, .string _), (5, .int _ _), (24, .bool _)] ⟨rfl, rfl, rfl, rfl, trivial⟩ fun σ => ?_
      refine gcond (b := _) rfl (fun hc24 => ?_) (fun hc24 => ?_)
      · 
        replace hc24 := of_decide_eq_true hc24
        refine gseq fun N7 hN7 => ?_
        refine greg ?_
        refine gop (y_move (v := .string _) rfl) rfl rfl rfl ?_
        refine gop (y_move (v := .string _) rfl) rfl rfl rfl ?_
        refine gop (y_stridx (m := 0) Tryz.underlying9 rfl rfl (by omega) (by omega) (by omega)) rfl rfl rfl ?_
        refine gop_pure (e_call (vs := [.string _, .int _ _]) Tryz.func116 rfl (by kernel_rfl) rfl) (fun w hM => sIndexByte_any w _ _) rfl rfl rfl ?_
        refine gop (y_assign (v := .int _ _) rfl) rfl rfl rfl ?_
        refine gops_nil ?_
        refine hN7 _ _ ?_
        refine gfrom [(4, .int _ _)] ⟨rfl, trivial⟩ fun σ => ?_
        refine gret fun w1 hM => ?_
        refine ⟨_, res1 rfl (rt (v := .int _ _) rfl), ?_⟩
        exact ⟨rfl, hM.low⟩
      · 
         exact absurd hc24 (by decide)
  · 
     exact absurd hg19 (by decide)
set_option maxHeartbeats 1000000 in
theorem sIndex_any (w : World) (s : ByteArray) : Calls Tryz.prog 137 #[.string s, .string ⟨#[47]⟩] w fun e w' => e = .returned (.int .i64 (Lib.indexByte s.data.toList 47)) ∧ Below w.heap.size w w' := by
  refine gcalls Tryz.func137 rfl Tryz.ntmps137 (Nat.le_of_ble_eq_true rfl) ?_
  refine gfrom [(0, .string _), (1, .string _)] ⟨rfl, rfl, trivial⟩ fun σ => ?_
  refine gseq fun N1 hN1 => ?_
  refine greg ?_
  refine gop (y_assign (v := .int _ _) rfl) rfl rfl rfl ?_
  refine gops_nil ?_
  refine hN1 _ _ ?_
  refine gfrom [(0, .string _), (1, .string _)] ⟨rfl, rfl, trivial⟩ fun σ => ?_
  refine gseq fun N2 hN2 => ?_
  refine greg ?_
  refine gop (y_move (v := .string _) rfl) rfl rfl rfl ?_
  refine gop (y_move (v := .string _) rfl) rfl rfl rfl ?_
  refine gop_pure (e_call (vs := [.string _, .string _]) Tryz.func156 rfl (by kernel_rfl) rfl) (fun w hM => slIndex_any w _) rfl rfl rfl ?_
  refine gop (y_assign (v := .int _ _) rfl) rfl rfl rfl ?_
  refine gops_nil ?_
  refine hN2 _ _ ?_
  refine gfrom [(4, .int _ _)] ⟨rfl, trivial⟩ fun σ => ?_
  refine gret fun w1 hM => ?_
  refine ⟨_, res1 rfl (rt (v := .int _ _) rfl), ?_⟩
  exact ⟨rfl, hM.low⟩
end Go.Proofs.YtbkameioedmlkaaGreatDoor
namespace Go.Proofs.YtbkameioedmlkaaGreatDoor
open Go.RowKit Go.Cf
set_option maxRecDepth 10000
set_option maxHeartbeats 2000000 in
theorem genSplit_any (w : World) (s : ByteArray) (hs : s.size ≤ 4000000) :
    Calls Tryz.prog 134 #[.string s, .string ⟨#[47]⟩, .int .i64 0, .int .i64 (-1)] w fun e w' => ∃ v T', e = .returned v ∧ T' = [rowl strCells w.heap.size 9 1 v (cutS s)] ∧ Mem w T' w' := by
  have hsl := slashes_le s
  have h47 : (⟨#[47]⟩ : ByteArray).size = 1 := rfl
  refine gcalls Tryz.func134 rfl Tryz.ntmps134 (Nat.le_of_ble_eq_true rfl) ?_
  refine gfrom [(0, .string _), (1, .string _), (2, .int _ _), (3, .int _ _)] ⟨rfl, rfl, rfl, rfl, trivial⟩ fun σ => ?_
  refine gseq fun N1 hN1 => ?_
  refine greg ?_
  refine gop (y_assign (v := .slice _ _ _) rfl) rfl rfl rfl ?_
  refine gops_nil ?_
  refine hN1 _ _ ?_
  refine gfrom [(0, .string _), (1, .string _), (2, .int _ _), (3, .int _ _)] ⟨rfl, rfl, rfl, rfl, trivial⟩ fun σ => ?_
  refine gseq fun N2 hN2 => ?_
  refine gseq fun N3 hN3 => ?_
  refine greg ?_
  refine gop (y_move (v := .int _ _) rfl) rfl rfl rfl ?_
  refine gop (y_eql rfl rfl) rfl rfl rfl ?_
  refine gops_nil ?_
  refine hN3 _ _ ?_
  refine gfrom [(0, .string _), (1, .string _), (2, .int _ _), (3, .int _ _), (13, .bool _)] ⟨rfl, rfl, rfl, rfl, rfl, trivial⟩ fun σ => ?_
  refine gcond (b := _) rfl (fun hc13 => ?_) (fun hc13 => ?_)
  · 
     exact absurd hc13 (by decide)
  · 
    replace hc13 := of_decide_eq_false hc13
    refine gskip ?_
    refine hN2 _ _ ?_
    refine gfrom [(0, .string _), (1, .string _), (2, .int _ _), (3, .int _ _)] ⟨rfl, rfl, rfl, rfl, trivial⟩ fun σ => ?_
    refine gseq fun N4 hN4 => ?_
    refine gseq fun N5 hN5 => ?_
    refine greg ?_
    refine gop (y_move (v := .string _) rfl) rfl rfl rfl ?_
    refine gop (y_eqls rfl rfl) rfl rfl rfl ?_
    refine gops_nil ?_
    refine hN5 _ _ ?_
    refine gfrom [(0, .string _), (1, .string _), (2, .int _ _), (3, .int _ _), (15, .bool _)] ⟨rfl, rfl, rfl, rfl, rfl, trivial⟩ fun σ => ?_
    refine gcond (b := _) rfl (fun hc15 => ?_) (fun hc15 => ?_)
    · 
       simp at hc15
    · 
      refine gskip ?_
      refine hN4 _ _ ?_
      refine gfrom [(0, .string _), (1, .string _), (2, .int _ _), (3, .int _ _)] ⟨rfl, rfl, rfl, rfl, trivial⟩ fun σ => ?_
      refine gseq fun N6 hN6 => ?_
      refine gseq fun N7 hN7 => ?_
      refine greg ?_
      refine gop (y_move (v := .int _ _) rfl) rfl rfl rfl ?_
      refine gop (y_lss rfl rfl) rfl rfl rfl ?_
      refine gops_nil ?_
      refine hN7 _ _ ?_
      refine gfrom [(0, .string _), (1, .string _), (2, .int _ _), (3, .int _ _), (20, .bool _)] ⟨rfl, rfl, rfl, rfl, rfl, trivial⟩ fun σ => ?_
      refine gcond (b := _) rfl (fun hc20 => ?_) (fun hc20 => ?_)
      · 
        replace hc20 := of_decide_eq_true hc20
        refine greg ?_
        refine gop (y_move (v := .string _) rfl) rfl rfl rfl ?_
        refine gop (y_move (v := .string _) rfl) rfl rfl rfl ?_
        refine gop_pure (e_call (vs := [.string _, .string _]) Tryz.func154 rfl (by kernel_rfl) rfl) (fun w hM => sCount_any w _) rfl rfl rfl ?_
        refine gop (y_add rfl rfl ⟨by omega, by omega⟩) rfl rfl rfl ?_
        refine gop (y_assign (v := .int _ _) rfl) rfl rfl rfl ?_
        refine gops_nil ?_
        refine hN6 _ _ ?_
        refine gfrom [(0, .string _), (1, .string _), (2, .int _ _), (3, .int _ _)] ⟨rfl, rfl, rfl, rfl, trivial⟩ fun σ => ?_
        refine gseq fun N8 hN8 => ?_
        refine greg ?_
        refine gop (y_move (v := .int _ _) rfl) rfl rfl rfl ?_
        refine gop (y_move (v := .string _) rfl) rfl rfl rfl ?_
        refine gop (y_lens Tryz.underlying9 rfl) rfl rfl rfl ?_
        refine gop (y_add rfl rfl ⟨by omega, by omega⟩) rfl rfl rfl ?_
        refine gop (y_min_l rfl rfl (show ((slashes s : Nat) : Int) + 1 ≤ (s.size : Int) + 1 by omega)) rfl rfl rfl ?_
        refine gop (y_assign (v := .int _ _) rfl) rfl rfl rfl ?_
        refine gops_nil ?_
        refine hN8 _ _ ?_
        refine gfrom [(0, .string _), (1, .string _), (2, .int _ _), (3, .int _ _)] ⟨rfl, rfl, rfl, rfl, trivial⟩ fun σ => ?_
        refine gseq fun N9 hN9 => ?_
        refine greg ?_
        refine gop (y_move (v := .int _ _) rfl) rfl rfl rfl ?_
        refine gop_make (f := strCells) (bytes := 16) (z := .string .empty) (ByteArray.empty) Tryz.underlying22 (by kernel_rfl) rfl rfl rfl (k := slashes s + 1) rfl rfl (by omega) (by simp [maxLen]; omega) rfl (fun b31 hb31 => ?_)
        refine gop (y_assign (v := .slice (some _) _ _) rfl) rfl rfl rfl ?_
        refine gops_nil ?_
        refine hN9 _ _ ?_
        refine gT [rowl _ _ _ _ _ _] rfl ?_
        refine gfrom [(0, .string _), (1, .string _), (2, .int _ _), (3, .int _ _), (9, .slice (some _) _ _)] ⟨rfl, rfl, rfl, rfl, rfl, trivial⟩ fun σ => ?_
        refine gseq fun N10 hN10 => ?_
        refine greg ?_
        refine gop (y_move (v := .int _ _) rfl) rfl rfl rfl ?_
        refine gop (y_sub rfl rfl ⟨by omega, by omega⟩) rfl rfl rfl ?_
        refine gop (y_assign (v := .int _ _) rfl) rfl rfl rfl ?_
        refine gops_nil ?_
        refine hN10 _ _ ?_
        refine gfrom [(0, .string _), (1, .string _), (2, .int _ _), (3, .int _ _), (9, .slice (some _) _ _)] ⟨rfl, rfl, rfl, rfl, rfl, trivial⟩ fun σ => ?_
        refine gseq fun N11 hN11 => ?_
        refine greg ?_
        refine gop (y_assign (v := .int _ _) rfl) rfl rfl rfl ?_
        refine gops_nil ?_
        refine hN11 _ _ ?_
        refine gfrom [(0, .string _), (1, .string _), (2, .int _ _), (3, .int _ _), (9, .slice (some _) _ _), (10, .int _ _)] ⟨rfl, rfl, rfl, rfl, rfl, rfl, trivial⟩ fun σ => ?_
        refine gseq fun N12 hN12 => ?_
        refine gblock ?_
        refine gfrom2 [(0, .string _), (10, .int _ _)] [(1, .string _), (2, .int _ _), (3, .int _ _), (9, .slice (some _) _ _)] ⟨rfl, rfl, trivial⟩ ⟨rfl, rfl, rfl, rfl, trivial⟩ fun σ => ?_
        refine gloop2 (G := Nat × ByteArray × List ByteArray) (fun (i, sc, pre) => i = pre.length ∧ pre ++ cutS sc = cutS s ∧ slashes sc + pre.length = slashes s ∧ sc.size ≤ s.size) (fun (i, sc, pre) => slashes s - pre.length) (fun (i, sc, pre) => [(0, .string sc), (10, .int .i64 (i : Int))]) (fun (i, sc, pre) => [(0, rowl strCells w.heap.size 9 1 (.slice (some ⟨b31, 0, none⟩) (slashes s + 1) (slashes s + 1)) (pre ++ List.replicate (slashes s + 1 - pre.length) ByteArray.empty))]) ((0, s, [])) ?h0 ⟨rfl, rfl, trivial⟩ ⟨rfl, rfl, rfl, rfl, trivial⟩ rfl ?round
        case h0 => exact ⟨rfl, rfl, rfl, Nat.le_refl _⟩
        case round =>
          rintro ⟨i, sc, pre⟩ hφ σ
          obtain ⟨hi, hp1, hp2, hp3⟩ := hφ
          refine gT [rowl _ _ _ _ _ _] rfl ?_
          refine gseq fun N13 hN13 => ?_
          refine gseq fun N14 hN14 => ?_
          refine greg ?_
          refine gop (y_move (v := .int _ _) rfl) rfl rfl rfl ?_
          refine gop (y_move (v := .int _ _) rfl) rfl rfl rfl ?_
          refine gop (y_lss rfl rfl) rfl rfl rfl ?_
          refine gops_nil ?_
          refine hN14 _ _ ?_
          refine gfrom [(0, .string _), (1, .string _), (2, .int _ _), (3, .int _ _), (9, .slice (some _) _ _), (10, .int _ _), (36, .bool _)] ⟨rfl, rfl, rfl, rfl, rfl, rfl, rfl, trivial⟩ fun σ => ?_
          refine gcond (b := _) rfl (fun hc36 => ?_) (fun hc36 => ?_)
          · 
            replace hc36 := of_decide_eq_true hc36
            obtain ⟨m, hm1, hm2, hm3, hm4⟩ := idx_hit (s := sc) (by have h0 : ((i : Nat) : Int) < ((slashes s : Nat) : Int) + 1 - 1 := hc36; omega)
            refine gskip ?_
            refine hN13 _ _ ?_
            refine gfrom [(0, .string _), (1, .string _), (2, .int _ _), (3, .int _ _), (9, .slice (some _) _ _), (10, .int _ _)] ⟨rfl, rfl, rfl, rfl, rfl, rfl, trivial⟩ fun σ => ?_
            refine gblock ?_
            refine gseq fun N15 hN15 => ?_
            refine greg ?_
            refine gop (y_move (v := .string _) rfl) rfl rfl rfl ?_
            refine gop (y_move (v := .string _) rfl) rfl rfl rfl ?_
            refine gop_pure (e_call (vs := [.string _, .string _]) Tryz.func137 rfl (by kernel_rfl) rfl) (fun w hM => sIndex_any w _) rfl rfl rfl ?_
            refine gop (y_assign (v := .int _ _) rfl) rfl rfl rfl ?_
            refine gops_nil ?_
            refine hN15 _ _ ?_
            refine gfrom [(0, .string _), (1, .string _), (2, .int _ _), (3, .int _ _), (9, .slice (some _) _ _), (10, .int _ _), (11, .int _ _)] ⟨rfl, rfl, rfl, rfl, rfl, rfl, rfl, trivial⟩ fun σ => ?_
            refine gseq fun N16 hN16 => ?_
            refine gseq fun N17 hN17 => ?_
            refine greg ?_
            refine gop (y_move (v := .int _ _) rfl) rfl rfl rfl ?_
            refine gop (y_lss rfl rfl) rfl rfl rfl ?_
            refine gops_nil ?_
            refine hN17 _ _ ?_
            refine gfrom [(0, .string _), (1, .string _), (2, .int _ _), (3, .int _ _), (9, .slice (some _) _ _), (10, .int _ _), (11, .int _ _), (41, .bool _)] ⟨rfl, rfl, rfl, rfl, rfl, rfl, rfl, rfl, trivial⟩ fun σ => ?_
            refine gcond (b := _) rfl (fun hc41 => ?_) (fun hc41 => ?_)
            · 
               rw [hm1] at hc41; exact absurd hc41 (by simp)
            · 
              replace hc41 := of_decide_eq_false hc41
              refine gskip ?_
              refine hN16 _ _ ?_
              refine gfrom [(0, .string _), (1, .string _), (2, .int _ _), (3, .int _ _), (9, .slice (some _) _ _), (10, .int _ _), (11, .int _ _)] ⟨rfl, rfl, rfl, rfl, rfl, rfl, rfl, trivial⟩ fun σ => ?_
              refine gseq fun N18 hN18 => ?_
              refine greg ?_
              refine gop (y_move (v := .slice (some _) _ _) rfl) rfl rfl rfl ?_
              refine gop (y_move (v := .int _ _) rfl) rfl rfl rfl ?_
              refine gop (y_move (v := .string _) rfl) rfl rfl rfl ?_
              refine gop (y_move (v := .int _ _) rfl) rfl rfl rfl ?_
              refine gop (y_move (v := .int _ _) rfl) rfl rfl rfl ?_
              refine gop (y_add rfl rfl ⟨by omega, by omega⟩) rfl rfl rfl ?_
              refine gop (y_strslice_hi Tryz.underlying9 rfl rfl (by omega) (by omega)) rfl rfl rfl ?_
              refine gop (y_indexAddr (m := i) Tryz.underlying22 Tryz.sizeOf9 rfl rfl (by omega) (by omega) (by omega)) rfl rfl rfl ?_
              refine gop_store_row 0 (f := strCells) (l := pre ++ List.replicate (slashes s + 1 - pre.length) ByteArray.empty) (k := i) (o := 0) (v := .string _) (a := ByteArray.empty) (a' := sc.extract 0 m) (fun _ => rfl) rfl rfl rfl Tryz.sizeOf9 rfl rfl rfl rfl (by simp; omega) (by rw [hi, List.getElem?_append_right (Nat.le_refl _), Nat.sub_self, List.getElem?_replicate, if_pos (by omega)]) (Nat.le_of_ble_eq_true rfl) (by rw [hm1]; rfl) rfl ?_
              refine gops_nil ?_
              refine hN18 _ _ ?_
              refine gT [rowl _ _ _ _ _ _] rfl ?_
              refine gfrom [(0, .string _), (1, .string _), (2, .int _ _), (3, .int _ _), (9, .slice (some _) _ _), (10, .int _ _), (11, .int _ _)] ⟨rfl, rfl, rfl, rfl, rfl, rfl, rfl, trivial⟩ fun σ => ?_
              refine gseq fun N19 hN19 => ?_
              refine greg ?_
              refine gop (y_move (v := .string _) rfl) rfl rfl rfl ?_
              refine gop (y_move (v := .int _ _) rfl) rfl rfl rfl ?_
              refine gop (y_move (v := .string _) rfl) rfl rfl rfl ?_
              refine gop (y_lens Tryz.underlying9 rfl) rfl rfl rfl ?_
              refine gop (y_add rfl rfl ⟨by omega, by omega⟩) rfl rfl rfl ?_
              refine gop (y_strslice_lo Tryz.underlying9 rfl rfl (by omega) (by omega)) rfl rfl rfl ?_
              refine gop (y_assign (v := .string _) rfl) rfl rfl rfl ?_
              refine gops_nil ?_
              refine hN19 _ _ ?_
              refine gfrom [(0, .string _), (1, .string _), (2, .int _ _), (3, .int _ _), (9, .slice (some _) _ _), (10, .int _ _)] ⟨rfl, rfl, rfl, rfl, rfl, rfl, trivial⟩ fun σ => ?_
              refine greg ?_
              refine gop (y_move (v := .int _ _) rfl) rfl rfl rfl ?_
              refine gop (y_add rfl rfl ⟨by omega, by omega⟩) rfl rfl rfl ?_
              refine gop (y_assign (v := .int _ _) rfl) rfl rfl rfl ?_
              refine gops_nil ?_
              rw [show (pre ++ List.replicate (slashes s + 1 - pre.length) ByteArray.empty).set i (sc.extract 0 m) = (pre ++ [sc.extract 0 m]) ++ List.replicate (slashes s + 1 - (pre ++ [sc.extract 0 m]).length) ByteArray.empty from by rw [hi]; exact set_pre (by omega)]
              refine gnext2 ((i + 1, sc.extract (Lib.indexByte sc.data.toList 47 + ((⟨#[47]⟩ : ByteArray).size : Int)).toNat sc.size, pre ++ [sc.extract 0 m])) (by show slashes s - (pre ++ [sc.extract 0 m]).length < slashes s - pre.length; simp; omega) (by rw [show (Lib.indexByte sc.data.toList 47 + ((⟨#[47]⟩ : ByteArray).size : Int)).toNat = m + 1 by omega]; exact ⟨by simp [hi], by rw [← hp1, hm3]; simp, by simp; omega, by simp; omega⟩) ⟨rfl, rfl, trivial⟩ ⟨rfl, rfl, rfl, rfl, trivial⟩ ⟨_, rfl⟩
          · 
            replace hc36 := of_decide_eq_false hc36
            have hpl : pre.length = slashes s := by have h0 : ¬ ((i : Nat) : Int) < ((slashes s : Nat) : Int) + 1 - 1 := hc36; omega
            refine gexit ?_
            refine hN12 _ _ ?_
            refine gfrom [(0, .string _), (9, .slice (some _) _ _), (10, .int _ _)] ⟨rfl, rfl, rfl, trivial⟩ fun σ => ?_
            refine gseq fun N20 hN20 => ?_
            refine greg ?_
            refine gop (y_move (v := .slice (some _) _ _) rfl) rfl rfl rfl ?_
            refine gop (y_move (v := .int _ _) rfl) rfl rfl rfl ?_
            refine gop (y_move (v := .string _) rfl) rfl rfl rfl ?_
            refine gop (y_indexAddr (m := i) Tryz.underlying22 Tryz.sizeOf9 rfl rfl (by omega) (by omega) (by omega)) rfl rfl rfl ?_
            refine gop_store_row 0 (f := strCells) (l := pre ++ List.replicate (slashes s + 1 - pre.length) ByteArray.empty) (k := i) (o := 0) (v := .string _) (a := ByteArray.empty) (a' := sc) (fun _ => rfl) rfl rfl rfl Tryz.sizeOf9 rfl rfl rfl rfl (by simp; omega) (by rw [hi, List.getElem?_append_right (Nat.le_refl _), Nat.sub_self, List.getElem?_replicate, if_pos (by omega)]) (Nat.le_of_ble_eq_true rfl) rfl rfl ?_
            refine gops_nil ?_
            refine hN20 _ _ ?_
            refine gT [rowl _ _ _ _ _ _] rfl ?_
            refine gfrom [(9, .slice (some _) _ _), (10, .int _ _)] ⟨rfl, rfl, trivial⟩ fun σ => ?_
            refine gseq fun N21 hN21 => ?_
            refine greg ?_
            refine gop (y_move (v := .slice (some _) _ _) rfl) rfl rfl rfl ?_
            refine gop (y_move (v := .int _ _) rfl) rfl rfl rfl ?_
            refine gop (y_add rfl rfl ⟨by omega, by omega⟩) rfl rfl rfl ?_
            refine gop (y_slice_hi Tryz.underlying22 Tryz.sizeOf9 rfl rfl (by omega) (by omega)) rfl rfl rfl ?_
            refine gop (y_assign (v := .slice _ _ _) rfl) rfl rfl rfl ?_
            refine gops_nil ?_
            refine hN21 _ _ ?_
            refine gfrom [(8, .slice _ _ _)] ⟨rfl, trivial⟩ fun σ => ?_
            refine gret fun w1 hM => ?_
            refine ⟨_, res1 rfl (rt (v := .slice _ _ _) rfl), ?_⟩
            have hl : (pre ++ List.replicate (slashes s + 1 - pre.length) ByteArray.empty).set i sc = cutS s := by rw [hi, set_pre (by omega), ← hp1, (idx_miss (s := sc) (by omega)).2, show slashes s + 1 - (pre ++ [sc]).length = 0 by simp; omega]; simp
            rw [hl] at hM
            have hi1 : i = slashes s := by omega
            subst hi1
            exact ⟨_, _, rfl, rfl, hM⟩
      · 
         exact absurd hc20 (by decide)
set_option maxHeartbeats 1000000 in
theorem split_any (w : World) (s : ByteArray) (hs : s.size ≤ 4000000) :
    Calls Tryz.prog 108 #[.string s, .string ⟨#[47]⟩] w fun e w' => ∃ v T', e = .returned v ∧ T' = [rowl strCells w.heap.size 9 1 v (cutS s)] ∧ Mem w T' w' := by
  refine gcalls Tryz.func108 rfl Tryz.ntmps108 (Nat.le_of_ble_eq_true rfl) ?_
  refine gfrom [(0, .string _), (1, .string _)] ⟨rfl, rfl, trivial⟩ fun σ => ?_
  refine gseq fun N1 hN1 => ?_
  refine greg ?_
  refine gop (y_assign (v := .slice _ _ _) rfl) rfl rfl rfl ?_
  refine gops_nil ?_
  refine hN1 _ _ ?_
  refine gfrom [(0, .string _), (1, .string _)] ⟨rfl, rfl, trivial⟩ fun σ => ?_
  refine gseq fun N2 hN2 => ?_
  refine greg ?_
  refine gop (y_move (v := .string _) rfl) rfl rfl rfl ?_
  refine gop (y_move (v := .string _) rfl) rfl rfl rfl ?_
  refine gop_got (fun v T' => ∃ lo, w.heap.size ≤ lo ∧ T' = [rowl strCells lo 9 1 v (cutS s)]) (e_call (vs := [.string _, .string _, _, _]) Tryz.func134 rfl (by kernel_rfl) rfl) (fun w hM => (genSplit_any w s hs).mono fun _ _ ⟨v, T1, h1, h2, h3⟩ => ⟨v, T1, h1, ⟨_, hM.low.size, h2⟩, h3⟩) rfl rfl rfl ?_
  rintro v7 _ ⟨lo7, hlo7, rfl⟩
  refine gops_fact (fun w hM => row_form (hM.ok _ (List.mem_of_getElem? (i := 0) rfl))) ?_
  rintro ⟨A7, c7, rfl, hc7, hm7, hn7⟩
  refine gop (y_assign (v := .slice A7 _ c7) rfl) rfl rfl rfl ?_
  refine gops_nil ?_
  refine hN2 _ _ ?_
  refine gT [rowl _ _ _ _ _ _] rfl ?_
  refine gfrom [(4, .slice A7 _ c7)] ⟨rfl, trivial⟩ fun σ => ?_
  refine gret fun w1 hM => ?_
  refine ⟨_, res1 rfl (rt (v := .slice A7 _ c7) rfl), ?_⟩
  exact ⟨_, _, rfl, rfl, weak_lower 0 rfl hlo7 _ hM⟩
end Go.Proofs.YtbkameioedmlkaaGreatDoor
namespace Go.Proofs.YtbkameioedmlkaaGreatDoor
open Go.RowKit Go.Cf
set_option maxRecDepth 10000
set_option maxHeartbeats 2000000 in
theorem splitSeq1_iters (s : ByteArray) (hs : s.size ≤ 4000000) (b1 b2 b3 : Nat) :
    Iters Tryz.prog 135 [.pointer (some ⟨b1, 0, none⟩), .pointer (some ⟨b2, 0, none⟩), .pointer (some ⟨b3, 0, none⟩)] (fun x : ByteArray => [.string x]) (cutS s)
      [box b1 (.cells #[.string ⟨#[47]⟩] 9), box b2 (.cells #[.string s] 9), box b3 (.cells #[.int .i64 0] 3)] := by
  intro w ι W l J Jx hM0 hY
  have h47 : (⟨#[47]⟩ : ByteArray).size = 1 := rfl
  refine gcallsI Tryz.func135 rfl Tryz.ntmps135 (Nat.le_of_ble_eq_true rfl) hM0 ?_
  refine gfrom [(0, .func _ _ _), (1, _), (2, _), (3, _)] ⟨rfl, rfl, rfl, rfl, trivial⟩ fun σ => ?_
  refine gseq fun N1 hN1 => ?_
  refine gseq fun N2 hN2 => ?_
  refine greg ?_
  refine gop (y_load Tryz.isAgg9 rfl (cell_box 1 rfl rfl)) rfl rfl rfl ?_
  refine gop (y_lens Tryz.underlying9 rfl) rfl rfl rfl ?_
  refine gop (y_eql rfl rfl) rfl rfl rfl ?_
  refine gops_nil ?_
  refine hN2 _ _ ?_
  refine gfrom [(0, .func _ _ _), (1, _), (2, _), (3, _), (11, .bool _)] ⟨rfl, rfl, rfl, rfl, rfl, trivial⟩ fun σ => ?_
  refine gcond (b := _) rfl (fun hc11 => ?_) (fun hc11 => ?_)
  · 
     exact absurd hc11 (by decide)
  · 
    replace hc11 := of_decide_eq_false hc11
    refine gskip ?_
    refine hN1 _ _ ?_
    refine gfrom [(0, .func _ _ _), (1, _), (2, _), (3, _)] ⟨rfl, rfl, rfl, rfl, trivial⟩ fun σ => ?_
    refine gseq fun N3 hN3 => ?_
    refine gblock ?_
    refine gfrom2 [] [(0, .func _ _ _), (1, _), (2, _), (3, _)] trivial ⟨rfl, rfl, rfl, rfl, trivial⟩ fun σ => ?_
    refine gloop2 (G := Nat × ByteArray) (fun (k, sc) => (cutS s).drop k = cutS sc ∧ k + slashes sc = slashes s ∧ sc.size ≤ s.size) (fun (k, sc) => slashes sc) (fun (k, sc) => []) (fun (k, sc) => [(0, J k), (2, box b2 (.cells #[.string sc] 9))]) ((0, s)) ?h0 trivial ⟨rfl, rfl, rfl, rfl, trivial⟩ rfl ?round
    case h0 => exact ⟨rfl, by simp, Nat.le_refl _⟩
    case round =>
      rintro ⟨k, sc⟩ hφ σ
      obtain ⟨hk1, hk2, hk3⟩ := hφ
      refine gT [_, box b1 _, box _ _, box b3 _] rfl ?_
      refine gblock ?_
      refine gseq fun N4 hN4 => ?_
      refine greg ?_
      refine gop (y_load Tryz.isAgg9 rfl (cell_box 2 rfl rfl)) rfl rfl rfl ?_
      refine gop (y_load Tryz.isAgg9 rfl (cell_box 1 rfl rfl)) rfl rfl rfl ?_
      refine gop_pure (e_call (vs := [.string _, .string _]) Tryz.func137 rfl (by kernel_rfl) rfl) (fun w hM => sIndex_any w _) rfl rfl rfl ?_
      refine gop (y_assign (v := .int _ _) rfl) rfl rfl rfl ?_
      refine gops_nil ?_
      refine hN4 _ _ ?_
      refine gfrom [(0, .func _ _ _), (1, _), (2, _), (3, _), (7, .int _ _)] ⟨rfl, rfl, rfl, rfl, rfl, trivial⟩ fun σ => ?_
      refine gseq fun N5 hN5 => ?_
      refine gseq fun N6 hN6 => ?_
      refine greg ?_
      refine gop (y_move (v := .int _ _) rfl) rfl rfl rfl ?_
      refine gop (y_lss rfl rfl) rfl rfl rfl ?_
      refine gops_nil ?_
      refine hN6 _ _ ?_
      refine gfrom [(0, .func _ _ _), (1, _), (2, _), (3, _), (7, .int _ _), (33, .bool _)] ⟨rfl, rfl, rfl, rfl, rfl, rfl, trivial⟩ fun σ => ?_
      refine gcond (b := _) rfl (fun hc33 => ?_) (fun hc33 => ?_)
      · 
        replace hc33 := of_decide_eq_true hc33
        have hs0 : slashes sc = 0 := by
          rcases Nat.eq_zero_or_pos (slashes sc) with h0 | h0
          · exact h0
          · obtain ⟨m, hm1, _⟩ := idx_hit h0; omega
        refine gexit ?_
        refine hN3 _ _ ?_
        refine gfrom [(0, .func _ _ _), (2, _)] ⟨rfl, rfl, trivial⟩ fun σ => ?_
        refine greg ?_
        refine gop (y_move (v := .func _ _ _) rfl) rfl rfl rfl ?_
        refine gop (y_load Tryz.isAgg9 rfl (cell_box 2 rfl rfl)) rfl rfl rfl ?_
        refine gop_yield (l := l) (k := k) (J := J) (Jx := Jx) (vs := [.string _]) rfl rfl rfl (fun r W1 hM1 => hY k sc r W1 (drop_head (hk1.trans (idx_miss hs0).2)).1 hM1) rfl (fun bY51 gY51 hY51 => ?_)
        refine gops_nil ?_
        intro w1 hM
        refine ⟨_, res0 rfl, ?_⟩
        cases bY51 with
        | false =>
          obtain ⟨iY, rfl⟩ : ∃ i, gY51 = Jx k i := hY51
          exact ⟨⟨_, rfl⟩, .inr ⟨k, iY, (List.getElem?_eq_some_iff.1 (drop_head (hk1.trans (idx_miss hs0).2)).1).1, hM.sub (List.singleton_sublist.2 (by simp))⟩⟩
        | true =>
          obtain rfl : gY51 = J (k + 1) := hY51
          exact ⟨⟨_, rfl⟩, .inl (by have h1 := drop_head (hk1.trans (idx_miss hs0).2); have h2 := (List.getElem?_eq_some_iff.1 h1.1).1; have h3 := List.drop_eq_nil_iff.1 h1.2; rw [show (cutS s).length = k + 1 by omega]; exact hM.sub (List.singleton_sublist.2 (by simp)))⟩
      · 
        replace hc33 := of_decide_eq_false hc33
        have hs0 : 0 < slashes sc := by
          rcases Nat.eq_zero_or_pos (slashes sc) with h0 | h0
          · have := (idx_miss h0).1; omega
          · exact h0
        obtain ⟨m, hm1, hm2, hm3, hm4⟩ := idx_hit hs0
        refine gskip ?_
        refine hN5 _ _ ?_
        refine gfrom [(0, .func _ _ _), (1, _), (2, _), (3, _), (7, .int _ _)] ⟨rfl, rfl, rfl, rfl, rfl, trivial⟩ fun σ => ?_
        refine gseq fun N7 hN7 => ?_
        refine greg ?_
        refine gop (y_load Tryz.isAgg9 rfl (cell_box 2 rfl rfl)) rfl rfl rfl ?_
        refine gop (y_move (v := .int _ _) rfl) rfl rfl rfl ?_
        refine gop (y_load Tryz.isAgg3 rfl (cell_box 3 rfl rfl)) rfl rfl rfl ?_
        refine gop (y_add rfl rfl ⟨by omega, by omega⟩) rfl rfl rfl ?_
        refine gop (y_strslice_hi Tryz.underlying9 rfl rfl (by omega) (by omega)) rfl rfl rfl ?_
        refine gop (y_assign (v := .string _) rfl) rfl rfl rfl ?_
        refine gops_nil ?_
        refine hN7 _ _ ?_
        refine gfrom [(0, .func _ _ _), (1, _), (2, _), (3, _), (7, .int _ _), (8, .string _)] ⟨rfl, rfl, rfl, rfl, rfl, rfl, trivial⟩ fun σ => ?_
        refine gseq fun N8 hN8 => ?_
        refine gseq fun N9 hN9 => ?_
        refine greg ?_
        refine gop (y_move (v := .func _ _ _) rfl) rfl rfl rfl ?_
        refine gop (y_move (v := .string _) rfl) rfl rfl rfl ?_
        refine gop_yield (l := l) (k := k) (J := J) (Jx := Jx) (vs := [.string _]) rfl rfl rfl (fun r W1 hM1 => hY k (sc.extract 0 (Lib.indexByte sc.data.toList 47 + 0).toNat) r W1 (by rw [show (Lib.indexByte sc.data.toList 47 + 0).toNat = m by omega]; exact (drop_head (hk1.trans hm3)).1) hM1) rfl (fun bY41 gY41 hY41 => ?_)
        refine gop (y_not rfl) rfl rfl rfl ?_
        refine gops_nil ?_
        refine hN9 _ _ ?_
        refine gT [_, box b1 _, box _ _, box b3 _] rfl ?_
        refine gfrom [(0, .func _ _ _), (1, _), (2, _), (3, _), (7, .int _ _), (42, .bool _)] ⟨rfl, rfl, rfl, rfl, rfl, rfl, trivial⟩ fun σ => ?_
        refine gcond (b := _) rfl (fun hc42 => ?_) (fun hc42 => ?_)
        · 
          obtain rfl : bY41 = false := by simpa using hc42
          obtain ⟨iY, rfl⟩ : ∃ i, gY41 = Jx k i := hY41
          refine gret fun w1 hM => ?_
          refine ⟨_, res0 rfl, ?_⟩
          exact ⟨⟨_, rfl⟩, .inr ⟨k, iY, (List.getElem?_eq_some_iff.1 (drop_head (hk1.trans hm3)).1).1, hM.sub (List.singleton_sublist.2 (by simp))⟩⟩
        · 
          obtain rfl : bY41 = true := by simpa using hc42
          obtain rfl : gY41 = J (k + 1) := hY41
          refine gskip ?_
          refine hN8 _ _ ?_
          refine gfrom [(0, .func _ _ _), (1, _), (2, _), (3, _), (7, .int _ _)] ⟨rfl, rfl, rfl, rfl, rfl, trivial⟩ fun σ => ?_
          refine greg ?_
          refine gop (y_load Tryz.isAgg9 rfl (cell_box 2 rfl rfl)) rfl rfl rfl ?_
          refine gop (y_move (v := .int _ _) rfl) rfl rfl rfl ?_
          refine gop (y_load Tryz.isAgg9 rfl (cell_box 1 rfl rfl)) rfl rfl rfl ?_
          refine gop (y_lens Tryz.underlying9 rfl) rfl rfl rfl ?_
          refine gop (y_add rfl rfl ⟨by omega, by omega⟩) rfl rfl rfl ?_
          refine gop (y_strslice_lo Tryz.underlying9 rfl rfl (by omega) (by omega)) rfl rfl rfl ?_
          refine gop_store 2 (v := .string _) (cs' := #[_]) rfl rfl Tryz.sizeOf9 rfl rfl rfl rfl (Nat.le_of_ble_eq_true rfl) rfl rfl ?_
          refine gops_nil ?_
          refine gnext2 ((k + 1, sc.extract (Lib.indexByte sc.data.toList 47 + ((⟨#[47]⟩ : ByteArray).size : Int)).toNat sc.size)) (by show slashes (sc.extract (Lib.indexByte sc.data.toList 47 + ((⟨#[47]⟩ : ByteArray).size : Int)).toNat sc.size) < slashes sc; rw [show (Lib.indexByte sc.data.toList 47 + ((⟨#[47]⟩ : ByteArray).size : Int)).toNat = m + 1 by omega]; omega) (by rw [show (Lib.indexByte sc.data.toList 47 + ((⟨#[47]⟩ : ByteArray).size : Int)).toNat = m + 1 by omega]; exact ⟨(drop_head (hk1.trans hm3)).2, by omega, by simp; omega⟩) trivial ⟨rfl, rfl, rfl, rfl, trivial⟩ ⟨_, rfl⟩
set_option maxHeartbeats 1000000 in
theorem splitSeq_any (w : World) (s : ByteArray) :
    Calls Tryz.prog 110 #[.string s, .string ⟨#[47]⟩, .int .i64 0] w fun e w' => ∃ v T', e = .returned v ∧ (∃ b1 b2 b3, v = .func (.func 135) #[] #[.pointer (some ⟨b1, 0, none⟩), .pointer (some ⟨b2, 0, none⟩), .pointer (some ⟨b3, 0, none⟩)] ∧ T' = [box b2 (.cells #[.string s] 9), box b1 (.cells #[.string ⟨#[47]⟩] 9), box b3 (.cells #[.int .i64 0] 3)]) ∧ Mem w T' w' := by
  refine gcalls Tryz.func110 rfl Tryz.ntmps110 (Nat.le_of_ble_eq_true rfl) ?_
  refine gfrom [(0, .string _), (1, .string _), (2, .int _ _)] ⟨rfl, rfl, rfl, trivial⟩ fun σ => ?_
  refine gseq fun N1 hN1 => ?_
  refine greg ?_
  refine gop_box (v := .string _) (cs := #[_]) rfl rfl rfl (fun b3 hb3 => ?_)
  refine gop_box (v := .string _) (cs := #[_]) rfl rfl rfl (fun b4 hb4 => ?_)
  refine gop_box (v := .int _ _) (cs := #[_]) rfl rfl rfl (fun b5 hb5 => ?_)
  refine gop (y_assign (v := .nilFunc) rfl) rfl rfl rfl ?_
  refine gops_nil ?_
  refine hN1 _ _ ?_
  refine gT [box b3 _, box b4 _, box b5 _] rfl ?_
  refine gfrom [(3, .pointer _), (4, .pointer _), (5, .pointer _)] ⟨rfl, rfl, rfl, trivial⟩ fun σ => ?_
  refine gseq fun N2 hN2 => ?_
  refine greg ?_
  refine gop (y_makeFunc (vs := [.pointer (some ⟨b4, 0, none⟩), .pointer (some ⟨b3, 0, none⟩), .pointer (some ⟨b5, 0, none⟩)]) rfl) rfl rfl rfl ?_
  refine gop (y_assign (v := .func (.func 135) #[] #[.pointer (some ⟨b4, 0, none⟩), .pointer (some ⟨b3, 0, none⟩), .pointer (some ⟨b5, 0, none⟩)]) rfl) rfl rfl rfl ?_
  refine gops_nil ?_
  refine hN2 _ _ ?_
  refine gfrom [(6, .func (.func 135) #[] #[.pointer (some ⟨b4, 0, none⟩), .pointer (some ⟨b3, 0, none⟩), .pointer (some ⟨b5, 0, none⟩)])] ⟨rfl, trivial⟩ fun σ => ?_
  refine gret fun w1 hM => ?_
  refine ⟨_, res1 rfl (rt (v := .func (.func 135) #[] #[.pointer (some ⟨b4, 0, none⟩), .pointer (some ⟨b3, 0, none⟩), .pointer (some ⟨b5, 0, none⟩)]) rfl), ?_⟩
  exact ⟨_, _, rfl, ⟨_, _, _, rfl, rfl⟩, hM⟩
set_option maxHeartbeats 1000000 in
theorem splitSeqX_any (w : World) (s : ByteArray) :
    Calls Tryz.prog 81 #[.string s, .string ⟨#[47]⟩] w fun e w' => ∃ v T', e = .returned v ∧ (∃ b1 b2 b3, v = .func (.func 135) #[] #[.pointer (some ⟨b1, 0, none⟩), .pointer (some ⟨b2, 0, none⟩), .pointer (some ⟨b3, 0, none⟩)] ∧ T' = [box b2 (.cells #[.string s] 9), box b1 (.cells #[.string ⟨#[47]⟩] 9), box b3 (.cells #[.int .i64 0] 3)]) ∧ Mem w T' w' := by
  refine gcalls Tryz.func81 rfl Tryz.ntmps81 (Nat.le_of_ble_eq_true rfl) ?_
  refine gfrom [(0, .string _), (1, .string _)] ⟨rfl, rfl, trivial⟩ fun σ => ?_
  refine gseq fun N1 hN1 => ?_
  refine greg ?_
  refine gop (y_assign (v := .nilFunc) rfl) rfl rfl rfl ?_
  refine gops_nil ?_
  refine hN1 _ _ ?_
  refine gfrom [(0, .string _), (1, .string _)] ⟨rfl, rfl, trivial⟩ fun σ => ?_
  refine gseq fun N2 hN2 => ?_
  refine greg ?_
  refine gop (y_move (v := .string _) rfl) rfl rfl rfl ?_
  refine gop (y_move (v := .string _) rfl) rfl rfl rfl ?_
  refine gop_got (fun v T' => ∃ b1 b2 b3, v = .func (.func 135) #[] #[.pointer (some ⟨b1, 0, none⟩), .pointer (some ⟨b2, 0, none⟩), .pointer (some ⟨b3, 0, none⟩)] ∧ T' = [box b2 (.cells #[.string s] 9), box b1 (.cells #[.string ⟨#[47]⟩] 9), box b3 (.cells #[.int .i64 0] 3)]) (e_call (vs := [.string _, .string _, _]) Tryz.func110 rfl (by kernel_rfl) rfl) (fun w hM => splitSeq_any w s) rfl rfl rfl ?_
  rintro _ _ ⟨b1, b2, b3, rfl, rfl⟩
  refine gop (y_assign (v := .func _ _ _) rfl) rfl rfl rfl ?_
  refine gops_nil ?_
  refine hN2 _ _ ?_
  refine gT [box b2 _, box b1 _, box b3 _] rfl ?_
  refine gfrom [(4, .func _ _ _)] ⟨rfl, trivial⟩ fun σ => ?_
  refine gret fun w1 hM => ?_
  refine ⟨_, res1 rfl (rt (v := .func _ _ _) rfl), ?_⟩
  exact ⟨_, _, rfl, ⟨_, _, _, rfl, rfl⟩, hM⟩
end Go.Proofs.YtbkameioedmlkaaGreatDoor
namespace Go.Proofs.YtbkameioedmlkaaGreatDoor
open Go.RowKit Go.Cf
set_option maxRecDepth 10000
theorem bd33_0_1 (x1 : Int) (x2 : Int) : Tryz.prog.built 33 [(0, .int .i64 x1), (1, .int .i64 x2)] = some #[.int .i64 x1, .int .i64 x2] := by kernel_rfl
theorem bd33_  : Tryz.prog.built 33 [] = some #[.int .i64 0, .int .i64 0] := by kernel_rfl
set_option maxHeartbeats 1000000 in
theorem validate_any (w : World) (s : ByteArray) : Calls Tryz.prog 102 #[.string s] w fun e w' => e = .returned (fv (patFault s)) ∧ Below w.heap.size w w' := by
  refine gcalls Tryz.func102 rfl Tryz.ntmps102 (Nat.le_of_ble_eq_true rfl) ?_
  refine gfrom [(0, .string _)] ⟨rfl, trivial⟩ fun σ => ?_
  refine gseq fun N1 hN1 => ?_
  refine greg ?_
  refine gop_alloc (cs := #[.int .i64 0, .int .i64 0]) Tryz.zeroValue33 rfl rfl (fun b2 hb2 => ?_)
  refine gops_nil ?_
  refine hN1 _ _ ?_
  refine gT [box b2 _] rfl ?_
  refine gfrom [(0, .string _), (2, .pointer _)] ⟨rfl, rfl, trivial⟩ fun σ => ?_
  refine gseq fun N2 hN2 => ?_
  refine gseq fun N3 hN3 => ?_
  refine greg ?_
  refine gop (y_move (v := .string _) rfl) rfl rfl rfl ?_
  refine gop (y_lens Tryz.underlying9 rfl) rfl rfl rfl ?_
  refine gop (y_gtr rfl rfl) rfl rfl rfl ?_
  refine gops_nil ?_
  refine hN3 _ _ ?_
  refine gfrom [(0, .string _), (2, .pointer _), (7, .bool _)] ⟨rfl, rfl, rfl, trivial⟩ fun σ => ?_
  refine gcond (b := _) rfl (fun hc7 => ?_) (fun hc7 => ?_)
  · 
    replace hc7 := of_decide_eq_true hc7
    refine gseq fun N4 hN4 => ?_
    refine greg ?_
    refine gop (y_build (vs := [(0, _), (1, _)]) (cells := #[_, _]) rfl (bd33_0_1 _ _)) rfl rfl rfl ?_
    refine gop_store 0 (v := .agg #[_, _]) (cs' := #[_, _]) rfl rfl Tryz.sizeOf33 rfl rfl rfl rfl (Nat.le_of_ble_eq_true rfl) rfl rfl ?_
    refine gops_nil ?_
    refine hN4 _ _ ?_
    refine gT [box b2 _] rfl ?_
    refine gfrom [(2, .pointer _)] ⟨rfl, trivial⟩ fun σ => ?_
    refine gret fun w1 hM => ?_
    refine ⟨_, res1 rfl (rc 0 (cs := [_, _]) hM rfl rfl Tryz.isAgg33 Tryz.sizeOf33 rfl), ?_⟩
    exact ⟨by unfold patFault patCode; rw [if_pos (show 60 < s.size by omega)]; rfl, hM.low⟩
  · 
    replace hc7 := of_decide_eq_false hc7
    refine gskip ?_
    refine hN2 _ _ ?_
    refine gfrom [(0, .string _), (2, .pointer _)] ⟨rfl, rfl, trivial⟩ fun σ => ?_
    refine gseqAB fun N5 hN5 => ?_
    refine greg ?_
    refine gop (y_move (v := .string _) rfl) rfl rfl rfl ?_
    refine gop_got (fun v T' => ∃ c1 c2 c3, v = .func (.func 135) #[] #[.pointer (some ⟨c1, 0, none⟩), .pointer (some ⟨c2, 0, none⟩), .pointer (some ⟨c3, 0, none⟩)] ∧ T' = [box c2 (.cells #[.string s] 9), box c1 (.cells #[.string ⟨#[47]⟩] 9), box c3 (.cells #[.int .i64 0] 3)]) (e_call (vs := [.string _, _]) Tryz.func81 rfl (by kernel_rfl) rfl) (fun w hM => splitSeqX_any w s) rfl rfl rfl ?_
    rintro _ _ ⟨c1, c2, c3, rfl, rfl⟩
    refine gops_nil ?_
    refine hN5 _ _ ?_
    refine gthen_T [box b2 _, box c2 _, box c1 _, box c3 _] rfl ?_
    refine gthen_from [(2, .pointer _), (10, .func _ _ _)] ⟨rfl, rfl, trivial⟩ fun σ => ?_
    refine grange (lb := [.pointer (some ⟨c1, 0, none⟩), .pointer (some ⟨c2, 0, none⟩), .pointer (some ⟨c3, 0, none⟩)]) (ps := [11]) (xs := cutS s) (fun k => [sure (∀ j (h : j < (cutS s).length), j < k → partCode (cutS s)[j] = 0), box b2 (.cells #[.int .i64 0, .int .i64 0] 33)]) (fun _ (_ : Unit) => [sure (partsCode (cutS s) ≠ 0), box b2 (.cells #[.int .i64 (partsCode (cutS s) : Nat), .int .i64 (-1)] 33)]) rfl (e_enter Tryz.func135 rfl (by kernel_rfl)) (splitSeq1_iters s (by omega) c1 c2 c3 _) (fun w hM => (hM.perm (List.Perm.cons _ (List.Perm.swap _ _ _))).sure (fun _ _ h => absurd h (by omega))) (by decide) (fun _ => rfl) ?round ?done ?stop
    case round =>
      intro lR k x q hx NR hNR
      have hxs : x.size ≤ 60 := cutS_size (List.mem_of_getElem? hx) (by omega)
      refine g_fact (fun w hM => hM.known 1 rfl) ?_
      intro hJ
      refine gfrom [(2, .pointer _), (10, .func _ _ _), (11, .string x)] ⟨rfl, rfl, rfl, trivial⟩ fun σ => ?_
      refine greg ?_
      refine gop (y_assign (v := .string x) rfl) rfl rfl rfl ?_
      refine gops_nil ?_
      refine hNR _ _ fun q2 => ?_
      refine gfrom [(2, .pointer _), (3, .string x), (10, .func _ _ _)] ⟨rfl, rfl, rfl, trivial⟩ fun σ => ?_
      refine gblock ?_
      refine gseq fun N6 hN6 => ?_
      refine greg ?_
      refine gop (y_move (v := .string x) rfl) rfl rfl rfl ?_
      refine gop_pure (e_call (vs := [.string x]) Tryz.func120 rfl (by kernel_rfl) rfl) (fun w hM => part_any w _ (by omega)) rfl rfl rfl ?_
      refine gop (y_assign (v := .int _ _) rfl) rfl rfl rfl ?_
      refine gops_nil ?_
      refine hN6 _ _ ?_
      refine gfrom [(2, .pointer _), (3, .string x), (4, .int _ _), (10, .func _ _ _)] ⟨rfl, rfl, rfl, rfl, trivial⟩ fun σ => ?_
      refine gseq fun N7 hN7 => ?_
      refine greg ?_
      refine gop (y_move (v := .int _ _) rfl) rfl rfl rfl ?_
      refine gop (y_neq rfl rfl) rfl rfl rfl ?_
      refine gops_nil ?_
      refine hN7 _ _ ?_
      refine gfrom [(2, .pointer _), (3, .string x), (4, .int _ _), (10, .func _ _ _), (15, .bool _)] ⟨rfl, rfl, rfl, rfl, rfl, trivial⟩ fun σ => ?_
      refine gcond (b := _) rfl (fun hc15 => ?_) (fun hc15 => ?_)
      · 
        replace hc15 := of_decide_eq_true hc15
        refine gseq fun N8 hN8 => ?_
        refine greg ?_
        refine gop (y_move (v := .int _ _) rfl) rfl rfl rfl ?_
        refine gop (y_build (vs := [(0, .int _ _), (1, _)]) (cells := #[_, _]) rfl (bd33_0_1 _ _)) rfl rfl rfl ?_
        refine gop_store 2 (v := .agg #[_, _]) (cs' := #[_, _]) rfl rfl Tryz.sizeOf33 rfl rfl rfl rfl (Nat.le_of_ble_eq_true rfl) rfl rfl ?_
        refine gops_nil ?_
        refine hN8 _ _ ?_
        refine gT [_, sure _, box b2 _] rfl ?_
        refine gfrom [(2, .pointer _)] ⟨rfl, trivial⟩ fun σ => ?_
        refine gret fun w1 hM => ?_
        refine ⟨(), ?_⟩
        have hpc := partsCode_hit hx hJ (by omega)
        rw [← hpc] at hM
        exact hM.resure 1 rfl (by rw [hpc]; omega)
      · 
        replace hc15 := Decidable.not_not.1 (of_decide_eq_false hc15)
        refine gskip ?_
        intro w1 hM
        exact hM.resure 1 rfl (fun j h hj => by rcases Nat.lt_succ_iff_lt_or_eq.1 hj with h1 | rfl; exact hJ j h h1; have h2 := List.getElem?_eq_some_iff.1 hx; rw [h2.2]; omega)
    case done =>
      intro D qD
      refine gfrom [(2, .pointer _)] ⟨rfl, trivial⟩ fun σ => ?_
      refine g_fact (fun w hM => hM.known 2 rfl) ?_
      intro hJ
      have hz : partsCode (cutS s) = 0 := partsCode_zero (fun j h => hJ j h h)
      refine gseq fun N9 hN9 => ?_
      refine greg ?_
      refine gop (y_build (vs := []) (cells := #[.int .i64 0, .int .i64 0]) rfl bd33_) rfl rfl rfl ?_
      refine gop_store 3 (v := .agg #[_, _]) (cs' := #[_, _]) rfl rfl Tryz.sizeOf33 rfl rfl rfl rfl (Nat.le_of_ble_eq_true rfl) rfl rfl ?_
      refine gops_nil ?_
      refine hN9 _ _ ?_
      refine gT [_, _, sure _, box b2 _] rfl ?_
      refine gfrom [(2, .pointer _)] ⟨rfl, trivial⟩ fun σ => ?_
      refine gret (fin_marked 0 rfl rfl fun w1 hM => ?_)
      refine ⟨_, res1 rfl (rc 3 (cs := [_, _]) hM rfl rfl Tryz.isAgg33 Tryz.sizeOf33 rfl), ?_⟩
      exact ⟨by unfold patFault patCode; rw [if_neg (show ¬ 60 < s.size by omega), hz]; rfl, hM.low⟩
    case stop =>
      rintro D qD k - hk w1 hM
      refine ⟨_, res1 rfl (rc 3 (cs := [_, _]) hM rfl rfl Tryz.isAgg33 Tryz.sizeOf33 rfl), ?_⟩
      have hne := hM.known 2 rfl
      have hpc : patCode s = partsCode (cutS s) := by unfold patCode; rw [if_neg (by omega)]
      exact ⟨by unfold patFault; rw [hpc, if_neg hne], hM.low⟩
set_option maxHeartbeats 2000000 in
theorem validPath_any (w : World) (s : ByteArray) : Calls Tryz.prog 44 #[.string s] w fun e w' => e = .returned (.bool (pathOk s)) ∧ Below w.heap.size w w' := by
  refine gcalls Tryz.func44 rfl Tryz.ntmps44 (Nat.le_of_ble_eq_true rfl) ?_
  refine gfrom [(0, .string _)] ⟨rfl, trivial⟩ fun σ => ?_
  refine gseq fun N1 hN1 => ?_
  refine greg ?_
  refine gop_alloc (cs := #[.bool false]) Tryz.zeroValue4 rfl rfl (fun b2 hb2 => ?_)
  refine gops_nil ?_
  refine hN1 _ _ ?_
  refine gT [box b2 _] rfl ?_
  refine gfrom [(0, .string _), (2, .pointer _)] ⟨rfl, rfl, trivial⟩ fun σ => ?_
  refine gseq fun N2 hN2 => ?_
  refine gseq fun N3 hN3 => ?_
  refine greg ?_
  refine gop (y_move (v := .string _) rfl) rfl rfl rfl ?_
  refine gop (y_lens Tryz.underlying9 rfl) rfl rfl rfl ?_
  refine gop (y_gtr rfl rfl) rfl rfl rfl ?_
  refine gops_nil ?_
  refine hN3 _ _ ?_
  refine gfrom [(0, .string _), (2, .pointer _), (7, .bool _)] ⟨rfl, rfl, rfl, trivial⟩ fun σ => ?_
  refine gcond (b := _) rfl (fun hc7 => ?_) (fun hc7 => ?_)
  · 
    replace hc7 := of_decide_eq_true hc7
    refine gseq fun N4 hN4 => ?_
    refine greg ?_
    refine gop_store 0 (v := .bool _) (cs' := #[_]) rfl rfl Tryz.sizeOf4 rfl rfl rfl rfl (Nat.le_of_ble_eq_true rfl) rfl rfl ?_
    refine gops_nil ?_
    refine hN4 _ _ ?_
    refine gT [box b2 _] rfl ?_
    refine gfrom [(2, .pointer _)] ⟨rfl, trivial⟩ fun σ => ?_
    refine gret fun w1 hM => ?_
    refine ⟨_, res1 rfl (rc1 0 hM rfl rfl Tryz.isAgg4), ?_⟩
    exact ⟨by rw [show pathOk s = false by unfold pathOk; rw [decide_eq_false (by omega), Bool.and_false]], hM.low⟩
  · 
    replace hc7 := of_decide_eq_false hc7
    refine gskip ?_
    refine hN2 _ _ ?_
    refine gfrom [(0, .string _), (2, .pointer _)] ⟨rfl, rfl, trivial⟩ fun σ => ?_
    refine gseqAB fun N5 hN5 => ?_
    refine greg ?_
    refine gop (y_move (v := .string _) rfl) rfl rfl rfl ?_
    refine gop_got (fun v T' => ∃ c1 c2 c3, v = .func (.func 135) #[] #[.pointer (some ⟨c1, 0, none⟩), .pointer (some ⟨c2, 0, none⟩), .pointer (some ⟨c3, 0, none⟩)] ∧ T' = [box c2 (.cells #[.string s] 9), box c1 (.cells #[.string ⟨#[47]⟩] 9), box c3 (.cells #[.int .i64 0] 3)]) (e_call (vs := [.string _, _]) Tryz.func81 rfl (by kernel_rfl) rfl) (fun w hM => splitSeqX_any w s) rfl rfl rfl ?_
    rintro _ _ ⟨c1, c2, c3, rfl, rfl⟩
    refine gops_nil ?_
    refine hN5 _ _ ?_
    refine gthen_T [box b2 _, box c2 _, box c1 _, box c3 _] rfl ?_
    refine gthen_from [(2, .pointer _), (9, .func _ _ _)] ⟨rfl, rfl, trivial⟩ fun σ => ?_
    refine grange (lb := [.pointer (some ⟨c1, 0, none⟩), .pointer (some ⟨c2, 0, none⟩), .pointer (some ⟨c3, 0, none⟩)]) (ps := [10]) (xs := cutS s) (fun k => [sure (∀ j (h : j < (cutS s).length), j < k → nameOk (cutS s)[j] = true), box b2 (.cells #[.bool false] 4)]) (fun _ (_ : Unit) => [sure (pathOk s = false), box b2 (.cells #[.bool false] 4)]) rfl (e_enter Tryz.func135 rfl (by kernel_rfl)) (splitSeq1_iters s (by omega) c1 c2 c3 _) (fun w hM => (hM.perm (List.Perm.cons _ (List.Perm.swap _ _ _))).sure (fun _ _ h => absurd h (by omega))) (by decide) (fun _ => rfl) ?round ?done ?stop
    case round =>
      intro lR k x q hx NR hNR
      have hxs : x.size ≤ 60 := cutS_size (List.mem_of_getElem? hx) (by omega)
      refine g_fact (fun w hM => hM.known 1 rfl) ?_
      intro hJ
      refine gfrom [(2, .pointer _), (9, .func _ _ _), (10, .string x)] ⟨rfl, rfl, rfl, trivial⟩ fun σ => ?_
      refine greg ?_
      refine gop (y_assign (v := .string x) rfl) rfl rfl rfl ?_
      refine gops_nil ?_
      refine hNR _ _ fun q2 => ?_
      refine gfrom [(2, .pointer _), (3, .string x), (9, .func _ _ _)] ⟨rfl, rfl, rfl, trivial⟩ fun σ => ?_
      refine gblock ?_
      refine gseq fun N6 hN6 => ?_
      refine gseq fun N7 hN7 => ?_
      refine greg ?_
      refine gop (y_move (v := .string x) rfl) rfl rfl rfl ?_
      refine gop (y_eqls rfl rfl) rfl rfl rfl ?_
      refine gop (y_move (v := .bool _) rfl) rfl rfl rfl ?_
      refine gop_if (want := false) rfl rfl rfl rfl rfl rfl (fun hg13 => ?_) (fun hg13 => ?_)
      · 
        have hg13d := hg13
        refine gop (y_bare (y_move (v := .string x) rfl)) rfl rfl rfl ?_
        refine gop_on rfl rfl rfl rfl hg13 ?_
        refine gop (y_bare (y_eqls rfl rfl)) rfl rfl rfl ?_
        refine gop (y_pick_f (v := .bool _) rfl hg13 rfl) rfl rfl rfl ?_
        refine gop (y_move (v := .bool _) rfl) rfl rfl rfl ?_
        refine gop_if (want := false) rfl rfl rfl rfl rfl rfl (fun hg17 => ?_) (fun hg17 => ?_)
        · 
          have hg17d := hg17
          refine gop (y_bare (y_move (v := .string x) rfl)) rfl rfl rfl ?_
          refine gop_on rfl rfl rfl rfl hg17 ?_
          refine gop (y_bare (y_eqls rfl rfl)) rfl rfl rfl ?_
          refine gop (y_pick_f (v := .bool _) rfl hg17 rfl) rfl rfl rfl ?_
          refine gops_nil ?_
          refine hN7 _ _ ?_
          refine gfrom [(2, .pointer _), (3, .string x), (9, .func _ _ _), (20, .bool _)] ⟨rfl, rfl, rfl, rfl, trivial⟩ fun σ => ?_
          refine gcond (b := _) rfl (fun hc20 => ?_) (fun hc20 => ?_)
          · 
            refine gseq fun N8 hN8 => ?_
            refine greg ?_
            refine gop_store 2 (v := .bool _) (cs' := #[_]) rfl rfl Tryz.sizeOf4 rfl rfl rfl rfl (Nat.le_of_ble_eq_true rfl) rfl rfl ?_
            refine gops_nil ?_
            refine hN8 _ _ ?_
            refine gT [_, sure _, box b2 _] rfl ?_
            refine gfrom [(2, .pointer _)] ⟨rfl, trivial⟩ fun σ => ?_
            refine gret fun w1 hM => ?_
            refine ⟨(), ?_⟩
            have hb : nameOk x = false := by simp_all [nameOk, strEq]
            have hp : pathOk s = false := by unfold pathOk; rw [Bool.and_eq_false_iff]; left; rw [List.all_eq_false]; exact ⟨x, List.mem_of_getElem? hx, by simp [hb]⟩
            exact hM.resure 1 rfl hp
          · 
            refine gskip ?_
            refine hN6 _ _ ?_
            refine gfrom [(2, .pointer _), (3, .string x), (9, .func _ _ _)] ⟨rfl, rfl, rfl, trivial⟩ fun σ => ?_
            refine gseq fun N9 hN9 => ?_
            refine greg ?_
            refine gop (y_move (v := .string x) rfl) rfl rfl rfl ?_
            refine gop (y_lens Tryz.underlying9 rfl) rfl rfl rfl ?_
            refine gop (y_move (v := .int _ _) rfl) rfl rfl rfl ?_
            refine gops_nil ?_
            refine hN9 _ _ ?_
            refine gfrom [(2, .pointer _), (3, .string x), (9, .func _ _ _), (22, .int _ _), (23, .int _ _)] ⟨rfl, rfl, rfl, rfl, rfl, trivial⟩ fun σ => ?_
            refine gblock ?_
            refine gfrom2 [(23, .int _ _)] [(2, .pointer _), (3, .string x), (9, .func _ _ _), (22, .int _ _)] ⟨rfl, trivial⟩ ⟨rfl, rfl, rfl, rfl, trivial⟩ fun σ => ?_
            refine gloop2 (G := Nat) (fun i => i ≤ x.size ∧ ∀ j, j < i → letterB (byteAt x j) = true) (fun i => x.size - i) (fun i => [(23, .int .i64 (i : Int))]) (fun i => []) (0) ?h0 ⟨rfl, trivial⟩ ⟨rfl, rfl, rfl, rfl, trivial⟩ rfl ?round
            case h0 => exact ⟨Nat.zero_le _, fun _ h => absurd h (by omega)⟩
            case round =>
              intro i hφ σ
              obtain ⟨hi, hz⟩ := hφ
              refine gseq fun N10 hN10 => ?_
              refine greg ?_
              refine gop (y_lss rfl rfl) rfl rfl rfl ?_
              refine gops_nil ?_
              refine hN10 _ _ ?_
              refine gfrom [(2, .pointer _), (3, .string x), (9, .func _ _ _), (22, .int _ _), (23, .int _ _), (24, .bool _)] ⟨rfl, rfl, rfl, rfl, rfl, rfl, trivial⟩ fun σ => ?_
              refine gseq fun N11 hN11 => ?_
              refine gcond (b := _) rfl (fun hc24 => ?_) (fun hc24 => ?_)
              · 
                replace hc24 := of_decide_eq_true hc24
                refine gskip ?_
                refine hN11 _ _ ?_
                refine gfrom [(2, .pointer _), (3, .string x), (9, .func _ _ _), (22, .int _ _), (23, .int _ _)] ⟨rfl, rfl, rfl, rfl, rfl, trivial⟩ fun σ => ?_
                refine gseq fun N12 hN12 => ?_
                refine gblock ?_
                refine gseq fun N13 hN13 => ?_
                refine greg ?_
                refine gop (y_move (v := .int _ _) rfl) rfl rfl rfl ?_
                refine gop (y_assign (v := .int _ _) rfl) rfl rfl rfl ?_
                refine gops_nil ?_
                refine hN13 _ _ ?_
                refine gfrom [(2, .pointer _), (3, .string x), (4, .int _ _), (9, .func _ _ _), (22, .int _ _), (23, .int _ _)] ⟨rfl, rfl, rfl, rfl, rfl, rfl, trivial⟩ fun σ => ?_
                refine gseq fun N14 hN14 => ?_
                refine greg ?_
                refine gop (y_move (v := .string x) rfl) rfl rfl rfl ?_
                refine gop (y_move (v := .int _ _) rfl) rfl rfl rfl ?_
                refine gop (y_stridx (m := i) Tryz.underlying9 rfl rfl (by omega) (by omega) (by omega)) rfl rfl rfl ?_
                refine gop_pure (e_call (vs := [.int _ _]) Tryz.func82 rfl (by kernel_rfl) rfl) (fun w hM => letter_any w _) rfl rfl rfl ?_
                refine gop (y_not rfl) rfl rfl rfl ?_
                refine gops_nil ?_
                refine hN14 _ _ ?_
                refine gfrom [(2, .pointer _), (3, .string x), (9, .func _ _ _), (22, .int _ _), (23, .int _ _), (30, .bool _)] ⟨rfl, rfl, rfl, rfl, rfl, rfl, trivial⟩ fun σ => ?_
                refine gcond (b := _) rfl (fun hc30 => ?_) (fun hc30 => ?_)
                · 
                  replace hc30 := not_t hc30
                  refine gseq fun N15 hN15 => ?_
                  refine greg ?_
                  refine gop_store 2 (v := .bool _) (cs' := #[_]) rfl rfl Tryz.sizeOf4 rfl rfl rfl rfl (Nat.le_of_ble_eq_true rfl) rfl rfl ?_
                  refine gops_nil ?_
                  refine hN15 _ _ ?_
                  refine gT [_, sure _, box b2 _] rfl ?_
                  refine gfrom [(2, .pointer _)] ⟨rfl, trivial⟩ fun σ => ?_
                  refine gret fun w1 hM => ?_
                  refine ⟨(), ?_⟩
                  have hb : nameOk x = false := by exact nameOk_bad (k := i) (by omega) (by simpa using hc30)
                  have hp : pathOk s = false := by unfold pathOk; rw [Bool.and_eq_false_iff]; left; rw [List.all_eq_false]; exact ⟨x, List.mem_of_getElem? hx, by simp [hb]⟩
                  exact hM.resure 1 rfl hp
                · 
                  replace hc30 := not_f hc30
                  refine gskip ?_
                  refine hN12 _ _ ?_
                  refine gfrom [(2, .pointer _), (3, .string x), (9, .func _ _ _), (22, .int _ _), (23, .int _ _)] ⟨rfl, rfl, rfl, rfl, rfl, trivial⟩ fun σ => ?_
                  refine greg ?_
                  refine gop (y_add rfl rfl ⟨by omega, by omega⟩) rfl rfl rfl ?_
                  refine gop (y_move (v := .int _ _) rfl) rfl rfl rfl ?_
                  refine gops_nil ?_
                  refine gnext2 (i + 1) (by omega) (⟨by omega, fun j hj => by rcases Nat.lt_succ_iff_lt_or_eq.1 hj with h1 | rfl; exact hz j h1; simpa using hc30⟩) ⟨rfl, trivial⟩ ⟨rfl, rfl, rfl, rfl, trivial⟩ ⟨_, rfl⟩
              · 
                replace hc24 := of_decide_eq_false hc24
                refine gexit ?_
                intro w1 hM
                have hok : nameOk x = true := by rw [nameOk_all (fun j hj => hz j (by omega))]; simp_all [strEq]
                exact hM.resure 1 rfl (fun j h hj => by rcases Nat.lt_succ_iff_lt_or_eq.1 hj with h1 | rfl; exact hJ j h h1; have h2 := List.getElem?_eq_some_iff.1 hx; rw [h2.2]; exact hok)
        · 
          have hg17d := hg17
          refine gop_off rfl rfl rfl rfl hg17 rfl rfl ?_
          refine gop (y_pick_t (v := .bool _) rfl hg17 rfl) rfl rfl rfl ?_
          refine gops_nil ?_
          refine hN7 _ _ ?_
          refine gfrom [(2, .pointer _), (3, .string x), (9, .func _ _ _), (20, .bool _)] ⟨rfl, rfl, rfl, rfl, trivial⟩ fun σ => ?_
          refine gcond (b := _) rfl (fun hc20 => ?_) (fun hc20 => ?_)
          · 
            refine gseq fun N16 hN16 => ?_
            refine greg ?_
            refine gop_store 2 (v := .bool _) (cs' := #[_]) rfl rfl Tryz.sizeOf4 rfl rfl rfl rfl (Nat.le_of_ble_eq_true rfl) rfl rfl ?_
            refine gops_nil ?_
            refine hN16 _ _ ?_
            refine gT [_, sure _, box b2 _] rfl ?_
            refine gfrom [(2, .pointer _)] ⟨rfl, trivial⟩ fun σ => ?_
            refine gret fun w1 hM => ?_
            refine ⟨(), ?_⟩
            have hb : nameOk x = false := by simp_all [nameOk, strEq]
            have hp : pathOk s = false := by unfold pathOk; rw [Bool.and_eq_false_iff]; left; rw [List.all_eq_false]; exact ⟨x, List.mem_of_getElem? hx, by simp [hb]⟩
            exact hM.resure 1 rfl hp
          · 
            cases hc20
      · 
        have hg13d := hg13
        refine gop_off rfl rfl rfl rfl hg13 rfl rfl ?_
        refine gop (y_pick_t (v := .bool _) rfl hg13 rfl) rfl rfl rfl ?_
        refine gop (y_move (v := .bool _) rfl) rfl rfl rfl ?_
        refine gop_off rfl rfl rfl rfl rfl rfl rfl ?_
        refine gop_off rfl rfl rfl rfl rfl rfl rfl ?_
        refine gop (y_pick_t (v := .bool _) rfl rfl rfl) rfl rfl rfl ?_
        refine gops_nil ?_
        refine hN7 _ _ ?_
        refine gfrom [(2, .pointer _), (3, .string x), (9, .func _ _ _), (20, .bool _)] ⟨rfl, rfl, rfl, rfl, trivial⟩ fun σ => ?_
        refine gcond (b := _) rfl (fun hc20 => ?_) (fun hc20 => ?_)
        · 
          refine gseq fun N17 hN17 => ?_
          refine greg ?_
          refine gop_store 2 (v := .bool _) (cs' := #[_]) rfl rfl Tryz.sizeOf4 rfl rfl rfl rfl (Nat.le_of_ble_eq_true rfl) rfl rfl ?_
          refine gops_nil ?_
          refine hN17 _ _ ?_
          refine gT [_, sure _, box b2 _] rfl ?_
          refine gfrom [(2, .pointer _)] ⟨rfl, trivial⟩ fun σ => ?_
          refine gret fun w1 hM => ?_
          refine ⟨(), ?_⟩
          have hb : nameOk x = false := by simp_all [nameOk, strEq]
          have hp : pathOk s = false := by unfold pathOk; rw [Bool.and_eq_false_iff]; left; rw [List.all_eq_false]; exact ⟨x, List.mem_of_getElem? hx, by simp [hb]⟩
          exact hM.resure 1 rfl hp
        · 
          cases hc20
    case done =>
      intro D qD
      refine gfrom [(2, .pointer _)] ⟨rfl, trivial⟩ fun σ => ?_
      refine g_fact (fun w hM => hM.known 2 rfl) ?_
      intro hJ
      have hz : pathOk s = true := by unfold pathOk; rw [List.all_eq_true.2 (fun x hx => by obtain ⟨j, hj, rfl⟩ := List.getElem_of_mem hx; exact hJ j hj hj), decide_eq_true (by omega)]; rfl
      refine gseq fun N18 hN18 => ?_
      refine greg ?_
      refine gop_store 3 (v := .bool _) (cs' := #[_]) rfl rfl Tryz.sizeOf4 rfl rfl rfl rfl (Nat.le_of_ble_eq_true rfl) rfl rfl ?_
      refine gops_nil ?_
      refine hN18 _ _ ?_
      refine gT [_, _, sure _, box b2 _] rfl ?_
      refine gfrom [(2, .pointer _)] ⟨rfl, trivial⟩ fun σ => ?_
      refine gret (fin_marked 0 rfl rfl fun w1 hM => ?_)
      refine ⟨_, res1 rfl (rc1 3 hM rfl rfl Tryz.isAgg4), ?_⟩
      exact ⟨by rw [hz], hM.low⟩
    case stop =>
      rintro D qD k - hk w1 hM
      refine ⟨_, res1 rfl (rc1 3 hM rfl rfl Tryz.isAgg4), ?_⟩
      have hne := hM.known 2 rfl
      exact ⟨by rw [hne], hM.low⟩
end Go.Proofs.YtbkameioedmlkaaGreatDoor
namespace Go.Cf
open Go.RowKit
theorem box_cell {b off : Nat} {cs : Array Value} {e : TypeId} {fz : Nat × Nat} {v : Value} {w : World} (h : (box b (.cells cs e fz)).ok w) (hc : cs[off]? = some v) : w.cell? ⟨b, off, none⟩ = some v := by
  have h' : w.heap[b]? = some (.cells cs e fz) := h
  simp [World.cell?, h', hc]
def starsTo (p : ByteArray) (l : List Bool) : Nat → List Bool
  | 0 => l
  | k + 1 => if byteAt p k = 42 ∧ (starsTo p l k)[k]? = some true then (starsTo p l k).set (k + 1) true else starsTo p l k
theorem starsTo_len (p : ByteArray) (l : List Bool) : ∀ k, (starsTo p l k).length = l.length
  | 0 => rfl
  | k + 1 => by rw [starsTo]; split <;> simp [starsTo_len p l k]
theorem starsTo_yes {p : ByteArray} {l : List Bool} {k : Nat} (h1 : byteAt p k = 42) (h2 : (starsTo p l k)[k]? = some true) : (starsTo p l k).set (k + 1) true = starsTo p l (k + 1) := by
  rw [starsTo, if_pos ⟨h1, h2⟩]
theorem starsTo_no {p : ByteArray} {l : List Bool} {k : Nat} (h : ¬ (byteAt p k = 42 ∧ (starsTo p l k)[k]? = some true)) : starsTo p l k = starsTo p l (k + 1) := by
  rw [starsTo, if_neg h]
def nextTo (p : ByteArray) (c : Nat) (l : List Bool) : Nat → List Bool
  | 0 => List.replicate (p.size + 1) false
  | i + 1 => if l[i]? = some true then
      if byteAt p i = 42 then (nextTo p c l i).set i true else if byteAt p i = 63 ∨ byteAt p i = c then (nextTo p c l i).set (i + 1) true else nextTo p c l i
    else nextTo p c l i
theorem nextTo_len (p : ByteArray) (c : Nat) (l : List Bool) : ∀ k, (nextTo p c l k).length = p.size + 1
  | 0 => by simp [nextTo]
  | k + 1 => by
    have ih := nextTo_len p c l k
    rw [nextTo]; (repeat' split) <;> simp [ih]
section
variable {p : ByteArray} {c i : Nat} {l : List Bool}
theorem nextTo_off (h : l[i]? = some false) : nextTo p c l i = nextTo p c l (i + 1) := by
  rw [nextTo, if_neg (by rw [h]; simp)]
theorem nextTo_star (h : l[i]? = some true) (h2 : byteAt p i = 42) : (nextTo p c l i).set i true = nextTo p c l (i + 1) := by
  rw [nextTo, if_pos h, if_pos h2]
theorem nextTo_char (h : l[i]? = some true) (h2 : byteAt p i ≠ 42) (h3 : byteAt p i = 63 ∨ byteAt p i = c) : (nextTo p c l i).set (i + 1) true = nextTo p c l (i + 1) := by
  rw [nextTo, if_pos h, if_neg h2, if_pos h3]
theorem nextTo_miss (h : l[i]? = some true) (h2 : byteAt p i ≠ 42) (h3 : ¬ (byteAt p i = 63 ∨ byteAt p i = c)) : nextTo p c l i = nextTo p c l (i + 1) := by
  rw [nextTo, if_pos h, if_neg h2, if_neg h3]
end
def nameRun (p s : ByteArray) : Nat → List Bool
  | 0 => starsTo p (true :: List.replicate p.size false) p.size
  | k + 1 => starsTo p (nextTo p (byteAt s k) (nameRun p s k) p.size) p.size
theorem nameRun_len (p s : ByteArray) : ∀ k, (nameRun p s k).length = p.size + 1
  | 0 => by rw [nameRun, starsTo_len]; simp
  | k + 1 => by rw [nameRun, starsTo_len, nextTo_len]
def nameM (p s : ByteArray) : Bool := (nameRun p s s.size)[p.size]?.getD false
def starW (f : List ByteArray → Bool) : List ByteArray → Bool
  | [] => f []
  | n :: ns => f (n :: ns) || starW f ns
def nameW (p : ByteArray) (f : List ByteArray → Bool) : List ByteArray → Bool
  | [] => false
  | n :: ns => nameM p n && f ns
def wk : List ByteArray → List ByteArray → Bool
  | [], ns => ns.isEmpty
  | p :: ps, ns => if strEq p sStars then starW (wk ps) ns else nameW p (wk ps) ns
def wkAt (P N : List ByteArray) (i j : Nat) : Bool := wk (P.drop i) (N.drop j)
section
variable {P N : List ByteArray} {i j : Nat}
theorem wk_end (hj : j ≤ N.length) : wkAt P N P.length j = decide ((j : Int) = N.length) := by
  unfold wkAt
  rw [List.drop_length, wk]
  by_cases h : j = N.length
  · subst h; simp
  · have h1 : j < N.length := by omega
    rw [List.drop_eq_getElem_cons h1]
    rw [decide_eq_false (by omega)]; rfl
theorem wk_star1 (hi : i < P.length) (hs : strEq P[i] sStars = true) (h : wkAt P N (i + 1) j = true) : wkAt P N i j = true := by
  unfold wkAt at *
  rw [List.drop_eq_getElem_cons hi, wk, if_pos hs]
  cases hn : N.drop j with
  | nil => rw [hn] at h; exact h
  | cons n ns => rw [hn] at h; rw [starW, h]; rfl
theorem wk_star2 (hi : i < P.length) (hs : strEq P[i] sStars = true) (h : wkAt P N (i + 1) j = false) (hj : j < N.length) : wkAt P N i j = wkAt P N i (j + 1) := by
  unfold wkAt at *
  rw [List.drop_eq_getElem_cons hi, wk, if_pos hs, wk, if_pos hs]
  rw [List.drop_eq_getElem_cons hj] at h ⊢
  rw [starW, h, Bool.false_or]
theorem wk_star3 (hi : i < P.length) (hs : strEq P[i] sStars = true) (h : wkAt P N (i + 1) j = false) (hj : ¬ j < N.length) : wkAt P N i j = false := by
  unfold wkAt at *
  rw [List.drop_eq_getElem_cons hi, wk, if_pos hs]
  rw [List.drop_of_length_le (l := N) (by omega)] at h ⊢
  exact h
theorem wk_name (hi : i < P.length) (hs : strEq P[i] sStars = false) (hj : j < N.length) : wkAt P N i j = (nameM P[i] N[j] && wkAt P N (i + 1) (j + 1)) := by
  unfold wkAt
  rw [List.drop_eq_getElem_cons hi, List.drop_eq_getElem_cons hj, wk, if_neg (by simp [hs]), nameW]
theorem wk_name0 (hi : i < P.length) (hs : strEq P[i] sStars = false) (hj : ¬ j < N.length) : wkAt P N i j = false := by
  unfold wkAt
  rw [List.drop_eq_getElem_cons hi, List.drop_of_length_le (l := N) (by omega), wk, if_neg (by simp [hs]), nameW]
end
theorem patFault_size {p : ByteArray} (h : patFault p = ⟨0, 0⟩) : p.size ≤ 60 := by
  unfold patFault patCode at h
  by_cases h1 : 60 < p.size
  · simp [h1] at h
  · omega
theorem pathOk_size {s : ByteArray} (h : pathOk s = true) : s.size ≤ 60 := by
  unfold pathOk at h
  rw [Bool.and_eq_true] at h
  exact of_decide_eq_true h.2
def MemoOk (f : Nat → Nat → Bool) (l : List ((Nat × Nat) × Bool)) : Prop := ∀ i j b, look l (i, j) = some b → b = f i j
theorem memo_nil (f : Nat → Nat → Bool) : MemoOk f [] := fun _ _ _ h => by simp [look] at h
theorem memo_put {f : Nat → Nat → Bool} {l : List ((Nat × Nat) × Bool)} (h : MemoOk f l) (i j : Nat) : MemoOk f (putK l (i, j) (f i j)) := fun a b c hc => by
  rw [look_put] at hc
  split at hc
  · rename_i e; cases e; cases hc; rfl
  · exact h a b c hc
theorem memo_hit {f : Nat → Nat → Bool} {l : List ((Nat × Nat) × Bool)} (h : MemoOk f l) {i j : Nat} (hs : (look l (i, j)).isSome = true) : (look l (i, j)).getD false = f i j := by
  obtain ⟨b, hb⟩ := Option.isSome_iff_exists.1 hs
  rw [hb]; exact h i j b hb
end Go.Cf
