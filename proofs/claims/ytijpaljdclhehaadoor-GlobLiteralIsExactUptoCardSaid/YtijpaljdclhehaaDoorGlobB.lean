/- walks, printed by program -/
import Derived.Test.YtijpaljdclhehaaDoorGlobA
namespace Go.Proofs.YtijpaljdclhehaaDoor
open Go.RowKit Go.Cf
set_option maxRecDepth 10000



set_option maxHeartbeats 2000000 in
theorem part_any (w : World) (s : ByteArray) (hs : s.size ≤ 4000000) : Calls Tryd.prog 65 #[.string s] w fun e w' => e = .returned (.int .i64 (partCode s : Nat)) ∧ Below w.heap.size w w' := by
  refine gcalls Tryd.func65 rfl Tryd.ntmps65 (Nat.le_of_ble_eq_true rfl) ?_
  refine gfrom [(0, .string _)] ⟨rfl, trivial⟩ fun σ => ?_
  refine gseq fun N1 hN1 => ?_
  refine greg ?_
  refine gop (y_assign (v := .int _ _) rfl) rfl rfl rfl ?_
  refine gops_nil ?_
  refine hN1 _ _ ?_
  refine gfrom [(0, .string _)] ⟨rfl, trivial⟩ fun σ => ?_
  refine gseq fun N2 hN2 => ?_
  refine gseq fun N3 hN3 => ?_
  refine greg ?_
  refine gop (y_move (v := .string _) rfl) rfl rfl rfl ?_
  refine gop (y_eqls rfl rfl) rfl rfl rfl ?_
  refine gop (y_move (v := .bool _) rfl) rfl rfl rfl ?_
  refine gop_if (want := false) rfl rfl rfl rfl rfl rfl (fun hg7 => ?_) (fun hg7 => ?_)
  · -- guard 7 on
    have hg7d := hg7
    refine gop (y_bare (y_move (v := .string _) rfl)) rfl rfl rfl ?_
    refine gop_on rfl rfl rfl rfl hg7 ?_
    refine gop (y_bare (y_eqls rfl rfl)) rfl rfl rfl ?_
    refine gop (y_pick_f (v := .bool _) rfl hg7 rfl) rfl rfl rfl ?_
    refine gop (y_move (v := .bool _) rfl) rfl rfl rfl ?_
    refine gop_if (want := false) rfl rfl rfl rfl rfl rfl (fun hg11 => ?_) (fun hg11 => ?_)
    · -- guard 11 on
      have hg11d := hg11
      refine gop (y_bare (y_move (v := .string _) rfl)) rfl rfl rfl ?_
      refine gop_on rfl rfl rfl rfl hg11 ?_
      refine gop (y_bare (y_eqls rfl rfl)) rfl rfl rfl ?_
      refine gop (y_pick_f (v := .bool _) rfl hg11 rfl) rfl rfl rfl ?_
      refine gops_nil ?_
      refine hN3 _ _ ?_
      refine gfrom [(0, .string _), (14, .bool _)] ⟨rfl, rfl, trivial⟩ fun σ => ?_
      refine gcond (b := _) rfl (fun hc14 => ?_) (fun hc14 => ?_)
      · -- slot 14 t
        refine gseq fun N4 hN4 => ?_
        refine greg ?_
        refine gop (y_assign (v := .int _ _) rfl) rfl rfl rfl ?_
        refine gops_nil ?_
        refine hN4 _ _ ?_
        refine gfrom [(2, .int _ _)] ⟨rfl, trivial⟩ fun σ => ?_
        refine gret fun w1 hM => ?_
        refine ⟨_, res1 rfl (rt (v := .int _ _) rfl), ?_⟩
        exact ⟨by rw [show partCode s = 12 by simp_all [partCode, dotty, strEq]]; rfl, hM.low⟩
      · -- slot 14 f
        refine gskip ?_
        refine hN2 _ _ ?_
        refine gfrom [(0, .string _)] ⟨rfl, trivial⟩ fun σ => ?_
        refine gseq fun N5 hN5 => ?_
        refine gseq fun N6 hN6 => ?_
        refine greg ?_
        refine gop (y_move (v := .string _) rfl) rfl rfl rfl ?_
        refine gop (y_lens Tryd.underlying9 rfl) rfl rfl rfl ?_
        refine gop (y_move (v := .int _ _) rfl) rfl rfl rfl ?_
        refine gops_nil ?_
        refine hN6 _ _ ?_
        refine gfrom [(0, .string _), (16, .int _ _), (17, .int _ _)] ⟨rfl, rfl, rfl, trivial⟩ fun σ => ?_
        refine gblock ?_
        refine gfrom2 [(17, .int _ _)] [(0, .string _), (16, .int _ _)] ⟨rfl, trivial⟩ ⟨rfl, rfl, trivial⟩ fun σ => ?_
        refine gloop2 (G := Nat) (fun k => k ≤ s.size ∧ (strEq s sStars = false → scanP s (s.size - k) = scanP s s.size)) (fun k => s.size - k) (fun k => [(17, .int .i64 (k : Int))]) (fun k => []) (0) ?h0 ⟨rfl, trivial⟩ ⟨rfl, rfl, trivial⟩ rfl ?round
        case h0 => exact ⟨Nat.zero_le _, fun _ => rfl⟩
        case round =>
          intro k hφ σ
          obtain ⟨hk, hz⟩ := hφ
          refine gseq fun N7 hN7 => ?_
          refine greg ?_
          refine gop (y_lss rfl rfl) rfl rfl rfl ?_
          refine gops_nil ?_
          refine hN7 _ _ ?_
          refine gfrom [(0, .string _), (16, .int _ _), (17, .int _ _), (18, .bool _)] ⟨rfl, rfl, rfl, rfl, trivial⟩ fun σ => ?_
          refine gseq fun N8 hN8 => ?_
          refine gcond (b := _) rfl (fun hc18 => ?_) (fun hc18 => ?_)
          · -- slot 18 t
            replace hc18 := of_decide_eq_true hc18
            refine gskip ?_
            refine hN8 _ _ ?_
            refine gfrom [(0, .string _), (16, .int _ _), (17, .int _ _)] ⟨rfl, rfl, rfl, trivial⟩ fun σ => ?_
            refine gseq fun N9 hN9 => ?_
            refine gblock ?_
            refine gseq fun N10 hN10 => ?_
            refine greg ?_
            refine gop (y_move (v := .int _ _) rfl) rfl rfl rfl ?_
            refine gop (y_assign (v := .int _ _) rfl) rfl rfl rfl ?_
            refine gops_nil ?_
            refine hN10 _ _ ?_
            refine gfrom [(0, .string _), (3, .int _ _), (16, .int _ _), (17, .int _ _)] ⟨rfl, rfl, rfl, rfl, trivial⟩ fun σ => ?_
            refine gseq fun N11 hN11 => ?_
            refine greg ?_
            refine gop (y_move (v := .string _) rfl) rfl rfl rfl ?_
            refine gop (y_move (v := .int _ _) rfl) rfl rfl rfl ?_
            refine gop (y_stridx (m := k) Tryd.underlying9 rfl rfl (by omega) (by omega) (by omega)) rfl rfl rfl ?_
            refine gop (y_assign (v := .int _ _) rfl) rfl rfl rfl ?_
            refine gops_nil ?_
            refine hN11 _ _ ?_
            refine gfrom [(0, .string _), (3, .int _ _), (4, .int _ _), (16, .int _ _), (17, .int _ _)] ⟨rfl, rfl, rfl, rfl, rfl, trivial⟩ fun σ => ?_
            refine gblock ?_
            refine gseq fun N12 hN12 => ?_
            refine greg ?_
            refine gop (y_move (v := .string _) rfl) rfl rfl rfl ?_
            refine gop (y_eqls rfl rfl) rfl rfl rfl ?_
            refine gop (y_assign (v := .bool _) rfl) rfl rfl rfl ?_
            refine gops_nil ?_
            refine hN12 _ _ ?_
            refine gfrom [(0, .string _), (3, .int _ _), (4, .int _ _), (16, .int _ _), (17, .int _ _), (23, .bool _)] ⟨rfl, rfl, rfl, rfl, rfl, rfl, trivial⟩ fun σ => ?_
            refine gcond (b := _) rfl (fun hc23 => ?_) (fun hc23 => ?_)
            · -- slot 23 t
              refine gskip ?_
              refine hN9 _ _ ?_
              refine gfrom [(0, .string _), (16, .int _ _), (17, .int _ _)] ⟨rfl, rfl, rfl, trivial⟩ fun σ => ?_
              refine greg ?_
              refine gop (y_add rfl rfl ⟨by omega, by omega⟩) rfl rfl rfl ?_
              refine gop (y_move (v := .int _ _) rfl) rfl rfl rfl ?_
              refine gops_nil ?_
              refine gnext2 (k + 1) (by omega) (⟨by omega, fun hss => by first | exact (scanP_step (by omega) (by simp [wildBad]; omega) (by first | (simp [charBad]; omega) | simp_all [charBad])).trans (hz hss) | (exfalso; simp_all [strEq]; done)⟩) ⟨rfl, trivial⟩ ⟨rfl, rfl, trivial⟩ ⟨_, rfl⟩
            · -- slot 23 f
              refine gseq fun N13 hN13 => ?_
              refine greg ?_
              refine gop (y_move (v := .int _ _) rfl) rfl rfl rfl ?_
              refine gop (y_eql rfl rfl) rfl rfl rfl ?_
              refine gop (y_move (v := .bool _) rfl) rfl rfl rfl ?_
              refine gop_if (want := true) rfl rfl rfl rfl rfl rfl (fun hg29 => ?_) (fun hg29 => ?_)
              · -- guard 29 on
                have hg29d := of_decide_eq_true hg29
                refine gop (y_bare (y_move (v := .int _ _) rfl)) rfl rfl rfl ?_
                refine gop_on rfl rfl rfl rfl hg29 ?_
                refine gop (y_bare (y_gtr rfl rfl)) rfl rfl rfl ?_
                refine gop (y_pick_t (v := .bool _) rfl hg29 rfl) rfl rfl rfl ?_
                refine gop (y_move (v := .bool _) rfl) rfl rfl rfl ?_
                refine gop_if (want := true) rfl rfl rfl rfl rfl rfl (fun hg33 => ?_) (fun hg33 => ?_)
                · -- guard 33 on
                  have hg33d := of_decide_eq_true hg33
                  refine gop (y_bare (y_move (v := .string _) rfl)) rfl rfl rfl ?_
                  refine gop_on rfl rfl rfl rfl hg33 ?_
                  refine gop (y_bare (y_move (v := .int _ _) rfl)) rfl rfl rfl ?_
                  refine gop_on rfl rfl rfl rfl hg33 ?_
                  refine gop (y_bare (y_sub rfl rfl ⟨by omega, by omega⟩)) rfl rfl rfl ?_
                  refine gop_on rfl rfl rfl rfl hg33 ?_
                  refine gop (y_bare (y_stridx (m := k - 1) Tryd.underlying9 rfl rfl (by omega) (by omega) (by omega))) rfl rfl rfl ?_
                  refine gop_on rfl rfl rfl rfl hg33 ?_
                  refine gop (y_bare (y_eql rfl rfl)) rfl rfl rfl ?_
                  refine gop (y_pick_t (v := .bool _) rfl hg33 rfl) rfl rfl rfl ?_
                  refine gop (y_assign (v := .bool _) rfl) rfl rfl rfl ?_
                  refine gops_nil ?_
                  refine hN13 _ _ ?_
                  refine gfrom [(0, .string _), (4, .int _ _), (16, .int _ _), (17, .int _ _), (26, .bool _)] ⟨rfl, rfl, rfl, rfl, rfl, trivial⟩ fun σ => ?_
                  refine gcond (b := _) rfl (fun hc26 => ?_) (fun hc26 => ?_)
                  · -- slot 26 t
                    replace hc26 := of_decide_eq_true hc26
                    refine gseq fun N14 hN14 => ?_
                    refine greg ?_
                    refine gop (y_assign (v := .int _ _) rfl) rfl rfl rfl ?_
                    refine gops_nil ?_
                    refine hN14 _ _ ?_
                    refine gfrom [(2, .int _ _)] ⟨rfl, trivial⟩ fun σ => ?_
                    refine gret fun w1 hM => ?_
                    refine ⟨_, res1 rfl (rt (v := .int _ _) rfl), ?_⟩
                    have hss : strEq s sStars = false := by simp_all [strEq]
                    exact ⟨by rw [show partCode s = 1 by rw [← scanP_wild (s := s) (k := k) (by omega) (by simp [wildBad]; omega), hz hss]; simp_all [partCode, dotty, strEq]]; rfl, hM.low⟩
                  · -- slot 26 f
                    replace hc26 := of_decide_eq_false hc26
                    refine gseq fun N15 hN15 => ?_
                    refine greg ?_
                    refine gop (y_move (v := .int _ _) rfl) rfl rfl rfl ?_
                    refine gop (y_neq rfl rfl) rfl rfl rfl ?_
                    refine gop (y_move (v := .bool _) rfl) rfl rfl rfl ?_
                    refine gop_if (want := true) rfl rfl rfl rfl rfl rfl (fun hg43 => ?_) (fun hg43 => ?_)
                    · -- guard 43 on
                      have hg43d := of_decide_eq_true hg43
                      refine gop (y_bare (y_move (v := .int _ _) rfl)) rfl rfl rfl ?_
                      refine gop_on rfl rfl rfl rfl hg43 ?_
                      refine gop (y_bare (y_neq rfl rfl)) rfl rfl rfl ?_
                      refine gop (y_pick_t (v := .bool _) rfl hg43 rfl) rfl rfl rfl ?_
                      refine gop (y_move (v := .bool _) rfl) rfl rfl rfl ?_
                      refine gop_if (want := true) rfl rfl rfl rfl rfl rfl (fun hg47 => ?_) (fun hg47 => ?_)
                      · -- guard 47 on
                        have hg47d := of_decide_eq_true hg47
                        refine gop (y_bare (y_move (v := .int _ _) rfl)) rfl rfl rfl ?_
                        refine gop_on rfl rfl rfl rfl hg47 ?_
                        refine gop_pure (e_call (vs := [.int _ _]) Tryd.func68 rfl (by kernel_rfl) rfl) (fun w hM => letter_any w _) rfl rfl rfl ?_
                        refine gop_on rfl rfl rfl rfl hg47 ?_
                        refine gop (y_bare (y_not rfl)) rfl rfl rfl ?_
                        refine gop (y_pick_t (v := .bool _) rfl hg47 rfl) rfl rfl rfl ?_
                        refine gop (y_assign (v := .bool _) rfl) rfl rfl rfl ?_
                        refine gops_nil ?_
                        refine hN15 _ _ ?_
                        refine gfrom [(0, .string _), (16, .int _ _), (17, .int _ _), (40, .bool _)] ⟨rfl, rfl, rfl, rfl, trivial⟩ fun σ => ?_
                        refine gcond (b := _) rfl (fun hc40 => ?_) (fun hc40 => ?_)
                        · -- slot 40 t
                          replace hc40 := not_t hc40
                          refine gseq fun N16 hN16 => ?_
                          refine greg ?_
                          refine gop (y_assign (v := .int _ _) rfl) rfl rfl rfl ?_
                          refine gops_nil ?_
                          refine hN16 _ _ ?_
                          refine gfrom [(2, .int _ _)] ⟨rfl, trivial⟩ fun σ => ?_
                          refine gret fun w1 hM => ?_
                          refine ⟨_, res1 rfl (rt (v := .int _ _) rfl), ?_⟩
                          have hss : strEq s sStars = false := by simp_all [strEq]
                          exact ⟨by rw [show partCode s = 12 by rw [← scanP_char (s := s) (k := k) (by omega) (by simp [wildBad]; omega) (by first | (simp_all [charBad]; done) | (simp_all [charBad]; omega)), hz hss]; simp_all [partCode, dotty, strEq]]; rfl, hM.low⟩
                        · -- slot 40 f
                          replace hc40 := not_f hc40
                          refine gskip ?_
                          refine hN9 _ _ ?_
                          refine gfrom [(0, .string _), (16, .int _ _), (17, .int _ _)] ⟨rfl, rfl, rfl, trivial⟩ fun σ => ?_
                          refine greg ?_
                          refine gop (y_add rfl rfl ⟨by omega, by omega⟩) rfl rfl rfl ?_
                          refine gop (y_move (v := .int _ _) rfl) rfl rfl rfl ?_
                          refine gops_nil ?_
                          refine gnext2 (k + 1) (by omega) (⟨by omega, fun hss => by first | exact (scanP_step (by omega) (by simp [wildBad]; omega) (by first | (simp [charBad]; omega) | simp_all [charBad])).trans (hz hss) | (exfalso; simp_all [strEq]; done)⟩) ⟨rfl, trivial⟩ ⟨rfl, rfl, trivial⟩ ⟨_, rfl⟩
                      · -- guard 47 off
                        have hg47d := Decidable.not_not.1 (of_decide_eq_false hg47)
                        refine gop_off rfl rfl rfl rfl hg47 rfl rfl ?_
                        refine gop_off rfl rfl rfl rfl hg47 rfl rfl ?_
                        refine gop (y_pick_f (v := .bool _) rfl hg47 rfl) rfl rfl rfl ?_
                        refine gop (y_assign (v := .bool _) rfl) rfl rfl rfl ?_
                        refine gops_nil ?_
                        refine hN15 _ _ ?_
                        refine gfrom [(0, .string _), (16, .int _ _), (17, .int _ _), (40, .bool _)] ⟨rfl, rfl, rfl, rfl, trivial⟩ fun σ => ?_
                        refine gcond (b := _) rfl (fun hc40 => ?_) (fun hc40 => ?_)
                        · -- slot 40 t
                          cases hc40
                        · -- slot 40 f
                          refine gskip ?_
                          refine hN9 _ _ ?_
                          refine gfrom [(0, .string _), (16, .int _ _), (17, .int _ _)] ⟨rfl, rfl, rfl, trivial⟩ fun σ => ?_
                          refine greg ?_
                          refine gop (y_add rfl rfl ⟨by omega, by omega⟩) rfl rfl rfl ?_
                          refine gop (y_move (v := .int _ _) rfl) rfl rfl rfl ?_
                          refine gops_nil ?_
                          refine gnext2 (k + 1) (by omega) (⟨by omega, fun hss => by first | exact (scanP_step (by omega) (by simp [wildBad]; omega) (by first | (simp [charBad]; omega) | simp_all [charBad])).trans (hz hss) | (exfalso; simp_all [strEq]; done)⟩) ⟨rfl, trivial⟩ ⟨rfl, rfl, trivial⟩ ⟨_, rfl⟩
                    · -- guard 43 off
                      have hg43d := Decidable.not_not.1 (of_decide_eq_false hg43)
                      refine gop_off rfl rfl rfl rfl hg43 rfl rfl ?_
                      refine gop (y_pick_f (v := .bool _) rfl hg43 rfl) rfl rfl rfl ?_
                      refine gop (y_move (v := .bool _) rfl) rfl rfl rfl ?_
                      refine gop_off rfl rfl rfl rfl rfl rfl rfl ?_
                      refine gop_off rfl rfl rfl rfl rfl rfl rfl ?_
                      refine gop_off rfl rfl rfl rfl rfl rfl rfl ?_
                      refine gop (y_pick_f (v := .bool _) rfl rfl rfl) rfl rfl rfl ?_
                      refine gop (y_assign (v := .bool _) rfl) rfl rfl rfl ?_
                      refine gops_nil ?_
                      refine hN15 _ _ ?_
                      refine gfrom [(0, .string _), (16, .int _ _), (17, .int _ _), (40, .bool _)] ⟨rfl, rfl, rfl, rfl, trivial⟩ fun σ => ?_
                      refine gcond (b := _) rfl (fun hc40 => ?_) (fun hc40 => ?_)
                      · -- slot 40 t
                        cases hc40
                      · -- slot 40 f
                        refine gskip ?_
                        refine hN9 _ _ ?_
                        refine gfrom [(0, .string _), (16, .int _ _), (17, .int _ _)] ⟨rfl, rfl, rfl, trivial⟩ fun σ => ?_
                        refine greg ?_
                        refine gop (y_add rfl rfl ⟨by omega, by omega⟩) rfl rfl rfl ?_
                        refine gop (y_move (v := .int _ _) rfl) rfl rfl rfl ?_
                        refine gops_nil ?_
                        refine gnext2 (k + 1) (by omega) (⟨by omega, fun hss => by first | exact (scanP_step (by omega) (by simp [wildBad]; omega) (by first | (simp [charBad]; omega) | simp_all [charBad])).trans (hz hss) | (exfalso; simp_all [strEq]; done)⟩) ⟨rfl, trivial⟩ ⟨rfl, rfl, trivial⟩ ⟨_, rfl⟩
                · -- guard 33 off
                  have hg33d := of_decide_eq_false hg33
                  refine gop_off rfl rfl rfl rfl hg33 rfl rfl ?_
                  refine gop_off rfl rfl rfl rfl hg33 rfl rfl ?_
                  refine gop_off rfl rfl rfl rfl hg33 rfl rfl ?_
                  refine gop_off rfl rfl rfl rfl hg33 rfl rfl ?_
                  refine gop (y_pick_f (v := .bool _) rfl hg33 rfl) rfl rfl rfl ?_
                  refine gop (y_assign (v := .bool _) rfl) rfl rfl rfl ?_
                  refine gops_nil ?_
                  refine hN13 _ _ ?_
                  refine gfrom [(0, .string _), (4, .int _ _), (16, .int _ _), (17, .int _ _), (26, .bool _)] ⟨rfl, rfl, rfl, rfl, rfl, trivial⟩ fun σ => ?_
                  refine gcond (b := _) rfl (fun hc26 => ?_) (fun hc26 => ?_)
                  · -- slot 26 t
                    cases hc26
                  · -- slot 26 f
                    refine gseq fun N17 hN17 => ?_
                    refine greg ?_
                    refine gop (y_move (v := .int _ _) rfl) rfl rfl rfl ?_
                    refine gop (y_neq rfl rfl) rfl rfl rfl ?_
                    refine gop (y_move (v := .bool _) rfl) rfl rfl rfl ?_
                    refine gop_if (want := true) rfl rfl rfl rfl rfl rfl (fun hg43 => ?_) (fun hg43 => ?_)
                    · -- guard 43 on
                      have hg43d := of_decide_eq_true hg43
                      refine gop (y_bare (y_move (v := .int _ _) rfl)) rfl rfl rfl ?_
                      refine gop_on rfl rfl rfl rfl hg43 ?_
                      refine gop (y_bare (y_neq rfl rfl)) rfl rfl rfl ?_
                      refine gop (y_pick_t (v := .bool _) rfl hg43 rfl) rfl rfl rfl ?_
                      refine gop (y_move (v := .bool _) rfl) rfl rfl rfl ?_
                      refine gop_if (want := true) rfl rfl rfl rfl rfl rfl (fun hg47 => ?_) (fun hg47 => ?_)
                      · -- guard 47 on
                        have hg47d := of_decide_eq_true hg47
                        refine gop (y_bare (y_move (v := .int _ _) rfl)) rfl rfl rfl ?_
                        refine gop_on rfl rfl rfl rfl hg47 ?_
                        refine gop_pure (e_call (vs := [.int _ _]) Tryd.func68 rfl (by kernel_rfl) rfl) (fun w hM => letter_any w _) rfl rfl rfl ?_
                        refine gop_on rfl rfl rfl rfl hg47 ?_
                        refine gop (y_bare (y_not rfl)) rfl rfl rfl ?_
                        refine gop (y_pick_t (v := .bool _) rfl hg47 rfl) rfl rfl rfl ?_
                        refine gop (y_assign (v := .bool _) rfl) rfl rfl rfl ?_
                        refine gops_nil ?_
                        refine hN17 _ _ ?_
                        refine gfrom [(0, .string _), (16, .int _ _), (17, .int _ _), (40, .bool _)] ⟨rfl, rfl, rfl, rfl, trivial⟩ fun σ => ?_
                        refine gcond (b := _) rfl (fun hc40 => ?_) (fun hc40 => ?_)
                        · -- slot 40 t
                          replace hc40 := not_t hc40
                          refine gseq fun N18 hN18 => ?_
                          refine greg ?_
                          refine gop (y_assign (v := .int _ _) rfl) rfl rfl rfl ?_
                          refine gops_nil ?_
                          refine hN18 _ _ ?_
                          refine gfrom [(2, .int _ _)] ⟨rfl, trivial⟩ fun σ => ?_
                          refine gret fun w1 hM => ?_
                          refine ⟨_, res1 rfl (rt (v := .int _ _) rfl), ?_⟩
                          have hss : strEq s sStars = false := by simp_all [strEq]
                          exact ⟨by rw [show partCode s = 12 by rw [← scanP_char (s := s) (k := k) (by omega) (by simp [wildBad]; omega) (by first | (simp_all [charBad]; done) | (simp_all [charBad]; omega)), hz hss]; simp_all [partCode, dotty, strEq]]; rfl, hM.low⟩
                        · -- slot 40 f
                          replace hc40 := not_f hc40
                          refine gskip ?_
                          refine hN9 _ _ ?_
                          refine gfrom [(0, .string _), (16, .int _ _), (17, .int _ _)] ⟨rfl, rfl, rfl, trivial⟩ fun σ => ?_
                          refine greg ?_
                          refine gop (y_add rfl rfl ⟨by omega, by omega⟩) rfl rfl rfl ?_
                          refine gop (y_move (v := .int _ _) rfl) rfl rfl rfl ?_
                          refine gops_nil ?_
                          refine gnext2 (k + 1) (by omega) (⟨by omega, fun hss => by first | exact (scanP_step (by omega) (by simp [wildBad]; omega) (by first | (simp [charBad]; omega) | simp_all [charBad])).trans (hz hss) | (exfalso; simp_all [strEq]; done)⟩) ⟨rfl, trivial⟩ ⟨rfl, rfl, trivial⟩ ⟨_, rfl⟩
                      · -- guard 47 off
                        have hg47d := Decidable.not_not.1 (of_decide_eq_false hg47)
                        refine gop_off rfl rfl rfl rfl hg47 rfl rfl ?_
                        refine gop_off rfl rfl rfl rfl hg47 rfl rfl ?_
                        refine gop (y_pick_f (v := .bool _) rfl hg47 rfl) rfl rfl rfl ?_
                        refine gop (y_assign (v := .bool _) rfl) rfl rfl rfl ?_
                        refine gops_nil ?_
                        refine hN17 _ _ ?_
                        refine gfrom [(0, .string _), (16, .int _ _), (17, .int _ _), (40, .bool _)] ⟨rfl, rfl, rfl, rfl, trivial⟩ fun σ => ?_
                        refine gcond (b := _) rfl (fun hc40 => ?_) (fun hc40 => ?_)
                        · -- slot 40 t
                          cases hc40
                        · -- slot 40 f
                          refine gskip ?_
                          refine hN9 _ _ ?_
                          refine gfrom [(0, .string _), (16, .int _ _), (17, .int _ _)] ⟨rfl, rfl, rfl, trivial⟩ fun σ => ?_
                          refine greg ?_
                          refine gop (y_add rfl rfl ⟨by omega, by omega⟩) rfl rfl rfl ?_
                          refine gop (y_move (v := .int _ _) rfl) rfl rfl rfl ?_
                          refine gops_nil ?_
                          refine gnext2 (k + 1) (by omega) (⟨by omega, fun hss => by first | exact (scanP_step (by omega) (by simp [wildBad]; omega) (by first | (simp [charBad]; omega) | simp_all [charBad])).trans (hz hss) | (exfalso; simp_all [strEq]; done)⟩) ⟨rfl, trivial⟩ ⟨rfl, rfl, trivial⟩ ⟨_, rfl⟩
                    · -- guard 43 off
                      have hg43d := Decidable.not_not.1 (of_decide_eq_false hg43)
                      refine gop_off rfl rfl rfl rfl hg43 rfl rfl ?_
                      refine gop (y_pick_f (v := .bool _) rfl hg43 rfl) rfl rfl rfl ?_
                      refine gop (y_move (v := .bool _) rfl) rfl rfl rfl ?_
                      refine gop_off rfl rfl rfl rfl rfl rfl rfl ?_
                      refine gop_off rfl rfl rfl rfl rfl rfl rfl ?_
                      refine gop_off rfl rfl rfl rfl rfl rfl rfl ?_
                      refine gop (y_pick_f (v := .bool _) rfl rfl rfl) rfl rfl rfl ?_
                      refine gop (y_assign (v := .bool _) rfl) rfl rfl rfl ?_
                      refine gops_nil ?_
                      refine hN17 _ _ ?_
                      refine gfrom [(0, .string _), (16, .int _ _), (17, .int _ _), (40, .bool _)] ⟨rfl, rfl, rfl, rfl, trivial⟩ fun σ => ?_
                      refine gcond (b := _) rfl (fun hc40 => ?_) (fun hc40 => ?_)
                      · -- slot 40 t
                        cases hc40
                      · -- slot 40 f
                        refine gskip ?_
                        refine hN9 _ _ ?_
                        refine gfrom [(0, .string _), (16, .int _ _), (17, .int _ _)] ⟨rfl, rfl, rfl, trivial⟩ fun σ => ?_
                        refine greg ?_
                        refine gop (y_add rfl rfl ⟨by omega, by omega⟩) rfl rfl rfl ?_
                        refine gop (y_move (v := .int _ _) rfl) rfl rfl rfl ?_
                        refine gops_nil ?_
                        refine gnext2 (k + 1) (by omega) (⟨by omega, fun hss => by first | exact (scanP_step (by omega) (by simp [wildBad]; omega) (by first | (simp [charBad]; omega) | simp_all [charBad])).trans (hz hss) | (exfalso; simp_all [strEq]; done)⟩) ⟨rfl, trivial⟩ ⟨rfl, rfl, trivial⟩ ⟨_, rfl⟩
              · -- guard 29 off
                have hg29d := of_decide_eq_false hg29
                refine gop_off rfl rfl rfl rfl hg29 rfl rfl ?_
                refine gop (y_pick_f (v := .bool _) rfl hg29 rfl) rfl rfl rfl ?_
                refine gop (y_move (v := .bool _) rfl) rfl rfl rfl ?_
                refine gop_off rfl rfl rfl rfl rfl rfl rfl ?_
                refine gop_off rfl rfl rfl rfl rfl rfl rfl ?_
                refine gop_off rfl rfl rfl rfl rfl rfl rfl ?_
                refine gop_off rfl rfl rfl rfl rfl rfl rfl ?_
                refine gop_off rfl rfl rfl rfl rfl rfl rfl ?_
                refine gop (y_pick_f (v := .bool _) rfl rfl rfl) rfl rfl rfl ?_
                refine gop (y_assign (v := .bool _) rfl) rfl rfl rfl ?_
                refine gops_nil ?_
                refine hN13 _ _ ?_
                refine gfrom [(0, .string _), (4, .int _ _), (16, .int _ _), (17, .int _ _), (26, .bool _)] ⟨rfl, rfl, rfl, rfl, rfl, trivial⟩ fun σ => ?_
                refine gcond (b := _) rfl (fun hc26 => ?_) (fun hc26 => ?_)
                · -- slot 26 t
                  cases hc26
                · -- slot 26 f
                  refine gseq fun N19 hN19 => ?_
                  refine greg ?_
                  refine gop (y_move (v := .int _ _) rfl) rfl rfl rfl ?_
                  refine gop (y_neq rfl rfl) rfl rfl rfl ?_
                  refine gop (y_move (v := .bool _) rfl) rfl rfl rfl ?_
                  refine gop_if (want := true) rfl rfl rfl rfl rfl rfl (fun hg43 => ?_) (fun hg43 => ?_)
                  · -- guard 43 on
                    have hg43d := of_decide_eq_true hg43
                    refine gop (y_bare (y_move (v := .int _ _) rfl)) rfl rfl rfl ?_
                    refine gop_on rfl rfl rfl rfl hg43 ?_
                    refine gop (y_bare (y_neq rfl rfl)) rfl rfl rfl ?_
                    refine gop (y_pick_t (v := .bool _) rfl hg43 rfl) rfl rfl rfl ?_
                    refine gop (y_move (v := .bool _) rfl) rfl rfl rfl ?_
                    refine gop_if (want := true) rfl rfl rfl rfl rfl rfl (fun hg47 => ?_) (fun hg47 => ?_)
                    · -- guard 47 on
                      have hg47d := of_decide_eq_true hg47
                      refine gop (y_bare (y_move (v := .int _ _) rfl)) rfl rfl rfl ?_
                      refine gop_on rfl rfl rfl rfl hg47 ?_
                      refine gop_pure (e_call (vs := [.int _ _]) Tryd.func68 rfl (by kernel_rfl) rfl) (fun w hM => letter_any w _) rfl rfl rfl ?_
                      refine gop_on rfl rfl rfl rfl hg47 ?_
                      refine gop (y_bare (y_not rfl)) rfl rfl rfl ?_
                      refine gop (y_pick_t (v := .bool _) rfl hg47 rfl) rfl rfl rfl ?_
                      refine gop (y_assign (v := .bool _) rfl) rfl rfl rfl ?_
                      refine gops_nil ?_
                      refine hN19 _ _ ?_
                      refine gfrom [(0, .string _), (16, .int _ _), (17, .int _ _), (40, .bool _)] ⟨rfl, rfl, rfl, rfl, trivial⟩ fun σ => ?_
                      refine gcond (b := _) rfl (fun hc40 => ?_) (fun hc40 => ?_)
                      · -- slot 40 t
                        replace hc40 := not_t hc40
                        refine gseq fun N20 hN20 => ?_
                        refine greg ?_
                        refine gop (y_assign (v := .int _ _) rfl) rfl rfl rfl ?_
                        refine gops_nil ?_
                        refine hN20 _ _ ?_
                        refine gfrom [(2, .int _ _)] ⟨rfl, trivial⟩ fun σ => ?_
                        refine gret fun w1 hM => ?_
                        refine ⟨_, res1 rfl (rt (v := .int _ _) rfl), ?_⟩
                        have hss : strEq s sStars = false := by simp_all [strEq]
                        exact ⟨by rw [show partCode s = 12 by rw [← scanP_char (s := s) (k := k) (by omega) (by simp [wildBad]; omega) (by first | (simp_all [charBad]; done) | (simp_all [charBad]; omega)), hz hss]; simp_all [partCode, dotty, strEq]]; rfl, hM.low⟩
                      · -- slot 40 f
                        replace hc40 := not_f hc40
                        refine gskip ?_
                        refine hN9 _ _ ?_
                        refine gfrom [(0, .string _), (16, .int _ _), (17, .int _ _)] ⟨rfl, rfl, rfl, trivial⟩ fun σ => ?_
                        refine greg ?_
                        refine gop (y_add rfl rfl ⟨by omega, by omega⟩) rfl rfl rfl ?_
                        refine gop (y_move (v := .int _ _) rfl) rfl rfl rfl ?_
                        refine gops_nil ?_
                        refine gnext2 (k + 1) (by omega) (⟨by omega, fun hss => by first | exact (scanP_step (by omega) (by simp [wildBad]; omega) (by first | (simp [charBad]; omega) | simp_all [charBad])).trans (hz hss) | (exfalso; simp_all [strEq]; done)⟩) ⟨rfl, trivial⟩ ⟨rfl, rfl, trivial⟩ ⟨_, rfl⟩
                    · -- guard 47 off
                      have hg47d := Decidable.not_not.1 (of_decide_eq_false hg47)
                      refine gop_off rfl rfl rfl rfl hg47 rfl rfl ?_
                      refine gop_off rfl rfl rfl rfl hg47 rfl rfl ?_
                      refine gop (y_pick_f (v := .bool _) rfl hg47 rfl) rfl rfl rfl ?_
                      refine gop (y_assign (v := .bool _) rfl) rfl rfl rfl ?_
                      refine gops_nil ?_
                      refine hN19 _ _ ?_
                      refine gfrom [(0, .string _), (16, .int _ _), (17, .int _ _), (40, .bool _)] ⟨rfl, rfl, rfl, rfl, trivial⟩ fun σ => ?_
                      refine gcond (b := _) rfl (fun hc40 => ?_) (fun hc40 => ?_)
                      · -- slot 40 t
                        cases hc40
                      · -- slot 40 f
                        refine gskip ?_
                        refine hN9 _ _ ?_
                        refine gfrom [(0, .string _), (16, .int _ _), (17, .int _ _)] ⟨rfl, rfl, rfl, trivial⟩ fun σ => ?_
                        refine greg ?_
                        refine gop (y_add rfl rfl ⟨by omega, by omega⟩) rfl rfl rfl ?_
                        refine gop (y_move (v := .int _ _) rfl) rfl rfl rfl ?_
                        refine gops_nil ?_
                        refine gnext2 (k + 1) (by omega) (⟨by omega, fun hss => by first | exact (scanP_step (by omega) (by simp [wildBad]; omega) (by first | (simp [charBad]; omega) | simp_all [charBad])).trans (hz hss) | (exfalso; simp_all [strEq]; done)⟩) ⟨rfl, trivial⟩ ⟨rfl, rfl, trivial⟩ ⟨_, rfl⟩
                  · -- guard 43 off
                    have hg43d := Decidable.not_not.1 (of_decide_eq_false hg43)
                    refine gop_off rfl rfl rfl rfl hg43 rfl rfl ?_
                    refine gop (y_pick_f (v := .bool _) rfl hg43 rfl) rfl rfl rfl ?_
                    refine gop (y_move (v := .bool _) rfl) rfl rfl rfl ?_
                    refine gop_off rfl rfl rfl rfl rfl rfl rfl ?_
                    refine gop_off rfl rfl rfl rfl rfl rfl rfl ?_
                    refine gop_off rfl rfl rfl rfl rfl rfl rfl ?_
                    refine gop (y_pick_f (v := .bool _) rfl rfl rfl) rfl rfl rfl ?_
                    refine gop (y_assign (v := .bool _) rfl) rfl rfl rfl ?_
                    refine gops_nil ?_
                    refine hN19 _ _ ?_
                    refine gfrom [(0, .string _), (16, .int _ _), (17, .int _ _), (40, .bool _)] ⟨rfl, rfl, rfl, rfl, trivial⟩ fun σ => ?_
                    refine gcond (b := _) rfl (fun hc40 => ?_) (fun hc40 => ?_)
                    · -- slot 40 t
                      cases hc40
                    · -- slot 40 f
                      refine gskip ?_
                      refine hN9 _ _ ?_
                      refine gfrom [(0, .string _), (16, .int _ _), (17, .int _ _)] ⟨rfl, rfl, rfl, trivial⟩ fun σ => ?_
                      refine greg ?_
                      refine gop (y_add rfl rfl ⟨by omega, by omega⟩) rfl rfl rfl ?_
                      refine gop (y_move (v := .int _ _) rfl) rfl rfl rfl ?_
                      refine gops_nil ?_
                      refine gnext2 (k + 1) (by omega) (⟨by omega, fun hss => by first | exact (scanP_step (by omega) (by simp [wildBad]; omega) (by first | (simp [charBad]; omega) | simp_all [charBad])).trans (hz hss) | (exfalso; simp_all [strEq]; done)⟩) ⟨rfl, trivial⟩ ⟨rfl, rfl, trivial⟩ ⟨_, rfl⟩
          · -- slot 18 f
            replace hc18 := of_decide_eq_false hc18
            refine gexit ?_
            refine hN5 _ _ ?_
            refine gfrom [] trivial fun σ => ?_
            refine gseq fun N21 hN21 => ?_
            refine greg ?_
            refine gop (y_assign (v := .int _ _) rfl) rfl rfl rfl ?_
            refine gops_nil ?_
            refine hN21 _ _ ?_
            refine gfrom [(2, .int _ _)] ⟨rfl, trivial⟩ fun σ => ?_
            refine gret fun w1 hM => ?_
            refine ⟨_, res1 rfl (rt (v := .int _ _) rfl), ?_⟩
            have hke : k = s.size := by omega
            subst hke
            exact ⟨by rw [show partCode s = 0 by rw [scanP_end] at hz; by_cases hss : strEq s sStars = true; simp_all [partCode, dotty, strEq]; have hz2 := hz (by simpa using hss); simp_all [partCode, dotty, strEq]]; rfl, hM.low⟩
    · -- guard 11 off
      have hg11d := hg11
      refine gop_off rfl rfl rfl rfl hg11 rfl rfl ?_
      refine gop (y_pick_t (v := .bool _) rfl hg11 rfl) rfl rfl rfl ?_
      refine gops_nil ?_
      refine hN3 _ _ ?_
      refine gfrom [(0, .string _), (14, .bool _)] ⟨rfl, rfl, trivial⟩ fun σ => ?_
      refine gcond (b := _) rfl (fun hc14 => ?_) (fun hc14 => ?_)
      · -- slot 14 t
        refine gseq fun N22 hN22 => ?_
        refine greg ?_
        refine gop (y_assign (v := .int _ _) rfl) rfl rfl rfl ?_
        refine gops_nil ?_
        refine hN22 _ _ ?_
        refine gfrom [(2, .int _ _)] ⟨rfl, trivial⟩ fun σ => ?_
        refine gret fun w1 hM => ?_
        refine ⟨_, res1 rfl (rt (v := .int _ _) rfl), ?_⟩
        exact ⟨by rw [show partCode s = 12 by simp_all [partCode, dotty, strEq]]; rfl, hM.low⟩
      · -- slot 14 f
        cases hc14
  · -- guard 7 off
    have hg7d := hg7
    refine gop_off rfl rfl rfl rfl hg7 rfl rfl ?_
    refine gop (y_pick_t (v := .bool _) rfl hg7 rfl) rfl rfl rfl ?_
    refine gop (y_move (v := .bool _) rfl) rfl rfl rfl ?_
    refine gop_off rfl rfl rfl rfl rfl rfl rfl ?_
    refine gop_off rfl rfl rfl rfl rfl rfl rfl ?_
    refine gop (y_pick_t (v := .bool _) rfl rfl rfl) rfl rfl rfl ?_
    refine gops_nil ?_
    refine hN3 _ _ ?_
    refine gfrom [(0, .string _), (14, .bool _)] ⟨rfl, rfl, trivial⟩ fun σ => ?_
    refine gcond (b := _) rfl (fun hc14 => ?_) (fun hc14 => ?_)
    · -- slot 14 t
      refine gseq fun N23 hN23 => ?_
      refine greg ?_
      refine gop (y_assign (v := .int _ _) rfl) rfl rfl rfl ?_
      refine gops_nil ?_
      refine hN23 _ _ ?_
      refine gfrom [(2, .int _ _)] ⟨rfl, trivial⟩ fun σ => ?_
      refine gret fun w1 hM => ?_
      refine ⟨_, res1 rfl (rt (v := .int _ _) rfl), ?_⟩
      exact ⟨by rw [show partCode s = 12 by simp_all [partCode, dotty, strEq]]; rfl, hM.low⟩
    · -- slot 14 f
      cases hc14
end Go.Proofs.YtijpaljdclhehaaDoor
