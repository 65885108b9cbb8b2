/- Own frame, plain models and walks, part 2 (texts of this claim put together). -/
import Derived.Test.YtijpaljdclhehaaDoorP24a
import Derived.ChangeKeysEq
import Derived.Ground.Names2Prog
import Derived.Laws.Externs
import Derived.Laws.IdiomStrings
import Derived.Lib.IndexAny
import Derived.Lib.Join
import Derived.Shelf.LaysM
import Derived.Shelf.Slices.Clone
import Derived.Shelf.Slices.Equal
import Derived.Shelf.Slices.Turned
import Derived.Shelf.Small.Strs
import Derived.Shelf.Small.Utf8
import Derived.Shelf.Strings.AsciiSet
import Derived.Shelf.Strings.Builder1
import Derived.Shelf.Strings.Builder2
import Derived.Shelf.Strings.Count
import Derived.Shelf.Strings.IndexAny
import Derived.Shelf.Strings.IndexAnyAll
import Derived.Shelf.Strings.OnBuilder
import Derived.Shelf.Strings.Runes
import Derived.Shelf.Strings.Search1
import Derived.Shelf.Strings.Search2
import Derived.Shelf.Strings.Search3
import Derived.Shelf.Strings.Shaped
import Derived.Shelf.Unicode.DecodeSlow
import Derived.Test.YtijpaljdclhehaaDoorProg
namespace Go.Proofs.YtijpaljdclhehaaDoor
open Go.RowKit Go.Cf
set_option maxRecDepth 10000
set_option maxHeartbeats 2000000 in
theorem part_any (w : World) (s : ByteArray) (hs : s.size ≤ 4000000) : Calls Tryd.prog 65 #[.string s] w fun e w' => e = .returned (.int .i64 (partCode s : Nat)) ∧ Below w.heap.size w w' := by
  refine gcalls Tryd.func65 rfl Tryd.ntmps65 (Nat.le_of_ble_eq_true rfl) ?_
  refine gfrom [(0, .string _)] ⟨rfl, trivial⟩ fun σ => ?_
  refine gseq fun N1 hN1 => ?_
  refine greg ?_
  refine gop (y_assign (v := .int _ _) rfl) rfl rfl rfl ?_
  refine gops_nil ?_
  refine hN1 _ _ ?_
  refine gfrom [(0, .string _)] ⟨rfl, trivial⟩ fun σ => ?_
  refine gseq fun N2 hN2 => ?_
  refine gseq fun N3 hN3 => ?_
  refine greg ?_
  refine gop (y_move (v := .string _) rfl) rfl rfl rfl ?_
  refine gop (y_eqls rfl rfl) rfl rfl rfl ?_
  refine gop (y_move (v := .bool _) rfl) rfl rfl rfl ?_
  refine gop_if (want := false) rfl rfl rfl rfl rfl rfl (fun hg7 => ?_) (fun hg7 => ?_)
  · 
    have hg7d := hg7
    refine gop (y_bare (y_move (v := .string _) rfl)) rfl rfl rfl ?_
    refine gop_on rfl rfl rfl rfl hg7 ?_
    refine gop (y_bare (y_eqls rfl rfl)) rfl rfl rfl ?_
    refine gop (y_pick_f (v := .bool _) rfl hg7 rfl) rfl rfl rfl ?_
    refine gop (y_move (v := .bool _) rfl) rfl rfl rfl ?_
    refine gop_if (want := false) rfl rfl rfl rfl rfl rfl (fun hg11 => ?_) (fun hg11 => ?_)
    · 
      have hg11d := hg11
      refine gop (y_bare (y_move (v := .string _) rfl)) rfl rfl rfl ?_
      refine gop_on rfl rfl rfl rfl hg11 ?_
      refine gop (y_bare (y_eqls rfl rfl)) rfl rfl rfl ?_
      refine gop (y_pick_f (v := .bool _) rfl hg11 rfl) rfl rfl rfl ?_
      refine gops_nil ?_
      refine hN3 _ _ ?_
      refine gfrom [(0, .string _), (14, .bool _)] ⟨rfl, rfl, trivial⟩ fun σ => ?_
      refine gcond (b := _) rfl (fun hc14 => ?_) (fun hc14 => ?_)
      · 
        refine gseq fun N4 hN4 => ?_
        refine greg ?_
        refine gop (y_assign (v := .int _ _) rfl) rfl rfl rfl ?_
        refine gops_nil ?_
        refine hN4 _ _ ?_
        refine gfrom [(2, .int _ _)] ⟨rfl, trivial⟩ fun σ => ?_
        refine gret fun w1 hM => ?_
        refine ⟨_, res1 rfl (rt (v := .int _ _) rfl), ?_⟩
        exact ⟨by rw [show partCode s = 12 by simp_all [partCode, dotty, strEq]]; rfl, hM.low⟩
      · 
        refine gskip ?_
        refine hN2 _ _ ?_
        refine gfrom [(0, .string _)] ⟨rfl, trivial⟩ fun σ => ?_
        refine gseq fun N5 hN5 => ?_
        refine gseq fun N6 hN6 => ?_
        refine greg ?_
        refine gop (y_move (v := .string _) rfl) rfl rfl rfl ?_
        refine gop (y_lens Tryd.underlying9 rfl) rfl rfl rfl ?_
        refine gop (y_move (v := .int _ _) rfl) rfl rfl rfl ?_
        refine gops_nil ?_
        refine hN6 _ _ ?_
        refine gfrom [(0, .string _), (16, .int _ _), (17, .int _ _)] ⟨rfl, rfl, rfl, trivial⟩ fun σ => ?_
        refine gblock ?_
        refine gfrom2 [(17, .int _ _)] [(0, .string _), (16, .int _ _)] ⟨rfl, trivial⟩ ⟨rfl, rfl, trivial⟩ fun σ => ?_
        refine gloop2 (G := Nat) (fun k => k ≤ s.size ∧ (strEq s sStars = false → scanP s (s.size - k) = scanP s s.size)) (fun k => s.size - k) (fun k => [(17, .int .i64 (k : Int))]) (fun k => []) (0) ?h0 ⟨rfl, trivial⟩ ⟨rfl, rfl, trivial⟩ rfl ?round
        case h0 => exact ⟨Nat.zero_le _, fun _ => rfl⟩
        case round =>
          intro k hφ σ
          obtain ⟨hk, hz⟩ := hφ
          refine gseq fun N7 hN7 => ?_
          refine greg ?_
          refine gop (y_lss rfl rfl) rfl rfl rfl ?_
          refine gops_nil ?_
          refine hN7 _ _ ?_
          refine gfrom [(0, .string _), (16, .int _ _), (17, .int _ _), (18, .bool _)] ⟨rfl, rfl, rfl, rfl, trivial⟩ fun σ => ?_
          refine gseq fun N8 hN8 => ?_
          refine gcond (b := _) rfl (fun hc18 => ?_) (fun hc18 => ?_)
          · 
            replace hc18 := of_decide_eq_true hc18
            refine gskip ?_
            refine hN8 _ _ ?_
            refine gfrom [(0, .string _), (16, .int _ _), (17, .int _ _)] ⟨rfl, rfl, rfl, trivial⟩ fun σ => ?_
            refine gseq fun N9 hN9 => ?_
            refine gblock ?_
            refine gseq fun N10 hN10 => ?_
            refine greg ?_
            refine gop (y_move (v := .int _ _) rfl) rfl rfl rfl ?_
            refine gop (y_assign (v := .int _ _) rfl) rfl rfl rfl ?_
            refine gops_nil ?_
            refine hN10 _ _ ?_
            refine gfrom [(0, .string _), (3, .int _ _), (16, .int _ _), (17, .int _ _)] ⟨rfl, rfl, rfl, rfl, trivial⟩ fun σ => ?_
            refine gseq fun N11 hN11 => ?_
            refine greg ?_
            refine gop (y_move (v := .string _) rfl) rfl rfl rfl ?_
            refine gop (y_move (v := .int _ _) rfl) rfl rfl rfl ?_
            refine gop (y_stridx (m := k) Tryd.underlying9 rfl rfl (by omega) (by omega) (by omega)) rfl rfl rfl ?_
            refine gop (y_assign (v := .int _ _) rfl) rfl rfl rfl ?_
            refine gops_nil ?_
            refine hN11 _ _ ?_
            refine gfrom [(0, .string _), (3, .int _ _), (4, .int _ _), (16, .int _ _), (17, .int _ _)] ⟨rfl, rfl, rfl, rfl, rfl, trivial⟩ fun σ => ?_
            refine gblock ?_
            refine gseq fun N12 hN12 => ?_
            refine greg ?_
            refine gop (y_move (v := .string _) rfl) rfl rfl rfl ?_
            refine gop (y_eqls rfl rfl) rfl rfl rfl ?_
            refine gop (y_assign (v := .bool _) rfl) rfl rfl rfl ?_
            refine gops_nil ?_
            refine hN12 _ _ ?_
            refine gfrom [(0, .string _), (3, .int _ _), (4, .int _ _), (16, .int _ _), (17, .int _ _), (23, .bool _)] ⟨rfl, rfl, rfl, rfl, rfl, rfl, trivial⟩ fun σ => ?_
            refine gcond (b := _) rfl (fun hc23 => ?_) (fun hc23 => ?_)
            · 
              refine gskip ?_
              refine hN9 _ _ ?_
              refine gfrom [(0, .string _), (16, .int _ _), (17, .int _ _)] ⟨rfl, rfl, rfl, trivial⟩ fun σ => ?_
              refine greg ?_
              refine gop (y_add rfl rfl ⟨by omega, by omega⟩) rfl rfl rfl ?_
              refine gop (y_move (v := .int _ _) rfl) rfl rfl rfl ?_
              refine gops_nil ?_
              refine gnext2 (k + 1) (by omega) (⟨by omega, fun hss => by first | exact (scanP_step (by omega) (by simp [wildBad]; omega) (by first | (simp [charBad]; omega) | simp_all [charBad])).trans (hz hss) | (exfalso; simp_all [strEq]; done)⟩) ⟨rfl, trivial⟩ ⟨rfl, rfl, trivial⟩ ⟨_, rfl⟩
            · 
              refine gseq fun N13 hN13 => ?_
              refine greg ?_
              refine gop (y_move (v := .int _ _) rfl) rfl rfl rfl ?_
              refine gop (y_eql rfl rfl) rfl rfl rfl ?_
              refine gop (y_move (v := .bool _) rfl) rfl rfl rfl ?_
              refine gop_if (want := true) rfl rfl rfl rfl rfl rfl (fun hg29 => ?_) (fun hg29 => ?_)
              · 
                have hg29d := of_decide_eq_true hg29
                refine gop (y_bare (y_move (v := .int _ _) rfl)) rfl rfl rfl ?_
                refine gop_on rfl rfl rfl rfl hg29 ?_
                refine gop (y_bare (y_gtr rfl rfl)) rfl rfl rfl ?_
                refine gop (y_pick_t (v := .bool _) rfl hg29 rfl) rfl rfl rfl ?_
                refine gop (y_move (v := .bool _) rfl) rfl rfl rfl ?_
                refine gop_if (want := true) rfl rfl rfl rfl rfl rfl (fun hg33 => ?_) (fun hg33 => ?_)
                · 
                  have hg33d := of_decide_eq_true hg33
                  refine gop (y_bare (y_move (v := .string _) rfl)) rfl rfl rfl ?_
                  refine gop_on rfl rfl rfl rfl hg33 ?_
                  refine gop (y_bare (y_move (v := .int _ _) rfl)) rfl rfl rfl ?_
                  refine gop_on rfl rfl rfl rfl hg33 ?_
                  refine gop (y_bare (y_sub rfl rfl ⟨by omega, by omega⟩)) rfl rfl rfl ?_
                  refine gop_on rfl rfl rfl rfl hg33 ?_
                  refine gop (y_bare (y_stridx (m := k - 1) Tryd.underlying9 rfl rfl (by omega) (by omega) (by omega))) rfl rfl rfl ?_
                  refine gop_on rfl rfl rfl rfl hg33 ?_
                  refine gop (y_bare (y_eql rfl rfl)) rfl rfl rfl ?_
                  refine gop (y_pick_t (v := .bool _) rfl hg33 rfl) rfl rfl rfl ?_
                  refine gop (y_assign (v := .bool _) rfl) rfl rfl rfl ?_
                  refine gops_nil ?_
                  refine hN13 _ _ ?_
                  refine gfrom [(0, .string _), (4, .int _ _), (16, .int _ _), (17, .int _ _), (26, .bool _)] ⟨rfl, rfl, rfl, rfl, rfl, trivial⟩ fun σ => ?_
                  refine gcond (b := _) rfl (fun hc26 => ?_) (fun hc26 => ?_)
                  · 
                    replace hc26 := of_decide_eq_true hc26
                    refine gseq fun N14 hN14 => ?_
                    refine greg ?_
                    refine gop (y_assign (v := .int _ _) rfl) rfl rfl rfl ?_
                    refine gops_nil ?_
                    refine hN14 _ _ ?_
                    refine gfrom [(2, .int _ _)] ⟨rfl, trivial⟩ fun σ => ?_
                    refine gret fun w1 hM => ?_
                    refine ⟨_, res1 rfl (rt (v := .int _ _) rfl), ?_⟩
                    have hss : strEq s sStars = false := by simp_all [strEq]
                    exact ⟨by rw [show partCode s = 1 by rw [← scanP_wild (s := s) (k := k) (by omega) (by simp [wildBad]; omega), hz hss]; simp_all [partCode, dotty, strEq]]; rfl, hM.low⟩
                  · 
                    replace hc26 := of_decide_eq_false hc26
                    refine gseq fun N15 hN15 => ?_
                    refine greg ?_
                    refine gop (y_move (v := .int _ _) rfl) rfl rfl rfl ?_
                    refine gop (y_neq rfl rfl) rfl rfl rfl ?_
                    refine gop (y_move (v := .bool _) rfl) rfl rfl rfl ?_
                    refine gop_if (want := true) rfl rfl rfl rfl rfl rfl (fun hg43 => ?_) (fun hg43 => ?_)
                    · 
                      have hg43d := of_decide_eq_true hg43
                      refine gop (y_bare (y_move (v := .int _ _) rfl)) rfl rfl rfl ?_
                      refine gop_on rfl rfl rfl rfl hg43 ?_
                      refine gop (y_bare (y_neq rfl rfl)) rfl rfl rfl ?_
                      refine gop (y_pick_t (v := .bool _) rfl hg43 rfl) rfl rfl rfl ?_
                      refine gop (y_move (v := .bool _) rfl) rfl rfl rfl ?_
                      refine gop_if (want := true) rfl rfl rfl rfl rfl rfl (fun hg47 => ?_) (fun hg47 => ?_)
                      · 
                        have hg47d := of_decide_eq_true hg47
                        refine gop (y_bare (y_move (v := .int _ _) rfl)) rfl rfl rfl ?_
                        refine gop_on rfl rfl rfl rfl hg47 ?_
                        refine gop_pure (e_call (vs := [.int _ _]) Tryd.func68 rfl (by kernel_rfl) rfl) (fun w hM => letter_any w _) rfl rfl rfl ?_
                        refine gop_on rfl rfl rfl rfl hg47 ?_
                        refine gop (y_bare (y_not rfl)) rfl rfl rfl ?_
                        refine gop (y_pick_t (v := .bool _) rfl hg47 rfl) rfl rfl rfl ?_
                        refine gop (y_assign (v := .bool _) rfl) rfl rfl rfl ?_
                        refine gops_nil ?_
                        refine hN15 _ _ ?_
                        refine gfrom [(0, .string _), (16, .int _ _), (17, .int _ _), (40, .bool _)] ⟨rfl, rfl, rfl, rfl, trivial⟩ fun σ => ?_
                        refine gcond (b := _) rfl (fun hc40 => ?_) (fun hc40 => ?_)
                        · 
                          replace hc40 := not_t hc40
                          refine gseq fun N16 hN16 => ?_
                          refine greg ?_
                          refine gop (y_assign (v := .int _ _) rfl) rfl rfl rfl ?_
                          refine gops_nil ?_
                          refine hN16 _ _ ?_
                          refine gfrom [(2, .int _ _)] ⟨rfl, trivial⟩ fun σ => ?_
                          refine gret fun w1 hM => ?_
                          refine ⟨_, res1 rfl (rt (v := .int _ _) rfl), ?_⟩
                          have hss : strEq s sStars = false := by simp_all [strEq]
                          exact ⟨by rw [show partCode s = 12 by rw [← scanP_char (s := s) (k := k) (by omega) (by simp [wildBad]; omega) (by first | (simp_all [charBad]; done) | (simp_all [charBad]; omega)), hz hss]; simp_all [partCode, dotty, strEq]]; rfl, hM.low⟩
                        · 
                          replace hc40 := not_f hc40
                          refine gskip ?_
                          refine hN9 _ _ ?_
                          refine gfrom [(0, .string _), (16, .int _ _), (17, .int _ _)] ⟨rfl, rfl, rfl, trivial⟩ fun σ => ?_
                          refine greg ?_
                          refine gop (y_add rfl rfl ⟨by omega, by omega⟩) rfl rfl rfl ?_
                          refine gop (y_move (v := .int _ _) rfl) rfl rfl rfl ?_
                          refine gops_nil ?_
                          refine gnext2 (k + 1) (by omega) (⟨by omega, fun hss => by first | exact (scanP_step (by omega) (by simp [wildBad]; omega) (by first | (simp [charBad]; omega) | simp_all [charBad])).trans (hz hss) | (exfalso; simp_all [strEq]; done)⟩) ⟨rfl, trivial⟩ ⟨rfl, rfl, trivial⟩ ⟨_, rfl⟩
                      · 
                        have hg47d := Decidable.not_not.1 (of_decide_eq_false hg47)
                        refine gop_off rfl rfl rfl rfl hg47 rfl rfl ?_
                        refine gop_off rfl rfl rfl rfl hg47 rfl rfl ?_
                        refine gop (y_pick_f (v := .bool _) rfl hg47 rfl) rfl rfl rfl ?_
                        refine gop (y_assign (v := .bool _) rfl) rfl rfl rfl ?_
                        refine gops_nil ?_
                        refine hN15 _ _ ?_
                        refine gfrom [(0, .string _), (16, .int _ _), (17, .int _ _), (40, .bool _)] ⟨rfl, rfl, rfl, rfl, trivial⟩ fun σ => ?_
                        refine gcond (b := _) rfl (fun hc40 => ?_) (fun hc40 => ?_)
                        · 
                          cases hc40
                        · 
                          refine gskip ?_
                          refine hN9 _ _ ?_
                          refine gfrom [(0, .string _), (16, .int _ _), (17, .int _ _)] ⟨rfl, rfl, rfl, trivial⟩ fun σ => ?_
                          refine greg ?_
                          refine gop (y_add rfl rfl ⟨by omega, by omega⟩) rfl rfl rfl ?_
                          refine gop (y_move (v := .int _ _) rfl) rfl rfl rfl ?_
                          refine gops_nil ?_
                          refine gnext2 (k + 1) (by omega) (⟨by omega, fun hss => by first | exact (scanP_step (by omega) (by simp [wildBad]; omega) (by first | (simp [charBad]; omega) | simp_all [charBad])).trans (hz hss) | (exfalso; simp_all [strEq]; done)⟩) ⟨rfl, trivial⟩ ⟨rfl, rfl, trivial⟩ ⟨_, rfl⟩
                    · 
                      have hg43d := Decidable.not_not.1 (of_decide_eq_false hg43)
                      refine gop_off rfl rfl rfl rfl hg43 rfl rfl ?_
                      refine gop (y_pick_f (v := .bool _) rfl hg43 rfl) rfl rfl rfl ?_
                      refine gop (y_move (v := .bool _) rfl) rfl rfl rfl ?_
                      refine gop_off rfl rfl rfl rfl rfl rfl rfl ?_
                      refine gop_off rfl rfl rfl rfl rfl rfl rfl ?_
                      refine gop_off rfl rfl rfl rfl rfl rfl rfl ?_
                      refine gop (y_pick_f (v := .bool _) rfl rfl rfl) rfl rfl rfl ?_
                      refine gop (y_assign (v := .bool _) rfl) rfl rfl rfl ?_
                      refine gops_nil ?_
                      refine hN15 _ _ ?_
                      refine gfrom [(0, .string _), (16, .int _ _), (17, .int _ _), (40, .bool _)] ⟨rfl, rfl, rfl, rfl, trivial⟩ fun σ => ?_
                      refine gcond (b := _) rfl (fun hc40 => ?_) (fun hc40 => ?_)
                      · 
                        cases hc40
                      · 
                        refine gskip ?_
                        refine hN9 _ _ ?_
                        refine gfrom [(0, .string _), (16, .int _ _), (17, .int _ _)] ⟨rfl, rfl, rfl, trivial⟩ fun σ => ?_
                        refine greg ?_
                        refine gop (y_add rfl rfl ⟨by omega, by omega⟩) rfl rfl rfl ?_
                        refine gop (y_move (v := .int _ _) rfl) rfl rfl rfl ?_
                        refine gops_nil ?_
                        refine gnext2 (k + 1) (by omega) (⟨by omega, fun hss => by first | exact (scanP_step (by omega) (by simp [wildBad]; omega) (by first | (simp [charBad]; omega) | simp_all [charBad])).trans (hz hss) | (exfalso; simp_all [strEq]; done)⟩) ⟨rfl, trivial⟩ ⟨rfl, rfl, trivial⟩ ⟨_, rfl⟩
                · 
                  have hg33d := of_decide_eq_false hg33
                  refine gop_off rfl rfl rfl rfl hg33 rfl rfl ?_
                  refine gop_off rfl rfl rfl rfl hg33 rfl rfl ?_
                  refine gop_off rfl rfl rfl rfl hg33 rfl rfl ?_
                  refine gop_off rfl rfl rfl rfl hg33 rfl rfl ?_
                  refine gop (y_pick_f (v := .bool _) rfl hg33 rfl) rfl rfl rfl ?_
                  refine gop (y_assign (v := .bool _) rfl) rfl rfl rfl ?_
                  refine gops_nil ?_
                  refine hN13 _ _ ?_
                  refine gfrom [(0, .string _), (4, .int _ _), (16, .int _ _), (17, .int _ _), (26, .bool _)] ⟨rfl, rfl, rfl, rfl, rfl, trivial⟩ fun σ => ?_
                  refine gcond (b := _) rfl (fun hc26 => ?_) (fun hc26 => ?_)
                  · 
                    cases hc26
                  · 
                    refine gseq fun N17 hN17 => ?_
                    refine greg ?_
                    refine gop (y_move (v := .int _ _) rfl) rfl rfl rfl ?_
                    refine gop (y_neq rfl rfl) rfl rfl rfl ?_
                    refine gop (y_move (v := .bool _) rfl) rfl rfl rfl ?_
                    refine gop_if (want := true) rfl rfl rfl rfl rfl rfl (fun hg43 => ?_) (fun hg43 => ?_)
                    · 
                      have hg43d := of_decide_eq_true hg43
                      refine gop (y_bare (y_move (v := .int _ _) rfl)) rfl rfl rfl ?_
                      refine gop_on rfl rfl rfl rfl hg43 ?_
                      refine gop (y_bare (y_neq rfl rfl)) rfl rfl rfl ?_
                      refine gop (y_pick_t (v := .bool _) rfl hg43 rfl) rfl rfl rfl ?_
                      refine gop (y_move (v := .bool _) rfl) rfl rfl rfl ?_
                      refine gop_if (want := true) rfl rfl rfl rfl rfl rfl (fun hg47 => ?_) (fun hg47 => ?_)
                      · 
                        have hg47d := of_decide_eq_true hg47
                        refine gop (y_bare (y_move (v := .int _ _) rfl)) rfl rfl rfl ?_
                        refine gop_on rfl rfl rfl rfl hg47 ?_
                        refine gop_pure (e_call (vs := [.int _ _]) Tryd.func68 rfl (by kernel_rfl) rfl) (fun w hM => letter_any w _) rfl rfl rfl ?_
                        refine gop_on rfl rfl rfl rfl hg47 ?_
                        refine gop (y_bare (y_not rfl)) rfl rfl rfl ?_
                        refine gop (y_pick_t (v := .bool _) rfl hg47 rfl) rfl rfl rfl ?_
                        refine gop (y_assign (v := .bool _) rfl) rfl rfl rfl ?_
                        refine gops_nil ?_
                        refine hN17 _ _ ?_
                        refine gfrom [(0, .string _), (16, .int _ _), (17, .int _ _), (40, .bool _)] ⟨rfl, rfl, rfl, rfl, trivial⟩ fun σ => ?_
                        refine gcond (b := _) rfl (fun hc40 => ?_) (fun hc40 => ?_)
                        · 
                          replace hc40 := not_t hc40
                          refine gseq fun N18 hN18 => ?_
                          refine greg ?_
                          refine gop (y_assign (v := .int _ _) rfl) rfl rfl rfl ?_
                          refine gops_nil ?_
                          refine hN18 _ _ ?_
                          refine gfrom [(2, .int _ _)] ⟨rfl, trivial⟩ fun σ => ?_
                          refine gret fun w1 hM => ?_
                          refine ⟨_, res1 rfl (rt (v := .int _ _) rfl), ?_⟩
                          have hss : strEq s sStars = false := by simp_all [strEq]
                          exact ⟨by rw [show partCode s = 12 by rw [← scanP_char (s := s) (k := k) (by omega) (by simp [wildBad]; omega) (by first | (simp_all [charBad]; done) | (simp_all [charBad]; omega)), hz hss]; simp_all [partCode, dotty, strEq]]; rfl, hM.low⟩
                        · 
                          replace hc40 := not_f hc40
                          refine gskip ?_
                          refine hN9 _ _ ?_
                          refine gfrom [(0, .string _), (16, .int _ _), (17, .int _ _)] ⟨rfl, rfl, rfl, trivial⟩ fun σ => ?_
                          refine greg ?_
                          refine gop (y_add rfl rfl ⟨by omega, by omega⟩) rfl rfl rfl ?_
                          refine gop (y_move (v := .int _ _) rfl) rfl rfl rfl ?_
                          refine gops_nil ?_
                          refine gnext2 (k + 1) (by omega) (⟨by omega, fun hss => by first | exact (scanP_step (by omega) (by simp [wildBad]; omega) (by first | (simp [charBad]; omega) | simp_all [charBad])).trans (hz hss) | (exfalso; simp_all [strEq]; done)⟩) ⟨rfl, trivial⟩ ⟨rfl, rfl, trivial⟩ ⟨_, rfl⟩
                      · 
                        have hg47d := Decidable.not_not.1 (of_decide_eq_false hg47)
                        refine gop_off rfl rfl rfl rfl hg47 rfl rfl ?_
                        refine gop_off rfl rfl rfl rfl hg47 rfl rfl ?_
                        refine gop (y_pick_f (v := .bool _) rfl hg47 rfl) rfl rfl rfl ?_
                        refine gop (y_assign (v := .bool _) rfl) rfl rfl rfl ?_
                        refine gops_nil ?_
                        refine hN17 _ _ ?_
                        refine gfrom [(0, .string _), (16, .int _ _), (17, .int _ _), (40, .bool _)] ⟨rfl, rfl, rfl, rfl, trivial⟩ fun σ => ?_
                        refine gcond (b := _) rfl (fun hc40 => ?_) (fun hc40 => ?_)
                        · 
                          cases hc40
                        · 
                          refine gskip ?_
                          refine hN9 _ _ ?_
                          refine gfrom [(0, .string _), (16, .int _ _), (17, .int _ _)] ⟨rfl, rfl, rfl, trivial⟩ fun σ => ?_
                          refine greg ?_
                          refine gop (y_add rfl rfl ⟨by omega, by omega⟩) rfl rfl rfl ?_
                          refine gop (y_move (v := .int _ _) rfl) rfl rfl rfl ?_
                          refine gops_nil ?_
                          refine gnext2 (k + 1) (by omega) (⟨by omega, fun hss => by first | exact (scanP_step (by omega) (by simp [wildBad]; omega) (by first | (simp [charBad]; omega) | simp_all [charBad])).trans (hz hss) | (exfalso; simp_all [strEq]; done)⟩) ⟨rfl, trivial⟩ ⟨rfl, rfl, trivial⟩ ⟨_, rfl⟩
                    · 
                      have hg43d := Decidable.not_not.1 (of_decide_eq_false hg43)
                      refine gop_off rfl rfl rfl rfl hg43 rfl rfl ?_
                      refine gop (y_pick_f (v := .bool _) rfl hg43 rfl) rfl rfl rfl ?_
                      refine gop (y_move (v := .bool _) rfl) rfl rfl rfl ?_
                      refine gop_off rfl rfl rfl rfl rfl rfl rfl ?_
                      refine gop_off rfl rfl rfl rfl rfl rfl rfl ?_
                      refine gop_off rfl rfl rfl rfl rfl rfl rfl ?_
                      refine gop (y_pick_f (v := .bool _) rfl rfl rfl) rfl rfl rfl ?_
                      refine gop (y_assign (v := .bool _) rfl) rfl rfl rfl ?_
                      refine gops_nil ?_
                      refine hN17 _ _ ?_
                      refine gfrom [(0, .string _), (16, .int _ _), (17, .int _ _), (40, .bool _)] ⟨rfl, rfl, rfl, rfl, trivial⟩ fun σ => ?_
                      refine gcond (b := _) rfl (fun hc40 => ?_) (fun hc40 => ?_)
                      · 
                        cases hc40
                      · 
                        refine gskip ?_
                        refine hN9 _ _ ?_
                        refine gfrom [(0, .string _), (16, .int _ _), (17, .int _ _)] ⟨rfl, rfl, rfl, trivial⟩ fun σ => ?_
                        refine greg ?_
                        refine gop (y_add rfl rfl ⟨by omega, by omega⟩) rfl rfl rfl ?_
                        refine gop (y_move (v := .int _ _) rfl) rfl rfl rfl ?_
                        refine gops_nil ?_
                        refine gnext2 (k + 1) (by omega) (⟨by omega, fun hss => by first | exact (scanP_step (by omega) (by simp [wildBad]; omega) (by first | (simp [charBad]; omega) | simp_all [charBad])).trans (hz hss) | (exfalso; simp_all [strEq]; done)⟩) ⟨rfl, trivial⟩ ⟨rfl, rfl, trivial⟩ ⟨_, rfl⟩
              · 
                have hg29d := of_decide_eq_false hg29
                refine gop_off rfl rfl rfl rfl hg29 rfl rfl ?_
                refine gop (y_pick_f (v := .bool _) rfl hg29 rfl) rfl rfl rfl ?_
                refine gop (y_move (v := .bool _) rfl) rfl rfl rfl ?_
                refine gop_off rfl rfl rfl rfl rfl rfl rfl ?_
                refine gop_off rfl rfl rfl rfl rfl rfl rfl ?_
                refine gop_off rfl rfl rfl rfl rfl rfl rfl ?_
                refine gop_off rfl rfl rfl rfl rfl rfl rfl ?_
                refine gop_off rfl rfl rfl rfl rfl rfl rfl ?_
                refine gop (y_pick_f (v := .bool _) rfl rfl rfl) rfl rfl rfl ?_
                refine gop (y_assign (v := .bool _) rfl) rfl rfl rfl ?_
                refine gops_nil ?_
                refine hN13 _ _ ?_
                refine gfrom [(0, .string _), (4, .int _ _), (16, .int _ _), (17, .int _ _), (26, .bool _)] ⟨rfl, rfl, rfl, rfl, rfl, trivial⟩ fun σ => ?_
                refine gcond (b := _) rfl (fun hc26 => ?_) (fun hc26 => ?_)
                · 
                  cases hc26
                · 
                  refine gseq fun N19 hN19 => ?_
                  refine greg ?_
                  refine gop (y_move (v := .int _ _) rfl) rfl rfl rfl ?_
                  refine gop (y_neq rfl rfl) rfl rfl rfl ?_
                  refine gop (y_move (v := .bool _) rfl) rfl rfl rfl ?_
                  refine gop_if (want := true) rfl rfl rfl rfl rfl rfl (fun hg43 => ?_) (fun hg43 => ?_)
                  · 
                    have hg43d := of_decide_eq_true hg43
                    refine gop (y_bare (y_move (v := .int _ _) rfl)) rfl rfl rfl ?_
                    refine gop_on rfl rfl rfl rfl hg43 ?_
                    refine gop (y_bare (y_neq rfl rfl)) rfl rfl rfl ?_
                    refine gop (y_pick_t (v := .bool _) rfl hg43 rfl) rfl rfl rfl ?_
                    refine gop (y_move (v := .bool _) rfl) rfl rfl rfl ?_
                    refine gop_if (want := true) rfl rfl rfl rfl rfl rfl (fun hg47 => ?_) (fun hg47 => ?_)
                    · 
                      have hg47d := of_decide_eq_true hg47
                      refine gop (y_bare (y_move (v := .int _ _) rfl)) rfl rfl rfl ?_
                      refine gop_on rfl rfl rfl rfl hg47 ?_
                      refine gop_pure (e_call (vs := [.int _ _]) Tryd.func68 rfl (by kernel_rfl) rfl) (fun w hM => letter_any w _) rfl rfl rfl ?_
                      refine gop_on rfl rfl rfl rfl hg47 ?_
                      refine gop (y_bare (y_not rfl)) rfl rfl rfl ?_
                      refine gop (y_pick_t (v := .bool _) rfl hg47 rfl) rfl rfl rfl ?_
                      refine gop (y_assign (v := .bool _) rfl) rfl rfl rfl ?_
                      refine gops_nil ?_
                      refine hN19 _ _ ?_
                      refine gfrom [(0, .string _), (16, .int _ _), (17, .int _ _), (40, .bool _)] ⟨rfl, rfl, rfl, rfl, trivial⟩ fun σ => ?_
                      refine gcond (b := _) rfl (fun hc40 => ?_) (fun hc40 => ?_)
                      · 
                        replace hc40 := not_t hc40
                        refine gseq fun N20 hN20 => ?_
                        refine greg ?_
                        refine gop (y_assign (v := .int _ _) rfl) rfl rfl rfl ?_
                        refine gops_nil ?_
                        refine hN20 _ _ ?_
                        refine gfrom [(2, .int _ _)] ⟨rfl, trivial⟩ fun σ => ?_
                        refine gret fun w1 hM => ?_
                        refine ⟨_, res1 rfl (rt (v := .int _ _) rfl), ?_⟩
                        have hss : strEq s sStars = false := by simp_all [strEq]
                        exact ⟨by rw [show partCode s = 12 by rw [← scanP_char (s := s) (k := k) (by omega) (by simp [wildBad]; omega) (by first | (simp_all [charBad]; done) | (simp_all [charBad]; omega)), hz hss]; simp_all [partCode, dotty, strEq]]; rfl, hM.low⟩
                      · 
                        replace hc40 := not_f hc40
                        refine gskip ?_
                        refine hN9 _ _ ?_
                        refine gfrom [(0, .string _), (16, .int _ _), (17, .int _ _)] ⟨rfl, rfl, rfl, trivial⟩ fun σ => ?_
                        refine greg ?_
                        refine gop (y_add rfl rfl ⟨by omega, by omega⟩) rfl rfl rfl ?_
                        refine gop (y_move (v := .int _ _) rfl) rfl rfl rfl ?_
                        refine gops_nil ?_
                        refine gnext2 (k + 1) (by omega) (⟨by omega, fun hss => by first | exact (scanP_step (by omega) (by simp [wildBad]; omega) (by first | (simp [charBad]; omega) | simp_all [charBad])).trans (hz hss) | (exfalso; simp_all [strEq]; done)⟩) ⟨rfl, trivial⟩ ⟨rfl, rfl, trivial⟩ ⟨_, rfl⟩
                    · 
                      have hg47d := Decidable.not_not.1 (of_decide_eq_false hg47)
                      refine gop_off rfl rfl rfl rfl hg47 rfl rfl ?_
                      refine gop_off rfl rfl rfl rfl hg47 rfl rfl ?_
                      refine gop (y_pick_f (v := .bool _) rfl hg47 rfl) rfl rfl rfl ?_
                      refine gop (y_assign (v := .bool _) rfl) rfl rfl rfl ?_
                      refine gops_nil ?_
                      refine hN19 _ _ ?_
                      refine gfrom [(0, .string _), (16, .int _ _), (17, .int _ _), (40, .bool _)] ⟨rfl, rfl, rfl, rfl, trivial⟩ fun σ => ?_
                      refine gcond (b := _) rfl (fun hc40 => ?_) (fun hc40 => ?_)
                      · 
                        cases hc40
                      · 
                        refine gskip ?_
                        refine hN9 _ _ ?_
                        refine gfrom [(0, .string _), (16, .int _ _), (17, .int _ _)] ⟨rfl, rfl, rfl, trivial⟩ fun σ => ?_
                        refine greg ?_
                        refine gop (y_add rfl rfl ⟨by omega, by omega⟩) rfl rfl rfl ?_
                        refine gop (y_move (v := .int _ _) rfl) rfl rfl rfl ?_
                        refine gops_nil ?_
                        refine gnext2 (k + 1) (by omega) (⟨by omega, fun hss => by first | exact (scanP_step (by omega) (by simp [wildBad]; omega) (by first | (simp [charBad]; omega) | simp_all [charBad])).trans (hz hss) | (exfalso; simp_all [strEq]; done)⟩) ⟨rfl, trivial⟩ ⟨rfl, rfl, trivial⟩ ⟨_, rfl⟩
                  · 
                    have hg43d := Decidable.not_not.1 (of_decide_eq_false hg43)
                    refine gop_off rfl rfl rfl rfl hg43 rfl rfl ?_
                    refine gop (y_pick_f (v := .bool _) rfl hg43 rfl) rfl rfl rfl ?_
                    refine gop (y_move (v := .bool _) rfl) rfl rfl rfl ?_
                    refine gop_off rfl rfl rfl rfl rfl rfl rfl ?_
                    refine gop_off rfl rfl rfl rfl rfl rfl rfl ?_
                    refine gop_off rfl rfl rfl rfl rfl rfl rfl ?_
                    refine gop (y_pick_f (v := .bool _) rfl rfl rfl) rfl rfl rfl ?_
                    refine gop (y_assign (v := .bool _) rfl) rfl rfl rfl ?_
                    refine gops_nil ?_
                    refine hN19 _ _ ?_
                    refine gfrom [(0, .string _), (16, .int _ _), (17, .int _ _), (40, .bool _)] ⟨rfl, rfl, rfl, rfl, trivial⟩ fun σ => ?_
                    refine gcond (b := _) rfl (fun hc40 => ?_) (fun hc40 => ?_)
                    · 
                      cases hc40
                    · 
                      refine gskip ?_
                      refine hN9 _ _ ?_
                      refine gfrom [(0, .string _), (16, .int _ _), (17, .int _ _)] ⟨rfl, rfl, rfl, trivial⟩ fun σ => ?_
                      refine greg ?_
                      refine gop (y_add rfl rfl ⟨by omega, by omega⟩) rfl rfl rfl ?_
                      refine gop (y_move (v := .int _ _) rfl) rfl rfl rfl ?_
                      refine gops_nil ?_
                      refine gnext2 (k + 1) (by omega) (⟨by omega, fun hss => by first | exact (scanP_step (by omega) (by simp [wildBad]; omega) (by first | (simp [charBad]; omega) | simp_all [charBad])).trans (hz hss) | (exfalso; simp_all [strEq]; done)⟩) ⟨rfl, trivial⟩ ⟨rfl, rfl, trivial⟩ ⟨_, rfl⟩
          · 
            replace hc18 := of_decide_eq_false hc18
            refine gexit ?_
            refine hN5 _ _ ?_
            refine gfrom [] trivial fun σ => ?_
            refine gseq fun N21 hN21 => ?_
            refine greg ?_
            refine gop (y_assign (v := .int _ _) rfl) rfl rfl rfl ?_
            refine gops_nil ?_
            refine hN21 _ _ ?_
            refine gfrom [(2, .int _ _)] ⟨rfl, trivial⟩ fun σ => ?_
            refine gret fun w1 hM => ?_
            refine ⟨_, res1 rfl (rt (v := .int _ _) rfl), ?_⟩
            have hke : k = s.size := by omega
            subst hke
            exact ⟨by rw [show partCode s = 0 by rw [scanP_end] at hz; by_cases hss : strEq s sStars = true; simp_all [partCode, dotty, strEq]; have hz2 := hz (by simpa using hss); simp_all [partCode, dotty, strEq]]; rfl, hM.low⟩
    · 
      have hg11d := hg11
      refine gop_off rfl rfl rfl rfl hg11 rfl rfl ?_
      refine gop (y_pick_t (v := .bool _) rfl hg11 rfl) rfl rfl rfl ?_
      refine gops_nil ?_
      refine hN3 _ _ ?_
      refine gfrom [(0, .string _), (14, .bool _)] ⟨rfl, rfl, trivial⟩ fun σ => ?_
      refine gcond (b := _) rfl (fun hc14 => ?_) (fun hc14 => ?_)
      · 
        refine gseq fun N22 hN22 => ?_
        refine greg ?_
        refine gop (y_assign (v := .int _ _) rfl) rfl rfl rfl ?_
        refine gops_nil ?_
        refine hN22 _ _ ?_
        refine gfrom [(2, .int _ _)] ⟨rfl, trivial⟩ fun σ => ?_
        refine gret fun w1 hM => ?_
        refine ⟨_, res1 rfl (rt (v := .int _ _) rfl), ?_⟩
        exact ⟨by rw [show partCode s = 12 by simp_all [partCode, dotty, strEq]]; rfl, hM.low⟩
      · 
        cases hc14
  · 
    have hg7d := hg7
    refine gop_off rfl rfl rfl rfl hg7 rfl rfl ?_
    refine gop (y_pick_t (v := .bool _) rfl hg7 rfl) rfl rfl rfl ?_
    refine gop (y_move (v := .bool _) rfl) rfl rfl rfl ?_
    refine gop_off rfl rfl rfl rfl rfl rfl rfl ?_
    refine gop_off rfl rfl rfl rfl rfl rfl rfl ?_
    refine gop (y_pick_t (v := .bool _) rfl rfl rfl) rfl rfl rfl ?_
    refine gops_nil ?_
    refine hN3 _ _ ?_
    refine gfrom [(0, .string _), (14, .bool _)] ⟨rfl, rfl, trivial⟩ fun σ => ?_
    refine gcond (b := _) rfl (fun hc14 => ?_) (fun hc14 => ?_)
    · 
      refine gseq fun N23 hN23 => ?_
      refine greg ?_
      refine gop (y_assign (v := .int _ _) rfl) rfl rfl rfl ?_
      refine gops_nil ?_
      refine hN23 _ _ ?_
      refine gfrom [(2, .int _ _)] ⟨rfl, trivial⟩ fun σ => ?_
      refine gret fun w1 hM => ?_
      refine ⟨_, res1 rfl (rt (v := .int _ _) rfl), ?_⟩
      exact ⟨by rw [show partCode s = 12 by simp_all [partCode, dotty, strEq]]; rfl, hM.low⟩
    · 
      cases hc14
end Go.Proofs.YtijpaljdclhehaaDoor
namespace Go.Proofs.YtijpaljdclhehaaDoor
open Go.RowKit Go.Cf
set_option maxRecDepth 10000
set_option maxHeartbeats 1000000 in
theorem sIndexByte_any (w : World) (s : ByteArray) (c : Int) : Calls Tryd.prog 78 #[.string s, .int .u8 c] w fun e w' => e = .returned (.int .i64 (Lib.indexByte s.data.toList c.toNat.toUInt8)) ∧ Below w.heap.size w w' := by
  refine gcalls Tryd.func78 rfl Tryd.ntmps78 (Nat.le_of_ble_eq_true rfl) ?_
  refine gfrom [(0, .string _), (1, .int _ _)] ⟨rfl, rfl, trivial⟩ fun σ => ?_
  refine gseq fun N1 hN1 => ?_
  refine greg ?_
  refine gop (y_assign (v := .int _ _) rfl) rfl rfl rfl ?_
  refine gops_nil ?_
  refine hN1 _ _ ?_
  refine gfrom [(0, .string _), (1, .int _ _)] ⟨rfl, rfl, trivial⟩ fun σ => ?_
  refine gseq fun N2 hN2 => ?_
  refine greg ?_
  refine gop (y_move (v := .string _) rfl) rfl rfl rfl ?_
  refine gop (y_move (v := .int _ _) rfl) rfl rfl rfl ?_
  refine gop (y_extern (vs := [.string _, .int _ _]) Tryd.func95 (by kernel_rfl) (by kernel_rfl) (by kernel_rfl) (e := Extern.BytealgIndexByte.indexByte) (by kernel_rfl) rfl (fun w => Lib.run_indexByteString _ _ w)) rfl rfl rfl ?_
  refine gop (y_assign (v := .int _ _) rfl) rfl rfl rfl ?_
  refine gops_nil ?_
  refine hN2 _ _ ?_
  refine gfrom [(4, .int _ _)] ⟨rfl, trivial⟩ fun σ => ?_
  refine gret fun w1 hM => ?_
  refine ⟨_, res1 rfl (rt (v := .int _ _) rfl), ?_⟩
  exact ⟨rfl, hM.low⟩
set_option maxHeartbeats 1000000 in
theorem sCount_any (w : World) (s : ByteArray) : Calls Tryd.prog 89 #[.string s, .string ⟨#[47]⟩] w fun e w' => e = .returned (.int .i64 (slashes s : Nat)) ∧ Below w.heap.size w w' := by
  refine gcalls Tryd.func89 rfl Tryd.ntmps89 (Nat.le_of_ble_eq_true rfl) ?_
  refine gfrom [(0, .string _), (1, .string _)] ⟨rfl, rfl, trivial⟩ fun σ => ?_
  refine gseq fun N1 hN1 => ?_
  refine greg ?_
  refine gop (y_assign (v := .int _ _) rfl) rfl rfl rfl ?_
  refine gops_nil ?_
  refine hN1 _ _ ?_
  refine gfrom [(0, .string _), (1, .string _)] ⟨rfl, rfl, trivial⟩ fun σ => ?_
  refine gseq fun N2 hN2 => ?_
  refine gseq fun N3 hN3 => ?_
  refine greg ?_
  refine gop (y_move (v := .string _) rfl) rfl rfl rfl ?_
  refine gop (y_lens Tryd.underlying9 rfl) rfl rfl rfl ?_
  refine gop (y_eql rfl rfl) rfl rfl rfl ?_
  refine gops_nil ?_
  refine hN3 _ _ ?_
  refine gfrom [(0, .string _), (1, .string _), (9, .bool _)] ⟨rfl, rfl, rfl, trivial⟩ fun σ => ?_
  refine gcond (b := _) rfl (fun hc9 => ?_) (fun hc9 => ?_)
  · 
     exact absurd hc9 (by decide)
  · 
    replace hc9 := of_decide_eq_false hc9
    refine gskip ?_
    refine hN2 _ _ ?_
    refine gfrom [(0, .string _), (1, .string _)] ⟨rfl, rfl, trivial⟩ fun σ => ?_
    refine gseq fun N4 hN4 => ?_
    refine gseq fun N5 hN5 => ?_
    refine greg ?_
    refine gop (y_move (v := .string _) rfl) rfl rfl rfl ?_
    refine gop (y_lens Tryd.underlying9 rfl) rfl rfl rfl ?_
    refine gop (y_eql rfl rfl) rfl rfl rfl ?_
    refine gops_nil ?_
    refine hN5 _ _ ?_
    refine gfrom [(0, .string _), (1, .string _), (15, .bool _)] ⟨rfl, rfl, rfl, trivial⟩ fun σ => ?_
    refine gcond (b := _) rfl (fun hc15 => ?_) (fun hc15 => ?_)
    · 
      replace hc15 := of_decide_eq_true hc15
      refine gseq fun N6 hN6 => ?_
      refine greg ?_
      refine gop (y_move (v := .string _) rfl) rfl rfl rfl ?_
      refine gop (y_move (v := .string _) rfl) rfl rfl rfl ?_
      refine gop (y_stridx (m := 0) Tryd.underlying9 rfl rfl (by omega) (by omega) (by omega)) rfl rfl rfl ?_
      refine gop (y_extern (vs := [.string _, .int _ _]) Tryd.func107 (by kernel_rfl) (by kernel_rfl) (by kernel_rfl) (e := Extern.BytealgCount.count) (by kernel_rfl) rfl (fun w => Lib.run_countString _ _ w)) rfl rfl rfl ?_
      refine gop (y_assign (v := .int _ _) rfl) rfl rfl rfl ?_
      refine gops_nil ?_
      refine hN6 _ _ ?_
      refine gfrom [(4, .int _ _)] ⟨rfl, trivial⟩ fun σ => ?_
      refine gret fun w1 hM => ?_
      refine ⟨_, res1 rfl (rt (v := .int _ _) rfl), ?_⟩
      exact ⟨rfl, hM.low⟩
    · 
       exact absurd hc15 (by decide)
set_option maxHeartbeats 1000000 in
theorem slIndex_any (w : World) (s : ByteArray) : Calls Tryd.prog 108 #[.string s, .string ⟨#[47]⟩] w fun e w' => e = .returned (.int .i64 (Lib.indexByte s.data.toList 47)) ∧ Below w.heap.size w w' := by
  refine gcalls Tryd.func108 rfl Tryd.ntmps108 (Nat.le_of_ble_eq_true rfl) ?_
  refine gfrom [(0, .string _), (1, .string _)] ⟨rfl, rfl, trivial⟩ fun σ => ?_
  refine gseq fun N1 hN1 => ?_
  refine greg ?_
  refine gop (y_assign (v := .int _ _) rfl) rfl rfl rfl ?_
  refine gops_nil ?_
  refine hN1 _ _ ?_
  refine gfrom [(0, .string _), (1, .string _)] ⟨rfl, rfl, trivial⟩ fun σ => ?_
  refine gseq fun N2 hN2 => ?_
  refine greg ?_
  refine gop (y_move (v := .string _) rfl) rfl rfl rfl ?_
  refine gop (y_lens Tryd.underlying9 rfl) rfl rfl rfl ?_
  refine gop (y_assign (v := .int _ _) rfl) rfl rfl rfl ?_
  refine gops_nil ?_
  refine hN2 _ _ ?_
  refine gfrom [(0, .string _), (1, .string _), (5, .int _ _)] ⟨rfl, rfl, rfl, trivial⟩ fun σ => ?_
  refine gseq fun N3 hN3 => ?_
  refine gblock ?_
  refine gseq fun N4 hN4 => ?_
  refine greg ?_
  refine gop (y_move (v := .int _ _) rfl) rfl rfl rfl ?_
  refine gop (y_eql rfl rfl) rfl rfl rfl ?_
  refine gop (y_move (v := .bool _) rfl) rfl rfl rfl ?_
  refine gop_if (want := false) rfl rfl rfl rfl rfl rfl (fun hg19 => ?_) (fun hg19 => ?_)
  · 
    have hg19d := of_decide_eq_false hg19
    refine gop (y_bare (y_move (v := .string _) rfl)) rfl rfl rfl ?_
    refine gop_on rfl rfl rfl rfl hg19 ?_
    refine gop (y_bare (y_move (v := .string _) rfl)) rfl rfl rfl ?_
    refine gop_on rfl rfl rfl rfl hg19 ?_
    refine gop (y_bare (y_eqls rfl rfl)) rfl rfl rfl ?_
    refine gop (y_pick_f (v := .bool _) rfl hg19 rfl) rfl rfl rfl ?_
    refine gop (y_assign (v := .bool _) rfl) rfl rfl rfl ?_
    refine gops_nil ?_
    refine hN4 _ _ ?_
    refine gfrom [(0, .string _), (1, .string _), (5, .int _ _), (16, .bool _)] ⟨rfl, rfl, rfl, rfl, trivial⟩ fun σ => ?_
    refine gcond (b := _) rfl (fun hc16 => ?_) (fun hc16 => ?_)
    · 
      refine gseq fun N5 hN5 => ?_
      refine greg ?_
      refine gop (y_assign (v := .int _ _) rfl) rfl rfl rfl ?_
      refine gops_nil ?_
      refine hN5 _ _ ?_
      refine gfrom [(4, .int _ _)] ⟨rfl, trivial⟩ fun σ => ?_
      refine gret fun w1 hM => ?_
      refine ⟨_, res1 rfl (rt (v := .int _ _) rfl), ?_⟩
      exact ⟨by rw [← ByteArray.toList_eq, ← show _ = s.toList by simpa using hc16]; rfl, hM.low⟩
    · 
      refine gseq fun N6 hN6 => ?_
      refine greg ?_
      refine gop (y_move (v := .int _ _) rfl) rfl rfl rfl ?_
      refine gop (y_eql rfl rfl) rfl rfl rfl ?_
      refine gop (y_assign (v := .bool _) rfl) rfl rfl rfl ?_
      refine gops_nil ?_
      refine hN6 _ _ ?_
      refine gfrom [(0, .string _), (1, .string _), (5, .int _ _), (24, .bool _)] ⟨rfl, rfl, rfl, rfl, trivial⟩ fun σ => ?_
      refine gcond (b := _) rfl (fun hc24 => ?_) (fun hc24 => ?_)
      · 
        replace hc24 := of_decide_eq_true hc24
        refine gseq fun N7 hN7 => ?_
        refine greg ?_
        refine gop (y_move (v := .string _) rfl) rfl rfl rfl ?_
        refine gop (y_move (v := .string _) rfl) rfl rfl rfl ?_
        refine gop (y_stridx (m := 0) Tryd.underlying9 rfl rfl (by omega) (by omega) (by omega)) rfl rfl rfl ?_
        refine gop_pure (e_call (vs := [.string _, .int _ _]) Tryd.func78 rfl (by kernel_rfl) rfl) (fun w hM => sIndexByte_any w _ _) rfl rfl rfl ?_
        refine gop (y_assign (v := .int _ _) rfl) rfl rfl rfl ?_
        refine gops_nil ?_
        refine hN7 _ _ ?_
        refine gfrom [(4, .int _ _)] ⟨rfl, trivial⟩ fun σ => ?_
        refine gret fun w1 hM => ?_
        refine ⟨_, res1 rfl (rt (v := .int _ _) rfl), ?_⟩
        exact ⟨rfl, hM.low⟩
      · 
         exact absurd hc24 (by decide)
  · 
     exact absurd hg19 (by decide)
set_option maxHeartbeats 1000000 in
theorem sIndex_any (w : World) (s : ByteArray) : Calls Tryd.prog 90 #[.string s, .string ⟨#[47]⟩] w fun e w' => e = .returned (.int .i64 (Lib.indexByte s.data.toList 47)) ∧ Below w.heap.size w w' := by
  refine gcalls Tryd.func90 rfl Tryd.ntmps90 (Nat.le_of_ble_eq_true rfl) ?_
  refine gfrom [(0, .string _), (1, .string _)] ⟨rfl, rfl, trivial⟩ fun σ => ?_
  refine gseq fun N1 hN1 => ?_
  refine greg ?_
  refine gop (y_assign (v := .int _ _) rfl) rfl rfl rfl ?_
  refine gops_nil ?_
  refine hN1 _ _ ?_
  refine gfrom [(0, .string _), (1, .string _)] ⟨rfl, rfl, trivial⟩ fun σ => ?_
  refine gseq fun N2 hN2 => ?_
  refine greg ?_
  refine gop (y_move (v := .string _) rfl) rfl rfl rfl ?_
  refine gop (y_move (v := .string _) rfl) rfl rfl rfl ?_
  refine gop_pure (e_call (vs := [.string _, .string _]) Tryd.func108 rfl (by kernel_rfl) rfl) (fun w hM => slIndex_any w _) rfl rfl rfl ?_
  refine gop (y_assign (v := .int _ _) rfl) rfl rfl rfl ?_
  refine gops_nil ?_
  refine hN2 _ _ ?_
  refine gfrom [(4, .int _ _)] ⟨rfl, trivial⟩ fun σ => ?_
  refine gret fun w1 hM => ?_
  refine ⟨_, res1 rfl (rt (v := .int _ _) rfl), ?_⟩
  exact ⟨rfl, hM.low⟩
end Go.Proofs.YtijpaljdclhehaaDoor
namespace Go.Proofs.YtijpaljdclhehaaDoor
open Go.RowKit Go.Cf
set_option maxRecDepth 10000
set_option maxHeartbeats 2000000 in
theorem genSplit_any (w : World) (s : ByteArray) (hs : s.size ≤ 4000000) :
    Calls Tryd.prog 70 #[.string s, .string ⟨#[47]⟩, .int .i64 0, .int .i64 (-1)] w fun e w' => ∃ v T', e = .returned v ∧ T' = [rowl strCells w.heap.size 9 1 v (cutS s)] ∧ Mem w T' w' := by
  have hsl := slashes_le s
  have h47 : (⟨#[47]⟩ : ByteArray).size = 1 := rfl
  refine gcalls Tryd.func70 rfl Tryd.ntmps70 (Nat.le_of_ble_eq_true rfl) ?_
  refine gfrom [(0, .string _), (1, .string _), (2, .int _ _), (3, .int _ _)] ⟨rfl, rfl, rfl, rfl, trivial⟩ fun σ => ?_
  refine gseq fun N1 hN1 => ?_
  refine greg ?_
  refine gop (y_assign (v := .slice _ _ _) rfl) rfl rfl rfl ?_
  refine gops_nil ?_
  refine hN1 _ _ ?_
  refine gfrom [(0, .string _), (1, .string _), (2, .int _ _), (3, .int _ _)] ⟨rfl, rfl, rfl, rfl, trivial⟩ fun σ => ?_
  refine gseq fun N2 hN2 => ?_
  refine gseq fun N3 hN3 => ?_
  refine greg ?_
  refine gop (y_move (v := .int _ _) rfl) rfl rfl rfl ?_
  refine gop (y_eql rfl rfl) rfl rfl rfl ?_
  refine gops_nil ?_
  refine hN3 _ _ ?_
  refine gfrom [(0, .string _), (1, .string _), (2, .int _ _), (3, .int _ _), (13, .bool _)] ⟨rfl, rfl, rfl, rfl, rfl, trivial⟩ fun σ => ?_
  refine gcond (b := _) rfl (fun hc13 => ?_) (fun hc13 => ?_)
  · 
     exact absurd hc13 (by decide)
  · 
    replace hc13 := of_decide_eq_false hc13
    refine gskip ?_
    refine hN2 _ _ ?_
    refine gfrom [(0, .string _), (1, .string _), (2, .int _ _), (3, .int _ _)] ⟨rfl, rfl, rfl, rfl, trivial⟩ fun σ => ?_
    refine gseq fun N4 hN4 => ?_
    refine gseq fun N5 hN5 => ?_
    refine greg ?_
    refine gop (y_move (v := .string _) rfl) rfl rfl rfl ?_
    refine gop (y_eqls rfl rfl) rfl rfl rfl ?_
    refine gops_nil ?_
    refine hN5 _ _ ?_
    refine gfrom [(0, .string _), (1, .string _), (2, .int _ _), (3, .int _ _), (15, .bool _)] ⟨rfl, rfl, rfl, rfl, rfl, trivial⟩ fun σ => ?_
    refine gcond (b := _) rfl (fun hc15 => ?_) (fun hc15 => ?_)
    · 
       simp at hc15
    · 
      refine gskip ?_
      refine hN4 _ _ ?_
      refine gfrom [(0, .string _), (1, .string _), (2, .int _ _), (3, .int _ _)] ⟨rfl, rfl, rfl, rfl, trivial⟩ fun σ => ?_
      refine gseq fun N6 hN6 => ?_
      refine gseq fun N7 hN7 => ?_
      refine greg ?_
      refine gop (y_move (v := .int _ _) rfl) rfl rfl rfl ?_
      refine gop (y_lss rfl rfl) rfl rfl rfl ?_
      refine gops_nil ?_
      refine hN7 _ _ ?_
      refine gfrom [(0, .string _), (1, .string _), (2, .int _ _), (3, .int _ _), (20, .bool _)] ⟨rfl, rfl, rfl, rfl, rfl, trivial⟩ fun σ => ?_
      refine gcond (b := _) rfl (fun hc20 => ?_) (fun hc20 => ?_)
      · 
        replace hc20 := of_decide_eq_true hc20
        refine greg ?_
        refine gop (y_move (v := .string _) rfl) rfl rfl rfl ?_
        refine gop (y_move (v := .string _) rfl) rfl rfl rfl ?_
        refine gop_pure (e_call (vs := [.string _, .string _]) Tryd.func89 rfl (by kernel_rfl) rfl) (fun w hM => sCount_any w _) rfl rfl rfl ?_
        refine gop (y_add rfl rfl ⟨by omega, by omega⟩) rfl rfl rfl ?_
        refine gop (y_assign (v := .int _ _) rfl) rfl rfl rfl ?_
        refine gops_nil ?_
        refine hN6 _ _ ?_
        refine gfrom [(0, .string _), (1, .string _), (2, .int _ _), (3, .int _ _)] ⟨rfl, rfl, rfl, rfl, trivial⟩ fun σ => ?_
        refine gseq fun N8 hN8 => ?_
        refine greg ?_
        refine gop (y_move (v := .int _ _) rfl) rfl rfl rfl ?_
        refine gop (y_move (v := .string _) rfl) rfl rfl rfl ?_
        refine gop (y_lens Tryd.underlying9 rfl) rfl rfl rfl ?_
        refine gop (y_add rfl rfl ⟨by omega, by omega⟩) rfl rfl rfl ?_
        refine gop (y_min_l rfl rfl (show ((slashes s : Nat) : Int) + 1 ≤ (s.size : Int) + 1 by omega)) rfl rfl rfl ?_
        refine gop (y_assign (v := .int _ _) rfl) rfl rfl rfl ?_
        refine gops_nil ?_
        refine hN8 _ _ ?_
        refine gfrom [(0, .string _), (1, .string _), (2, .int _ _), (3, .int _ _)] ⟨rfl, rfl, rfl, rfl, trivial⟩ fun σ => ?_
        refine gseq fun N9 hN9 => ?_
        refine greg ?_
        refine gop (y_move (v := .int _ _) rfl) rfl rfl rfl ?_
        refine gop_make (f := strCells) (bytes := 16) (z := .string .empty) (ByteArray.empty) Tryd.underlying37 (by kernel_rfl) rfl rfl rfl (k := slashes s + 1) rfl rfl (by omega) (by simp [maxLen]; omega) rfl (fun b31 hb31 => ?_)
        refine gop (y_assign (v := .slice (some _) _ _) rfl) rfl rfl rfl ?_
        refine gops_nil ?_
        refine hN9 _ _ ?_
        refine gT [rowl _ _ _ _ _ _] rfl ?_
        refine gfrom [(0, .string _), (1, .string _), (2, .int _ _), (3, .int _ _), (9, .slice (some _) _ _)] ⟨rfl, rfl, rfl, rfl, rfl, trivial⟩ fun σ => ?_
        refine gseq fun N10 hN10 => ?_
        refine greg ?_
        refine gop (y_move (v := .int _ _) rfl) rfl rfl rfl ?_
        refine gop (y_sub rfl rfl ⟨by omega, by omega⟩) rfl rfl rfl ?_
        refine gop (y_assign (v := .int _ _) rfl) rfl rfl rfl ?_
        refine gops_nil ?_
        refine hN10 _ _ ?_
        refine gfrom [(0, .string _), (1, .string _), (2, .int _ _), (3, .int _ _), (9, .slice (some _) _ _)] ⟨rfl, rfl, rfl, rfl, rfl, trivial⟩ fun σ => ?_
        refine gseq fun N11 hN11 => ?_
        refine greg ?_
        refine gop (y_assign (v := .int _ _) rfl) rfl rfl rfl ?_
        refine gops_nil ?_
        refine hN11 _ _ ?_
        refine gfrom [(0, .string _), (1, .string _), (2, .int _ _), (3, .int _ _), (9, .slice (some _) _ _), (10, .int _ _)] ⟨rfl, rfl, rfl, rfl, rfl, rfl, trivial⟩ fun σ => ?_
        refine gseq fun N12 hN12 => ?_
        refine gblock ?_
        refine gfrom2 [(0, .string _), (10, .int _ _)] [(1, .string _), (2, .int _ _), (3, .int _ _), (9, .slice (some _) _ _)] ⟨rfl, rfl, trivial⟩ ⟨rfl, rfl, rfl, rfl, trivial⟩ fun σ => ?_
        refine gloop2 (G := Nat × ByteArray × List ByteArray) (fun (i, sc, pre) => i = pre.length ∧ pre ++ cutS sc = cutS s ∧ slashes sc + pre.length = slashes s ∧ sc.size ≤ s.size) (fun (i, sc, pre) => slashes s - pre.length) (fun (i, sc, pre) => [(0, .string sc), (10, .int .i64 (i : Int))]) (fun (i, sc, pre) => [(0, rowl strCells w.heap.size 9 1 (.slice (some ⟨b31, 0, none⟩) (slashes s + 1) (slashes s + 1)) (pre ++ List.replicate (slashes s + 1 - pre.length) ByteArray.empty))]) ((0, s, [])) ?h0 ⟨rfl, rfl, trivial⟩ ⟨rfl, rfl, rfl, rfl, trivial⟩ rfl ?round
        case h0 => exact ⟨rfl, rfl, rfl, Nat.le_refl _⟩
        case round =>
          rintro ⟨i, sc, pre⟩ hφ σ
          obtain ⟨hi, hp1, hp2, hp3⟩ := hφ
          refine gT [rowl _ _ _ _ _ _] rfl ?_
          refine gseq fun N13 hN13 => ?_
          refine gseq fun N14 hN14 => ?_
          refine greg ?_
          refine gop (y_move (v := .int _ _) rfl) rfl rfl rfl ?_
          refine gop (y_move (v := .int _ _) rfl) rfl rfl rfl ?_
          refine gop (y_lss rfl rfl) rfl rfl rfl ?_
          refine gops_nil ?_
          refine hN14 _ _ ?_
          refine gfrom [(0, .string _), (1, .string _), (2, .int _ _), (3, .int _ _), (9, .slice (some _) _ _), (10, .int _ _), (36, .bool _)] ⟨rfl, rfl, rfl, rfl, rfl, rfl, rfl, trivial⟩ fun σ => ?_
          refine gcond (b := _) rfl (fun hc36 => ?_) (fun hc36 => ?_)
          · 
            replace hc36 := of_decide_eq_true hc36
            obtain ⟨m, hm1, hm2, hm3, hm4⟩ := idx_hit (s := sc) (by have h0 : ((i : Nat) : Int) < ((slashes s : Nat) : Int) + 1 - 1 := hc36; omega)
            refine gskip ?_
            refine hN13 _ _ ?_
            refine gfrom [(0, .string _), (1, .string _), (2, .int _ _), (3, .int _ _), (9, .slice (some _) _ _), (10, .int _ _)] ⟨rfl, rfl, rfl, rfl, rfl, rfl, trivial⟩ fun σ => ?_
            refine gblock ?_
            refine gseq fun N15 hN15 => ?_
            refine greg ?_
            refine gop (y_move (v := .string _) rfl) rfl rfl rfl ?_
            refine gop (y_move (v := .string _) rfl) rfl rfl rfl ?_
            refine gop_pure (e_call (vs := [.string _, .string _]) Tryd.func90 rfl (by kernel_rfl) rfl) (fun w hM => sIndex_any w _) rfl rfl rfl ?_
            refine gop (y_assign (v := .int _ _) rfl) rfl rfl rfl ?_
            refine gops_nil ?_
            refine hN15 _ _ ?_
            refine gfrom [(0, .string _), (1, .string _), (2, .int _ _), (3, .int _ _), (9, .slice (some _) _ _), (10, .int _ _), (11, .int _ _)] ⟨rfl, rfl, rfl, rfl, rfl, rfl, rfl, trivial⟩ fun σ => ?_
            refine gseq fun N16 hN16 => ?_
            refine gseq fun N17 hN17 => ?_
            refine greg ?_
            refine gop (y_move (v := .int _ _) rfl) rfl rfl rfl ?_
            refine gop (y_lss rfl rfl) rfl rfl rfl ?_
            refine gops_nil ?_
            refine hN17 _ _ ?_
            refine gfrom [(0, .string _), (1, .string _), (2, .int _ _), (3, .int _ _), (9, .slice (some _) _ _), (10, .int _ _), (11, .int _ _), (41, .bool _)] ⟨rfl, rfl, rfl, rfl, rfl, rfl, rfl, rfl, trivial⟩ fun σ => ?_
            refine gcond (b := _) rfl (fun hc41 => ?_) (fun hc41 => ?_)
            · 
               rw [hm1] at hc41; exact absurd hc41 (by simp)
            · 
              replace hc41 := of_decide_eq_false hc41
              refine gskip ?_
              refine hN16 _ _ ?_
              refine gfrom [(0, .string _), (1, .string _), (2, .int _ _), (3, .int _ _), (9, .slice (some _) _ _), (10, .int _ _), (11, .int _ _)] ⟨rfl, rfl, rfl, rfl, rfl, rfl, rfl, trivial⟩ fun σ => ?_
              refine gseq fun N18 hN18 => ?_
              refine greg ?_
              refine gop (y_move (v := .slice (some _) _ _) rfl) rfl rfl rfl ?_
              refine gop (y_move (v := .int _ _) rfl) rfl rfl rfl ?_
              refine gop (y_move (v := .string _) rfl) rfl rfl rfl ?_
              refine gop (y_move (v := .int _ _) rfl) rfl rfl rfl ?_
              refine gop (y_move (v := .int _ _) rfl) rfl rfl rfl ?_
              refine gop (y_add rfl rfl ⟨by omega, by omega⟩) rfl rfl rfl ?_
              refine gop (y_strslice_hi Tryd.underlying9 rfl rfl (by omega) (by omega)) rfl rfl rfl ?_
              refine gop (y_indexAddr (m := i) Tryd.underlying37 Tryd.sizeOf9 rfl rfl (by omega) (by omega) (by omega)) rfl rfl rfl ?_
              refine gop_store_row 0 (f := strCells) (l := pre ++ List.replicate (slashes s + 1 - pre.length) ByteArray.empty) (k := i) (o := 0) (v := .string _) (a := ByteArray.empty) (a' := sc.extract 0 m) (fun _ => rfl) rfl rfl rfl Tryd.sizeOf9 rfl rfl rfl rfl (by simp; omega) (by rw [hi, List.getElem?_append_right (Nat.le_refl _), Nat.sub_self, List.getElem?_replicate, if_pos (by omega)]) (Nat.le_of_ble_eq_true rfl) (by rw [hm1]; rfl) rfl ?_
              refine gops_nil ?_
              refine hN18 _ _ ?_
              refine gT [rowl _ _ _ _ _ _] rfl ?_
              refine gfrom [(0, .string _), (1, .string _), (2, .int _ _), (3, .int _ _), (9, .slice (some _) _ _), (10, .int _ _), (11, .int _ _)] ⟨rfl, rfl, rfl, rfl, rfl, rfl, rfl, trivial⟩ fun σ => ?_
              refine gseq fun N19 hN19 => ?_
              refine greg ?_
              refine gop (y_move (v := .string _) rfl) rfl rfl rfl ?_
              refine gop (y_move (v := .int _ _) rfl) rfl rfl rfl ?_
              refine gop (y_move (v := .string _) rfl) rfl rfl rfl ?_
              refine gop (y_lens Tryd.underlying9 rfl) rfl rfl rfl ?_
              refine gop (y_add rfl rfl ⟨by omega, by omega⟩) rfl rfl rfl ?_
              refine gop (y_strslice_lo Tryd.underlying9 rfl rfl (by omega) (by omega)) rfl rfl rfl ?_
              refine gop (y_assign (v := .string _) rfl) rfl rfl rfl ?_
              refine gops_nil ?_
              refine hN19 _ _ ?_
              refine gfrom [(0, .string _), (1, .string _), (2, .int _ _), (3, .int _ _), (9, .slice (some _) _ _), (10, .int _ _)] ⟨rfl, rfl, rfl, rfl, rfl, rfl, trivial⟩ fun σ => ?_
              refine greg ?_
              refine gop (y_move (v := .int _ _) rfl) rfl rfl rfl ?_
              refine gop (y_add rfl rfl ⟨by omega, by omega⟩) rfl rfl rfl ?_
              refine gop (y_assign (v := .int _ _) rfl) rfl rfl rfl ?_
              refine gops_nil ?_
              rw [show (pre ++ List.replicate (slashes s + 1 - pre.length) ByteArray.empty).set i (sc.extract 0 m) = (pre ++ [sc.extract 0 m]) ++ List.replicate (slashes s + 1 - (pre ++ [sc.extract 0 m]).length) ByteArray.empty from by rw [hi]; exact set_pre (by omega)]
              refine gnext2 ((i + 1, sc.extract (Lib.indexByte sc.data.toList 47 + ((⟨#[47]⟩ : ByteArray).size : Int)).toNat sc.size, pre ++ [sc.extract 0 m])) (by show slashes s - (pre ++ [sc.extract 0 m]).length < slashes s - pre.length; simp; omega) (by rw [show (Lib.indexByte sc.data.toList 47 + ((⟨#[47]⟩ : ByteArray).size : Int)).toNat = m + 1 by omega]; exact ⟨by simp [hi], by rw [← hp1, hm3]; simp, by simp; omega, by simp; omega⟩) ⟨rfl, rfl, trivial⟩ ⟨rfl, rfl, rfl, rfl, trivial⟩ ⟨_, rfl⟩
          · 
            replace hc36 := of_decide_eq_false hc36
            have hpl : pre.length = slashes s := by have h0 : ¬ ((i : Nat) : Int) < ((slashes s : Nat) : Int) + 1 - 1 := hc36; omega
            refine gexit ?_
            refine hN12 _ _ ?_
            refine gfrom [(0, .string _), (9, .slice (some _) _ _), (10, .int _ _)] ⟨rfl, rfl, rfl, trivial⟩ fun σ => ?_
            refine gseq fun N20 hN20 => ?_
            refine greg ?_
            refine gop (y_move (v := .slice (some _) _ _) rfl) rfl rfl rfl ?_
            refine gop (y_move (v := .int _ _) rfl) rfl rfl rfl ?_
            refine gop (y_move (v := .string _) rfl) rfl rfl rfl ?_
            refine gop (y_indexAddr (m := i) Tryd.underlying37 Tryd.sizeOf9 rfl rfl (by omega) (by omega) (by omega)) rfl rfl rfl ?_
            refine gop_store_row 0 (f := strCells) (l := pre ++ List.replicate (slashes s + 1 - pre.length) ByteArray.empty) (k := i) (o := 0) (v := .string _) (a := ByteArray.empty) (a' := sc) (fun _ => rfl) rfl rfl rfl Tryd.sizeOf9 rfl rfl rfl rfl (by simp; omega) (by rw [hi, List.getElem?_append_right (Nat.le_refl _), Nat.sub_self, List.getElem?_replicate, if_pos (by omega)]) (Nat.le_of_ble_eq_true rfl) rfl rfl ?_
            refine gops_nil ?_
            refine hN20 _ _ ?_
            refine gT [rowl _ _ _ _ _ _] rfl ?_
            refine gfrom [(9, .slice (some _) _ _), (10, .int _ _)] ⟨rfl, rfl, trivial⟩ fun σ => ?_
            refine gseq fun N21 hN21 => ?_
            refine greg ?_
            refine gop (y_move (v := .slice (some _) _ _) rfl) rfl rfl rfl ?_
            refine gop (y_move (v := .int _ _) rfl) rfl rfl rfl ?_
            refine gop (y_add rfl rfl ⟨by omega, by omega⟩) rfl rfl rfl ?_
            refine gop (y_slice_hi Tryd.underlying37 Tryd.sizeOf9 rfl rfl (by omega) (by omega)) rfl rfl rfl ?_
            refine gop (y_assign (v := .slice _ _ _) rfl) rfl rfl rfl ?_
            refine gops_nil ?_
            refine hN21 _ _ ?_
            refine gfrom [(8, .slice _ _ _)] ⟨rfl, trivial⟩ fun σ => ?_
            refine gret fun w1 hM => ?_
            refine ⟨_, res1 rfl (rt (v := .slice _ _ _) rfl), ?_⟩
            have hl : (pre ++ List.replicate (slashes s + 1 - pre.length) ByteArray.empty).set i sc = cutS s := by rw [hi, set_pre (by omega), ← hp1, (idx_miss (s := sc) (by omega)).2, show slashes s + 1 - (pre ++ [sc]).length = 0 by simp; omega]; simp
            rw [hl] at hM
            have hi1 : i = slashes s := by omega
            subst hi1
            exact ⟨_, _, rfl, rfl, hM⟩
      · 
         exact absurd hc20 (by decide)
set_option maxHeartbeats 1000000 in
theorem split_any (w : World) (s : ByteArray) (hs : s.size ≤ 4000000) :
    Calls Tryd.prog 44 #[.string s, .string ⟨#[47]⟩] w fun e w' => ∃ v T', e = .returned v ∧ T' = [rowl strCells w.heap.size 9 1 v (cutS s)] ∧ Mem w T' w' := by
  refine gcalls Tryd.func44 rfl Tryd.ntmps44 (Nat.le_of_ble_eq_true rfl) ?_
  refine gfrom [(0, .string _), (1, .string _)] ⟨rfl, rfl, trivial⟩ fun σ => ?_
  refine gseq fun N1 hN1 => ?_
  refine greg ?_
  refine gop (y_assign (v := .slice _ _ _) rfl) rfl rfl rfl ?_
  refine gops_nil ?_
  refine hN1 _ _ ?_
  refine gfrom [(0, .string _), (1, .string _)] ⟨rfl, rfl, trivial⟩ fun σ => ?_
  refine gseq fun N2 hN2 => ?_
  refine greg ?_
  refine gop (y_move (v := .string _) rfl) rfl rfl rfl ?_
  refine gop (y_move (v := .string _) rfl) rfl rfl rfl ?_
  refine gop_got (fun v T' => ∃ lo, w.heap.size ≤ lo ∧ T' = [rowl strCells lo 9 1 v (cutS s)]) (e_call (vs := [.string _, .string _, _, _]) Tryd.func70 rfl (by kernel_rfl) rfl) (fun w hM => (genSplit_any w s hs).mono fun _ _ ⟨v, T1, h1, h2, h3⟩ => ⟨v, T1, h1, ⟨_, hM.low.size, h2⟩, h3⟩) rfl rfl rfl ?_
  rintro v7 _ ⟨lo7, hlo7, rfl⟩
  refine gops_fact (fun w hM => row_form (hM.ok _ (List.mem_of_getElem? (i := 0) rfl))) ?_
  rintro ⟨A7, c7, rfl, hc7, hm7, hn7⟩
  refine gop (y_assign (v := .slice A7 _ c7) rfl) rfl rfl rfl ?_
  refine gops_nil ?_
  refine hN2 _ _ ?_
  refine gT [rowl _ _ _ _ _ _] rfl ?_
  refine gfrom [(4, .slice A7 _ c7)] ⟨rfl, trivial⟩ fun σ => ?_
  refine gret fun w1 hM => ?_
  refine ⟨_, res1 rfl (rt (v := .slice A7 _ c7) rfl), ?_⟩
  exact ⟨_, _, rfl, rfl, weak_lower 0 rfl hlo7 _ hM⟩
end Go.Proofs.YtijpaljdclhehaaDoor
namespace Go.Proofs.YtijpaljdclhehaaDoor
open Go.RowKit Go.Cf
set_option maxRecDepth 10000
set_option maxHeartbeats 2000000 in
theorem splitSeq1_iters (s : ByteArray) (hs : s.size ≤ 4000000) (b1 b2 b3 : Nat) :
    Iters Tryd.prog 102 [.pointer (some ⟨b1, 0, none⟩), .pointer (some ⟨b2, 0, none⟩), .pointer (some ⟨b3, 0, none⟩)] (fun x : ByteArray => [.string x]) (cutS s)
      [box b1 (.cells #[.string ⟨#[47]⟩] 9), box b2 (.cells #[.string s] 9), box b3 (.cells #[.int .i64 0] 3)] := by
  intro w ι W l J Jx hM0 hY
  have h47 : (⟨#[47]⟩ : ByteArray).size = 1 := rfl
  refine gcallsI Tryd.func102 rfl Tryd.ntmps102 (Nat.le_of_ble_eq_true rfl) hM0 ?_
  refine gfrom [(0, .func _ _ _), (1, _), (2, _), (3, _)] ⟨rfl, rfl, rfl, rfl, trivial⟩ fun σ => ?_
  refine gseq fun N1 hN1 => ?_
  refine gseq fun N2 hN2 => ?_
  refine greg ?_
  refine gop (y_load Tryd.isAgg9 rfl (cell_box 1 rfl rfl)) rfl rfl rfl ?_
  refine gop (y_lens Tryd.underlying9 rfl) rfl rfl rfl ?_
  refine gop (y_eql rfl rfl) rfl rfl rfl ?_
  refine gops_nil ?_
  refine hN2 _ _ ?_
  refine gfrom [(0, .func _ _ _), (1, _), (2, _), (3, _), (11, .bool _)] ⟨rfl, rfl, rfl, rfl, rfl, trivial⟩ fun σ => ?_
  refine gcond (b := _) rfl (fun hc11 => ?_) (fun hc11 => ?_)
  · 
     exact absurd hc11 (by decide)
  · 
    replace hc11 := of_decide_eq_false hc11
    refine gskip ?_
    refine hN1 _ _ ?_
    refine gfrom [(0, .func _ _ _), (1, _), (2, _), (3, _)] ⟨rfl, rfl, rfl, rfl, trivial⟩ fun σ => ?_
    refine gseq fun N3 hN3 => ?_
    refine gblock ?_
    refine gfrom2 [] [(0, .func _ _ _), (1, _), (2, _), (3, _)] trivial ⟨rfl, rfl, rfl, rfl, trivial⟩ fun σ => ?_
    refine gloop2 (G := Nat × ByteArray) (fun (k, sc) => (cutS s).drop k = cutS sc ∧ k + slashes sc = slashes s ∧ sc.size ≤ s.size) (fun (k, sc) => slashes sc) (fun (k, sc) => []) (fun (k, sc) => [(0, J k), (2, box b2 (.cells #[.string sc] 9))]) ((0, s)) ?h0 trivial ⟨rfl, rfl, rfl, rfl, trivial⟩ rfl ?round
    case h0 => exact ⟨rfl, by simp, Nat.le_refl _⟩
    case round =>
      rintro ⟨k, sc⟩ hφ σ
      obtain ⟨hk1, hk2, hk3⟩ := hφ
      refine gT [_, box b1 _, box _ _, box b3 _] rfl ?_
      refine gblock ?_
      refine gseq fun N4 hN4 => ?_
      refine greg ?_
      refine gop (y_load Tryd.isAgg9 rfl (cell_box 2 rfl rfl)) rfl rfl rfl ?_
      refine gop (y_load Tryd.isAgg9 rfl (cell_box 1 rfl rfl)) rfl rfl rfl ?_
      refine gop_pure (e_call (vs := [.string _, .string _]) Tryd.func90 rfl (by kernel_rfl) rfl) (fun w hM => sIndex_any w _) rfl rfl rfl ?_
      refine gop (y_assign (v := .int _ _) rfl) rfl rfl rfl ?_
      refine gops_nil ?_
      refine hN4 _ _ ?_
      refine gfrom [(0, .func _ _ _), (1, _), (2, _), (3, _), (7, .int _ _)] ⟨rfl, rfl, rfl, rfl, rfl, trivial⟩ fun σ => ?_
      refine gseq fun N5 hN5 => ?_
      refine gseq fun N6 hN6 => ?_
      refine greg ?_
      refine gop (y_move (v := .int _ _) rfl) rfl rfl rfl ?_
      refine gop (y_lss rfl rfl) rfl rfl rfl ?_
      refine gops_nil ?_
      refine hN6 _ _ ?_
      refine gfrom [(0, .func _ _ _), (1, _), (2, _), (3, _), (7, .int _ _), (33, .bool _)] ⟨rfl, rfl, rfl, rfl, rfl, rfl, trivial⟩ fun σ => ?_
      refine gcond (b := _) rfl (fun hc33 => ?_) (fun hc33 => ?_)
      · 
        replace hc33 := of_decide_eq_true hc33
        have hs0 : slashes sc = 0 := by
          rcases Nat.eq_zero_or_pos (slashes sc) with h0 | h0
          · exact h0
          · obtain ⟨m, hm1, _⟩ := idx_hit h0; omega
        refine gexit ?_
        refine hN3 _ _ ?_
        refine gfrom [(0, .func _ _ _), (2, _)] ⟨rfl, rfl, trivial⟩ fun σ => ?_
        refine greg ?_
        refine gop (y_move (v := .func _ _ _) rfl) rfl rfl rfl ?_
        refine gop (y_load Tryd.isAgg9 rfl (cell_box 2 rfl rfl)) rfl rfl rfl ?_
        refine gop_yield (l := l) (k := k) (J := J) (Jx := Jx) (vs := [.string _]) rfl rfl rfl (fun r W1 hM1 => hY k sc r W1 (drop_head (hk1.trans (idx_miss hs0).2)).1 hM1) rfl (fun bY51 gY51 hY51 => ?_)
        refine gops_nil ?_
        intro w1 hM
        refine ⟨_, res0 rfl, ?_⟩
        cases bY51 with
        | false =>
          obtain ⟨iY, rfl⟩ : ∃ i, gY51 = Jx k i := hY51
          exact ⟨⟨_, rfl⟩, .inr ⟨k, iY, (List.getElem?_eq_some_iff.1 (drop_head (hk1.trans (idx_miss hs0).2)).1).1, hM.sub (List.singleton_sublist.2 (by simp))⟩⟩
        | true =>
          obtain rfl : gY51 = J (k + 1) := hY51
          exact ⟨⟨_, rfl⟩, .inl (by have h1 := drop_head (hk1.trans (idx_miss hs0).2); have h2 := (List.getElem?_eq_some_iff.1 h1.1).1; have h3 := List.drop_eq_nil_iff.1 h1.2; rw [show (cutS s).length = k + 1 by omega]; exact hM.sub (List.singleton_sublist.2 (by simp)))⟩
      · 
        replace hc33 := of_decide_eq_false hc33
        have hs0 : 0 < slashes sc := by
          rcases Nat.eq_zero_or_pos (slashes sc) with h0 | h0
          · have := (idx_miss h0).1; omega
          · exact h0
        obtain ⟨m, hm1, hm2, hm3, hm4⟩ := idx_hit hs0
        refine gskip ?_
        refine hN5 _ _ ?_
        refine gfrom [(0, .func _ _ _), (1, _), (2, _), (3, _), (7, .int _ _)] ⟨rfl, rfl, rfl, rfl, rfl, trivial⟩ fun σ => ?_
        refine gseq fun N7 hN7 => ?_
        refine greg ?_
        refine gop (y_load Tryd.isAgg9 rfl (cell_box 2 rfl rfl)) rfl rfl rfl ?_
        refine gop (y_move (v := .int _ _) rfl) rfl rfl rfl ?_
        refine gop (y_load Tryd.isAgg3 rfl (cell_box 3 rfl rfl)) rfl rfl rfl ?_
        refine gop (y_add rfl rfl ⟨by omega, by omega⟩) rfl rfl rfl ?_
        refine gop (y_strslice_hi Tryd.underlying9 rfl rfl (by omega) (by omega)) rfl rfl rfl ?_
        refine gop (y_assign (v := .string _) rfl) rfl rfl rfl ?_
        refine gops_nil ?_
        refine hN7 _ _ ?_
        refine gfrom [(0, .func _ _ _), (1, _), (2, _), (3, _), (7, .int _ _), (8, .string _)] ⟨rfl, rfl, rfl, rfl, rfl, rfl, trivial⟩ fun σ => ?_
        refine gseq fun N8 hN8 => ?_
        refine gseq fun N9 hN9 => ?_
        refine greg ?_
        refine gop (y_move (v := .func _ _ _) rfl) rfl rfl rfl ?_
        refine gop (y_move (v := .string _) rfl) rfl rfl rfl ?_
        refine gop_yield (l := l) (k := k) (J := J) (Jx := Jx) (vs := [.string _]) rfl rfl rfl (fun r W1 hM1 => hY k (sc.extract 0 (Lib.indexByte sc.data.toList 47 + 0).toNat) r W1 (by rw [show (Lib.indexByte sc.data.toList 47 + 0).toNat = m by omega]; exact (drop_head (hk1.trans hm3)).1) hM1) rfl (fun bY41 gY41 hY41 => ?_)
        refine gop (y_not rfl) rfl rfl rfl ?_
        refine gops_nil ?_
        refine hN9 _ _ ?_
        refine gT [_, box b1 _, box _ _, box b3 _] rfl ?_
        refine gfrom [(0, .func _ _ _), (1, _), (2, _), (3, _), (7, .int _ _), (42, .bool _)] ⟨rfl, rfl, rfl, rfl, rfl, rfl, trivial⟩ fun σ => ?_
        refine gcond (b := _) rfl (fun hc42 => ?_) (fun hc42 => ?_)
        · 
          obtain rfl : bY41 = false := by simpa using hc42
          obtain ⟨iY, rfl⟩ : ∃ i, gY41 = Jx k i := hY41
          refine gret fun w1 hM => ?_
          refine ⟨_, res0 rfl, ?_⟩
          exact ⟨⟨_, rfl⟩, .inr ⟨k, iY, (List.getElem?_eq_some_iff.1 (drop_head (hk1.trans hm3)).1).1, hM.sub (List.singleton_sublist.2 (by simp))⟩⟩
        · 
          obtain rfl : bY41 = true := by simpa using hc42
          obtain rfl : gY41 = J (k + 1) := hY41
          refine gskip ?_
          refine hN8 _ _ ?_
          refine gfrom [(0, .func _ _ _), (1, _), (2, _), (3, _), (7, .int _ _)] ⟨rfl, rfl, rfl, rfl, rfl, trivial⟩ fun σ => ?_
          refine greg ?_
          refine gop (y_load Tryd.isAgg9 rfl (cell_box 2 rfl rfl)) rfl rfl rfl ?_
          refine gop (y_move (v := .int _ _) rfl) rfl rfl rfl ?_
          refine gop (y_load Tryd.isAgg9 rfl (cell_box 1 rfl rfl)) rfl rfl rfl ?_
          refine gop (y_lens Tryd.underlying9 rfl) rfl rfl rfl ?_
          refine gop (y_add rfl rfl ⟨by omega, by omega⟩) rfl rfl rfl ?_
          refine gop (y_strslice_lo Tryd.underlying9 rfl rfl (by omega) (by omega)) rfl rfl rfl ?_
          refine gop_store 2 (v := .string _) (cs' := #[_]) rfl rfl Tryd.sizeOf9 rfl rfl rfl rfl (Nat.le_of_ble_eq_true rfl) rfl rfl ?_
          refine gops_nil ?_
          refine gnext2 ((k + 1, sc.extract (Lib.indexByte sc.data.toList 47 + ((⟨#[47]⟩ : ByteArray).size : Int)).toNat sc.size)) (by show slashes (sc.extract (Lib.indexByte sc.data.toList 47 + ((⟨#[47]⟩ : ByteArray).size : Int)).toNat sc.size) < slashes sc; rw [show (Lib.indexByte sc.data.toList 47 + ((⟨#[47]⟩ : ByteArray).size : Int)).toNat = m + 1 by omega]; omega) (by rw [show (Lib.indexByte sc.data.toList 47 + ((⟨#[47]⟩ : ByteArray).size : Int)).toNat = m + 1 by omega]; exact ⟨(drop_head (hk1.trans hm3)).2, by omega, by simp; omega⟩) trivial ⟨rfl, rfl, rfl, rfl, trivial⟩ ⟨_, rfl⟩
set_option maxHeartbeats 1000000 in
theorem splitSeq_any (w : World) (s : ByteArray) :
    Calls Tryd.prog 83 #[.string s, .string ⟨#[47]⟩, .int .i64 0] w fun e w' => ∃ v T', e = .returned v ∧ (∃ b1 b2 b3, v = .func (.func 102) #[] #[.pointer (some ⟨b1, 0, none⟩), .pointer (some ⟨b2, 0, none⟩), .pointer (some ⟨b3, 0, none⟩)] ∧ T' = [box b2 (.cells #[.string s] 9), box b1 (.cells #[.string ⟨#[47]⟩] 9), box b3 (.cells #[.int .i64 0] 3)]) ∧ Mem w T' w' := by
  refine gcalls Tryd.func83 rfl Tryd.ntmps83 (Nat.le_of_ble_eq_true rfl) ?_
  refine gfrom [(0, .string _), (1, .string _), (2, .int _ _)] ⟨rfl, rfl, rfl, trivial⟩ fun σ => ?_
  refine gseq fun N1 hN1 => ?_
  refine greg ?_
  refine gop_box (v := .string _) (cs := #[_]) rfl rfl rfl (fun b3 hb3 => ?_)
  refine gop_box (v := .string _) (cs := #[_]) rfl rfl rfl (fun b4 hb4 => ?_)
  refine gop_box (v := .int _ _) (cs := #[_]) rfl rfl rfl (fun b5 hb5 => ?_)
  refine gop (y_assign (v := .nilFunc) rfl) rfl rfl rfl ?_
  refine gops_nil ?_
  refine hN1 _ _ ?_
  refine gT [box b3 _, box b4 _, box b5 _] rfl ?_
  refine gfrom [(3, .pointer _), (4, .pointer _), (5, .pointer _)] ⟨rfl, rfl, rfl, trivial⟩ fun σ => ?_
  refine gseq fun N2 hN2 => ?_
  refine greg ?_
  refine gop (y_makeFunc (vs := [.pointer (some ⟨b4, 0, none⟩), .pointer (some ⟨b3, 0, none⟩), .pointer (some ⟨b5, 0, none⟩)]) rfl) rfl rfl rfl ?_
  refine gop (y_assign (v := .func (.func 102) #[] #[.pointer (some ⟨b4, 0, none⟩), .pointer (some ⟨b3, 0, none⟩), .pointer (some ⟨b5, 0, none⟩)]) rfl) rfl rfl rfl ?_
  refine gops_nil ?_
  refine hN2 _ _ ?_
  refine gfrom [(6, .func (.func 102) #[] #[.pointer (some ⟨b4, 0, none⟩), .pointer (some ⟨b3, 0, none⟩), .pointer (some ⟨b5, 0, none⟩)])] ⟨rfl, trivial⟩ fun σ => ?_
  refine gret fun w1 hM => ?_
  refine ⟨_, res1 rfl (rt (v := .func (.func 102) #[] #[.pointer (some ⟨b4, 0, none⟩), .pointer (some ⟨b3, 0, none⟩), .pointer (some ⟨b5, 0, none⟩)]) rfl), ?_⟩
  exact ⟨_, _, rfl, ⟨_, _, _, rfl, rfl⟩, hM⟩
set_option maxHeartbeats 1000000 in
theorem splitSeqX_any (w : World) (s : ByteArray) :
    Calls Tryd.prog 64 #[.string s, .string ⟨#[47]⟩] w fun e w' => ∃ v T', e = .returned v ∧ (∃ b1 b2 b3, v = .func (.func 102) #[] #[.pointer (some ⟨b1, 0, none⟩), .pointer (some ⟨b2, 0, none⟩), .pointer (some ⟨b3, 0, none⟩)] ∧ T' = [box b2 (.cells #[.string s] 9), box b1 (.cells #[.string ⟨#[47]⟩] 9), box b3 (.cells #[.int .i64 0] 3)]) ∧ Mem w T' w' := by
  refine gcalls Tryd.func64 rfl Tryd.ntmps64 (Nat.le_of_ble_eq_true rfl) ?_
  refine gfrom [(0, .string _), (1, .string _)] ⟨rfl, rfl, trivial⟩ fun σ => ?_
  refine gseq fun N1 hN1 => ?_
  refine greg ?_
  refine gop (y_assign (v := .nilFunc) rfl) rfl rfl rfl ?_
  refine gops_nil ?_
  refine hN1 _ _ ?_
  refine gfrom [(0, .string _), (1, .string _)] ⟨rfl, rfl, trivial⟩ fun σ => ?_
  refine gseq fun N2 hN2 => ?_
  refine greg ?_
  refine gop (y_move (v := .string _) rfl) rfl rfl rfl ?_
  refine gop (y_move (v := .string _) rfl) rfl rfl rfl ?_
  refine gop_got (fun v T' => ∃ b1 b2 b3, v = .func (.func 102) #[] #[.pointer (some ⟨b1, 0, none⟩), .pointer (some ⟨b2, 0, none⟩), .pointer (some ⟨b3, 0, none⟩)] ∧ T' = [box b2 (.cells #[.string s] 9), box b1 (.cells #[.string ⟨#[47]⟩] 9), box b3 (.cells #[.int .i64 0] 3)]) (e_call (vs := [.string _, .string _, _]) Tryd.func83 rfl (by kernel_rfl) rfl) (fun w hM => splitSeq_any w s) rfl rfl rfl ?_
  rintro _ _ ⟨b1, b2, b3, rfl, rfl⟩
  refine gop (y_assign (v := .func _ _ _) rfl) rfl rfl rfl ?_
  refine gops_nil ?_
  refine hN2 _ _ ?_
  refine gT [box b2 _, box b1 _, box b3 _] rfl ?_
  refine gfrom [(4, .func _ _ _)] ⟨rfl, trivial⟩ fun σ => ?_
  refine gret fun w1 hM => ?_
  refine ⟨_, res1 rfl (rt (v := .func _ _ _) rfl), ?_⟩
  exact ⟨_, _, rfl, ⟨_, _, _, rfl, rfl⟩, hM⟩
end Go.Proofs.YtijpaljdclhehaaDoor
namespace Go.Proofs.YtijpaljdclhehaaDoor
open Go.RowKit Go.Cf
set_option maxRecDepth 10000
theorem bd23_0_1 (x1 : Int) (x2 : Int) : Tryd.prog.built 23 [(0, .int .i64 x1), (1, .int .i64 x2)] = some #[.int .i64 x1, .int .i64 x2] := by kernel_rfl
theorem bd23_  : Tryd.prog.built 23 [] = some #[.int .i64 0, .int .i64 0] := by kernel_rfl
set_option maxHeartbeats 1000000 in
theorem validate_any (w : World) (s : ByteArray) : Calls Tryd.prog 38 #[.string s] w fun e w' => e = .returned (fv (patFault s)) ∧ Below w.heap.size w w' := by
  refine gcalls Tryd.func38 rfl Tryd.ntmps38 (Nat.le_of_ble_eq_true rfl) ?_
  refine gfrom [(0, .string _)] ⟨rfl, trivial⟩ fun σ => ?_
  refine gseq fun N1 hN1 => ?_
  refine greg ?_
  refine gop_alloc (cs := #[.int .i64 0, .int .i64 0]) Tryd.zeroValue23 rfl rfl (fun b2 hb2 => ?_)
  refine gops_nil ?_
  refine hN1 _ _ ?_
  refine gT [box b2 _] rfl ?_
  refine gfrom [(0, .string _), (2, .pointer _)] ⟨rfl, rfl, trivial⟩ fun σ => ?_
  refine gseq fun N2 hN2 => ?_
  refine gseq fun N3 hN3 => ?_
  refine greg ?_
  refine gop (y_move (v := .string _) rfl) rfl rfl rfl ?_
  refine gop (y_lens Tryd.underlying9 rfl) rfl rfl rfl ?_
  refine gop (y_gtr rfl rfl) rfl rfl rfl ?_
  refine gops_nil ?_
  refine hN3 _ _ ?_
  refine gfrom [(0, .string _), (2, .pointer _), (7, .bool _)] ⟨rfl, rfl, rfl, trivial⟩ fun σ => ?_
  refine gcond (b := _) rfl (fun hc7 => ?_) (fun hc7 => ?_)
  · 
    replace hc7 := of_decide_eq_true hc7
    refine gseq fun N4 hN4 => ?_
    refine greg ?_
    refine gop (y_build (vs := [(0, _), (1, _)]) (cells := #[_, _]) rfl (bd23_0_1 _ _)) rfl rfl rfl ?_
    refine gop_store 0 (v := .agg #[_, _]) (cs' := #[_, _]) rfl rfl Tryd.sizeOf23 rfl rfl rfl rfl (Nat.le_of_ble_eq_true rfl) rfl rfl ?_
    refine gops_nil ?_
    refine hN4 _ _ ?_
    refine gT [box b2 _] rfl ?_
    refine gfrom [(2, .pointer _)] ⟨rfl, trivial⟩ fun σ => ?_
    refine gret fun w1 hM => ?_
    refine ⟨_, res1 rfl (rc 0 (cs := [_, _]) hM rfl rfl Tryd.isAgg23 Tryd.sizeOf23 rfl), ?_⟩
    exact ⟨by unfold patFault patCode; rw [if_pos (show 60 < s.size by omega)]; rfl, hM.low⟩
  · 
    replace hc7 := of_decide_eq_false hc7
    refine gskip ?_
    refine hN2 _ _ ?_
    refine gfrom [(0, .string _), (2, .pointer _)] ⟨rfl, rfl, trivial⟩ fun σ => ?_
    refine gseqAB fun N5 hN5 => ?_
    refine greg ?_
    refine gop (y_move (v := .string _) rfl) rfl rfl rfl ?_
    refine gop_got (fun v T' => ∃ c1 c2 c3, v = .func (.func 102) #[] #[.pointer (some ⟨c1, 0, none⟩), .pointer (some ⟨c2, 0, none⟩), .pointer (some ⟨c3, 0, none⟩)] ∧ T' = [box c2 (.cells #[.string s] 9), box c1 (.cells #[.string ⟨#[47]⟩] 9), box c3 (.cells #[.int .i64 0] 3)]) (e_call (vs := [.string _, _]) Tryd.func64 rfl (by kernel_rfl) rfl) (fun w hM => splitSeqX_any w s) rfl rfl rfl ?_
    rintro _ _ ⟨c1, c2, c3, rfl, rfl⟩
    refine gops_nil ?_
    refine hN5 _ _ ?_
    refine gthen_T [box b2 _, box c2 _, box c1 _, box c3 _] rfl ?_
    refine gthen_from [(2, .pointer _), (10, .func _ _ _)] ⟨rfl, rfl, trivial⟩ fun σ => ?_
    refine grange (lb := [.pointer (some ⟨c1, 0, none⟩), .pointer (some ⟨c2, 0, none⟩), .pointer (some ⟨c3, 0, none⟩)]) (ps := [11]) (xs := cutS s) (fun k => [sure (∀ j (h : j < (cutS s).length), j < k → partCode (cutS s)[j] = 0), box b2 (.cells #[.int .i64 0, .int .i64 0] 23)]) (fun _ (_ : Unit) => [sure (partsCode (cutS s) ≠ 0), box b2 (.cells #[.int .i64 (partsCode (cutS s) : Nat), .int .i64 (-1)] 23)]) rfl (e_enter Tryd.func102 rfl (by kernel_rfl)) (splitSeq1_iters s (by omega) c1 c2 c3 _) (fun w hM => (hM.perm (List.Perm.cons _ (List.Perm.swap _ _ _))).sure (fun _ _ h => absurd h (by omega))) (by decide) (fun _ => rfl) ?round ?done ?stop
    case round =>
      intro lR k x q hx NR hNR
      have hxs : x.size ≤ 60 := cutS_size (List.mem_of_getElem? hx) (by omega)
      refine g_fact (fun w hM => hM.known 1 rfl) ?_
      intro hJ
      refine gfrom [(2, .pointer _), (10, .func _ _ _), (11, .string x)] ⟨rfl, rfl, rfl, trivial⟩ fun σ => ?_
      refine greg ?_
      refine gop (y_assign (v := .string x) rfl) rfl rfl rfl ?_
      refine gops_nil ?_
      refine hNR _ _ fun q2 => ?_
      refine gfrom [(2, .pointer _), (3, .string x), (10, .func _ _ _)] ⟨rfl, rfl, rfl, trivial⟩ fun σ => ?_
      refine gblock ?_
      refine gseq fun N6 hN6 => ?_
      refine greg ?_
      refine gop (y_move (v := .string x) rfl) rfl rfl rfl ?_
      refine gop_pure (e_call (vs := [.string x]) Tryd.func65 rfl (by kernel_rfl) rfl) (fun w hM => part_any w _ (by omega)) rfl rfl rfl ?_
      refine gop (y_assign (v := .int _ _) rfl) rfl rfl rfl ?_
      refine gops_nil ?_
      refine hN6 _ _ ?_
      refine gfrom [(2, .pointer _), (3, .string x), (4, .int _ _), (10, .func _ _ _)] ⟨rfl, rfl, rfl, rfl, trivial⟩ fun σ => ?_
      refine gseq fun N7 hN7 => ?_
      refine greg ?_
      refine gop (y_move (v := .int _ _) rfl) rfl rfl rfl ?_
      refine gop (y_neq rfl rfl) rfl rfl rfl ?_
      refine gops_nil ?_
      refine hN7 _ _ ?_
      refine gfrom [(2, .pointer _), (3, .string x), (4, .int _ _), (10, .func _ _ _), (15, .bool _)] ⟨rfl, rfl, rfl, rfl, rfl, trivial⟩ fun σ => ?_
      refine gcond (b := _) rfl (fun hc15 => ?_) (fun hc15 => ?_)
      · 
        replace hc15 := of_decide_eq_true hc15
        refine gseq fun N8 hN8 => ?_
        refine greg ?_
        refine gop (y_move (v := .int _ _) rfl) rfl rfl rfl ?_
        refine gop (y_build (vs := [(0, .int _ _), (1, _)]) (cells := #[_, _]) rfl (bd23_0_1 _ _)) rfl rfl rfl ?_
        refine gop_store 2 (v := .agg #[_, _]) (cs' := #[_, _]) rfl rfl Tryd.sizeOf23 rfl rfl rfl rfl (Nat.le_of_ble_eq_true rfl) rfl rfl ?_
        refine gops_nil ?_
        refine hN8 _ _ ?_
        refine gT [_, sure _, box b2 _] rfl ?_
        refine gfrom [(2, .pointer _)] ⟨rfl, trivial⟩ fun σ => ?_
        refine gret fun w1 hM => ?_
        refine ⟨(), ?_⟩
        have hpc := partsCode_hit hx hJ (by omega)
        rw [← hpc] at hM
        exact hM.resure 1 rfl (by rw [hpc]; omega)
      · 
        replace hc15 := Decidable.not_not.1 (of_decide_eq_false hc15)
        refine gskip ?_
        intro w1 hM
        exact hM.resure 1 rfl (fun j h hj => by rcases Nat.lt_succ_iff_lt_or_eq.1 hj with h1 | rfl; exact hJ j h h1; have h2 := List.getElem?_eq_some_iff.1 hx; rw [h2.2]; omega)
    case done =>
      intro D qD
      refine gfrom [(2, .pointer _)] ⟨rfl, trivial⟩ fun σ => ?_
      refine g_fact (fun w hM => hM.known 2 rfl) ?_
      intro hJ
      have hz : partsCode (cutS s) = 0 := partsCode_zero (fun j h => hJ j h h)
      refine gseq fun N9 hN9 => ?_
      refine greg ?_
      refine gop (y_build (vs := []) (cells := #[.int .i64 0, .int .i64 0]) rfl bd23_) rfl rfl rfl ?_
      refine gop_store 3 (v := .agg #[_, _]) (cs' := #[_, _]) rfl rfl Tryd.sizeOf23 rfl rfl rfl rfl (Nat.le_of_ble_eq_true rfl) rfl rfl ?_
      refine gops_nil ?_
      refine hN9 _ _ ?_
      refine gT [_, _, sure _, box b2 _] rfl ?_
      refine gfrom [(2, .pointer _)] ⟨rfl, trivial⟩ fun σ => ?_
      refine gret (fin_marked 0 rfl rfl fun w1 hM => ?_)
      refine ⟨_, res1 rfl (rc 3 (cs := [_, _]) hM rfl rfl Tryd.isAgg23 Tryd.sizeOf23 rfl), ?_⟩
      exact ⟨by unfold patFault patCode; rw [if_neg (show ¬ 60 < s.size by omega), hz]; rfl, hM.low⟩
    case stop =>
      rintro D qD k - hk w1 hM
      refine ⟨_, res1 rfl (rc 3 (cs := [_, _]) hM rfl rfl Tryd.isAgg23 Tryd.sizeOf23 rfl), ?_⟩
      have hne := hM.known 2 rfl
      have hpc : patCode s = partsCode (cutS s) := by unfold patCode; rw [if_neg (by omega)]
      exact ⟨by unfold patFault; rw [hpc, if_neg hne], hM.low⟩
set_option maxHeartbeats 2000000 in
theorem validPath_any (w : World) (s : ByteArray) : Calls Tryd.prog 42 #[.string s] w fun e w' => e = .returned (.bool (pathOk s)) ∧ Below w.heap.size w w' := by
  refine gcalls Tryd.func42 rfl Tryd.ntmps42 (Nat.le_of_ble_eq_true rfl) ?_
  refine gfrom [(0, .string _)] ⟨rfl, trivial⟩ fun σ => ?_
  refine gseq fun N1 hN1 => ?_
  refine greg ?_
  refine gop_alloc (cs := #[.bool false]) Tryd.zeroValue4 rfl rfl (fun b2 hb2 => ?_)
  refine gops_nil ?_
  refine hN1 _ _ ?_
  refine gT [box b2 _] rfl ?_
  refine gfrom [(0, .string _), (2, .pointer _)] ⟨rfl, rfl, trivial⟩ fun σ => ?_
  refine gseq fun N2 hN2 => ?_
  refine gseq fun N3 hN3 => ?_
  refine greg ?_
  refine gop (y_move (v := .string _) rfl) rfl rfl rfl ?_
  refine gop (y_lens Tryd.underlying9 rfl) rfl rfl rfl ?_
  refine gop (y_gtr rfl rfl) rfl rfl rfl ?_
  refine gops_nil ?_
  refine hN3 _ _ ?_
  refine gfrom [(0, .string _), (2, .pointer _), (7, .bool _)] ⟨rfl, rfl, rfl, trivial⟩ fun σ => ?_
  refine gcond (b := _) rfl (fun hc7 => ?_) (fun hc7 => ?_)
  · 
    replace hc7 := of_decide_eq_true hc7
    refine gseq fun N4 hN4 => ?_
    refine greg ?_
    refine gop_store 0 (v := .bool _) (cs' := #[_]) rfl rfl Tryd.sizeOf4 rfl rfl rfl rfl (Nat.le_of_ble_eq_true rfl) rfl rfl ?_
    refine gops_nil ?_
    refine hN4 _ _ ?_
    refine gT [box b2 _] rfl ?_
    refine gfrom [(2, .pointer _)] ⟨rfl, trivial⟩ fun σ => ?_
    refine gret fun w1 hM => ?_
    refine ⟨_, res1 rfl (rc1 0 hM rfl rfl Tryd.isAgg4), ?_⟩
    exact ⟨by rw [show pathOk s = false by unfold pathOk; rw [decide_eq_false (by omega), Bool.and_false]], hM.low⟩
  · 
    replace hc7 := of_decide_eq_false hc7
    refine gskip ?_
    refine hN2 _ _ ?_
    refine gfrom [(0, .string _), (2, .pointer _)] ⟨rfl, rfl, trivial⟩ fun σ => ?_
    refine gseqAB fun N5 hN5 => ?_
    refine greg ?_
    refine gop (y_move (v := .string _) rfl) rfl rfl rfl ?_
    refine gop_got (fun v T' => ∃ c1 c2 c3, v = .func (.func 102) #[] #[.pointer (some ⟨c1, 0, none⟩), .pointer (some ⟨c2, 0, none⟩), .pointer (some ⟨c3, 0, none⟩)] ∧ T' = [box c2 (.cells #[.string s] 9), box c1 (.cells #[.string ⟨#[47]⟩] 9), box c3 (.cells #[.int .i64 0] 3)]) (e_call (vs := [.string _, _]) Tryd.func64 rfl (by kernel_rfl) rfl) (fun w hM => splitSeqX_any w s) rfl rfl rfl ?_
    rintro _ _ ⟨c1, c2, c3, rfl, rfl⟩
    refine gops_nil ?_
    refine hN5 _ _ ?_
    refine gthen_T [box b2 _, box c2 _, box c1 _, box c3 _] rfl ?_
    refine gthen_from [(2, .pointer _), (9, .func _ _ _)] ⟨rfl, rfl, trivial⟩ fun σ => ?_
    refine grange (lb := [.pointer (some ⟨c1, 0, none⟩), .pointer (some ⟨c2, 0, none⟩), .pointer (some ⟨c3, 0, none⟩)]) (ps := [10]) (xs := cutS s) (fun k => [sure (∀ j (h : j < (cutS s).length), j < k → nameOk (cutS s)[j] = true), box b2 (.cells #[.bool false] 4)]) (fun _ (_ : Unit) => [sure (pathOk s = false), box b2 (.cells #[.bool false] 4)]) rfl (e_enter Tryd.func102 rfl (by kernel_rfl)) (splitSeq1_iters s (by omega) c1 c2 c3 _) (fun w hM => (hM.perm (List.Perm.cons _ (List.Perm.swap _ _ _))).sure (fun _ _ h => absurd h (by omega))) (by decide) (fun _ => rfl) ?round ?done ?stop
    case round =>
      intro lR k x q hx NR hNR
      have hxs : x.size ≤ 60 := cutS_size (List.mem_of_getElem? hx) (by omega)
      refine g_fact (fun w hM => hM.known 1 rfl) ?_
      intro hJ
      refine gfrom [(2, .pointer _), (9, .func _ _ _), (10, .string x)] ⟨rfl, rfl, rfl, trivial⟩ fun σ => ?_
      refine greg ?_
      refine gop (y_assign (v := .string x) rfl) rfl rfl rfl ?_
      refine gops_nil ?_
      refine hNR _ _ fun q2 => ?_
      refine gfrom [(2, .pointer _), (3, .string x), (9, .func _ _ _)] ⟨rfl, rfl, rfl, trivial⟩ fun σ => ?_
      refine gblock ?_
      refine gseq fun N6 hN6 => ?_
      refine gseq fun N7 hN7 => ?_
      refine greg ?_
      refine gop (y_move (v := .string x) rfl) rfl rfl rfl ?_
      refine gop (y_eqls rfl rfl) rfl rfl rfl ?_
      refine gop (y_move (v := .bool _) rfl) rfl rfl rfl ?_
      refine gop_if (want := false) rfl rfl rfl rfl rfl rfl (fun hg13 => ?_) (fun hg13 => ?_)
      · 
        have hg13d := hg13
        refine gop (y_bare (y_move (v := .string x) rfl)) rfl rfl rfl ?_
        refine gop_on rfl rfl rfl rfl hg13 ?_
        refine gop (y_bare (y_eqls rfl rfl)) rfl rfl rfl ?_
        refine gop (y_pick_f (v := .bool _) rfl hg13 rfl) rfl rfl rfl ?_
        refine gop (y_move (v := .bool _) rfl) rfl rfl rfl ?_
        refine gop_if (want := false) rfl rfl rfl rfl rfl rfl (fun hg17 => ?_) (fun hg17 => ?_)
        · 
          have hg17d := hg17
          refine gop (y_bare (y_move (v := .string x) rfl)) rfl rfl rfl ?_
          refine gop_on rfl rfl rfl rfl hg17 ?_
          refine gop (y_bare (y_eqls rfl rfl)) rfl rfl rfl ?_
          refine gop (y_pick_f (v := .bool _) rfl hg17 rfl) rfl rfl rfl ?_
          refine gops_nil ?_
          refine hN7 _ _ ?_
          refine gfrom [(2, .pointer _), (3, .string x), (9, .func _ _ _), (20, .bool _)] ⟨rfl, rfl, rfl, rfl, trivial⟩ fun σ => ?_
          refine gcond (b := _) rfl (fun hc20 => ?_) (fun hc20 => ?_)
          · 
            refine gseq fun N8 hN8 => ?_
            refine greg ?_
            refine gop_store 2 (v := .bool _) (cs' := #[_]) rfl rfl Tryd.sizeOf4 rfl rfl rfl rfl (Nat.le_of_ble_eq_true rfl) rfl rfl ?_
            refine gops_nil ?_
            refine hN8 _ _ ?_
            refine gT [_, sure _, box b2 _] rfl ?_
            refine gfrom [(2, .pointer _)] ⟨rfl, trivial⟩ fun σ => ?_
            refine gret fun w1 hM => ?_
            refine ⟨(), ?_⟩
            have hb : nameOk x = false := by simp_all [nameOk, strEq]
            have hp : pathOk s = false := by unfold pathOk; rw [Bool.and_eq_false_iff]; left; rw [List.all_eq_false]; exact ⟨x, List.mem_of_getElem? hx, by simp [hb]⟩
            exact hM.resure 1 rfl hp
          · 
            refine gskip ?_
            refine hN6 _ _ ?_
            refine gfrom [(2, .pointer _), (3, .string x), (9, .func _ _ _)] ⟨rfl, rfl, rfl, trivial⟩ fun σ => ?_
            refine gseq fun N9 hN9 => ?_
            refine greg ?_
            refine gop (y_move (v := .string x) rfl) rfl rfl rfl ?_
            refine gop (y_lens Tryd.underlying9 rfl) rfl rfl rfl ?_
            refine gop (y_move (v := .int _ _) rfl) rfl rfl rfl ?_
            refine gops_nil ?_
            refine hN9 _ _ ?_
            refine gfrom [(2, .pointer _), (3, .string x), (9, .func _ _ _), (22, .int _ _), (23, .int _ _)] ⟨rfl, rfl, rfl, rfl, rfl, trivial⟩ fun σ => ?_
            refine gblock ?_
            refine gfrom2 [(23, .int _ _)] [(2, .pointer _), (3, .string x), (9, .func _ _ _), (22, .int _ _)] ⟨rfl, trivial⟩ ⟨rfl, rfl, rfl, rfl, trivial⟩ fun σ => ?_
            refine gloop2 (G := Nat) (fun i => i ≤ x.size ∧ ∀ j, j < i → letterB (byteAt x j) = true) (fun i => x.size - i) (fun i => [(23, .int .i64 (i : Int))]) (fun i => []) (0) ?h0 ⟨rfl, trivial⟩ ⟨rfl, rfl, rfl, rfl, trivial⟩ rfl ?round
            case h0 => exact ⟨Nat.zero_le _, fun _ h => absurd h (by omega)⟩
            case round =>
              intro i hφ σ
              obtain ⟨hi, hz⟩ := hφ
              refine gseq fun N10 hN10 => ?_
              refine greg ?_
              refine gop (y_lss rfl rfl) rfl rfl rfl ?_
              refine gops_nil ?_
              refine hN10 _ _ ?_
              refine gfrom [(2, .pointer _), (3, .string x), (9, .func _ _ _), (22, .int _ _), (23, .int _ _), (24, .bool _)] ⟨rfl, rfl, rfl, rfl, rfl, rfl, trivial⟩ fun σ => ?_
              refine gseq fun N11 hN11 => ?_
              refine gcond (b := _) rfl (fun hc24 => ?_) (fun hc24 => ?_)
              · 
                replace hc24 := of_decide_eq_true hc24
                refine gskip ?_
                refine hN11 _ _ ?_
                refine gfrom [(2, .pointer _), (3, .string x), (9, .func _ _ _), (22, .int _ _), (23, .int _ _)] ⟨rfl, rfl, rfl, rfl, rfl, trivial⟩ fun σ => ?_
                refine gseq fun N12 hN12 => ?_
                refine gblock ?_
                refine gseq fun N13 hN13 => ?_
                refine greg ?_
                refine gop (y_move (v := .int _ _) rfl) rfl rfl rfl ?_
                refine gop (y_assign (v := .int _ _) rfl) rfl rfl rfl ?_
                refine gops_nil ?_
                refine hN13 _ _ ?_
                refine gfrom [(2, .pointer _), (3, .string x), (4, .int _ _), (9, .func _ _ _), (22, .int _ _), (23, .int _ _)] ⟨rfl, rfl, rfl, rfl, rfl, rfl, trivial⟩ fun σ => ?_
                refine gseq fun N14 hN14 => ?_
                refine greg ?_
                refine gop (y_move (v := .string x) rfl) rfl rfl rfl ?_
                refine gop (y_move (v := .int _ _) rfl) rfl rfl rfl ?_
                refine gop (y_stridx (m := i) Tryd.underlying9 rfl rfl (by omega) (by omega) (by omega)) rfl rfl rfl ?_
                refine gop_pure (e_call (vs := [.int _ _]) Tryd.func68 rfl (by kernel_rfl) rfl) (fun w hM => letter_any w _) rfl rfl rfl ?_
                refine gop (y_not rfl) rfl rfl rfl ?_
                refine gops_nil ?_
                refine hN14 _ _ ?_
                refine gfrom [(2, .pointer _), (3, .string x), (9, .func _ _ _), (22, .int _ _), (23, .int _ _), (30, .bool _)] ⟨rfl, rfl, rfl, rfl, rfl, rfl, trivial⟩ fun σ => ?_
                refine gcond (b := _) rfl (fun hc30 => ?_) (fun hc30 => ?_)
                · 
                  replace hc30 := not_t hc30
                  refine gseq fun N15 hN15 => ?_
                  refine greg ?_
                  refine gop_store 2 (v := .bool _) (cs' := #[_]) rfl rfl Tryd.sizeOf4 rfl rfl rfl rfl (Nat.le_of_ble_eq_true rfl) rfl rfl ?_
                  refine gops_nil ?_
                  refine hN15 _ _ ?_
                  refine gT [_, sure _, box b2 _] rfl ?_
                  refine gfrom [(2, .pointer _)] ⟨rfl, trivial⟩ fun σ => ?_
                  refine gret fun w1 hM => ?_
                  refine ⟨(), ?_⟩
                  have hb : nameOk x = false := by exact nameOk_bad (k := i) (by omega) (by simpa using hc30)
                  have hp : pathOk s = false := by unfold pathOk; rw [Bool.and_eq_false_iff]; left; rw [List.all_eq_false]; exact ⟨x, List.mem_of_getElem? hx, by simp [hb]⟩
                  exact hM.resure 1 rfl hp
                · 
                  replace hc30 := not_f hc30
                  refine gskip ?_
                  refine hN12 _ _ ?_
                  refine gfrom [(2, .pointer _), (3, .string x), (9, .func _ _ _), (22, .int _ _), (23, .int _ _)] ⟨rfl, rfl, rfl, rfl, rfl, trivial⟩ fun σ => ?_
                  refine greg ?_
                  refine gop (y_add rfl rfl ⟨by omega, by omega⟩) rfl rfl rfl ?_
                  refine gop (y_move (v := .int _ _) rfl) rfl rfl rfl ?_
                  refine gops_nil ?_
                  refine gnext2 (i + 1) (by omega) (⟨by omega, fun j hj => by rcases Nat.lt_succ_iff_lt_or_eq.1 hj with h1 | rfl; exact hz j h1; simpa using hc30⟩) ⟨rfl, trivial⟩ ⟨rfl, rfl, rfl, rfl, trivial⟩ ⟨_, rfl⟩
              · 
                replace hc24 := of_decide_eq_false hc24
                refine gexit ?_
                intro w1 hM
                have hok : nameOk x = true := by rw [nameOk_all (fun j hj => hz j (by omega))]; simp_all [strEq]
                exact hM.resure 1 rfl (fun j h hj => by rcases Nat.lt_succ_iff_lt_or_eq.1 hj with h1 | rfl; exact hJ j h h1; have h2 := List.getElem?_eq_some_iff.1 hx; rw [h2.2]; exact hok)
        · 
          have hg17d := hg17
          refine gop_off rfl rfl rfl rfl hg17 rfl rfl ?_
          refine gop (y_pick_t (v := .bool _) rfl hg17 rfl) rfl rfl rfl ?_
          refine gops_nil ?_
          refine hN7 _ _ ?_
          refine gfrom [(2, .pointer _), (3, .string x), (9, .func _ _ _), (20, .bool _)] ⟨rfl, rfl, rfl, rfl, trivial⟩ fun σ => ?_
          refine gcond (b := _) rfl (fun hc20 => ?_) (fun hc20 => ?_)
          · 
            refine gseq fun N16 hN16 => ?_
            refine greg ?_
            refine gop_store 2 (v := .bool _) (cs' := #[_]) rfl rfl Tryd.sizeOf4 rfl rfl rfl rfl (Nat.le_of_ble_eq_true rfl) rfl rfl ?_
            refine gops_nil ?_
            refine hN16 _ _ ?_
            refine gT [_, sure _, box b2 _] rfl ?_
            refine gfrom [(2, .pointer _)] ⟨rfl, trivial⟩ fun σ => ?_
            refine gret fun w1 hM => ?_
            refine ⟨(), ?_⟩
            have hb : nameOk x = false := by simp_all [nameOk, strEq]
            have hp : pathOk s = false := by unfold pathOk; rw [Bool.and_eq_false_iff]; left; rw [List.all_eq_false]; exact ⟨x, List.mem_of_getElem? hx, by simp [hb]⟩
            exact hM.resure 1 rfl hp
          · 
            cases hc20
      · 
        have hg13d := hg13
        refine gop_off rfl rfl rfl rfl hg13 rfl rfl ?_
        refine gop (y_pick_t (v := .bool _) rfl hg13 rfl) rfl rfl rfl ?_
        refine gop (y_move (v := .bool _) rfl) rfl rfl rfl ?_
        refine gop_off rfl rfl rfl rfl rfl rfl rfl ?_
        refine gop_off rfl rfl rfl rfl rfl rfl rfl ?_
        refine gop (y_pick_t (v := .bool _) rfl rfl rfl) rfl rfl rfl ?_
        refine gops_nil ?_
        refine hN7 _ _ ?_
        refine gfrom [(2, .pointer _), (3, .string x), (9, .func _ _ _), (20, .bool _)] ⟨rfl, rfl, rfl, rfl, trivial⟩ fun σ => ?_
        refine gcond (b := _) rfl (fun hc20 => ?_) (fun hc20 => ?_)
        · 
          refine gseq fun N17 hN17 => ?_
          refine greg ?_
          refine gop_store 2 (v := .bool _) (cs' := #[_]) rfl rfl Tryd.sizeOf4 rfl rfl rfl rfl (Nat.le_of_ble_eq_true rfl) rfl rfl ?_
          refine gops_nil ?_
          refine hN17 _ _ ?_
          refine gT [_, sure _, box b2 _] rfl ?_
          refine gfrom [(2, .pointer _)] ⟨rfl, trivial⟩ fun σ => ?_
          refine gret fun w1 hM => ?_
          refine ⟨(), ?_⟩
          have hb : nameOk x = false := by simp_all [nameOk, strEq]
          have hp : pathOk s = false := by unfold pathOk; rw [Bool.and_eq_false_iff]; left; rw [List.all_eq_false]; exact ⟨x, List.mem_of_getElem? hx, by simp [hb]⟩
          exact hM.resure 1 rfl hp
        · 
          cases hc20
    case done =>
      intro D qD
      refine gfrom [(2, .pointer _)] ⟨rfl, trivial⟩ fun σ => ?_
      refine g_fact (fun w hM => hM.known 2 rfl) ?_
      intro hJ
      have hz : pathOk s = true := by unfold pathOk; rw [List.all_eq_true.2 (fun x hx => by obtain ⟨j, hj, rfl⟩ := List.getElem_of_mem hx; exact hJ j hj hj), decide_eq_true (by omega)]; rfl
      refine gseq fun N18 hN18 => ?_
      refine greg ?_
      refine gop_store 3 (v := .bool _) (cs' := #[_]) rfl rfl Tryd.sizeOf4 rfl rfl rfl rfl (Nat.le_of_ble_eq_true rfl) rfl rfl ?_
      refine gops_nil ?_
      refine hN18 _ _ ?_
      refine gT [_, _, sure _, box b2 _] rfl ?_
      refine gfrom [(2, .pointer _)] ⟨rfl, trivial⟩ fun σ => ?_
      refine gret (fin_marked 0 rfl rfl fun w1 hM => ?_)
      refine ⟨_, res1 rfl (rc1 3 hM rfl rfl Tryd.isAgg4), ?_⟩
      exact ⟨by rw [hz], hM.low⟩
    case stop =>
      rintro D qD k - hk w1 hM
      refine ⟨_, res1 rfl (rc1 3 hM rfl rfl Tryd.isAgg4), ?_⟩
      have hne := hM.known 2 rfl
      exact ⟨by rw [hne], hM.low⟩
end Go.Proofs.YtijpaljdclhehaaDoor
namespace Go.Cf
open Go.RowKit
theorem box_cell {b off : Nat} {cs : Array Value} {e : TypeId} {fz : Nat × Nat} {v : Value} {w : World} (h : (box b (.cells cs e fz)).ok w) (hc : cs[off]? = some v) : w.cell? ⟨b, off, none⟩ = some v := by
  have h' : w.heap[b]? = some (.cells cs e fz) := h
  simp [World.cell?, h', hc]
def starsTo (p : ByteArray) (l : List Bool) : Nat → List Bool
  | 0 => l
  | k + 1 => if byteAt p k = 42 ∧ (starsTo p l k)[k]? = some true then (starsTo p l k).set (k + 1) true else starsTo p l k
theorem starsTo_len (p : ByteArray) (l : List Bool) : ∀ k, (starsTo p l k).length = l.length
  | 0 => rfl
  | k + 1 => by rw [starsTo]; split <;> simp [starsTo_len p l k]
theorem starsTo_yes {p : ByteArray} {l : List Bool} {k : Nat} (h1 : byteAt p k = 42) (h2 : (starsTo p l k)[k]? = some true) : (starsTo p l k).set (k + 1) true = starsTo p l (k + 1) := by
  rw [starsTo, if_pos ⟨h1, h2⟩]
theorem starsTo_no {p : ByteArray} {l : List Bool} {k : Nat} (h : ¬ (byteAt p k = 42 ∧ (starsTo p l k)[k]? = some true)) : starsTo p l k = starsTo p l (k + 1) := by
  rw [starsTo, if_neg h]
def nextTo (p : ByteArray) (c : Nat) (l : List Bool) : Nat → List Bool
  | 0 => List.replicate (p.size + 1) false
  | i + 1 => if l[i]? = some true then
      if byteAt p i = 42 then (nextTo p c l i).set i true else if byteAt p i = 63 ∨ byteAt p i = c then (nextTo p c l i).set (i + 1) true else nextTo p c l i
    else nextTo p c l i
theorem nextTo_len (p : ByteArray) (c : Nat) (l : List Bool) : ∀ k, (nextTo p c l k).length = p.size + 1
  | 0 => by simp [nextTo]
  | k + 1 => by
    have ih := nextTo_len p c l k
    rw [nextTo]; (repeat' split) <;> simp [ih]
section
variable {p : ByteArray} {c i : Nat} {l : List Bool}
theorem nextTo_off (h : l[i]? = some false) : nextTo p c l i = nextTo p c l (i + 1) := by
  rw [nextTo, if_neg (by rw [h]; simp)]
theorem nextTo_star (h : l[i]? = some true) (h2 : byteAt p i = 42) : (nextTo p c l i).set i true = nextTo p c l (i + 1) := by
  rw [nextTo, if_pos h, if_pos h2]
theorem nextTo_char (h : l[i]? = some true) (h2 : byteAt p i ≠ 42) (h3 : byteAt p i = 63 ∨ byteAt p i = c) : (nextTo p c l i).set (i + 1) true = nextTo p c l (i + 1) := by
  rw [nextTo, if_pos h, if_neg h2, if_pos h3]
theorem nextTo_miss (h : l[i]? = some true) (h2 : byteAt p i ≠ 42) (h3 : ¬ (byteAt p i = 63 ∨ byteAt p i = c)) : nextTo p c l i = nextTo p c l (i + 1) := by
  rw [nextTo, if_pos h, if_neg h2, if_neg h3]
end
def nameRun (p s : ByteArray) : Nat → List Bool
  | 0 => starsTo p (true :: List.replicate p.size false) p.size
  | k + 1 => starsTo p (nextTo p (byteAt s k) (nameRun p s k) p.size) p.size
theorem nameRun_len (p s : ByteArray) : ∀ k, (nameRun p s k).length = p.size + 1
  | 0 => by rw [nameRun, starsTo_len]; simp
  | k + 1 => by rw [nameRun, starsTo_len, nextTo_len]
def nameM (p s : ByteArray) : Bool := (nameRun p s s.size)[p.size]?.getD false
def starW (f : List ByteArray → Bool) : List ByteArray → Bool
  | [] => f []
  | n :: ns => f (n :: ns) || starW f ns
def nameW (p : ByteArray) (f : List ByteArray → Bool) : List ByteArray → Bool
  | [] => false
  | n :: ns => nameM p n && f ns
def wk : List ByteArray → List ByteArray → Bool
  | [], ns => ns.isEmpty
  | p :: ps, ns => if strEq p sStars then starW (wk ps) ns else nameW p (wk ps) ns
def wkAt (P N : List ByteArray) (i j : Nat) : Bool := wk (P.drop i) (N.drop j)
section
variable {P N : List ByteArray} {i j : Nat}
theorem wk_end (hj : j ≤ N.length) : wkAt P N P.length j = decide ((j : Int) = N.length) := by
  unfold wkAt
  rw [List.drop_length, wk]
  by_cases h : j = N.length
  · subst h; simp
  · have h1 : j < N.length := by omega
    rw [List.drop_eq_getElem_cons h1]
    rw [decide_eq_false (by omega)]; rfl
theorem wk_star1 (hi : i < P.length) (hs : strEq P[i] sStars = true) (h : wkAt P N (i + 1) j = true) : wkAt P N i j = true := by
  unfold wkAt at *
  rw [List.drop_eq_getElem_cons hi, wk, if_pos hs]
  cases hn : N.drop j with
  | nil => rw [hn] at h; exact h
  | cons n ns => rw [hn] at h; rw [starW, h]; rfl
theorem wk_star2 (hi : i < P.length) (hs : strEq P[i] sStars = true) (h : wkAt P N (i + 1) j = false) (hj : j < N.length) : wkAt P N i j = wkAt P N i (j + 1) := by
  unfold wkAt at *
  rw [List.drop_eq_getElem_cons hi, wk, if_pos hs, wk, if_pos hs]
  rw [List.drop_eq_getElem_cons hj] at h ⊢
  rw [starW, h, Bool.false_or]
theorem wk_star3 (hi : i < P.length) (hs : strEq P[i] sStars = true) (h : wkAt P N (i + 1) j = false) (hj : ¬ j < N.length) : wkAt P N i j = false := by
  unfold wkAt at *
  rw [List.drop_eq_getElem_cons hi, wk, if_pos hs]
  rw [List.drop_of_length_le (l := N) (by omega)] at h ⊢
  exact h
theorem wk_name (hi : i < P.length) (hs : strEq P[i] sStars = false) (hj : j < N.length) : wkAt P N i j = (nameM P[i] N[j] && wkAt P N (i + 1) (j + 1)) := by
  unfold wkAt
  rw [List.drop_eq_getElem_cons hi, List.drop_eq_getElem_cons hj, wk, if_neg (by simp [hs]), nameW]
theorem wk_name0 (hi : i < P.length) (hs : strEq P[i] sStars = false) (hj : ¬ j < N.length) : wkAt P N i j = false := by
  unfold wkAt
  rw [List.drop_eq_getElem_cons hi, List.drop_of_length_le (l := N) (by omega), wk, if_neg (by simp [hs]), nameW]
end
theorem patFault_size {p : ByteArray} (h : patFault p = ⟨0, 0⟩) : p.size ≤ 60 := by
  unfold patFault patCode at h
  by_cases h1 : 60 < p.size
  · simp [h1] at h
  · omega
theorem pathOk_size {s : ByteArray} (h : pathOk s = true) : s.size ≤ 60 := by
  unfold pathOk at h
  rw [Bool.and_eq_true] at h
  exact of_decide_eq_true h.2
def MemoOk (f : Nat → Nat → Bool) (l : List ((Nat × Nat) × Bool)) : Prop := ∀ i j b, look l (i, j) = some b → b = f i j
theorem memo_nil (f : Nat → Nat → Bool) : MemoOk f [] := fun _ _ _ h => by simp [look] at h
theorem memo_put {f : Nat → Nat → Bool} {l : List ((Nat × Nat) × Bool)} (h : MemoOk f l) (i j : Nat) : MemoOk f (putK l (i, j) (f i j)) := fun a b c hc => by
  rw [look_put] at hc
  split at hc
  · rename_i e; cases e; cases hc; rfl
  · exact h a b c hc
theorem memo_hit {f : Nat → Nat → Bool} {l : List ((Nat × Nat) × Bool)} (h : MemoOk f l) {i j : Nat} (hs : (look l (i, j)).isSome = true) : (look l (i, j)).getD false = f i j := by
  obtain ⟨b, hb⟩ := Option.isSome_iff_exists.1 hs
  rw [hb]; exact h i j b hb
end Go.Cf
namespace Go.Proofs.YtijpaljdclhehaaDoor
open Go.RowKit Go.Cf
set_option maxRecDepth 10000
set_option maxHeartbeats 1000000 in
theorem stars_any (w0 w : World) (b2 b5 g n cap base : Nat) (p : ByteArray) (l : List Bool) (fr : Reg) (hp : p.size ≤ 4000000) (hn : n = p.size + 1) (hl : n = l.length)
    (hfr : ∀ w1, fr.ok w1 → w1.cell? ⟨b2, 0, none⟩ = some (.string p) ∧ w1.cell? ⟨b5, 0, none⟩ = some (.slice (some ⟨g, 0, none⟩) n cap))
    (hM0 : Mem w0 [rowl boolCells base 4 1 (.slice (some ⟨g, 0, none⟩) (n) (cap)) (l), fr] w) :
    Calls Tryd.prog 105 #[.pointer (some ⟨b2, 0, none⟩), .pointer (some ⟨b5, 0, none⟩)] w fun e w' => e = .returned (.tuple #[]) ∧ Mem w0 [rowl boolCells base 4 1 (.slice (some ⟨g, 0, none⟩) (n) (cap)) (starsTo p l p.size), fr] w' := by
  refine gcallsT Tryd.func105 rfl Tryd.ntmps105 (Nat.le_of_ble_eq_true rfl) hM0 ?_
  refine gfrom [(0, .pointer (some _)), (1, .pointer (some _))] ⟨rfl, rfl, trivial⟩ fun σ => ?_
  refine gseq fun N1 hN1 => ?_
  refine greg ?_
  refine gop (y_load Tryd.isAgg9 rfl (fun w hM => (hfr w (hM.ok _ (List.mem_of_getElem? (i := 1) rfl))).1)) rfl rfl rfl ?_
  refine gop (y_lens Tryd.underlying9 rfl) rfl rfl rfl ?_
  refine gop (y_move (v := .int _ _) rfl) rfl rfl rfl ?_
  refine gops_nil ?_
  refine hN1 _ _ ?_
  refine gfrom [(0, .pointer (some _)), (1, .pointer (some _)), (4, .int _ _), (5, .int _ _)] ⟨rfl, rfl, rfl, rfl, trivial⟩ fun σ => ?_
  refine gblock ?_
  refine gfrom2 [(5, .int _ _)] [(0, .pointer (some _)), (1, .pointer (some _)), (4, .int _ _)] ⟨rfl, trivial⟩ ⟨rfl, rfl, rfl, trivial⟩ fun σ => ?_
  refine gloop2 (G := Nat) (fun i => i ≤ p.size) (fun i => p.size - i) (fun i => [(5, .int .i64 (i : Int))]) (fun i => [(0, rowl boolCells base 4 1 (.slice (some ⟨g, 0, none⟩) (n) (cap)) (starsTo p l i))]) (0) ?h0 ⟨rfl, trivial⟩ ⟨rfl, rfl, rfl, trivial⟩ rfl ?round
  case h0 => exact Nat.zero_le _
  case round =>
    intro i hφ σ
    have hi := hφ
    have hL : (starsTo p l i).length = n := by rw [starsTo_len]; exact hl.symm
    refine gT [rowl _ _ _ _ _ _, fr] rfl ?_
    refine gseq fun N2 hN2 => ?_
    refine greg ?_
    refine gop (y_lss rfl rfl) rfl rfl rfl ?_
    refine gops_nil ?_
    refine hN2 _ _ ?_
    refine gfrom [(0, .pointer (some _)), (1, .pointer (some _)), (4, .int _ _), (5, .int _ _), (6, .bool _)] ⟨rfl, rfl, rfl, rfl, rfl, trivial⟩ fun σ => ?_
    refine gseq fun N3 hN3 => ?_
    refine gcond (b := _) rfl (fun hc6 => ?_) (fun hc6 => ?_)
    · 
      replace hc6 := of_decide_eq_true hc6
      refine gskip ?_
      refine hN3 _ _ ?_
      refine gfrom [(0, .pointer (some _)), (1, .pointer (some _)), (4, .int _ _), (5, .int _ _)] ⟨rfl, rfl, rfl, rfl, trivial⟩ fun σ => ?_
      refine gseq fun N4 hN4 => ?_
      refine gblock ?_
      refine gseq fun N5 hN5 => ?_
      refine greg ?_
      refine gop (y_move (v := .int _ _) rfl) rfl rfl rfl ?_
      refine gop (y_assign (v := .int _ _) rfl) rfl rfl rfl ?_
      refine gops_nil ?_
      refine hN5 _ _ ?_
      refine gfrom [(0, .pointer (some _)), (1, .pointer (some _)), (2, .int _ _), (4, .int _ _), (5, .int _ _)] ⟨rfl, rfl, rfl, rfl, rfl, trivial⟩ fun σ => ?_
      refine gseq fun N6 hN6 => ?_
      refine greg ?_
      refine gop (y_load Tryd.isAgg9 rfl (fun w hM => (hfr w (hM.ok _ (List.mem_of_getElem? (i := 1) rfl))).1)) rfl rfl rfl ?_
      refine gop (y_move (v := .int _ _) rfl) rfl rfl rfl ?_
      refine gop (y_stridx (m := i) Tryd.underlying9 rfl rfl (by omega) (by omega) (by omega)) rfl rfl rfl ?_
      refine gop (y_eql rfl rfl) rfl rfl rfl ?_
      refine gop (y_move (v := .bool _) rfl) rfl rfl rfl ?_
      refine gop_if (want := true) rfl rfl rfl rfl rfl rfl (fun hg12 => ?_) (fun hg12 => ?_)
      · 
        have hg12d := of_decide_eq_true hg12
        refine gop (y_bare (y_load Tryd.isAgg82 rfl (fun w hM => (hfr w (hM.ok _ (List.mem_of_getElem? (i := 1) rfl))).2))) rfl rfl rfl ?_
        refine gop_on rfl rfl rfl rfl hg12 ?_
        refine gop (y_bare (y_move (v := .int _ _) rfl)) rfl rfl rfl ?_
        refine gop_on rfl rfl rfl rfl hg12 ?_
        refine gop (y_bare (y_indexAddr (m := i) Tryd.underlying82 Tryd.sizeOf4 rfl rfl (by omega) (by omega) (by omega))) rfl rfl rfl ?_
        refine gop_on rfl rfl rfl rfl hg12 ?_
        refine gop (y_bare (y_load Tryd.isAgg4 rfl (cells_rowl 0 (f := boolCells) (l := starsTo p l i) rfl hL.symm (fun _ => rfl) (List.getElem?_eq_getElem (show i < (starsTo p l i).length by omega)) 0 _ rfl))) rfl rfl rfl ?_
        refine gop (y_pick_t (v := .bool _) rfl hg12 rfl) rfl rfl rfl ?_
        refine gops_nil ?_
        refine hN6 _ _ ?_
        refine gfrom [(0, .pointer (some _)), (1, .pointer (some _)), (2, .int _ _), (4, .int _ _), (5, .int _ _), (17, .bool _)] ⟨rfl, rfl, rfl, rfl, rfl, rfl, trivial⟩ fun σ => ?_
        refine gcond (b := _) rfl (fun hc17 => ?_) (fun hc17 => ?_)
        · 
          refine greg ?_
          refine gop (y_load Tryd.isAgg82 rfl (fun w hM => (hfr w (hM.ok _ (List.mem_of_getElem? (i := 1) rfl))).2)) rfl rfl rfl ?_
          refine gop (y_move (v := .int _ _) rfl) rfl rfl rfl ?_
          refine gop (y_add rfl rfl ⟨by omega, by omega⟩) rfl rfl rfl ?_
          refine gop (y_indexAddr (m := i + 1) Tryd.underlying82 Tryd.sizeOf4 rfl rfl (by omega) (by omega) (by omega)) rfl rfl rfl ?_
          refine gop_store_row 0 (f := boolCells) (l := starsTo p l i) (k := i + 1) (o := 0) (v := .bool _) (a := (starsTo p l i)[i + 1]'(by omega)) (a' := true) (fun _ => rfl) rfl rfl rfl Tryd.sizeOf4 rfl rfl rfl rfl hL.symm (List.getElem?_eq_getElem (by omega)) (Nat.le_of_ble_eq_true rfl) rfl rfl ?_
          refine gops_nil ?_
          refine hN4 _ _ ?_
          refine gT [rowl _ _ _ _ _ _, fr] rfl ?_
          refine gfrom [(0, .pointer (some _)), (1, .pointer (some _)), (4, .int _ _), (5, .int _ _)] ⟨rfl, rfl, rfl, rfl, trivial⟩ fun σ => ?_
          refine greg ?_
          refine gop (y_add rfl rfl ⟨by omega, by omega⟩) rfl rfl rfl ?_
          refine gop (y_move (v := .int _ _) rfl) rfl rfl rfl ?_
          refine gops_nil ?_
          rw [starsTo_yes (by omega) (by rw [List.getElem?_eq_getElem (by omega), hc17])]
          refine gnext2 (i + 1) (by omega) (show i + 1 ≤ _ by omega) ⟨rfl, trivial⟩ ⟨rfl, rfl, rfl, trivial⟩ ⟨_, rfl⟩
        · 
          refine gskip ?_
          refine hN4 _ _ ?_
          refine gfrom [(0, .pointer (some _)), (1, .pointer (some _)), (4, .int _ _), (5, .int _ _)] ⟨rfl, rfl, rfl, rfl, trivial⟩ fun σ => ?_
          refine greg ?_
          refine gop (y_add rfl rfl ⟨by omega, by omega⟩) rfl rfl rfl ?_
          refine gop (y_move (v := .int _ _) rfl) rfl rfl rfl ?_
          refine gops_nil ?_
          rw [starsTo_no (k := i) (fun h => by have h2 := h.2; rw [List.getElem?_eq_getElem (by omega), hc17] at h2; cases h2)]
          refine gnext2 (i + 1) (by omega) (show i + 1 ≤ _ by omega) ⟨rfl, trivial⟩ ⟨rfl, rfl, rfl, trivial⟩ ⟨_, rfl⟩
      · 
        have hg12d := of_decide_eq_false hg12
        refine gop_off rfl rfl rfl rfl hg12 rfl rfl ?_
        refine gop_off rfl rfl rfl rfl hg12 rfl rfl ?_
        refine gop_off rfl rfl rfl rfl hg12 rfl rfl ?_
        refine gop (y_pick_f (v := .bool _) rfl hg12 rfl) rfl rfl rfl ?_
        refine gops_nil ?_
        refine hN6 _ _ ?_
        refine gfrom [(0, .pointer (some _)), (1, .pointer (some _)), (2, .int _ _), (4, .int _ _), (5, .int _ _), (17, .bool _)] ⟨rfl, rfl, rfl, rfl, rfl, rfl, trivial⟩ fun σ => ?_
        refine gcond (b := _) rfl (fun hc17 => ?_) (fun hc17 => ?_)
        · 
          cases hc17
        · 
          refine gskip ?_
          refine hN4 _ _ ?_
          refine gfrom [(0, .pointer (some _)), (1, .pointer (some _)), (4, .int _ _), (5, .int _ _)] ⟨rfl, rfl, rfl, rfl, trivial⟩ fun σ => ?_
          refine greg ?_
          refine gop (y_add rfl rfl ⟨by omega, by omega⟩) rfl rfl rfl ?_
          refine gop (y_move (v := .int _ _) rfl) rfl rfl rfl ?_
          refine gops_nil ?_
          rw [starsTo_no (k := i) (fun h => hg12d (by omega))]
          refine gnext2 (i + 1) (by omega) (show i + 1 ≤ _ by omega) ⟨rfl, trivial⟩ ⟨rfl, rfl, rfl, trivial⟩ ⟨_, rfl⟩
    · 
      replace hc6 := of_decide_eq_false hc6
      obtain rfl : i = p.size := by omega
      refine gexit ?_
      intro w1 hM
      refine ⟨_, res0 rfl, ?_⟩
      exact ⟨rfl, hM⟩
set_option maxHeartbeats 2000000 in
theorem name_any (w : World) (p s : ByteArray) (hp : p.size ≤ 4000000) (hs : s.size ≤ 4000000) : Calls Tryd.prog 87 #[.string p, .string s] w fun e w' => e = .returned (.bool (nameM p s)) ∧ Below w.heap.size w w' := by
  refine gcalls Tryd.func87 rfl Tryd.ntmps87 (Nat.le_of_ble_eq_true rfl) ?_
  refine gfrom [(0, .string _), (1, .string _)] ⟨rfl, rfl, trivial⟩ fun σ => ?_
  refine gseq fun N1 hN1 => ?_
  refine greg ?_
  refine gop_box (v := .string _) (cs := #[_]) rfl rfl rfl (fun b2 hb2 => ?_)
  refine gop (y_assign (v := .bool _) rfl) rfl rfl rfl ?_
  refine gops_nil ?_
  refine hN1 _ _ ?_
  refine gT [box b2 _] rfl ?_
  refine gfrom [(1, .string _), (2, .pointer _)] ⟨rfl, rfl, trivial⟩ fun σ => ?_
  refine gseq fun N2 hN2 => ?_
  refine greg ?_
  refine gop (y_load Tryd.isAgg9 rfl (cell_box 0 rfl rfl)) rfl rfl rfl ?_
  refine gop (y_lens Tryd.underlying9 rfl) rfl rfl rfl ?_
  refine gop (y_add rfl rfl ⟨by omega, by omega⟩) rfl rfl rfl ?_
  refine gop_make (f := boolCells) (bytes := 1) (z := .bool false) (false) Tryd.underlying82 (by kernel_rfl) rfl rfl rfl (k := p.size + 1) rfl rfl (by omega) (by simp [maxLen]; omega) rfl (fun b14 hb14 => ?_)
  refine gop_alloc (cs := #[.slice none 0 0]) Tryd.zeroValue82 rfl rfl (fun b5 hb5 => ?_)
  refine gop_store 2 (v := .slice (some _) _ _) (cs' := #[_]) rfl rfl Tryd.sizeOf82 rfl rfl rfl rfl (Nat.le_of_ble_eq_true rfl) rfl rfl ?_
  refine gops_nil ?_
  refine hN2 _ _ ?_
  refine gT [box b2 _, rowl _ _ _ _ _ _, box b5 _] rfl ?_
  refine gfrom [(1, .string _), (2, .pointer _), (5, .pointer _)] ⟨rfl, rfl, rfl, trivial⟩ fun σ => ?_
  refine gseq fun N3 hN3 => ?_
  refine greg ?_
  refine gop (y_load Tryd.isAgg82 rfl (cell_box 2 rfl rfl)) rfl rfl rfl ?_
  refine gop (y_indexAddr Tryd.underlying82 Tryd.sizeOf4 rfl rfl rfl (by omega) (by omega)) rfl rfl rfl ?_
  refine gop_store_row 1 (f := boolCells) (l := List.replicate (p.size + 1) false) (k := 0) (o := 0) (v := .bool _) (a := false) (a' := true) (fun _ => rfl) rfl rfl rfl Tryd.sizeOf4 rfl rfl rfl rfl (by simp) (by simp) (Nat.le_of_ble_eq_true rfl) rfl rfl ?_
  refine gops_nil ?_
  refine hN3 _ _ ?_
  refine gT [box b2 _, rowl _ _ _ _ _ _, box b5 _] rfl ?_
  refine gfrom [(1, .string _), (2, .pointer _), (5, .pointer _)] ⟨rfl, rfl, rfl, trivial⟩ fun σ => ?_
  refine gseq fun N4 hN4 => ?_
  refine greg ?_
  refine gop (y_makeFunc (vs := [.pointer (some ⟨b2, 0, none⟩), .pointer (some ⟨b5, 0, none⟩)]) rfl) rfl rfl rfl ?_
  refine gop (y_assign (v := .func (.func 105) #[] #[.pointer (some ⟨b2, 0, none⟩), .pointer (some ⟨b5, 0, none⟩)]) rfl) rfl rfl rfl ?_
  refine gops_nil ?_
  refine hN4 _ _ ?_
  refine gfrom [(1, .string _), (2, .pointer _), (5, .pointer _), (6, .func (.func 105) #[] #[.pointer (some ⟨b2, 0, none⟩), .pointer (some ⟨b5, 0, none⟩)])] ⟨rfl, rfl, rfl, rfl, trivial⟩ fun σ => ?_
  refine gseq fun N5 hN5 => ?_
  refine greg ?_
  refine gop (y_move (v := .func (.func 105) #[] #[.pointer (some ⟨b2, 0, none⟩), .pointer (some ⟨b5, 0, none⟩)]) rfl) rfl rfl rfl ?_
  refine gop_does1 1 (fun v r G => v = .tuple #[] ∧ r = rowl boolCells w.heap.size 4 1 (.slice (some ⟨b14, 0, none⟩) (p.size + 1) (p.size + 1)) (starsTo p (true :: List.replicate p.size false) p.size) ∧ G = []) (e_callv (vs := []) (cs := [.pointer (some ⟨b2, 0, none⟩), .pointer (some ⟨b5, 0, none⟩)]) rfl Tryd.func105 rfl (by kernel_rfl) rfl) rfl (fun w fr1 hfr hM => (stars_any _ w b2 b5 b14 _ _ _ p _ fr1 hp rfl (by simp) (fun w1 ho => ⟨box_cell (hfr 0 _ rfl (by decide) w1 ho) rfl, box_cell (hfr 2 _ rfl (by decide) w1 ho) rfl⟩) hM).mono fun _ _ ⟨he, hm⟩ => ⟨_, _, [], he, ⟨rfl, rfl, rfl⟩, hm⟩) rfl rfl rfl ?_
  rintro _ _ _ ⟨rfl, rfl, rfl⟩
  refine gops_nil ?_
  refine hN5 _ _ ?_
  refine gT [box b2 _, rowl _ _ _ _ _ _, box b5 _] rfl ?_
  refine gfrom [(1, .string _), (2, .pointer _), (5, .pointer _), (6, .func (.func 105) #[] #[.pointer (some ⟨b2, 0, none⟩), .pointer (some ⟨b5, 0, none⟩)])] ⟨rfl, rfl, rfl, rfl, trivial⟩ fun σ => ?_
  refine gseq fun N6 hN6 => ?_
  refine gseq fun N7 hN7 => ?_
  refine greg ?_
  refine gop (y_move (v := .string _) rfl) rfl rfl rfl ?_
  refine gop (y_lens Tryd.underlying9 rfl) rfl rfl rfl ?_
  refine gop (y_move (v := .int _ _) rfl) rfl rfl rfl ?_
  refine gops_nil ?_
  refine hN7 _ _ ?_
  refine gfrom [(1, .string _), (2, .pointer _), (5, .pointer _), (6, .func (.func 105) #[] #[.pointer (some ⟨b2, 0, none⟩), .pointer (some ⟨b5, 0, none⟩)]), (21, .int _ _), (22, .int _ _)] ⟨rfl, rfl, rfl, rfl, rfl, rfl, trivial⟩ fun σ => ?_
  refine gblock ?_
  refine gfrom2 [(22, .int _ _)] [(1, .string _), (2, .pointer _), (5, .pointer _), (6, .func (.func 105) #[] #[.pointer (some ⟨b2, 0, none⟩), .pointer (some ⟨b5, 0, none⟩)]), (21, .int _ _)] ⟨rfl, trivial⟩ ⟨rfl, rfl, rfl, rfl, rfl, trivial⟩ fun σ => ?_
  refine gloop2 (G := Nat × Nat) (fun (k, g) => k ≤ s.size) (fun (k, g) => s.size - k) (fun (k, g) => [(22, .int .i64 (k : Int))]) (fun (k, g) => [(1, rowl boolCells w.heap.size 4 1 (.slice (some ⟨g, 0, none⟩) (p.size + 1) (p.size + 1)) (nameRun p s k)), (2, box b5 (.cells #[.slice (some ⟨g, 0, none⟩) (p.size + 1) (p.size + 1)] 82))]) ((0, b14)) ?h0 ⟨rfl, trivial⟩ ⟨rfl, rfl, rfl, rfl, rfl, trivial⟩ rfl ?round
  case h0 => exact Nat.zero_le _
  case round =>
    rintro ⟨k, g⟩ hφ σ
    have hk : k ≤ s.size := hφ
    have hR := nameRun_len p s k
    refine gT [box b2 _, rowl _ _ _ _ _ _, box b5 _] rfl ?_
    refine gseq fun N8 hN8 => ?_
    refine greg ?_
    refine gop (y_lss rfl rfl) rfl rfl rfl ?_
    refine gops_nil ?_
    refine hN8 _ _ ?_
    refine gfrom [(1, .string _), (2, .pointer _), (5, .pointer _), (6, .func (.func 105) #[] #[.pointer (some ⟨b2, 0, none⟩), .pointer (some ⟨b5, 0, none⟩)]), (21, .int _ _), (22, .int _ _), (23, .bool _)] ⟨rfl, rfl, rfl, rfl, rfl, rfl, rfl, trivial⟩ fun σ => ?_
    refine gseq fun N9 hN9 => ?_
    refine gcond (b := _) rfl (fun hc23 => ?_) (fun hc23 => ?_)
    · 
      replace hc23 := of_decide_eq_true hc23
      refine gskip ?_
      refine hN9 _ _ ?_
      refine gfrom [(1, .string _), (2, .pointer _), (5, .pointer _), (6, .func (.func 105) #[] #[.pointer (some ⟨b2, 0, none⟩), .pointer (some ⟨b5, 0, none⟩)]), (21, .int _ _), (22, .int _ _)] ⟨rfl, rfl, rfl, rfl, rfl, rfl, trivial⟩ fun σ => ?_
      refine gseq fun N10 hN10 => ?_
      refine gblock ?_
      refine gseq fun N11 hN11 => ?_
      refine greg ?_
      refine gop (y_move (v := .int _ _) rfl) rfl rfl rfl ?_
      refine gop (y_assign (v := .int _ _) rfl) rfl rfl rfl ?_
      refine gops_nil ?_
      refine hN11 _ _ ?_
      refine gfrom [(1, .string _), (2, .pointer _), (5, .pointer _), (6, .func (.func 105) #[] #[.pointer (some ⟨b2, 0, none⟩), .pointer (some ⟨b5, 0, none⟩)]), (7, .int _ _), (21, .int _ _), (22, .int _ _)] ⟨rfl, rfl, rfl, rfl, rfl, rfl, rfl, trivial⟩ fun σ => ?_
      refine gseq fun N12 hN12 => ?_
      refine greg ?_
      refine gop (y_load Tryd.isAgg9 rfl (cell_box 0 rfl rfl)) rfl rfl rfl ?_
      refine gop (y_lens Tryd.underlying9 rfl) rfl rfl rfl ?_
      refine gop (y_add rfl rfl ⟨by omega, by omega⟩) rfl rfl rfl ?_
      refine gop_make (f := boolCells) (bytes := 1) (z := .bool false) (false) Tryd.underlying82 (by kernel_rfl) rfl rfl rfl (k := p.size + 1) rfl rfl (by omega) (by simp [maxLen]; omega) rfl (fun b28 hb28 => ?_)
      refine gop (y_assign (v := .slice (some _) _ _) rfl) rfl rfl rfl ?_
      refine gops_nil ?_
      refine hN12 _ _ ?_
      refine gT [box b2 _, rowl _ _ _ _ _ _, box b5 _, rowl _ _ _ _ _ _] rfl ?_
      refine gfrom [(1, .string _), (2, .pointer _), (5, .pointer _), (6, .func (.func 105) #[] #[.pointer (some ⟨b2, 0, none⟩), .pointer (some ⟨b5, 0, none⟩)]), (7, .int _ _), (8, .slice (some _) _ _), (21, .int _ _), (22, .int _ _)] ⟨rfl, rfl, rfl, rfl, rfl, rfl, rfl, rfl, trivial⟩ fun σ => ?_
      refine gseq fun N13 hN13 => ?_
      refine gseq fun N14 hN14 => ?_
      refine greg ?_
      refine gop (y_load Tryd.isAgg9 rfl (cell_box 0 rfl rfl)) rfl rfl rfl ?_
      refine gop (y_lens Tryd.underlying9 rfl) rfl rfl rfl ?_
      refine gop (y_move (v := .int _ _) rfl) rfl rfl rfl ?_
      refine gops_nil ?_
      refine hN14 _ _ ?_
      refine gfrom [(1, .string _), (2, .pointer _), (5, .pointer _), (6, .func (.func 105) #[] #[.pointer (some ⟨b2, 0, none⟩), .pointer (some ⟨b5, 0, none⟩)]), (7, .int _ _), (8, .slice (some _) _ _), (21, .int _ _), (22, .int _ _), (30, .int _ _), (31, .int _ _)] ⟨rfl, rfl, rfl, rfl, rfl, rfl, rfl, rfl, rfl, rfl, trivial⟩ fun σ => ?_
      refine gblock ?_
      refine gfrom2 [(31, .int _ _)] [(1, .string _), (2, .pointer _), (5, .pointer _), (6, .func (.func 105) #[] #[.pointer (some ⟨b2, 0, none⟩), .pointer (some ⟨b5, 0, none⟩)]), (7, .int _ _), (8, .slice (some _) _ _), (21, .int _ _), (22, .int _ _), (30, .int _ _)] ⟨rfl, trivial⟩ ⟨rfl, rfl, rfl, rfl, rfl, rfl, rfl, rfl, rfl, trivial⟩ fun σ => ?_
      refine gloop2 (G := Nat) (fun i => i ≤ p.size) (fun i => p.size - i) (fun i => [(31, .int .i64 (i : Int))]) (fun i => [(3, rowl boolCells w.heap.size 4 1 (.slice (some ⟨b28, 0, none⟩) (p.size + 1) (p.size + 1)) (nextTo p (byteAt s k) (nameRun p s k) i))]) (0) ?h0 ⟨rfl, trivial⟩ ⟨rfl, rfl, rfl, rfl, rfl, rfl, rfl, rfl, rfl, trivial⟩ rfl ?round
      case h0 => exact Nat.zero_le _
      case round =>
        intro i hφ σ
        have hi := hφ
        have hL : (nextTo p (byteAt s k) (nameRun p s k) i).length = p.size + 1 := nextTo_len _ _ _ _
        refine gT [box b2 _, rowl _ _ _ _ _ _, box b5 _, rowl _ _ _ _ _ _] rfl ?_
        refine gseq fun N15 hN15 => ?_
        refine greg ?_
        refine gop (y_lss rfl rfl) rfl rfl rfl ?_
        refine gops_nil ?_
        refine hN15 _ _ ?_
        refine gfrom [(1, .string _), (2, .pointer _), (5, .pointer _), (6, .func (.func 105) #[] #[.pointer (some ⟨b2, 0, none⟩), .pointer (some ⟨b5, 0, none⟩)]), (7, .int _ _), (8, .slice (some _) _ _), (21, .int _ _), (22, .int _ _), (30, .int _ _), (31, .int _ _), (32, .bool _)] ⟨rfl, rfl, rfl, rfl, rfl, rfl, rfl, rfl, rfl, rfl, rfl, trivial⟩ fun σ => ?_
        refine gseq fun N16 hN16 => ?_
        refine gcond (b := _) rfl (fun hc32 => ?_) (fun hc32 => ?_)
        · 
          replace hc32 := of_decide_eq_true hc32
          refine gskip ?_
          refine hN16 _ _ ?_
          refine gfrom [(1, .string _), (2, .pointer _), (5, .pointer _), (6, .func (.func 105) #[] #[.pointer (some ⟨b2, 0, none⟩), .pointer (some ⟨b5, 0, none⟩)]), (7, .int _ _), (8, .slice (some _) _ _), (21, .int _ _), (22, .int _ _), (30, .int _ _), (31, .int _ _)] ⟨rfl, rfl, rfl, rfl, rfl, rfl, rfl, rfl, rfl, rfl, trivial⟩ fun σ => ?_
          refine gseq fun N17 hN17 => ?_
          refine gblock ?_
          refine gseq fun N18 hN18 => ?_
          refine greg ?_
          refine gop (y_move (v := .int _ _) rfl) rfl rfl rfl ?_
          refine gop (y_assign (v := .int _ _) rfl) rfl rfl rfl ?_
          refine gops_nil ?_
          refine hN18 _ _ ?_
          refine gfrom [(1, .string _), (2, .pointer _), (5, .pointer _), (6, .func (.func 105) #[] #[.pointer (some ⟨b2, 0, none⟩), .pointer (some ⟨b5, 0, none⟩)]), (7, .int _ _), (8, .slice (some _) _ _), (9, .int _ _), (21, .int _ _), (22, .int _ _), (30, .int _ _), (31, .int _ _)] ⟨rfl, rfl, rfl, rfl, rfl, rfl, rfl, rfl, rfl, rfl, rfl, trivial⟩ fun σ => ?_
          refine gseq fun N19 hN19 => ?_
          refine greg ?_
          refine gop (y_load Tryd.isAgg9 rfl (cell_box 0 rfl rfl)) rfl rfl rfl ?_
          refine gop (y_move (v := .int _ _) rfl) rfl rfl rfl ?_
          refine gop (y_stridx (m := i) Tryd.underlying9 rfl rfl (by omega) (by omega) (by omega)) rfl rfl rfl ?_
          refine gop (y_assign (v := .int _ _) rfl) rfl rfl rfl ?_
          refine gops_nil ?_
          refine hN19 _ _ ?_
          refine gfrom [(1, .string _), (2, .pointer _), (5, .pointer _), (6, .func (.func 105) #[] #[.pointer (some ⟨b2, 0, none⟩), .pointer (some ⟨b5, 0, none⟩)]), (7, .int _ _), (8, .slice (some _) _ _), (9, .int _ _), (10, .int _ _), (21, .int _ _), (22, .int _ _), (30, .int _ _), (31, .int _ _)] ⟨rfl, rfl, rfl, rfl, rfl, rfl, rfl, rfl, rfl, rfl, rfl, rfl, trivial⟩ fun σ => ?_
          refine gblock ?_
          refine gseq fun N20 hN20 => ?_
          refine greg ?_
          refine gop (y_load Tryd.isAgg82 rfl (cell_box 2 rfl rfl)) rfl rfl rfl ?_
          refine gop (y_move (v := .int _ _) rfl) rfl rfl rfl ?_
          refine gop (y_indexAddr (m := i) Tryd.underlying82 Tryd.sizeOf4 rfl rfl (by omega) (by omega) (by omega)) rfl rfl rfl ?_
          refine gop (y_load Tryd.isAgg4 rfl (cells_rowl 1 (f := boolCells) (l := nameRun p s k) rfl (nameRun_len p s k).symm (fun _ => rfl) (List.getElem?_eq_getElem (show i < (nameRun p s k).length by omega)) 0 _ rfl)) rfl rfl rfl ?_
          refine gop (y_not rfl) rfl rfl rfl ?_
          refine gop (y_assign (v := .bool _) rfl) rfl rfl rfl ?_
          refine gops_nil ?_
          refine hN20 _ _ ?_
          refine gfrom [(1, .string _), (2, .pointer _), (5, .pointer _), (6, .func (.func 105) #[] #[.pointer (some ⟨b2, 0, none⟩), .pointer (some ⟨b5, 0, none⟩)]), (7, .int _ _), (8, .slice (some _) _ _), (9, .int _ _), (10, .int _ _), (21, .int _ _), (22, .int _ _), (30, .int _ _), (31, .int _ _), (37, .bool _)] ⟨rfl, rfl, rfl, rfl, rfl, rfl, rfl, rfl, rfl, rfl, rfl, rfl, rfl, trivial⟩ fun σ => ?_
          refine gcond (b := _) rfl (fun hc37 => ?_) (fun hc37 => ?_)
          · 
            replace hc37 := not_t hc37
            refine gskip ?_
            refine hN17 _ _ ?_
            refine gfrom [(1, .string _), (2, .pointer _), (5, .pointer _), (6, .func (.func 105) #[] #[.pointer (some ⟨b2, 0, none⟩), .pointer (some ⟨b5, 0, none⟩)]), (7, .int _ _), (8, .slice (some _) _ _), (21, .int _ _), (22, .int _ _), (30, .int _ _), (31, .int _ _)] ⟨rfl, rfl, rfl, rfl, rfl, rfl, rfl, rfl, rfl, rfl, trivial⟩ fun σ => ?_
            refine greg ?_
            refine gop (y_add rfl rfl ⟨by omega, by omega⟩) rfl rfl rfl ?_
            refine gop (y_move (v := .int _ _) rfl) rfl rfl rfl ?_
            refine gops_nil ?_
            rw [nextTo_off (i := i) (by rw [List.getElem?_eq_getElem (by omega), hc37])]
            refine gnext2 (i + 1) (by omega) (show i + 1 ≤ _ by omega) ⟨rfl, trivial⟩ ⟨rfl, rfl, rfl, rfl, rfl, rfl, rfl, rfl, rfl, trivial⟩ ⟨_, rfl⟩
          · 
            replace hc37 := not_f hc37
            refine gseq fun N21 hN21 => ?_
            refine greg ?_
            refine gop (y_move (v := .int _ _) rfl) rfl rfl rfl ?_
            refine gop (y_eql rfl rfl) rfl rfl rfl ?_
            refine gop (y_assign (v := .bool _) rfl) rfl rfl rfl ?_
            refine gops_nil ?_
            refine hN21 _ _ ?_
            refine gfrom [(1, .string _), (2, .pointer _), (5, .pointer _), (6, .func (.func 105) #[] #[.pointer (some ⟨b2, 0, none⟩), .pointer (some ⟨b5, 0, none⟩)]), (7, .int _ _), (8, .slice (some _) _ _), (9, .int _ _), (10, .int _ _), (21, .int _ _), (22, .int _ _), (30, .int _ _), (31, .int _ _), (43, .bool _)] ⟨rfl, rfl, rfl, rfl, rfl, rfl, rfl, rfl, rfl, rfl, rfl, rfl, rfl, trivial⟩ fun σ => ?_
            refine gcond (b := _) rfl (fun hc43 => ?_) (fun hc43 => ?_)
            · 
              replace hc43 := of_decide_eq_true hc43
              refine greg ?_
              refine gop (y_move (v := .slice (some _) _ _) rfl) rfl rfl rfl ?_
              refine gop (y_move (v := .int _ _) rfl) rfl rfl rfl ?_
              refine gop (y_indexAddr (m := i) Tryd.underlying82 Tryd.sizeOf4 rfl rfl (by omega) (by omega) (by omega)) rfl rfl rfl ?_
              refine gop_store_row 3 (f := boolCells) (l := nextTo p (byteAt s k) (nameRun p s k) i) (k := i) (o := 0) (v := .bool _) (a := (nextTo p (byteAt s k) (nameRun p s k) i)[i]'(by omega)) (a' := true) (fun _ => rfl) rfl rfl rfl Tryd.sizeOf4 rfl rfl rfl rfl hL.symm (List.getElem?_eq_getElem (by omega)) (Nat.le_of_ble_eq_true rfl) rfl rfl ?_
              refine gops_nil ?_
              refine hN17 _ _ ?_
              refine gT [box b2 _, rowl _ _ _ _ _ _, box b5 _, rowl _ _ _ _ _ _] rfl ?_
              refine gfrom [(1, .string _), (2, .pointer _), (5, .pointer _), (6, .func (.func 105) #[] #[.pointer (some ⟨b2, 0, none⟩), .pointer (some ⟨b5, 0, none⟩)]), (7, .int _ _), (8, .slice (some _) _ _), (21, .int _ _), (22, .int _ _), (30, .int _ _), (31, .int _ _)] ⟨rfl, rfl, rfl, rfl, rfl, rfl, rfl, rfl, rfl, rfl, trivial⟩ fun σ => ?_
              refine greg ?_
              refine gop (y_add rfl rfl ⟨by omega, by omega⟩) rfl rfl rfl ?_
              refine gop (y_move (v := .int _ _) rfl) rfl rfl rfl ?_
              refine gops_nil ?_
              rw [nextTo_star (by rw [List.getElem?_eq_getElem (by omega), hc37]) (by omega)]
              refine gnext2 (i + 1) (by omega) (show i + 1 ≤ _ by omega) ⟨rfl, trivial⟩ ⟨rfl, rfl, rfl, rfl, rfl, rfl, rfl, rfl, rfl, trivial⟩ ⟨_, rfl⟩
            · 
              replace hc43 := of_decide_eq_false hc43
              refine gseq fun N22 hN22 => ?_
              refine greg ?_
              refine gop (y_move (v := .int _ _) rfl) rfl rfl rfl ?_
              refine gop (y_eql rfl rfl) rfl rfl rfl ?_
              refine gop (y_move (v := .bool _) rfl) rfl rfl rfl ?_
              refine gop_if (want := false) rfl rfl rfl rfl rfl rfl (fun hg52 => ?_) (fun hg52 => ?_)
              · 
                have hg52d := of_decide_eq_false hg52
                refine gop (y_bare (y_move (v := .int _ _) rfl)) rfl rfl rfl ?_
                refine gop_on rfl rfl rfl rfl hg52 ?_
                refine gop (y_bare (y_move (v := .string _) rfl)) rfl rfl rfl ?_
                refine gop_on rfl rfl rfl rfl hg52 ?_
                refine gop (y_bare (y_move (v := .int _ _) rfl)) rfl rfl rfl ?_
                refine gop_on rfl rfl rfl rfl hg52 ?_
                refine gop (y_bare (y_stridx (m := k) Tryd.underlying9 rfl rfl (by omega) (by omega) (by omega))) rfl rfl rfl ?_
                refine gop_on rfl rfl rfl rfl hg52 ?_
                refine gop (y_bare (y_eql rfl rfl)) rfl rfl rfl ?_
                refine gop (y_pick_f (v := .bool _) rfl hg52 rfl) rfl rfl rfl ?_
                refine gop (y_assign (v := .bool _) rfl) rfl rfl rfl ?_
                refine gops_nil ?_
                refine hN22 _ _ ?_
                refine gfrom [(1, .string _), (2, .pointer _), (5, .pointer _), (6, .func (.func 105) #[] #[.pointer (some ⟨b2, 0, none⟩), .pointer (some ⟨b5, 0, none⟩)]), (7, .int _ _), (8, .slice (some _) _ _), (9, .int _ _), (21, .int _ _), (22, .int _ _), (30, .int _ _), (31, .int _ _), (49, .bool _)] ⟨rfl, rfl, rfl, rfl, rfl, rfl, rfl, rfl, rfl, rfl, rfl, rfl, trivial⟩ fun σ => ?_
                refine gcond (b := _) rfl (fun hc49 => ?_) (fun hc49 => ?_)
                · 
                  replace hc49 := of_decide_eq_true hc49
                  refine greg ?_
                  refine gop (y_move (v := .slice (some _) _ _) rfl) rfl rfl rfl ?_
                  refine gop (y_move (v := .int _ _) rfl) rfl rfl rfl ?_
                  refine gop (y_add rfl rfl ⟨by omega, by omega⟩) rfl rfl rfl ?_
                  refine gop (y_indexAddr (m := i + 1) Tryd.underlying82 Tryd.sizeOf4 rfl rfl (by omega) (by omega) (by omega)) rfl rfl rfl ?_
                  refine gop_store_row 3 (f := boolCells) (l := nextTo p (byteAt s k) (nameRun p s k) i) (k := i + 1) (o := 0) (v := .bool _) (a := (nextTo p (byteAt s k) (nameRun p s k) i)[i + 1]'(by omega)) (a' := true) (fun _ => rfl) rfl rfl rfl Tryd.sizeOf4 rfl rfl rfl rfl hL.symm (List.getElem?_eq_getElem (by omega)) (Nat.le_of_ble_eq_true rfl) rfl rfl ?_
                  refine gops_nil ?_
                  refine hN17 _ _ ?_
                  refine gT [box b2 _, rowl _ _ _ _ _ _, box b5 _, rowl _ _ _ _ _ _] rfl ?_
                  refine gfrom [(1, .string _), (2, .pointer _), (5, .pointer _), (6, .func (.func 105) #[] #[.pointer (some ⟨b2, 0, none⟩), .pointer (some ⟨b5, 0, none⟩)]), (7, .int _ _), (8, .slice (some _) _ _), (21, .int _ _), (22, .int _ _), (30, .int _ _), (31, .int _ _)] ⟨rfl, rfl, rfl, rfl, rfl, rfl, rfl, rfl, rfl, rfl, trivial⟩ fun σ => ?_
                  refine greg ?_
                  refine gop (y_add rfl rfl ⟨by omega, by omega⟩) rfl rfl rfl ?_
                  refine gop (y_move (v := .int _ _) rfl) rfl rfl rfl ?_
                  refine gops_nil ?_
                  rw [nextTo_char (by rw [List.getElem?_eq_getElem (by omega), hc37]) (by omega) (.inr (by omega))]
                  refine gnext2 (i + 1) (by omega) (show i + 1 ≤ _ by omega) ⟨rfl, trivial⟩ ⟨rfl, rfl, rfl, rfl, rfl, rfl, rfl, rfl, rfl, trivial⟩ ⟨_, rfl⟩
                · 
                  replace hc49 := of_decide_eq_false hc49
                  refine gskip ?_
                  refine hN17 _ _ ?_
                  refine gfrom [(1, .string _), (2, .pointer _), (5, .pointer _), (6, .func (.func 105) #[] #[.pointer (some ⟨b2, 0, none⟩), .pointer (some ⟨b5, 0, none⟩)]), (7, .int _ _), (8, .slice (some _) _ _), (21, .int _ _), (22, .int _ _), (30, .int _ _), (31, .int _ _)] ⟨rfl, rfl, rfl, rfl, rfl, rfl, rfl, rfl, rfl, rfl, trivial⟩ fun σ => ?_
                  refine greg ?_
                  refine gop (y_add rfl rfl ⟨by omega, by omega⟩) rfl rfl rfl ?_
                  refine gop (y_move (v := .int _ _) rfl) rfl rfl rfl ?_
                  refine gops_nil ?_
                  rw [nextTo_miss (i := i) (by rw [List.getElem?_eq_getElem (by omega), hc37]) (by omega) (by omega)]
                  refine gnext2 (i + 1) (by omega) (show i + 1 ≤ _ by omega) ⟨rfl, trivial⟩ ⟨rfl, rfl, rfl, rfl, rfl, rfl, rfl, rfl, rfl, trivial⟩ ⟨_, rfl⟩
              · 
                have hg52d := of_decide_eq_true hg52
                refine gop_off rfl rfl rfl rfl hg52 rfl rfl ?_
                refine gop_off rfl rfl rfl rfl hg52 rfl rfl ?_
                refine gop_off rfl rfl rfl rfl hg52 rfl rfl ?_
                refine gop_off rfl rfl rfl rfl hg52 rfl rfl ?_
                refine gop (y_pick_t (v := .bool _) rfl hg52 rfl) rfl rfl rfl ?_
                refine gop (y_assign (v := .bool _) rfl) rfl rfl rfl ?_
                refine gops_nil ?_
                refine hN22 _ _ ?_
                refine gfrom [(1, .string _), (2, .pointer _), (5, .pointer _), (6, .func (.func 105) #[] #[.pointer (some ⟨b2, 0, none⟩), .pointer (some ⟨b5, 0, none⟩)]), (7, .int _ _), (8, .slice (some _) _ _), (9, .int _ _), (21, .int _ _), (22, .int _ _), (30, .int _ _), (31, .int _ _), (49, .bool _)] ⟨rfl, rfl, rfl, rfl, rfl, rfl, rfl, rfl, rfl, rfl, rfl, rfl, trivial⟩ fun σ => ?_
                refine gcond (b := _) rfl (fun hc49 => ?_) (fun hc49 => ?_)
                · 
                  refine greg ?_
                  refine gop (y_move (v := .slice (some _) _ _) rfl) rfl rfl rfl ?_
                  refine gop (y_move (v := .int _ _) rfl) rfl rfl rfl ?_
                  refine gop (y_add rfl rfl ⟨by omega, by omega⟩) rfl rfl rfl ?_
                  refine gop (y_indexAddr (m := i + 1) Tryd.underlying82 Tryd.sizeOf4 rfl rfl (by omega) (by omega) (by omega)) rfl rfl rfl ?_
                  refine gop_store_row 3 (f := boolCells) (l := nextTo p (byteAt s k) (nameRun p s k) i) (k := i + 1) (o := 0) (v := .bool _) (a := (nextTo p (byteAt s k) (nameRun p s k) i)[i + 1]'(by omega)) (a' := true) (fun _ => rfl) rfl rfl rfl Tryd.sizeOf4 rfl rfl rfl rfl hL.symm (List.getElem?_eq_getElem (by omega)) (Nat.le_of_ble_eq_true rfl) rfl rfl ?_
                  refine gops_nil ?_
                  refine hN17 _ _ ?_
                  refine gT [box b2 _, rowl _ _ _ _ _ _, box b5 _, rowl _ _ _ _ _ _] rfl ?_
                  refine gfrom [(1, .string _), (2, .pointer _), (5, .pointer _), (6, .func (.func 105) #[] #[.pointer (some ⟨b2, 0, none⟩), .pointer (some ⟨b5, 0, none⟩)]), (7, .int _ _), (8, .slice (some _) _ _), (21, .int _ _), (22, .int _ _), (30, .int _ _), (31, .int _ _)] ⟨rfl, rfl, rfl, rfl, rfl, rfl, rfl, rfl, rfl, rfl, trivial⟩ fun σ => ?_
                  refine greg ?_
                  refine gop (y_add rfl rfl ⟨by omega, by omega⟩) rfl rfl rfl ?_
                  refine gop (y_move (v := .int _ _) rfl) rfl rfl rfl ?_
                  refine gops_nil ?_
                  rw [nextTo_char (by rw [List.getElem?_eq_getElem (by omega), hc37]) (by omega) (.inl (by omega))]
                  refine gnext2 (i + 1) (by omega) (show i + 1 ≤ _ by omega) ⟨rfl, trivial⟩ ⟨rfl, rfl, rfl, rfl, rfl, rfl, rfl, rfl, rfl, trivial⟩ ⟨_, rfl⟩
                · 
                  cases hc49
        · 
          replace hc32 := of_decide_eq_false hc32
          obtain rfl : i = p.size := by omega
          refine gexit ?_
          refine hN13 _ _ ?_
          refine gfrom [(1, .string _), (2, .pointer _), (5, .pointer _), (6, .func (.func 105) #[] #[.pointer (some ⟨b2, 0, none⟩), .pointer (some ⟨b5, 0, none⟩)]), (8, .slice (some _) _ _), (21, .int _ _), (22, .int _ _)] ⟨rfl, rfl, rfl, rfl, rfl, rfl, rfl, trivial⟩ fun σ => ?_
          refine gseq fun N23 hN23 => ?_
          refine greg ?_
          refine gop (y_move (v := .slice (some _) _ _) rfl) rfl rfl rfl ?_
          refine gop_store 2 (v := .slice (some _) _ _) (cs' := #[_]) rfl rfl Tryd.sizeOf82 rfl rfl rfl rfl (Nat.le_of_ble_eq_true rfl) rfl rfl ?_
          refine gops_nil ?_
          refine hN23 _ _ ?_
          refine gT [box b2 _, rowl _ _ _ _ _ _, box b5 _, rowl _ _ _ _ _ _] rfl ?_
          refine gfrom [(1, .string _), (2, .pointer _), (5, .pointer _), (6, .func (.func 105) #[] #[.pointer (some ⟨b2, 0, none⟩), .pointer (some ⟨b5, 0, none⟩)]), (21, .int _ _), (22, .int _ _)] ⟨rfl, rfl, rfl, rfl, rfl, rfl, trivial⟩ fun σ => ?_
          refine greg ?_
          refine gop (y_move (v := .func (.func 105) #[] #[.pointer (some ⟨b2, 0, none⟩), .pointer (some ⟨b5, 0, none⟩)]) rfl) rfl rfl rfl ?_
          refine gop_does1 3 (fun v r G => v = .tuple #[] ∧ r = rowl boolCells w.heap.size 4 1 (.slice (some ⟨b28, 0, none⟩) (p.size + 1) (p.size + 1)) (starsTo p (nextTo p (byteAt s k) (nameRun p s k) p.size) p.size) ∧ G = []) (e_callv (vs := []) (cs := [.pointer (some ⟨b2, 0, none⟩), .pointer (some ⟨b5, 0, none⟩)]) rfl Tryd.func105 rfl (by kernel_rfl) rfl) rfl (fun w fr1 hfr hM => (stars_any _ w b2 b5 b28 _ _ _ p _ fr1 hp rfl (by rw [nextTo_len]) (fun w1 ho => ⟨box_cell (hfr 0 _ rfl (by decide) w1 ho) rfl, box_cell (hfr 2 _ rfl (by decide) w1 ho) rfl⟩) hM).mono fun _ _ ⟨he, hm⟩ => ⟨_, _, [], he, ⟨rfl, rfl, rfl⟩, hm⟩) rfl rfl rfl ?_
          rintro _ _ _ ⟨rfl, rfl, rfl⟩
          refine gops_nil ?_
          refine hN10 _ _ ?_
          refine gT [box b2 _, rowl _ _ _ _ _ _, box b5 _, rowl _ _ _ _ _ _] rfl ?_
          refine gfrom [(1, .string _), (2, .pointer _), (5, .pointer _), (6, .func (.func 105) #[] #[.pointer (some ⟨b2, 0, none⟩), .pointer (some ⟨b5, 0, none⟩)]), (21, .int _ _), (22, .int _ _)] ⟨rfl, rfl, rfl, rfl, rfl, rfl, trivial⟩ fun σ => ?_
          refine greg ?_
          refine gop (y_add rfl rfl ⟨by omega, by omega⟩) rfl rfl rfl ?_
          refine gop (y_move (v := .int _ _) rfl) rfl rfl rfl ?_
          refine gops_nil ?_
          refine fin_mem _ (weak_perm (List.Perm.cons _ (List.reverse_perm _).symm)) ?_
          refine gnext2 ((k + 1, b28)) (by show s.size - (k + 1) < s.size - k; omega) (show k + 1 ≤ _ by omega) ⟨rfl, trivial⟩ ⟨rfl, rfl, rfl, rfl, rfl, trivial⟩ ⟨_, rfl⟩
    · 
      replace hc23 := of_decide_eq_false hc23
      obtain rfl : k = s.size := by omega
      refine gexit ?_
      refine hN6 _ _ ?_
      refine gfrom [(2, .pointer _), (5, .pointer _)] ⟨rfl, rfl, trivial⟩ fun σ => ?_
      refine gseq fun N24 hN24 => ?_
      refine greg ?_
      refine gop (y_load Tryd.isAgg82 rfl (cell_box 2 rfl rfl)) rfl rfl rfl ?_
      refine gop (y_load Tryd.isAgg9 rfl (cell_box 0 rfl rfl)) rfl rfl rfl ?_
      refine gop (y_lens Tryd.underlying9 rfl) rfl rfl rfl ?_
      refine gop (y_indexAddr (m := p.size) Tryd.underlying82 Tryd.sizeOf4 rfl rfl (by omega) (by omega) (by omega)) rfl rfl rfl ?_
      refine gop (y_load Tryd.isAgg4 rfl (cells_rowl 1 (f := boolCells) (l := nameRun p s s.size) rfl (nameRun_len p s _).symm (fun _ => rfl) (List.getElem?_eq_getElem (show p.size < (nameRun p s s.size).length by omega)) 0 _ rfl)) rfl rfl rfl ?_
      refine gop (y_assign (v := .bool _) rfl) rfl rfl rfl ?_
      refine gops_nil ?_
      refine hN24 _ _ ?_
      refine gfrom [(4, .bool _)] ⟨rfl, trivial⟩ fun σ => ?_
      refine gret fun w1 hM => ?_
      refine ⟨_, res1 rfl (rt (v := .bool _) rfl), ?_⟩
      exact ⟨by rw [nameM, List.getElem?_eq_getElem (by omega)]; rfl, hM.low⟩
end Go.Proofs.YtijpaljdclhehaaDoor
namespace Go.Proofs.YtijpaljdclhehaaDoor
open Go.RowKit Go.Cf
set_option maxRecDepth 10000
abbrev ek2 (k : Nat × Nat) : Value := .agg #[.int .i64 k.1, .int .i64 k.2]
theorem ck2 (em : Bool) (k : Nat × Nat) (w : World) : (Instr.checkKey em 10000 69 (ek2 k)).run Tryd.prog w = .ok () w := by
  kernel_rfl
theorem eq2 (a b a' b' : Int) (w : World) : (Op.equal 69 (.agg #[.int .i64 a, .int .i64 b]) (.agg #[.int .i64 a', .int .i64 b'])).run Tryd.prog w = .ok (decide (a = a') && decide (b = b')) w := by
  obtain ⟨i, hi⟩ := info_of_underlying Tryd.underlying3
  show (Op.equalIn (9999 + 1) 69 _ _).run _ _ = _
  rw [run_equalIn_array _ _ _ _ Tryd.underlying69 hi]
  have h1 : Tryd.prog.cellsOf 3 = 1 := by kernel_rfl
  have h2 : List.range 2 = [0, 1] := rfl
  rw [h1, h2]
  simp [Op.eqItems, go_sem]
  (repeat' split) <;> simp_all
theorem sm2 (k : Nat × Nat) : Instr.sameBits 10000 (ek2 k) (ek2 k) = true := by
  simp [Instr.sameBits]
theorem key2 : Key Tryd.prog 69 ek2 where
  wide := by kernel_rfl
  check := fun em k w => ck2 em k w
  eq := fun k k' w => by
    rw [eq2]
    congr 1
    rw [Bool.eq_iff_iff]; simp [Prod.ext_iff]; omega
  same := sm2
end Go.Proofs.YtijpaljdclhehaaDoor
namespace Go.Proofs.YtijpaljdclhehaaDoor
open Go.RowKit Go.Cf
set_option maxRecDepth 10000
theorem bd69_0_1 (x1 : Int) (x2 : Int) : Tryd.prog.built 69 [(0, .int .i64 x1), (1, .int .i64 x2)] = some #[.int .i64 x1, .int .i64 x2] := by kernel_rfl
theorem eg23 (op : BinOp) (x y : Operand) (xs ys : Array Value) (w : World) : (eqGuard op 23 x y (.agg xs) (.agg ys)).run Tryd.prog w = .ok () w := run_eqGuard_agg w op 23 x y xs ys (by kernel_rfl)
theorem ne23 (a0 b0 : Int) (a1 b1 : Int) (w : World) : (binOp .neq 23 (.agg #[.int .i64 a0, .int .i64 a1]) (.agg #[.int .i64 b0, .int .i64 b1])).run Tryd.prog w = .ok (.bool (!(decide (a0 = b0) && decide (a1 = b1)))) w := by
  simp [run_neq_struct, run_equalIn_agg, Tryd.underlying23, Tryd.stoodInHeld23, Program.fieldsOf, go_sem]
  (repeat' split) <;> simp_all
set_option maxHeartbeats 4000000 in
theorem walk1_any (P N : List ByteArray) (A1 A2 : Option Addr) (c1 c2 mb b5 b2 b3 b6 : Nat) (hPs : ∀ x ∈ P, x.size ≤ 4000000) (hNs : ∀ x ∈ N, x.size ≤ 4000000) (hPl : P.length ≤ 4000001) (hNl : N.length ≤ 4000001) (w0 : World)
    (hP : Rdl w0 0 1 strCells A1 P) (hN : Rdl w0 0 1 strCells A2 N) (m : Nat) : ∀ (i j : Nat) (w : World) (l : List ((Nat × Nat) × Bool)) (fr : Reg),
    (∀ w1, fr.ok w1 → w1.cell? ⟨b5, 0, none⟩ = some (.map (some mb)) ∧ w1.cell? ⟨b2, 0, none⟩ = some (.slice A1 P.length c1) ∧ w1.cell? ⟨b3, 0, none⟩ = some (.slice A2 N.length c2) ∧ w1.cell? ⟨b6, 0, none⟩ = some (.func (.func 86) #[] #[.pointer (some ⟨b5, 0, none⟩), .pointer (some ⟨b2, 0, none⟩), .pointer (some ⟨b3, 0, none⟩), .pointer (some ⟨b6, 0, none⟩)])) → P.length - i + (N.length - j) = m → i ≤ P.length → j ≤ N.length → MemoOk (wkAt P N) l → Mem w0 [mapr ek2 Value.bool mb l, fr] w →
    Calls Tryd.prog 86 #[.int .i64 (i : Int), .int .i64 (j : Int), .pointer (some ⟨b5, 0, none⟩), .pointer (some ⟨b2, 0, none⟩), .pointer (some ⟨b3, 0, none⟩), .pointer (some ⟨b6, 0, none⟩)] w fun e w' => e = .returned (.bool (wkAt P N i j)) ∧ ∃ l', MemoOk (wkAt P N) l' ∧ Mem w0 [mapr ek2 Value.bool mb l', fr] w' := by
  refine Nat.strongRecOn m ?_
  intro m ih i j w l fr hF hm hi hj hl hM0
  refine gcallsT Tryd.func86 rfl Tryd.ntmps86 (Nat.le_of_ble_eq_true rfl) hM0 ?_
  refine gfrom [(0, .int _ _), (1, .int _ _), (2, .pointer (some _)), (3, .pointer (some _)), (4, .pointer (some _)), (5, .pointer (some _))] ⟨rfl, rfl, rfl, rfl, rfl, rfl, trivial⟩ fun σ => ?_
  refine gseq fun N1 hN1 => ?_
  refine greg ?_
  refine gop (y_assign (v := .bool _) rfl) rfl rfl rfl ?_
  refine gops_nil ?_
  refine hN1 _ _ ?_
  refine gfrom [(0, .int _ _), (1, .int _ _), (2, .pointer (some _)), (3, .pointer (some _)), (4, .pointer (some _)), (5, .pointer (some _))] ⟨rfl, rfl, rfl, rfl, rfl, rfl, trivial⟩ fun σ => ?_
  refine gseq fun N2 hN2 => ?_
  refine gseq fun N3 hN3 => ?_
  refine greg ?_
  refine gop (y_load Tryd.isAgg66 rfl (fun w hM => (hF w (hM.ok _ (List.mem_of_getElem? (i := 1) rfl))).1)) rfl rfl rfl ?_
  refine gop (y_move (v := .int _ _) rfl) rfl rfl rfl ?_
  refine gop (y_move (v := .int _ _) rfl) rfl rfl rfl ?_
  refine gop (y_build (vs := [(0, .int _ _), (1, .int _ _)]) (cells := #[_, _]) rfl (bd69_0_1 _ _)) rfl rfl rfl ?_
  refine gop (y_lookup 0 (c := true) (v0 := .bool false) (u := .tuple #[.bool ((Go.Cf.look l (i, j)).getD false), .bool (Go.Cf.look l (i, j)).isSome]) key2 Tryd.underlying66 Tryd.zeroValue4 rfl (i, j) rfl rfl (by cases Go.Cf.look l (i, j) <;> rfl)) rfl rfl rfl ?_
  refine gop (y_move (v := .tuple #[.bool _, .bool _]) rfl) rfl rfl rfl ?_
  refine gop (y_extract (v := .bool _) rfl rfl) rfl rfl rfl ?_
  refine gop (y_extract (v := .bool _) rfl rfl) rfl rfl rfl ?_
  refine gop (y_assign (v := .bool _) rfl) rfl rfl rfl ?_
  refine gop (y_assign (v := .bool _) rfl) rfl rfl rfl ?_
  refine gops_nil ?_
  refine hN3 _ _ ?_
  refine gfrom [(0, .int _ _), (1, .int _ _), (2, .pointer (some _)), (3, .pointer (some _)), (4, .pointer (some _)), (5, .pointer (some _)), (9, .bool _), (10, .bool _)] ⟨rfl, rfl, rfl, rfl, rfl, rfl, rfl, rfl, trivial⟩ fun σ => ?_
  refine gseq fun N4 hN4 => ?_
  refine greg ?_
  refine gop (y_move (v := .bool _) rfl) rfl rfl rfl ?_
  refine gops_nil ?_
  refine hN4 _ _ ?_
  refine gfrom [(0, .int _ _), (1, .int _ _), (2, .pointer (some _)), (3, .pointer (some _)), (4, .pointer (some _)), (5, .pointer (some _)), (9, .bool _), (20, .bool _)] ⟨rfl, rfl, rfl, rfl, rfl, rfl, rfl, rfl, trivial⟩ fun σ => ?_
  refine gcond (b := _) rfl (fun hc20 => ?_) (fun hc20 => ?_)
  · 
    refine gseq fun N5 hN5 => ?_
    refine greg ?_
    refine gop (y_move (v := .bool _) rfl) rfl rfl rfl ?_
    refine gop (y_assign (v := .bool _) rfl) rfl rfl rfl ?_
    refine gops_nil ?_
    refine hN5 _ _ ?_
    refine gfrom [(8, .bool _)] ⟨rfl, trivial⟩ fun σ => ?_
    refine gret fun w1 hM => ?_
    refine ⟨_, res1 rfl (rt (v := .bool _) rfl), ?_⟩
    exact ⟨by rw [memo_hit hl hc20], l, hl, hM⟩
  · 
    refine gskip ?_
    refine hN2 _ _ ?_
    refine gfrom [(0, .int _ _), (1, .int _ _), (2, .pointer (some _)), (3, .pointer (some _)), (4, .pointer (some _)), (5, .pointer (some _))] ⟨rfl, rfl, rfl, rfl, rfl, rfl, trivial⟩ fun σ => ?_
    refine gseq fun N6 hN6 => ?_
    refine greg ?_
    refine gop (y_assign (v := .bool _) rfl) rfl rfl rfl ?_
    refine gops_nil ?_
    refine hN6 _ _ ?_
    refine gfrom [(0, .int _ _), (1, .int _ _), (2, .pointer (some _)), (3, .pointer (some _)), (4, .pointer (some _)), (5, .pointer (some _))] ⟨rfl, rfl, rfl, rfl, rfl, rfl, trivial⟩ fun σ => ?_
    refine gseq fun N7 hN7 => ?_
    refine gfrom [(0, .int _ _), (1, .int _ _), (2, .pointer (some _)), (3, .pointer (some _)), (4, .pointer (some _)), (5, .pointer (some _))] ⟨rfl, rfl, rfl, rfl, rfl, rfl, trivial⟩ fun σ => ?_
    refine gcut3 (Lf := [(0, .int _ _), (1, .int _ _), (2, .pointer (some _))]) (G := List ((Nat × Nat) × Bool)) (fun l1 => MemoOk (wkAt P N) l1) (fun l1 => [(11, .bool (wkAt P N i j))]) (fun l1 => [(0, mapr ek2 Value.bool mb l1)]) ⟨rfl, rfl, rfl, trivial⟩ ?_ ?_
    ·
      refine gblock ?_
      refine gseq fun N8 hN8 => ?_
      refine greg ?_
      refine gop (y_move (v := .int _ _) rfl) rfl rfl rfl ?_
      refine gop (y_load Tryd.isAgg37 rfl (fun w hM => (hF w (hM.ok _ (List.mem_of_getElem? (i := 1) rfl))).2.1)) rfl rfl rfl ?_
      refine gop (y_len Tryd.underlying37 rfl) rfl rfl rfl ?_
      refine gop (y_eql rfl rfl) rfl rfl rfl ?_
      refine gop (y_assign (v := .bool _) rfl) rfl rfl rfl ?_
      refine gops_nil ?_
      refine hN8 _ _ ?_
      refine gfrom [(0, .int _ _), (1, .int _ _), (2, .pointer (some _)), (3, .pointer (some _)), (4, .pointer (some _)), (5, .pointer (some _)), (45, .bool _)] ⟨rfl, rfl, rfl, rfl, rfl, rfl, rfl, trivial⟩ fun σ => ?_
      refine gcond (b := _) rfl (fun hc45 => ?_) (fun hc45 => ?_)
      · 
        replace hc45 := of_decide_eq_true hc45
        obtain rfl : i = P.length := by omega
        refine greg ?_
        refine gop (y_move (v := .int _ _) rfl) rfl rfl rfl ?_
        refine gop (y_load Tryd.isAgg37 rfl (fun w hM => (hF w (hM.ok _ (List.mem_of_getElem? (i := 1) rfl))).2.2.1)) rfl rfl rfl ?_
        refine gop (y_len Tryd.underlying37 rfl) rfl rfl rfl ?_
        refine gop (y_eql rfl rfl) rfl rfl rfl ?_
        refine gop (y_assign (v := .bool _) rfl) rfl rfl rfl ?_
        refine gops_nil ?_
        refine gcut3_end (l) (hl) ⟨congrArg Value.bool (wk_end hj).symm, trivial⟩ ⟨rfl, rfl, rfl, trivial⟩ ⟨_, rfl⟩
      · 
        replace hc45 := of_decide_eq_false hc45
        have hi1 : i < P.length := by omega
        obtain ⟨ad1, rfl, -, hca⟩ := hP.at_ hi1
        refine gseq fun N9 hN9 => ?_
        refine greg ?_
        refine gop (y_load Tryd.isAgg37 rfl (fun w hM => (hF w (hM.ok _ (List.mem_of_getElem? (i := 1) rfl))).2.1)) rfl rfl rfl ?_
        refine gop (y_move (v := .int _ _) rfl) rfl rfl rfl ?_
        refine gop (y_indexAddr (m := i) Tryd.underlying37 Tryd.sizeOf9 rfl rfl (by omega) (by omega) (by omega)) rfl rfl rfl ?_
        refine gop (y_load Tryd.isAgg9 rfl (cell_base (hca 0 _ rfl))) rfl rfl rfl ?_
        refine gop (y_eqls rfl rfl) rfl rfl rfl ?_
        refine gop (y_assign (v := .bool _) rfl) rfl rfl rfl ?_
        refine gops_nil ?_
        refine hN9 _ _ ?_
        refine gfrom [(0, .int _ _), (1, .int _ _), (2, .pointer (some _)), (3, .pointer (some _)), (4, .pointer (some _)), (5, .pointer (some _)), (54, .bool _)] ⟨rfl, rfl, rfl, rfl, rfl, rfl, rfl, trivial⟩ fun σ => ?_
        refine gcond (b := _) rfl (fun hc54 => ?_) (fun hc54 => ?_)
        · 
          refine greg ?_
          refine gop (y_load Tryd.isAgg67 rfl (fun w hM => (hF w (hM.ok _ (List.mem_of_getElem? (i := 1) rfl))).2.2.2)) rfl rfl rfl ?_
          refine gop (y_move (v := .int _ _) rfl) rfl rfl rfl ?_
          refine gop (y_add rfl rfl ⟨by omega, by omega⟩) rfl rfl rfl ?_
          refine gop (y_move (v := .int _ _) rfl) rfl rfl rfl ?_
          refine gop_does1 0 (fun v r G => ∃ l1, v = .bool (wkAt P N (i + 1) (j)) ∧ r = mapr ek2 Value.bool mb l1 ∧ MemoOk (wkAt P N) l1 ∧ G = []) (e_callv (vs := [.int _ _, .int _ _]) (cs := [.pointer (some ⟨b5, 0, none⟩), .pointer (some ⟨b2, 0, none⟩), .pointer (some ⟨b3, 0, none⟩), .pointer (some ⟨b6, 0, none⟩)]) rfl Tryd.func86 rfl (by kernel_rfl) rfl) rfl (fun w fr1 hfr hM => (ih (P.length - (i + 1) + (N.length - (j))) (by omega) (i + 1) (j) w _ fr1 (fun w1 ho => hF w1 (hfr 1 _ rfl (by decide) w1 ho)) rfl (by omega) (by omega) hl hM).mono fun _ _ ⟨he, l1, h1, h2⟩ => ⟨_, _, [], he, ⟨l1, rfl, rfl, h1, rfl⟩, h2⟩) rfl rfl rfl ?_
          rintro _ _ _ ⟨l1, rfl, rfl, hl1, rfl⟩
          refine gop (y_move (v := .bool _) rfl) rfl rfl rfl ?_
          refine gop_if (want := false) rfl rfl rfl rfl rfl rfl (fun hg65 => ?_) (fun hg65 => ?_)
          · 
            have hg65d := hg65
            refine gop (y_bare (y_move (v := .int _ _) rfl)) rfl rfl rfl ?_
            refine gop_on rfl rfl rfl rfl hg65 ?_
            refine gop (y_bare (y_load Tryd.isAgg37 rfl (fun w hM => (hF w (hM.ok _ (List.mem_of_getElem? (i := 1) rfl))).2.2.1))) rfl rfl rfl ?_
            refine gop_on rfl rfl rfl rfl hg65 ?_
            refine gop (y_bare (y_len Tryd.underlying37 rfl)) rfl rfl rfl ?_
            refine gop_on rfl rfl rfl rfl hg65 ?_
            refine gop (y_bare (y_lss rfl rfl)) rfl rfl rfl ?_
            refine gop_on rfl rfl rfl rfl hg65 ?_
            refine gop (y_bare (y_move (v := .bool _) rfl)) rfl rfl rfl ?_
            refine gop_if (want := true) rfl rfl rfl rfl rfl rfl (fun hg70 => ?_) (fun hg70 => ?_)
            · 
              have hg70d := of_decide_eq_true hg70
              refine gop (y_bare (y_load Tryd.isAgg67 rfl (fun w hM => (hF w (hM.ok _ (List.mem_of_getElem? (i := 1) rfl))).2.2.2))) rfl rfl rfl ?_
              refine gop_on rfl rfl rfl rfl hg70 ?_
              refine gop (y_bare (y_move (v := .int _ _) rfl)) rfl rfl rfl ?_
              refine gop_on rfl rfl rfl rfl hg70 ?_
              refine gop (y_bare (y_move (v := .int _ _) rfl)) rfl rfl rfl ?_
              refine gop_on rfl rfl rfl rfl hg70 ?_
              refine gop (y_bare (y_add rfl rfl ⟨by omega, by omega⟩)) rfl rfl rfl ?_
              refine gop_on rfl rfl rfl rfl hg70 ?_
              refine gop_does1 0 (fun v r G => ∃ l1, v = .bool (wkAt P N (i) (j + 1)) ∧ r = mapr ek2 Value.bool mb l1 ∧ MemoOk (wkAt P N) l1 ∧ G = []) (e_callv (vs := [.int _ _, .int _ _]) (cs := [.pointer (some ⟨b5, 0, none⟩), .pointer (some ⟨b2, 0, none⟩), .pointer (some ⟨b3, 0, none⟩), .pointer (some ⟨b6, 0, none⟩)]) rfl Tryd.func86 rfl (by kernel_rfl) rfl) rfl (fun w fr1 hfr hM => (ih (P.length - (i) + (N.length - (j + 1))) (by omega) (i) (j + 1) w _ fr1 (fun w1 ho => hF w1 (hfr 1 _ rfl (by decide) w1 ho)) rfl (by omega) (by omega) hl1 hM).mono fun _ _ ⟨he, l1, h1, h2⟩ => ⟨_, _, [], he, ⟨l1, rfl, rfl, h1, rfl⟩, h2⟩) rfl rfl rfl ?_
              rintro _ _ _ ⟨l2, rfl, rfl, hl2, rfl⟩
              refine gop_on rfl rfl rfl rfl hg65 ?_
              refine gop (y_bare (y_pick_t (v := .bool _) rfl hg70 rfl)) rfl rfl rfl ?_
              refine gop (y_pick_f (v := .bool _) rfl hg65 rfl) rfl rfl rfl ?_
              refine gop (y_assign (v := .bool _) rfl) rfl rfl rfl ?_
              refine gops_nil ?_
              refine gcut3_end (l2) (hl2) ⟨congrArg Value.bool (wk_star2 hi1 hc54 hg65d (by omega)).symm, trivial⟩ ⟨rfl, rfl, rfl, trivial⟩ ⟨_, rfl⟩
            · 
              have hg70d := of_decide_eq_false hg70
              refine gop_off rfl rfl rfl rfl hg70 rfl rfl ?_
              refine gop_off rfl rfl rfl rfl hg70 rfl rfl ?_
              refine gop_off rfl rfl rfl rfl hg70 rfl rfl ?_
              refine gop_off rfl rfl rfl rfl hg70 rfl rfl ?_
              refine gop_on rfl rfl rfl rfl hg65 ?_
              refine gop (y_bare (y_pick_f (v := .bool _) rfl hg70 rfl)) rfl rfl rfl ?_
              refine gop (y_pick_f (v := .bool _) rfl hg65 rfl) rfl rfl rfl ?_
              refine gop (y_assign (v := .bool _) rfl) rfl rfl rfl ?_
              refine gops_nil ?_
              refine gcut3_end (l1) (hl1) ⟨congrArg Value.bool (wk_star3 hi1 hc54 hg65d (by omega)).symm, trivial⟩ ⟨rfl, rfl, rfl, trivial⟩ ⟨_, rfl⟩
          · 
            have hg65d := hg65
            refine gop_off rfl rfl rfl rfl hg65 rfl rfl ?_
            refine gop_off rfl rfl rfl rfl hg65 rfl rfl ?_
            refine gop_off rfl rfl rfl rfl hg65 rfl rfl ?_
            refine gop_off rfl rfl rfl rfl hg65 rfl rfl ?_
            refine gop_offu rfl rfl rfl rfl rfl rfl ?_
            refine gop_offu rfl rfl rfl rfl rfl rfl ?_
            refine gop_offu rfl rfl rfl rfl rfl rfl ?_
            refine gop_offu rfl rfl rfl rfl rfl rfl ?_
            refine gop_offu rfl rfl rfl rfl rfl rfl ?_
            refine gop_off rfl rfl rfl rfl hg65 rfl rfl ?_
            refine gop (y_pick_t (v := .bool _) rfl hg65 rfl) rfl rfl rfl ?_
            refine gop (y_assign (v := .bool _) rfl) rfl rfl rfl ?_
            refine gops_nil ?_
            refine gcut3_end (l1) (hl1) ⟨congrArg Value.bool (wk_star1 hi1 hc54 (by simpa using hg65d)).symm, trivial⟩ ⟨rfl, rfl, rfl, trivial⟩ ⟨_, rfl⟩
        · 
          refine greg_e0 [21] (by kernel_rfl) ?_
          refine ge_take 0 (TK := [mapr _ _ _ _, fr]) rfl (by kernel_rfl) (by kernel_rfl) (by kernel_rfl) #[false, true, true, false, false, false, false, false, false, false, false, false, false, false, false, false, false, false, false, false, false, false, false, false] (by kernel_rfl) rfl (y_move (v := .int _ _) rfl) rfl rfl rfl (weak_refl) (listed' := #[true, false, false, false, false, false, false, false, false, false, false, false, false, false, false, false, false, false, false, false, false, false, false, false]) rfl ?_
          refine ge_take 1 (TK := [mapr _ _ _ _, fr]) rfl (by kernel_rfl) (by kernel_rfl) (by kernel_rfl) #[true, false, false, false, false, false, false, false, false, false, false, false, false, false, false, false, false, false, false, false, false, false, false, false] (by kernel_rfl) rfl (y_load Tryd.isAgg37 rfl (fun w hM => (hF w (hM.ok _ (List.mem_of_getElem? (i := 1) rfl))).2.2.1)) rfl rfl rfl (weak_refl) (listed' := #[true, true, false, false, false, false, false, false, false, false, false, false, false, false, false, false, false, false, false, false, false, false, false, false]) rfl ?_
          refine ge_take 2 (TK := [mapr _ _ _ _, fr]) rfl (by kernel_rfl) (by kernel_rfl) (by kernel_rfl) #[true, true, false, false, false, false, false, false, false, false, false, false, false, false, false, false, false, false, false, false, false, false, false, false] (by kernel_rfl) rfl (y_len Tryd.underlying37 rfl) rfl rfl rfl (weak_refl) (listed' := #[true, true, true, false, false, false, false, false, false, false, false, false, false, false, false, false, false, false, false, false, false, false, false, false]) rfl ?_
          refine ge_take 3 (TK := [mapr _ _ _ _, fr]) rfl (by kernel_rfl) (by kernel_rfl) (by kernel_rfl) #[true, true, true, false, false, false, false, false, false, false, false, false, false, false, false, false, false, false, false, false, false, false, false, false] (by kernel_rfl) rfl (y_lss rfl rfl) rfl rfl rfl (weak_refl) (listed' := #[true, true, true, true, false, false, false, false, false, false, false, false, false, false, false, false, false, false, false, false, false, false, false, false]) rfl ?_
          refine ge_take 4 (TK := [mapr _ _ _ _, fr]) rfl (by kernel_rfl) (by kernel_rfl) (by kernel_rfl) #[true, true, true, true, false, false, false, false, false, false, false, false, false, false, false, false, false, false, false, false, false, false, false, false] (by kernel_rfl) rfl (y_move (v := .bool _) rfl) rfl rfl rfl (weak_refl) (listed' := #[true, true, true, true, true, false, false, false, false, false, false, false, false, false, false, false, false, false, false, false, false, false, false, false]) rfl ?_
          refine ge_dec 26 true rfl (fun hg26 => ?_) (fun hg26 => ?_)
          · 
            have hg26d := of_decide_eq_true hg26
            have hj1 : j < N.length := by omega
            obtain ⟨ad2, rfl, -, hcb⟩ := hN.at_ hj1
            refine ge_take_on 5 (TK := [mapr _ _ _ _, fr]) rfl (by kernel_rfl) (by kernel_rfl) (by kernel_rfl) #[true, true, true, true, true, false, true, false, false, true, true, true, true, false, false, false, false, false, false, false, false, false, false, false] (by kernel_rfl) rfl rfl rfl rfl rfl hg26 (y_bare (y_load Tryd.isAgg37 rfl (fun w hM => (hF w (hM.ok _ (List.mem_of_getElem? (i := 1) rfl))).2.1))) rfl rfl (weak_refl) (listed' := #[true, true, true, true, true, true, false, false, false, false, false, false, false, false, false, false, false, false, false, false, false, false, false, false]) rfl ?_
            refine ge_take_on 6 (TK := [mapr _ _ _ _, fr]) rfl (by kernel_rfl) (by kernel_rfl) (by kernel_rfl) #[true, true, true, true, true, true, false, false, false, true, true, true, true, false, false, false, false, false, false, false, false, false, false, false] (by kernel_rfl) rfl rfl rfl rfl rfl hg26 (y_bare (y_move (v := .int _ _) rfl)) rfl rfl (weak_refl) (listed' := #[true, true, true, true, true, true, true, false, false, false, false, false, false, false, false, false, false, false, false, false, false, false, false, false]) rfl ?_
            refine ge_take_on 7 (TK := [mapr _ _ _ _, fr]) rfl (by kernel_rfl) (by kernel_rfl) (by kernel_rfl) #[true, true, true, true, true, true, true, false, false, true, true, true, true, false, false, false, false, false, false, false, false, false, false, false] (by kernel_rfl) rfl rfl rfl rfl rfl hg26 (y_bare (y_indexAddr (m := i) Tryd.underlying37 Tryd.sizeOf9 rfl rfl (by omega) (by omega) (by omega))) rfl rfl (weak_refl) (listed' := #[true, true, true, true, true, true, true, true, false, false, false, false, false, false, false, false, false, false, false, false, false, false, false, false]) rfl ?_
            refine ge_take_on 8 (TK := [mapr _ _ _ _, fr]) rfl (by kernel_rfl) (by kernel_rfl) (by kernel_rfl) #[true, true, true, true, true, true, true, true, false, true, true, true, true, false, false, false, false, false, false, false, false, false, false, false] (by kernel_rfl) rfl rfl rfl rfl rfl hg26 (y_bare (y_load Tryd.isAgg9 rfl (cell_base (hca 0 _ rfl)))) rfl rfl (weak_refl) (listed' := #[true, true, true, true, true, true, true, true, true, false, false, false, false, false, false, false, false, false, false, false, false, false, false, false]) rfl ?_
            refine ge_take_on 9 (TK := [mapr _ _ _ _, fr]) rfl (by kernel_rfl) (by kernel_rfl) (by kernel_rfl) #[true, true, true, true, true, true, true, true, true, false, true, false, false, false, false, false, false, false, false, false, false, false, false, false] (by kernel_rfl) rfl rfl rfl rfl rfl hg26 (y_bare (y_load Tryd.isAgg37 rfl (fun w hM => (hF w (hM.ok _ (List.mem_of_getElem? (i := 1) rfl))).2.2.1))) rfl rfl (weak_refl) (listed' := #[true, true, true, true, true, true, true, true, true, true, false, false, false, false, false, false, false, false, false, false, false, false, false, false]) rfl ?_
            refine ge_take_on 10 (TK := [mapr _ _ _ _, fr]) rfl (by kernel_rfl) (by kernel_rfl) (by kernel_rfl) #[true, true, true, true, true, true, true, true, true, true, false, false, false, false, false, false, false, false, false, false, false, false, false, false] (by kernel_rfl) rfl rfl rfl rfl rfl hg26 (y_bare (y_move (v := .int _ _) rfl)) rfl rfl (weak_refl) (listed' := #[true, true, true, true, true, true, true, true, true, true, true, false, false, false, false, false, false, false, false, false, false, false, false, false]) rfl ?_
            refine ge_take_on 11 (TK := [mapr _ _ _ _, fr]) rfl (by kernel_rfl) (by kernel_rfl) (by kernel_rfl) #[true, true, true, true, true, true, true, true, true, true, true, false, false, false, false, false, false, false, false, false, false, false, false, false] (by kernel_rfl) rfl rfl rfl rfl rfl hg26 (y_bare (y_indexAddr (m := j) Tryd.underlying37 Tryd.sizeOf9 rfl rfl (by omega) (by omega) (by omega))) rfl rfl (weak_refl) (listed' := #[true, true, true, true, true, true, true, true, true, true, true, true, false, false, false, false, false, false, false, false, false, false, false, false]) rfl ?_
            refine ge_take_on 12 (TK := [mapr _ _ _ _, fr]) rfl (by kernel_rfl) (by kernel_rfl) (by kernel_rfl) #[true, true, true, true, true, true, true, true, true, true, true, true, false, false, false, false, false, false, false, false, false, false, false, false] (by kernel_rfl) rfl rfl rfl rfl rfl hg26 (y_bare (y_load Tryd.isAgg9 rfl (cell_base (hcb 0 _ rfl)))) rfl rfl (weak_refl) (listed' := #[true, true, true, true, true, true, true, true, true, true, true, true, true, false, false, false, false, false, false, false, false, false, false, false]) rfl ?_
            refine ge_one 13 (k' := 0) (listed' := #[true, true, true, true, true, true, true, true, true, true, true, true, true, true, false, false, false, false, false, false, false, false, false, false]) (by kernel_rfl) rfl rfl rfl ?_
            refine gop_on rfl rfl rfl rfl hg26 ?_
            refine gop_pure (e_call (vs := [.string _, .string _]) Tryd.func87 rfl (by kernel_rfl) rfl) (fun w hM => name_any w _ _ (hPs _ (List.getElem_mem hi1)) (hNs _ (List.getElem_mem hj1))) rfl rfl rfl ?_
            refine gops_nil ?_
            refine ge_fin (TK := [mapr _ _ _ _, fr]) rfl (weak_refl) ?_
            refine ge_take 14 (TK := [mapr _ _ _ _, fr]) rfl (by kernel_rfl) (by kernel_rfl) (by kernel_rfl) #[true, true, true, true, true, true, true, true, true, true, true, true, true, true, false, false, false, false, false, false, false, false, false, false] (by kernel_rfl) rfl (y_pick_t (v := .bool _) rfl hg26 rfl) rfl rfl rfl (weak_refl) (listed' := #[true, true, true, true, true, true, true, true, true, true, true, true, true, true, true, false, false, false, false, false, false, false, false, false]) rfl ?_
            refine ge_take 15 (TK := [mapr _ _ _ _, fr]) rfl (by kernel_rfl) (by kernel_rfl) (by kernel_rfl) #[true, true, true, true, true, true, true, true, true, true, true, true, true, true, true, false, false, false, false, false, false, false, false, false] (by kernel_rfl) rfl (y_move (v := .bool _) rfl) rfl rfl rfl (weak_refl) (listed' := #[true, true, true, true, true, true, true, true, true, true, true, true, true, true, true, true, false, false, false, false, false, false, false, false]) rfl ?_
            refine ge_dec 37 true rfl (fun hg37 => ?_) (fun hg37 => ?_)
            · 
              have hg37d := hg37
              refine ge_take_on 16 (TK := [mapr _ _ _ _, fr]) rfl (by kernel_rfl) (by kernel_rfl) (by kernel_rfl) #[true, true, true, true, true, true, true, true, true, true, true, true, true, true, true, true, false, true, true, true, true, false, false, false] (by kernel_rfl) rfl rfl rfl rfl rfl hg37 (y_bare (y_load Tryd.isAgg67 rfl (fun w hM => (hF w (hM.ok _ (List.mem_of_getElem? (i := 1) rfl))).2.2.2))) rfl rfl (weak_refl) (listed' := #[true, true, true, true, true, true, true, true, true, true, true, true, true, true, true, true, true, false, false, false, false, false, false, false]) rfl ?_
              refine ge_take_on 17 (TK := [mapr _ _ _ _, fr]) rfl (by kernel_rfl) (by kernel_rfl) (by kernel_rfl) #[true, true, true, true, true, true, true, true, true, true, true, true, true, true, true, true, true, false, false, true, true, false, false, false] (by kernel_rfl) rfl rfl rfl rfl rfl hg37 (y_bare (y_move (v := .int _ _) rfl)) rfl rfl (weak_refl) (listed' := #[true, true, true, true, true, true, true, true, true, true, true, true, true, true, true, true, true, true, false, false, false, false, false, false]) rfl ?_
              refine ge_take_on 18 (TK := [mapr _ _ _ _, fr]) rfl (by kernel_rfl) (by kernel_rfl) (by kernel_rfl) #[true, true, true, true, true, true, true, true, true, true, true, true, true, true, true, true, true, true, false, true, true, false, false, false] (by kernel_rfl) rfl rfl rfl rfl rfl hg37 (y_bare (y_add rfl rfl ⟨by omega, by omega⟩)) rfl rfl (weak_refl) (listed' := #[true, true, true, true, true, true, true, true, true, true, true, true, true, true, true, true, true, true, true, false, false, false, false, false]) rfl ?_
              refine ge_take_on 19 (TK := [mapr _ _ _ _, fr]) rfl (by kernel_rfl) (by kernel_rfl) (by kernel_rfl) #[true, true, true, true, true, true, true, true, true, true, true, true, true, true, true, true, true, true, true, false, false, false, false, false] (by kernel_rfl) rfl rfl rfl rfl rfl hg37 (y_bare (y_move (v := .int _ _) rfl)) rfl rfl (weak_refl) (listed' := #[true, true, true, true, true, true, true, true, true, true, true, true, true, true, true, true, true, true, true, true, false, false, false, false]) rfl ?_
              refine ge_take_on 20 (TK := [mapr _ _ _ _, fr]) rfl (by kernel_rfl) (by kernel_rfl) (by kernel_rfl) #[true, true, true, true, true, true, true, true, true, true, true, true, true, true, true, true, true, true, true, true, false, false, false, false] (by kernel_rfl) rfl rfl rfl rfl rfl hg37 (y_bare (y_add rfl rfl ⟨by omega, by omega⟩)) rfl rfl (weak_refl) (listed' := #[true, true, true, true, true, true, true, true, true, true, true, true, true, true, true, true, true, true, true, true, true, false, false, false]) rfl ?_
              refine ge_one 21 (k' := 1) (listed' := #[true, true, true, true, true, true, true, true, true, true, true, true, true, true, true, true, true, true, true, true, true, true, false, false]) (by kernel_rfl) rfl rfl rfl ?_
              refine gop_on rfl rfl rfl rfl hg37 ?_
              refine gop_does1 0 (fun v r G => ∃ l1, v = .bool (wkAt P N (i + 1) (j + 1)) ∧ r = mapr ek2 Value.bool mb l1 ∧ MemoOk (wkAt P N) l1 ∧ G = []) (e_callv (vs := [.int _ _, .int _ _]) (cs := [.pointer (some ⟨b5, 0, none⟩), .pointer (some ⟨b2, 0, none⟩), .pointer (some ⟨b3, 0, none⟩), .pointer (some ⟨b6, 0, none⟩)]) rfl Tryd.func86 rfl (by kernel_rfl) rfl) rfl (fun w fr1 hfr hM => (ih (P.length - (i + 1) + (N.length - (j + 1))) (by omega) (i + 1) (j + 1) w _ fr1 (fun w1 ho => hF w1 (hfr 1 _ rfl (by decide) w1 ho)) rfl (by omega) (by omega) hl hM).mono fun _ _ ⟨he, l1, h1, h2⟩ => ⟨_, _, [], he, ⟨l1, rfl, rfl, h1, rfl⟩, h2⟩) rfl rfl rfl ?_
              rintro _ _ _ ⟨l1, rfl, rfl, hl1, rfl⟩
              refine gops_nil ?_
              refine ge_fin (TK := []) rfl (weak_nil) ?_
              refine ge_take 22 (TK := []) rfl (by kernel_rfl) (by kernel_rfl) (by kernel_rfl) #[true, true, true, true, true, true, true, true, true, true, true, true, true, true, true, true, true, true, true, true, true, true, false, false] (by kernel_rfl) rfl (y_pick_t (v := .bool _) rfl hg37 rfl) rfl rfl rfl (weak_nil) (listed' := #[true, true, true, true, true, true, true, true, true, true, true, true, true, true, true, true, true, true, true, true, true, true, true, false]) rfl ?_
              refine ge_take 23 (TK := []) rfl (by kernel_rfl) (by kernel_rfl) (by kernel_rfl) #[true, true, true, true, true, true, true, true, true, true, true, true, true, true, true, true, true, true, true, true, true, true, true, false] (by kernel_rfl) rfl (y_assign (v := .bool _) rfl) rfl rfl rfl (weak_nil) (listed' := #[true, true, true, true, true, true, true, true, true, true, true, true, true, true, true, true, true, true, true, true, true, true, true, true]) rfl ?_
              refine ge_done (by kernel_rfl) ?_
              refine gcut3_end (l1) (hl1) ⟨congrArg Value.bool (by rw [wk_name hi1 hc54 hj1, hg37d, Bool.true_and]), trivial⟩ ⟨rfl, rfl, rfl, trivial⟩ ⟨_, rfl⟩
            · 
              have hg37d := hg37
              refine ge_take_off 16 (TK := [mapr _ _ _ _, fr]) rfl (by kernel_rfl) (by kernel_rfl) (by kernel_rfl) #[true, true, true, true, true, true, true, true, true, true, true, true, true, true, true, true, false, true, true, true, true, false, false, false] (by kernel_rfl) rfl rfl rfl rfl rfl (off_of hg37) rfl rfl (weak_refl) (listed' := #[true, true, true, true, true, true, true, true, true, true, true, true, true, true, true, true, true, false, false, false, false, false, false, false]) rfl ?_
              refine ge_take_off 17 (TK := [mapr _ _ _ _, fr]) rfl (by kernel_rfl) (by kernel_rfl) (by kernel_rfl) #[true, true, true, true, true, true, true, true, true, true, true, true, true, true, true, true, true, false, false, true, true, false, false, false] (by kernel_rfl) rfl rfl rfl rfl rfl (off_of hg37) rfl rfl (weak_refl) (listed' := #[true, true, true, true, true, true, true, true, true, true, true, true, true, true, true, true, true, true, false, false, false, false, false, false]) rfl ?_
              refine ge_take_off 18 (TK := [mapr _ _ _ _, fr]) rfl (by kernel_rfl) (by kernel_rfl) (by kernel_rfl) #[true, true, true, true, true, true, true, true, true, true, true, true, true, true, true, true, true, true, false, true, true, false, false, false] (by kernel_rfl) rfl rfl rfl rfl rfl (off_of hg37) rfl rfl (weak_refl) (listed' := #[true, true, true, true, true, true, true, true, true, true, true, true, true, true, true, true, true, true, true, false, false, false, false, false]) rfl ?_
              refine ge_take_off 19 (TK := [mapr _ _ _ _, fr]) rfl (by kernel_rfl) (by kernel_rfl) (by kernel_rfl) #[true, true, true, true, true, true, true, true, true, true, true, true, true, true, true, true, true, true, true, false, false, false, false, false] (by kernel_rfl) rfl rfl rfl rfl rfl (off_of hg37) rfl rfl (weak_refl) (listed' := #[true, true, true, true, true, true, true, true, true, true, true, true, true, true, true, true, true, true, true, true, false, false, false, false]) rfl ?_
              refine ge_take_off 20 (TK := [mapr _ _ _ _, fr]) rfl (by kernel_rfl) (by kernel_rfl) (by kernel_rfl) #[true, true, true, true, true, true, true, true, true, true, true, true, true, true, true, true, true, true, true, true, false, false, false, false] (by kernel_rfl) rfl rfl rfl rfl rfl (off_of hg37) rfl rfl (weak_refl) (listed' := #[true, true, true, true, true, true, true, true, true, true, true, true, true, true, true, true, true, true, true, true, true, false, false, false]) rfl ?_
              refine ge_one 21 (k' := 1) (listed' := #[true, true, true, true, true, true, true, true, true, true, true, true, true, true, true, true, true, true, true, true, true, true, false, false]) (by kernel_rfl) rfl rfl rfl ?_
              refine gop_off rfl rfl rfl rfl hg37 rfl rfl ?_
              refine gops_nil ?_
              refine ge_fin (TK := []) rfl (weak_nil) ?_
              refine ge_take 22 (TK := []) rfl (by kernel_rfl) (by kernel_rfl) (by kernel_rfl) #[true, true, true, true, true, true, true, true, true, true, true, true, true, true, true, true, true, true, true, true, true, true, false, false] (by kernel_rfl) rfl (y_pick_f (v := .bool _) rfl hg37 rfl) rfl rfl rfl (weak_nil) (listed' := #[true, true, true, true, true, true, true, true, true, true, true, true, true, true, true, true, true, true, true, true, true, true, true, false]) rfl ?_
              refine ge_take 23 (TK := []) rfl (by kernel_rfl) (by kernel_rfl) (by kernel_rfl) #[true, true, true, true, true, true, true, true, true, true, true, true, true, true, true, true, true, true, true, true, true, true, true, false] (by kernel_rfl) rfl (y_assign (v := .bool _) rfl) rfl rfl rfl (weak_nil) (listed' := #[true, true, true, true, true, true, true, true, true, true, true, true, true, true, true, true, true, true, true, true, true, true, true, true]) rfl ?_
              refine ge_done (by kernel_rfl) ?_
              refine gcut3_end (l) (hl) ⟨congrArg Value.bool (by rw [wk_name hi1 hc54 hj1, hg37d]; rfl), trivial⟩ ⟨rfl, rfl, rfl, trivial⟩ ⟨_, rfl⟩
          · 
            have hg26d := of_decide_eq_false hg26
            refine ge_take_off 5 (TK := [mapr _ _ _ _, fr]) rfl (by kernel_rfl) (by kernel_rfl) (by kernel_rfl) #[true, true, true, true, true, false, true, false, false, true, true, true, true, false, false, false, false, false, false, false, false, false, false, false] (by kernel_rfl) rfl rfl rfl rfl rfl (off_of hg26) rfl rfl (weak_refl) (listed' := #[true, true, true, true, true, true, false, false, false, false, false, false, false, false, false, false, false, false, false, false, false, false, false, false]) rfl ?_
            refine ge_take_off 6 (TK := [mapr _ _ _ _, fr]) rfl (by kernel_rfl) (by kernel_rfl) (by kernel_rfl) #[true, true, true, true, true, true, false, false, false, true, true, true, true, false, false, false, false, false, false, false, false, false, false, false] (by kernel_rfl) rfl rfl rfl rfl rfl (off_of hg26) rfl rfl (weak_refl) (listed' := #[true, true, true, true, true, true, true, false, false, false, false, false, false, false, false, false, false, false, false, false, false, false, false, false]) rfl ?_
            refine ge_take_off 7 (TK := [mapr _ _ _ _, fr]) rfl (by kernel_rfl) (by kernel_rfl) (by kernel_rfl) #[true, true, true, true, true, true, true, false, false, true, true, true, true, false, false, false, false, false, false, false, false, false, false, false] (by kernel_rfl) rfl rfl rfl rfl rfl (off_of hg26) rfl rfl (weak_refl) (listed' := #[true, true, true, true, true, true, true, true, false, false, false, false, false, false, false, false, false, false, false, false, false, false, false, false]) rfl ?_
            refine ge_take_off 8 (TK := [mapr _ _ _ _, fr]) rfl (by kernel_rfl) (by kernel_rfl) (by kernel_rfl) #[true, true, true, true, true, true, true, true, false, true, true, true, true, false, false, false, false, false, false, false, false, false, false, false] (by kernel_rfl) rfl rfl rfl rfl rfl (off_of hg26) rfl rfl (weak_refl) (listed' := #[true, true, true, true, true, true, true, true, true, false, false, false, false, false, false, false, false, false, false, false, false, false, false, false]) rfl ?_
            refine ge_take_off 9 (TK := [mapr _ _ _ _, fr]) rfl (by kernel_rfl) (by kernel_rfl) (by kernel_rfl) #[true, true, true, true, true, true, true, true, true, false, true, false, false, false, false, false, false, false, false, false, false, false, false, false] (by kernel_rfl) rfl rfl rfl rfl rfl (off_of hg26) rfl rfl (weak_refl) (listed' := #[true, true, true, true, true, true, true, true, true, true, false, false, false, false, false, false, false, false, false, false, false, false, false, false]) rfl ?_
            refine ge_take_off 10 (TK := [mapr _ _ _ _, fr]) rfl (by kernel_rfl) (by kernel_rfl) (by kernel_rfl) #[true, true, true, true, true, true, true, true, true, true, false, false, false, false, false, false, false, false, false, false, false, false, false, false] (by kernel_rfl) rfl rfl rfl rfl rfl (off_of hg26) rfl rfl (weak_refl) (listed' := #[true, true, true, true, true, true, true, true, true, true, true, false, false, false, false, false, false, false, false, false, false, false, false, false]) rfl ?_
            refine ge_take_off 11 (TK := [mapr _ _ _ _, fr]) rfl (by kernel_rfl) (by kernel_rfl) (by kernel_rfl) #[true, true, true, true, true, true, true, true, true, true, true, false, false, false, false, false, false, false, false, false, false, false, false, false] (by kernel_rfl) rfl rfl rfl rfl rfl (off_of hg26) rfl rfl (weak_refl) (listed' := #[true, true, true, true, true, true, true, true, true, true, true, true, false, false, false, false, false, false, false, false, false, false, false, false]) rfl ?_
            refine ge_take_off 12 (TK := [mapr _ _ _ _, fr]) rfl (by kernel_rfl) (by kernel_rfl) (by kernel_rfl) #[true, true, true, true, true, true, true, true, true, true, true, true, false, false, false, false, false, false, false, false, false, false, false, false] (by kernel_rfl) rfl rfl rfl rfl rfl (off_of hg26) rfl rfl (weak_refl) (listed' := #[true, true, true, true, true, true, true, true, true, true, true, true, true, false, false, false, false, false, false, false, false, false, false, false]) rfl ?_
            refine ge_one 13 (k' := 0) (listed' := #[true, true, true, true, true, true, true, true, true, true, true, true, true, true, false, false, false, false, false, false, false, false, false, false]) (by kernel_rfl) rfl rfl rfl ?_
            refine gop_off rfl rfl rfl rfl hg26 rfl rfl ?_
            refine gops_nil ?_
            refine ge_fin (TK := [mapr _ _ _ _, fr]) rfl (weak_refl) ?_
            refine ge_take 14 (TK := [mapr _ _ _ _, fr]) rfl (by kernel_rfl) (by kernel_rfl) (by kernel_rfl) #[true, true, true, true, true, true, true, true, true, true, true, true, true, true, false, false, false, false, false, false, false, false, false, false] (by kernel_rfl) rfl (y_pick_f (v := .bool _) rfl hg26 rfl) rfl rfl rfl (weak_refl) (listed' := #[true, true, true, true, true, true, true, true, true, true, true, true, true, true, true, false, false, false, false, false, false, false, false, false]) rfl ?_
            refine ge_take 15 (TK := [mapr _ _ _ _, fr]) rfl (by kernel_rfl) (by kernel_rfl) (by kernel_rfl) #[true, true, true, true, true, true, true, true, true, true, true, true, true, true, true, false, false, false, false, false, false, false, false, false] (by kernel_rfl) rfl (y_move (v := .bool _) rfl) rfl rfl rfl (weak_refl) (listed' := #[true, true, true, true, true, true, true, true, true, true, true, true, true, true, true, true, false, false, false, false, false, false, false, false]) rfl ?_
            refine ge_take_off 16 (TK := [mapr _ _ _ _, fr]) rfl (by kernel_rfl) (by kernel_rfl) (by kernel_rfl) #[true, true, true, true, true, true, true, true, true, true, true, true, true, true, true, true, false, true, true, true, true, false, false, false] (by kernel_rfl) rfl rfl rfl rfl rfl (off_of rfl) rfl rfl (weak_refl) (listed' := #[true, true, true, true, true, true, true, true, true, true, true, true, true, true, true, true, true, false, false, false, false, false, false, false]) rfl ?_
            refine ge_take_off 17 (TK := [mapr _ _ _ _, fr]) rfl (by kernel_rfl) (by kernel_rfl) (by kernel_rfl) #[true, true, true, true, true, true, true, true, true, true, true, true, true, true, true, true, true, false, false, true, true, false, false, false] (by kernel_rfl) rfl rfl rfl rfl rfl (off_of rfl) rfl rfl (weak_refl) (listed' := #[true, true, true, true, true, true, true, true, true, true, true, true, true, true, true, true, true, true, false, false, false, false, false, false]) rfl ?_
            refine ge_take_off 18 (TK := [mapr _ _ _ _, fr]) rfl (by kernel_rfl) (by kernel_rfl) (by kernel_rfl) #[true, true, true, true, true, true, true, true, true, true, true, true, true, true, true, true, true, true, false, true, true, false, false, false] (by kernel_rfl) rfl rfl rfl rfl rfl (off_of rfl) rfl rfl (weak_refl) (listed' := #[true, true, true, true, true, true, true, true, true, true, true, true, true, true, true, true, true, true, true, false, false, false, false, false]) rfl ?_
            refine ge_take_off 19 (TK := [mapr _ _ _ _, fr]) rfl (by kernel_rfl) (by kernel_rfl) (by kernel_rfl) #[true, true, true, true, true, true, true, true, true, true, true, true, true, true, true, true, true, true, true, false, false, false, false, false] (by kernel_rfl) rfl rfl rfl rfl rfl (off_of rfl) rfl rfl (weak_refl) (listed' := #[true, true, true, true, true, true, true, true, true, true, true, true, true, true, true, true, true, true, true, true, false, false, false, false]) rfl ?_
            refine ge_take_off 20 (TK := [mapr _ _ _ _, fr]) rfl (by kernel_rfl) (by kernel_rfl) (by kernel_rfl) #[true, true, true, true, true, true, true, true, true, true, true, true, true, true, true, true, true, true, true, true, false, false, false, false] (by kernel_rfl) rfl rfl rfl rfl rfl (off_of rfl) rfl rfl (weak_refl) (listed' := #[true, true, true, true, true, true, true, true, true, true, true, true, true, true, true, true, true, true, true, true, true, false, false, false]) rfl ?_
            refine ge_one 21 (k' := 1) (listed' := #[true, true, true, true, true, true, true, true, true, true, true, true, true, true, true, true, true, true, true, true, true, true, false, false]) (by kernel_rfl) rfl rfl rfl ?_
            refine gop_off rfl rfl rfl rfl rfl rfl rfl ?_
            refine gops_nil ?_
            refine ge_fin (TK := []) rfl (weak_nil) ?_
            refine ge_take 22 (TK := []) rfl (by kernel_rfl) (by kernel_rfl) (by kernel_rfl) #[true, true, true, true, true, true, true, true, true, true, true, true, true, true, true, true, true, true, true, true, true, true, false, false] (by kernel_rfl) rfl (y_pick_f (v := .bool _) rfl rfl rfl) rfl rfl rfl (weak_nil) (listed' := #[true, true, true, true, true, true, true, true, true, true, true, true, true, true, true, true, true, true, true, true, true, true, true, false]) rfl ?_
            refine ge_take 23 (TK := []) rfl (by kernel_rfl) (by kernel_rfl) (by kernel_rfl) #[true, true, true, true, true, true, true, true, true, true, true, true, true, true, true, true, true, true, true, true, true, true, true, false] (by kernel_rfl) rfl (y_assign (v := .bool _) rfl) rfl rfl rfl (weak_nil) (listed' := #[true, true, true, true, true, true, true, true, true, true, true, true, true, true, true, true, true, true, true, true, true, true, true, true]) rfl ?_
            refine ge_done (by kernel_rfl) ?_
            refine gcut3_end (l) (hl) ⟨congrArg Value.bool (wk_name0 hi1 hc54 (by omega)).symm, trivial⟩ ⟨rfl, rfl, rfl, trivial⟩ ⟨_, rfl⟩
    ·
      intro l1 hcut σ
      refine hN7 _ _ ?_
      have hl1 := hcut
      refine gseq fun N10 hN10 => ?_
      refine greg ?_
      refine gop (y_load Tryd.isAgg66 rfl (fun w hM => (hF w (hM.ok _ (List.mem_of_getElem? (i := 1) rfl))).1)) rfl rfl rfl ?_
      refine gop (y_move (v := .int _ _) rfl) rfl rfl rfl ?_
      refine gop (y_move (v := .int _ _) rfl) rfl rfl rfl ?_
      refine gop (y_build (vs := [(0, .int _ _), (1, .int _ _)]) (cells := #[_, _]) rfl (bd69_0_1 _ _)) rfl rfl rfl ?_
      refine gop (y_move (v := .bool _) rfl) rfl rfl rfl ?_
      refine gop_mapUpdate 0 key2 Tryd.underlying66 rfl ((i, j)) (_) rfl rfl rfl rfl rfl ?_
      refine gops_nil ?_
      refine hN10 _ _ ?_
      refine gT [mapr _ _ _ _, fr] rfl ?_
      refine gfrom [(11, .bool _)] ⟨rfl, trivial⟩ fun σ => ?_
      refine gseq fun N11 hN11 => ?_
      refine greg ?_
      refine gop (y_move (v := .bool _) rfl) rfl rfl rfl ?_
      refine gop (y_assign (v := .bool _) rfl) rfl rfl rfl ?_
      refine gops_nil ?_
      refine hN11 _ _ ?_
      refine gfrom [(8, .bool _)] ⟨rfl, trivial⟩ fun σ => ?_
      refine gret fun w1 hM => ?_
      refine ⟨_, res1 rfl (rt (v := .bool _) rfl), ?_⟩
      exact ⟨rfl, _, memo_put hl1 i j, hM⟩
set_option maxHeartbeats 1000000 in
theorem walk_any (w : World) (P N : List ByteArray) (A1 A2 : Option Addr) (c1 c2 : Nat) (hPs : ∀ x ∈ P, x.size ≤ 4000000) (hNs : ∀ x ∈ N, x.size ≤ 4000000) (hPl : P.length ≤ 4000001) (hNl : N.length ≤ 4000001) (hP : Rdl w 0 1 strCells A1 P) (hN : Rdl w 0 1 strCells A2 N) : Calls Tryd.prog 69 #[.slice A1 P.length c1, .slice A2 N.length c2] w fun e w' => e = .returned (.bool (wkAt P N 0 0)) ∧ Below w.heap.size w w' := by
  refine gcalls Tryd.func69 rfl Tryd.ntmps69 (Nat.le_of_ble_eq_true rfl) ?_
  refine gfrom [(0, .slice _ _ _), (1, .slice _ _ _)] ⟨rfl, rfl, trivial⟩ fun σ => ?_
  refine gseq fun N1 hN1 => ?_
  refine greg ?_
  refine gop_box (v := .slice _ _ _) (cs := #[_]) rfl rfl rfl (fun b2 hb2 => ?_)
  refine gop_box (v := .slice _ _ _) (cs := #[_]) rfl rfl rfl (fun b3 hb3 => ?_)
  refine gop (y_assign (v := .bool _) rfl) rfl rfl rfl ?_
  refine gops_nil ?_
  refine hN1 _ _ ?_
  refine gT [box b2 _, box b3 _] rfl ?_
  refine gfrom [(2, .pointer _), (3, .pointer _)] ⟨rfl, rfl, trivial⟩ fun σ => ?_
  refine gseq fun N2 hN2 => ?_
  refine greg ?_
  refine gop_makeMap ek2 Value.bool rfl (fun b7 hb7 => ?_)
  refine gop_alloc (cs := #[.map none]) Tryd.zeroValue66 rfl rfl (fun b5 hb5 => ?_)
  refine gop_store 3 (v := .map (some b7)) (cs' := #[_]) rfl rfl Tryd.sizeOf66 rfl rfl rfl rfl (Nat.le_of_ble_eq_true rfl) rfl rfl ?_
  refine gops_nil ?_
  refine hN2 _ _ ?_
  refine gT [box b2 _, box b3 _, mapr _ _ _ _, box b5 _] rfl ?_
  refine gfrom [(2, .pointer _), (3, .pointer _), (5, .pointer _)] ⟨rfl, rfl, rfl, trivial⟩ fun σ => ?_
  refine gseq fun N3 hN3 => ?_
  refine greg ?_
  refine gop_alloc (cs := #[.nilFunc]) Tryd.zeroValue67 rfl rfl (fun b6 hb6 => ?_)
  refine gops_nil ?_
  refine hN3 _ _ ?_
  refine gT [box b2 _, box b3 _, mapr _ _ _ _, box b5 _, box b6 _] rfl ?_
  refine gfrom [(2, .pointer _), (3, .pointer _), (5, .pointer _), (6, .pointer _)] ⟨rfl, rfl, rfl, rfl, trivial⟩ fun σ => ?_
  refine gseq fun N4 hN4 => ?_
  refine greg ?_
  refine gop (y_makeFunc (vs := [.pointer (some ⟨b5, 0, none⟩), .pointer (some ⟨b2, 0, none⟩), .pointer (some ⟨b3, 0, none⟩), .pointer (some ⟨b6, 0, none⟩)]) rfl) rfl rfl rfl ?_
  refine gop_store 4 (v := .func (.func 86) #[] #[.pointer (some ⟨b5, 0, none⟩), .pointer (some ⟨b2, 0, none⟩), .pointer (some ⟨b3, 0, none⟩), .pointer (some ⟨b6, 0, none⟩)]) (cs' := #[_]) rfl rfl Tryd.sizeOf67 rfl rfl rfl rfl (Nat.le_of_ble_eq_true rfl) rfl rfl ?_
  refine gops_nil ?_
  refine hN4 _ _ ?_
  refine gT [box b2 _, box b3 _, mapr _ _ _ _, box b5 _, box b6 _] rfl ?_
  refine gfrom [(6, .pointer _)] ⟨rfl, trivial⟩ fun σ => ?_
  refine gseq fun N5 hN5 => ?_
  refine greg ?_
  refine gop (y_load Tryd.isAgg67 rfl (cell_box 4 rfl rfl)) rfl rfl rfl ?_
  refine gop_does1 2 (fun v r G => ∃ l1, v = .bool (wkAt P N 0 0) ∧ r = mapr ek2 Value.bool b7 l1 ∧ G = []) (e_callv (vs := [.int _ _, .int _ _]) (cs := [.pointer (some ⟨b5, 0, none⟩), .pointer (some ⟨b2, 0, none⟩), .pointer (some ⟨b3, 0, none⟩), .pointer (some ⟨b6, 0, none⟩)]) rfl Tryd.func86 rfl (by kernel_rfl) rfl) rfl (fun w fr1 hfr hM => (walk1_any P N _ _ _ _ b7 b5 b2 b3 b6 hPs hNs hPl hNl _ hP hN _ 0 0 w [] fr1 (fun w1 ho => ⟨box_cell (hfr 3 _ rfl (by decide) w1 ho) rfl, box_cell (hfr 0 _ rfl (by decide) w1 ho) rfl, box_cell (hfr 1 _ rfl (by decide) w1 ho) rfl, box_cell (hfr 4 _ rfl (by decide) w1 ho) rfl⟩) rfl (Nat.zero_le _) (Nat.zero_le _) (memo_nil _) hM).mono fun _ _ ⟨he, l1, h1, h2⟩ => ⟨_, _, [], he, ⟨l1, rfl, rfl, rfl⟩, h2⟩) rfl rfl rfl ?_
  rintro _ _ _ ⟨l1, rfl, rfl, rfl⟩
  refine gop (y_assign (v := .bool _) rfl) rfl rfl rfl ?_
  refine gops_nil ?_
  refine hN5 _ _ ?_
  refine gT [box b2 _, box b3 _, mapr _ _ _ _, box b5 _, box b6 _] rfl ?_
  refine gfrom [(4, .bool _)] ⟨rfl, trivial⟩ fun σ => ?_
  refine gret fun w1 hM => ?_
  refine ⟨_, res1 rfl (rt (v := .bool _) rfl), ?_⟩
  exact ⟨rfl, hM.low⟩
set_option maxHeartbeats 1000000 in
theorem matches_any (w : World) (p s : ByteArray) (hp : p.size ≤ 4000000) (hs : s.size ≤ 4000000) : Calls Tryd.prog 43 #[.string p, .string s] w fun e w' => e = .returned (.bool (wk (cutS p) (cutS s))) ∧ Below w.heap.size w w' := by
  have hc1 := cutS_len p
  have hc2 := cutS_len s
  refine gcalls Tryd.func43 rfl Tryd.ntmps43 (Nat.le_of_ble_eq_true rfl) ?_
  refine gfrom [(0, .string _), (1, .string _)] ⟨rfl, rfl, trivial⟩ fun σ => ?_
  refine gseq fun N1 hN1 => ?_
  refine greg ?_
  refine gop (y_assign (v := .bool _) rfl) rfl rfl rfl ?_
  refine gops_nil ?_
  refine hN1 _ _ ?_
  refine gfrom [(0, .string _), (1, .string _)] ⟨rfl, rfl, trivial⟩ fun σ => ?_
  refine gseq fun N2 hN2 => ?_
  refine greg ?_
  refine gop (y_move (v := .string _) rfl) rfl rfl rfl ?_
  refine gop_got (fun v T' => ∃ lo, w.heap.size ≤ lo ∧ T' = [rowl strCells lo 9 1 v (cutS p)]) (e_call (vs := [.string _, _]) Tryd.func44 rfl (by kernel_rfl) rfl) (fun w hM => (split_any w p hp).mono fun _ _ ⟨v, T1, h1, h2, h3⟩ => ⟨v, T1, h1, ⟨_, hM.low.size, h2⟩, h3⟩) rfl rfl rfl ?_
  rintro v6 _ ⟨lo6, hlo6, rfl⟩
  refine gops_fact (fun w hM => row_form (hM.ok _ (List.mem_of_getElem? (i := 0) rfl))) ?_
  rintro ⟨A6, c6, rfl, hc6, hm6, hn6⟩
  refine gop (y_move (v := .string _) rfl) rfl rfl rfl ?_
  refine gop_got (fun v T' => ∃ lo, w.heap.size ≤ lo ∧ T' = [rowl strCells lo 9 1 v (cutS s)]) (e_call (vs := [.string _, _]) Tryd.func44 rfl (by kernel_rfl) rfl) (fun w hM => (split_any w s hs).mono fun _ _ ⟨v, T1, h1, h2, h3⟩ => ⟨v, T1, h1, ⟨_, hM.low.size, h2⟩, h3⟩) rfl rfl rfl ?_
  rintro v8 _ ⟨lo8, hlo8, rfl⟩
  refine gops_fact (fun w hM => row_form (hM.ok _ (List.mem_of_getElem? (i := 1) rfl))) ?_
  rintro ⟨A8, c8, rfl, hc8, hm8, hn8⟩
  refine gop_pure (e_call (vs := [.slice A6 _ c6, .slice A8 _ c8]) Tryd.func69 rfl (by kernel_rfl) rfl) (fun w hM => walk_any w (cutS p) (cutS s) _ _ _ _ (fun _ h => cutS_size h hp) (fun _ h => cutS_size h hs) (by omega) (by omega) ((row_rdl (f := strCells) (fun _ => rfl) (hM.ok _ (List.mem_of_getElem? (i := 0) rfl))).mono (Nat.zero_le _)) ((row_rdl (f := strCells) (fun _ => rfl) (hM.ok _ (List.mem_of_getElem? (i := 1) rfl))).mono (Nat.zero_le _))) rfl rfl rfl ?_
  refine gop (y_assign (v := .bool _) rfl) rfl rfl rfl ?_
  refine gops_nil ?_
  refine hN2 _ _ ?_
  refine gT [rowl _ _ _ _ _ _, rowl _ _ _ _ _ _] rfl ?_
  refine gfrom [(4, .bool _)] ⟨rfl, trivial⟩ fun σ => ?_
  refine gret fun w1 hM => ?_
  refine ⟨_, res1 rfl (rt (v := .bool _) rfl), ?_⟩
  exact ⟨rfl, hM.low⟩
end Go.Proofs.YtijpaljdclhehaaDoor
namespace Go.Cf
open Go.RowKit
abbrev Pl := Nat × Nat × Nat
def wildB (c : Nat) : Bool := decide (c = 42) || decide (c = 63)
def nxA (p : ByteArray) (x : Pl) : List Pl := if x.1 < p.size ∧ byteAt p x.1 = 42 then [(x.1 + 1, x.2.1, x.2.2)] else []
def nxB (q : ByteArray) (x : Pl) : List Pl := if x.2.1 < q.size ∧ byteAt q x.2.1 = 42 then [(x.1, x.2.1 + 1, x.2.2)] else []
def fits (p q : ByteArray) (x : Pl) : Prop := wildB (byteAt p x.1) = true ∨ wildB (byteAt q x.2.1) = true ∨ byteAt p x.1 = byteAt q x.2.1
instance (p q : ByteArray) (x : Pl) : Decidable (fits p q x) := by unfold fits; infer_instance
def nxI (p : ByteArray) (x : Pl) : Nat := if byteAt p x.1 = 42 then x.1 else x.1 + 1
def nxJ (q : ByteArray) (x : Pl) : Nat := if byteAt q x.2.1 = 42 then x.2.1 else x.2.1 + 1
def nxD (p q : ByteArray) (x : Pl) : Nat := if byteAt p x.1 = 46 ∨ byteAt q x.2.1 = 46 then min (x.2.2 + 1) 3 else 3
def nxC (p q : ByteArray) (x : Pl) : List Pl := if x.1 < p.size ∧ x.2.1 < q.size ∧ fits p q x then [(nxI p x, nxJ q x, nxD p q x)] else []
def nextL (p q : ByteArray) (x : Pl) : List Pl := nxA p x ++ nxB q x ++ nxC p q x
theorem nxA_len (p : ByteArray) (x : Pl) : (nxA p x).length ≤ 1 := by unfold nxA; split <;> simp
theorem nxB_len (p : ByteArray) (x : Pl) : (nxB p x).length ≤ 1 := by unfold nxB; split <;> simp
theorem nxC_len (p q : ByteArray) (x : Pl) : (nxC p q x).length ≤ 1 := by unfold nxC; split <;> simp
theorem nextL_len (p q : ByteArray) (x : Pl) : (nextL p q x).length ≤ 3 := by
  have := nxA_len p x; have := nxB_len q x; have := nxC_len p q x
  unfold nextL; simp; omega
end Go.Cf
namespace Go.Cf
open Go.RowKit
section
variable {w0 : World} {T : List Reg}
variable {P : Program} {ρ : Env} {dst : Option Tmp} {ty : TypeId} {pos : String} {af : Array Edge} {gd : Option (Nat × Bool)} {x z : Operand} {t : TypeId}
theorem y_trunc {e : TypeId} {s g len cap m : Nat} {hi : Int} {kh : IntKind} (ht : P.underlying t = some (.slice e)) (hs : ∀ w, (sizeOf e).run P w = .ok s w)
    (hx : ev ρ x = .slice (some ⟨g, 0, none⟩) len cap) (hz : ev ρ z = .int kh hi) (h0 : 0 ≤ hi) (h2 : hi ≤ cap) (hm : hi.toNat = m) :
    Yield P w0 T ρ ⟨dst, .slice t x none (some z) none, ty, pos, af, gd⟩ (.slice (some ⟨g, 0, none⟩) m cap) := by
  have h := y_slice_hi (P := P) (w0 := w0) (T := T) (dst := dst) (ty := ty) (pos := pos) (af := af) (gd := gd) ht hs hx hz h0 h2
  subst hm
  have e1 : sliced (some ⟨g, 0, none⟩) 0 hi.toNat cap s = .slice (some ⟨g, 0, none⟩) hi.toNat cap := by
    unfold sliced
    simp [Addr.add_lit]
  rwa [e1] at h
end
end Go.Cf
namespace Go.Cf
open Go.RowKit
def goalP (p q : ByteArray) : Pl := (p.size, q.size, 3)
inductive Reach (p q : ByteArray) : Pl → Prop
  | start : Reach p q (0, 0, 0)
  | step {x y : Pl} : Reach p q x → y ∈ nextL p q x → Reach p q y
inductive To (p q : ByteArray) : Pl → Prop
  | here : To p q (goalP p q)
  | step {x y : Pl} : y ∈ nextL p q x → To p q y → To p q x
def okPl (p q : ByteArray) (x : Pl) : Prop := x.1 ≤ p.size ∧ x.2.1 ≤ q.size ∧ x.2.2 ≤ 3
theorem nextL_mem {p q : ByteArray} {x y : Pl} : y ∈ nextL p q x ↔ (x.1 < p.size ∧ byteAt p x.1 = 42 ∧ y = (x.1 + 1, x.2.1, x.2.2)) ∨ (x.2.1 < q.size ∧ byteAt q x.2.1 = 42 ∧ y = (x.1, x.2.1 + 1, x.2.2)) ∨ (x.1 < p.size ∧ x.2.1 < q.size ∧ fits p q x ∧ y = (nxI p x, nxJ q x, nxD p q x)) := by
  unfold nextL nxA nxB nxC
  rw [List.mem_append, List.mem_append]
  constructor
  · rintro ((h | h) | h)
    · split at h
      · rename_i hc; exact .inl ⟨hc.1, hc.2, by simpa using h⟩
      · simp at h
    · split at h
      · rename_i hc; exact .inr (.inl ⟨hc.1, hc.2, by simpa using h⟩)
      · simp at h
    · split at h
      · rename_i hc; exact .inr (.inr ⟨hc.1, hc.2.1, hc.2.2, by simpa using h⟩)
      · simp at h
  · rintro (⟨h1, h2, h3⟩ | ⟨h1, h2, h3⟩ | ⟨h1, h2, h3, h4⟩)
    · left; left; rw [if_pos ⟨h1, h2⟩, h3]; simp
    · left; right; rw [if_pos ⟨h1, h2⟩, h3]; simp
    · right; rw [if_pos ⟨h1, h2, h3⟩, h4]; simp
theorem nxI_le {p : ByteArray} {x : Pl} : x.1 ≤ nxI p x ∧ nxI p x ≤ x.1 + 1 := by unfold nxI; split <;> omega
theorem nxJ_le {q : ByteArray} {x : Pl} : x.2.1 ≤ nxJ q x ∧ nxJ q x ≤ x.2.1 + 1 := by unfold nxJ; split <;> omega
theorem nxD_le {p q : ByteArray} {x : Pl} : nxD p q x ≤ 3 ∧ (x.2.2 ≤ 3 → x.2.2 ≤ nxD p q x) := by unfold nxD; split <;> omega
theorem next_ok {p q : ByteArray} {x y : Pl} (hx : okPl p q x) (h : y ∈ nextL p q x) : okPl p q y := by
  obtain ⟨h1, h2, h3⟩ := hx
  have i := @nxI_le p x; have j := @nxJ_le q x; have d := @nxD_le p q x
  rcases nextL_mem.1 h with ⟨a, _, rfl⟩ | ⟨a, _, rfl⟩ | ⟨a, b, _, rfl⟩
  · exact ⟨a, h2, h3⟩
  · exact ⟨h1, a, h3⟩
  · exact ⟨by show nxI p x ≤ _; omega, by show nxJ q x ≤ _; omega, d.1⟩
def rankP (p q : ByteArray) (x : Pl) : Nat := (p.size - x.1) + (q.size - x.2.1) + (3 - x.2.2)
theorem next_rank {p q : ByteArray} {x y : Pl} (hx : okPl p q x) (h : y ∈ nextL p q x) (hne : y ≠ x) : rankP p q y < rankP p q x := by
  obtain ⟨h1, h2, h3⟩ := hx
  have i := @nxI_le p x; have j := @nxJ_le q x; have d := @nxD_le p q x
  obtain ⟨x1, x2, x3⟩ := x
  rcases nextL_mem.1 h with ⟨a, _, rfl⟩ | ⟨a, _, rfl⟩ | ⟨a, b, _, rfl⟩
  · simp only [rankP] at *; omega
  · simp only [rankP] at *; omega
  · have hne' : ¬ (nxI p (x1, x2, x3) = x1 ∧ nxJ q (x1, x2, x3) = x2 ∧ nxD p q (x1, x2, x3) = x3) := fun ⟨e1, e2, e3⟩ => hne (by rw [e1, e2, e3])
    simp only [rankP] at *; omega
theorem Reach.ok {p q : ByteArray} {x : Pl} (h : Reach p q x) : okPl p q x := by
  induction h with
  | start => exact ⟨Nat.zero_le _, Nat.zero_le _, Nat.zero_le _⟩
  | step _ h ih => exact next_ok ih h
def fromB (p q : ByteArray) : Nat → Pl → Bool
  | 0, _ => false
  | n + 1, x => decide (x = goalP p q) || (nextL p q x).any (fun y => decide (y ≠ x) && fromB p q n y)
def commonB (p q : ByteArray) : Bool := fromB p q (p.size + q.size + 4) (0, 0, 0)
theorem fromB_to {p q : ByteArray} : ∀ (n : Nat) (x : Pl), fromB p q n x = true → To p q x
  | 0, _, h => by simp [fromB] at h
  | n + 1, x, h => by
    rw [fromB, Bool.or_eq_true] at h
    rcases h with h | h
    · rw [of_decide_eq_true h]; exact .here
    · obtain ⟨y, hy, h1⟩ := List.any_eq_true.1 h
      rw [Bool.and_eq_true] at h1
      exact .step hy (fromB_to n y h1.2)
theorem to_fromB {p q : ByteArray} {x : Pl} (h : To p q x) : okPl p q x → ∀ n, rankP p q x < n → fromB p q n x = true := by
  induction h with
  | here =>
    intro _ n hn
    obtain ⟨m, rfl⟩ : ∃ m, n = m + 1 := ⟨n - 1, by omega⟩
    simp [fromB]
  | @step x y hy _ ih =>
    intro hx n hn
    by_cases e : y = x
    · subst e; exact ih hx n hn
    · obtain ⟨m, rfl⟩ : ∃ m, n = m + 1 := ⟨n - 1, by omega⟩
      have hr := next_rank hx hy e
      rw [fromB, Bool.or_eq_true]; right
      rw [List.any_eq_true]
      exact ⟨y, hy, by rw [Bool.and_eq_true]; exact ⟨decide_eq_true e, ih (next_ok hx hy) m (by omega)⟩⟩
theorem to_of_reach {p q : ByteArray} {x : Pl} (h : Reach p q x) : To p q x → To p q (0, 0, 0) := by
  induction h with
  | start => exact id
  | step _ hy ih => exact fun h => ih (.step hy h)
theorem reach_of_to {p q : ByteArray} {x : Pl} (h : To p q x) : Reach p q x → Reach p q (goalP p q) := by
  induction h with
  | here => exact id
  | step hy _ ih => exact fun h => ih (.step h hy)
theorem commonB_to {p q : ByteArray} : commonB p q = true ↔ To p q (0, 0, 0) :=
  ⟨fromB_to _ _, fun h => to_fromB h ⟨Nat.zero_le _, Nat.zero_le _, Nat.zero_le _⟩ _ (by simp [rankP])⟩
theorem commonB_reach {p q : ByteArray} : commonB p q = true ↔ Reach p q (goalP p q) :=
  commonB_to.trans ⟨fun h => reach_of_to h .start, fun h => to_of_reach h .here⟩
structure Dfs (p q : ByteArray) (l S : List Pl) : Prop where
  nodup : S.Nodup
  reach : ∀ x, x ∈ l ∨ x ∈ S → Reach p q x
  start : (0, 0, 0) ∈ l ∨ (0, 0, 0) ∈ S
  next : ∀ x, x ∈ S → ∀ y ∈ nextL p q x, y ∈ l ∨ y ∈ S
  goal : ∀ x, x ∈ S → x ≠ goalP p q
  len : l.length ≤ 2 * S.length + 1
section
variable {p q : ByteArray} {l S : List Pl} {x : Pl}
theorem Dfs.first : Dfs p q [(0, 0, 0)] [] := ⟨List.nodup_nil, fun x hx => by simp at hx; subst hx; exact .start, by simp, by simp, by simp, by simp⟩
theorem Dfs.skip (h : Dfs p q (l ++ [x]) S) (hx : x ∈ S) : Dfs p q l S := by
  have key : ∀ y, y ∈ l ++ [x] ∨ y ∈ S → y ∈ l ∨ y ∈ S := by
    intro y hy
    rcases hy with hy | hy
    · rcases List.mem_append.1 hy with hy | hy
      · exact .inl hy
      · rw [List.mem_singleton.1 hy]; exact .inr hx
    · exact .inr hy
  exact ⟨h.nodup, fun y hy => h.reach y (hy.imp (fun h => by simp [h]) id), key _ h.start, fun a ha y hy => key y (h.next a ha y hy), h.goal, by have := h.len; simp at this; omega⟩
theorem Dfs.take (h : Dfs p q (l ++ [x]) S) (hx : x ∉ S) (hg : x ≠ goalP p q) : Dfs p q (l ++ nextL p q x) (S ++ [x]) := by
  have hr := h.reach x (.inl (by simp))
  have key : ∀ y, y ∈ l ++ [x] ∨ y ∈ S → y ∈ l ++ nextL p q x ∨ y ∈ S ++ [x] := by
    intro y hy
    rcases hy with hy | hy
    · rcases List.mem_append.1 hy with hy | hy
      · exact .inl (by simp [hy])
      · exact .inr (by simp [List.mem_singleton.1 hy])
    · exact .inr (by simp [hy])
  refine ⟨?_, ?_, key _ h.start, ?_, ?_, ?_⟩
  · rw [List.nodup_append]
    exact ⟨h.nodup, by simp, fun a ha b hb => by rw [List.mem_singleton.1 hb]; rintro rfl; exact hx ha⟩
  · rintro y (hy | hy)
    · rcases List.mem_append.1 hy with hy | hy
      · exact h.reach y (.inl (by simp [hy]))
      · exact .step hr hy
    · rcases List.mem_append.1 hy with hy | hy
      · exact h.reach y (.inr hy)
      · rw [List.mem_singleton.1 hy]; exact hr
  · intro a ha y hy
    rcases List.mem_append.1 ha with ha | ha
    · exact key y (h.next a ha y hy)
    · rw [List.mem_singleton.1 ha] at hy; exact .inl (by simp [hy])
  · intro a ha
    rcases List.mem_append.1 ha with ha | ha
    · exact h.goal a ha
    · rw [List.mem_singleton.1 ha]; exact hg
  · have h1 := h.len
    have h2 := nextL_len p q x
    simp at h1 ⊢; omega
theorem Dfs.hit (h : Dfs p q (l ++ [x]) S) (hg : x = goalP p q) : commonB p q = true :=
  commonB_reach.2 (by rw [← hg]; exact h.reach x (.inl (by simp)))
end
end Go.Cf
namespace Go.Proofs.YtijpaljdclhehaaDoor
open Go.RowKit Go.Cf
set_option maxRecDepth 10000
theorem fa23_0 (a : Addr) (w : World) : (Instr.fieldAt 23 (.pointer (some a)) 0).run Tryd.prog w = .ok (.pointer (some (a.add 0))) w := by kernel_rfl
end Go.Proofs.YtijpaljdclhehaaDoor
namespace Go.Cf
open Go.RowKit
section
variable {p q s : ByteArray}
theorem strEq_eq {a b : ByteArray} : strEq a b = true ↔ a = b := by
  unfold strEq
  rw [beq_iff_eq, ByteArray.toList_eq, ByteArray.toList_eq]
  exact ⟨fun h => bs_inj h, fun h => by rw [h]⟩
theorem strEq_no {a b : ByteArray} : strEq a b = false ↔ a ≠ b := by
  rw [Bool.eq_false_iff, Ne, strEq_eq]
theorem ba_ext {a b : ByteArray} (h : a.size = b.size) (hb : ∀ i, i < a.size → byteAt a i = byteAt b i) : a = b := by
  apply bs_inj
  refine List.ext_getElem (by rw [bsOf_len, bsOf_len, h]) fun i h1 h2 => ?_
  rw [bsOf_len] at h1 h2
  rw [byteAt_bs h1, byteAt_bs h2, hb i h1]
theorem to_swap {x : Pl} (h : To p q x) : To q p (x.2.1, x.1, x.2.2) := by
  induction h with
  | here => exact .here
  | @step x y hy _ ih =>
    refine .step (y := (y.2.1, y.1, y.2.2)) (nextL_mem.2 ?_) ih
    rcases nextL_mem.1 hy with ⟨h1, h2, rfl⟩ | ⟨h1, h2, rfl⟩ | ⟨h1, h2, h3, rfl⟩
    · exact .inr (.inl ⟨h1, h2, rfl⟩)
    · exact .inl ⟨h1, h2, rfl⟩
    · refine .inr (.inr ⟨h2, h1, ?_, ?_⟩)
      · rcases h3 with h | h | h
        · exact .inr (.inl h)
        · exact .inl h
        · exact .inr (.inr h.symm)
      · have e : nxD q p (x.2.1, x.1, x.2.2) = nxD p q x := by
          unfold nxD
          by_cases hc : byteAt p x.1 = 46 ∨ byteAt q x.2.1 = 46
          · rw [if_pos hc, if_pos (show byteAt q x.2.1 = 46 ∨ byteAt p x.1 = 46 from hc.symm)]
          · rw [if_neg hc, if_neg (show ¬ (byteAt q x.2.1 = 46 ∨ byteAt p x.1 = 46) from fun h => hc h.symm)]
        rw [e]; rfl
theorem common_symm (p q : ByteArray) : commonB p q = commonB q p := by
  rw [Bool.eq_iff_iff, commonB_to, commonB_to]
  exact ⟨fun h => to_swap h, fun h => to_swap h⟩
end
inductive Ov : List ByteArray → List ByteArray → Prop
  | nil : Ov [] []
  | starL {p : ByteArray} {P Q : List ByteArray} : strEq p sStars = true → Ov P Q → Ov (p :: P) Q
  | starR {q : ByteArray} {P Q : List ByteArray} : strEq q sStars = true → Ov P Q → Ov P (q :: Q)
  | eatL {p q : ByteArray} {P Q : List ByteArray} : strEq p sStars = true → Ov (p :: P) Q → Ov (p :: P) (q :: Q)
  | eatR {p q : ByteArray} {P Q : List ByteArray} : strEq q sStars = true → Ov P (q :: Q) → Ov (p :: P) (q :: Q)
  | both {p q : ByteArray} {P Q : List ByteArray} : strEq p sStars = false → strEq q sStars = false → commonB p q = true → Ov P Q → Ov (p :: P) (q :: Q)
theorem Ov.symm {P Q : List ByteArray} (h : Ov P Q) : Ov Q P := by
  induction h with
  | nil => exact .nil
  | starL hp _ ih => exact .starR hp ih
  | starR hp _ ih => exact .starL hp ih
  | eatL hp _ ih => exact .eatR hp ih
  | eatR hp _ ih => exact .eatL hp ih
  | both hp hq hc _ ih => exact .both hq hp (by rw [common_symm]; exact hc) ih
end Go.Cf
namespace Go.Cf
open Go.RowKit
theorem byte_of {s : ByteArray} {i : Nat} {b : UInt8} (h : s.data.toList[i]? = some b) : i < s.size ∧ byteAt s i = b.toNat := by
  obtain ⟨h1, h2⟩ := List.getElem?_eq_some_iff.1 h
  have h3 : i < s.size := by simpa using h1
  refine ⟨h3, ?_⟩
  unfold byteAt
  rw [h]; rfl
end Go.Cf
namespace Go.Cf
open Go.RowKit
def scanFrom {α : Type} (f : Nat → α → Int) : Nat → List α → Fault
  | _, [] => ⟨0, 0⟩
  | k, x :: l => if f k x = 0 then scanFrom f (k + 1) l else ⟨f k x, k⟩
def scan {α : Type} (f : Nat → α → Int) (l : List α) : Fault := scanFrom f 0 l
theorem scanFrom_ok {α : Type} (f : Nat → α → Int) : ∀ (l : List α) (m : Nat), (∀ j (h : j < l.length), f (m + j) l[j] = 0) → scanFrom f m l = ⟨0, 0⟩
  | [], _, _ => rfl
  | x :: l, m, h => by
    rw [scanFrom, if_pos (show f m x = 0 from h 0 (by simp))]
    exact scanFrom_ok f l (m + 1) fun j hj => by
      have := h (j + 1) (by simp; omega)
      rwa [show m + (j + 1) = m + 1 + j by omega, List.getElem_cons_succ] at this
theorem scanFrom_at {α : Type} (f : Nat → α → Int) : ∀ (l : List α) (m k : Nat) (hk : k < l.length), (∀ j (h : j < l.length), j < k → f (m + j) l[j] = 0) → f (m + k) l[k] ≠ 0 → scanFrom f m l = ⟨f (m + k) l[k], (m + k : Nat)⟩
  | [], _, _, hk, _, _ => absurd hk (by simp)
  | x :: l, m, 0, _, _, hne => by rw [scanFrom, if_neg (show f m x ≠ 0 from hne)]; rfl
  | x :: l, m, k + 1, hk, h, hne => by
    rw [scanFrom, if_pos (show f m x = 0 from h 0 (by simp) (by omega))]
    have := scanFrom_at f l (m + 1) k (by simpa using hk) (fun j hj hjk => by
      have := h (j + 1) (by simp; omega) (by omega)
      rwa [show m + (j + 1) = m + 1 + j by omega, List.getElem_cons_succ] at this) (by
      rwa [show m + (k + 1) = m + 1 + k by omega, List.getElem_cons_succ] at hne)
    rw [this, show m + (k + 1) = m + 1 + k by omega, List.getElem_cons_succ]
theorem scan_ok {α : Type} {f : Nat → α → Int} {l : List α} (h : ∀ j (h : j < l.length), f j l[j] = 0) : scan f l = ⟨0, 0⟩ := scanFrom_ok f l 0 fun j hj => by rw [Nat.zero_add]; exact h j hj
theorem scan_at {α : Type} {f : Nat → α → Int} {l : List α} {k : Nat} (hk : k < l.length) (h : ∀ j (h : j < l.length), j < k → f j l[j] = 0) (hne : f k l[k] ≠ 0) : scan f l = ⟨f k l[k], k⟩ := by
  have := scanFrom_at f l 0 k hk (fun j hj hjk => by rw [Nat.zero_add]; exact h j hj hjk) (by rwa [Nat.zero_add])
  rwa [Nat.zero_add] at this
theorem scan_code {α : Type} {f : Nat → α → Int} {l : List α} : (scan f l).code = 0 ↔ ∀ j (h : j < l.length), f j l[j] = 0 := by
  constructor
  · intro h0
    apply Classical.byContradiction
    intro hn
    have hex : ∃ k, ∃ h : k < l.length, f k l[k] ≠ 0 := Classical.byContradiction fun hc => hn fun j hj => Classical.byContradiction fun hx => hc ⟨j, hj, hx⟩
    obtain ⟨k, ⟨hk, hne⟩, hmin⟩ : ∃ k, (∃ h : k < l.length, f k l[k] ≠ 0) ∧ ∀ j, j < k → ¬ ∃ h : j < l.length, f j l[j] ≠ 0 := by
      clear h0 hn
      obtain ⟨k, hk⟩ := hex
      induction k using Nat.strongRecOn with
      | _ k ih =>
        by_cases hc : ∃ j, j < k ∧ ∃ h : j < l.length, f j l[j] ≠ 0
        · obtain ⟨j, hj, hp⟩ := hc; exact ih j hj hp
        · exact ⟨k, hk, fun j hj hp => hc ⟨j, hj, hp⟩⟩
    rw [scan_at hk (fun j hj hjk => Classical.byContradiction fun hx => hmin j hjk ⟨hj, hx⟩) hne] at h0
    exact hne h0
  · intro h; rw [scan_ok h]
theorem scan_zero {α : Type} {f : Nat → α → Int} {l : List α} : scan f l = ⟨0, 0⟩ ↔ ∀ j (h : j < l.length), f j l[j] = 0 := ⟨fun h => scan_code.1 (by rw [h]), scan_ok⟩
theorem scan_code_eq {α : Type} {f : Nat → α → Int} {l : List α} (h : (scan f l).code = 0) : scan f l = ⟨0, 0⟩ := scan_ok (scan_code.1 h)
def lineCode (s : ByteArray) : Int := if 80 < s.size then 2 else if 0 ≤ firstIdx s 10 then 5 else 0
def linesF (l : List ByteArray) : Fault := if 120 < l.length then ⟨2, -1⟩ else scan (fun _ s => lineCode s) l
theorem linesF_code {l : List ByteArray} (h : (linesF l).code = 0) : linesF l = ⟨0, 0⟩ := by
  unfold linesF at h ⊢
  split
  · rename_i h1; rw [if_pos h1] at h; cases h
  · rename_i h1; rw [if_neg h1] at h; exact scan_code_eq h
theorem linesF_len {l : List ByteArray} (h : linesF l = ⟨0, 0⟩) : l.length ≤ 120 := by
  unfold linesF at h
  split at h
  · cases h
  · omega
structure Hunk where
  at_ : Int
  old : List ByteArray
  new : List ByteArray
def Hunk.end_ (h : Hunk) : Int := h.at_ + h.old.length
def prevEnd (hs : List Hunk) : Nat → Int
  | 0 => -1
  | k + 1 => match hs[k]? with
    | some h => h.end_
    | none => -1
structure VHunk (h : Hunk) (e : Int) : Prop where
  lo : 0 ≤ h.at_
  hi : h.at_ ≤ 120
  old : linesF h.old = ⟨0, 0⟩
  new : linesF h.new = ⟨0, 0⟩
  some_ : h.old.length + h.new.length ≠ 0
  past : e < h.at_
  end_ : h.end_ ≤ 120
theorem VHunk.oldLen {h : Hunk} {e : Int} (v : VHunk h e) : h.old.length ≤ 120 := linesF_len v.old
theorem VHunk.newLen {h : Hunk} {e : Int} (v : VHunk h e) : h.new.length ≤ 120 := linesF_len v.new
structure PV (hs : List Hunk) : Prop where
  len : hs.length ≤ 130
  at_ : ∀ k (h : k < hs.length), VHunk hs[k] (prevEnd hs k)
structure HB (h : Hunk) : Prop where
  lo : 0 ≤ h.at_
  hi : h.at_ ≤ 120
  old : h.old.length ≤ 120
  new : h.new.length ≤ 120
theorem PV.hb {hs : List Hunk} (v : PV hs) : ∀ k (h : k < hs.length), HB hs[k] := fun k h => ⟨(v.at_ k h).lo, (v.at_ k h).hi, (v.at_ k h).oldLen, (v.at_ k h).newLen⟩
theorem PV.each {hs : List Hunk} (v : PV hs) : ∀ h ∈ hs, HB h := fun h hh => by
  obtain ⟨k, hk, rfl⟩ := List.getElem_of_mem hh
  exact v.hb k hk
end Go.Cf
namespace Go.Cf
open Go.RowKit
structure HunkC where
  pl : Hunk
  oA : Option Addr
  oc : Nat
  nA : Option Addr
  nc : Nat
abbrev hunkCells (h : HunkC) : List Value := [.int .i64 h.pl.at_, .slice h.oA h.pl.old.length h.oc, .slice h.nA h.pl.new.length h.nc]
structure SB (A : Option Addr) (n c : Nat) (b : Nat) : Prop where
  len : n ≤ c
  max : c ≤ maxLen
  nil : A = none → c = 0
  bytes : n * b ≤ reachBytes
theorem SB.lit {a : Addr} {b : Nat} (n : Nat) (h : n ≤ 1000) (hb : b ≤ 1000) : SB (some a) n n b := by
  refine ⟨Nat.le_refl _, by unfold maxLen; omega, (fun h => by cases h), ?_⟩
  have : n * b ≤ 1000 * 1000 := Nat.mul_le_mul h hb
  unfold reachBytes; omega
structure HunkR (w : World) (lo : Nat) (h : HunkC) : Prop where
  old : Rdl w lo 1 strCells h.oA h.pl.old
  new : Rdl w lo 1 strCells h.nA h.pl.new
  ob : SB h.oA h.pl.old.length h.oc 16
  nb : SB h.nA h.pl.new.length h.nc 16
  at_ : In64 h.pl.at_
def Lasts (lo : Nat) (R : World → Prop) : Prop := ∀ w w', R w → (∀ p : Addr, lo ≤ p.block → p.block < w.heap.size → w'.cell? p = w.cell? p) → R w'
theorem Lasts.base {lo : Nat} {R : World → Prop} (h : Lasts lo R) {w0 w : World} {T : List Reg} (hR : R w0) (hM : Mem w0 T w) : R w := h w0 w hR fun _ _ hp => hM.low.cell hp
theorem Rdl.lasts {α : Type} {lo size : Nat} {f : α → List Value} {A : Option Addr} {l : List α} : Lasts lo (fun w => Rdl w lo size f A l) := fun _ _ h hk => h.keep hk
theorem HunkR.lasts {lo : Nat} {h : HunkC} : Lasts lo (fun w => HunkR w lo h) := fun _ _ hR hk => ⟨hR.old.keep hk, hR.new.keep hk, hR.ob, hR.nb, hR.at_⟩
theorem HunkR.mono {w : World} {lo lo' : Nat} {h : HunkC} (hR : HunkR w lo h) (hl : lo' ≤ lo) : HunkR w lo' h := ⟨hR.old.mono hl, hR.new.mono hl, hR.ob, hR.nb, hR.at_⟩
structure PatR (w : World) (lo : Nat) (A : Option Addr) (c : Nat) (hs : List HunkC) : Prop where
  rd : Rdl w lo 3 hunkCells A hs
  each : ∀ h ∈ hs, HunkR w lo h
  sb : SB A hs.length c 56
theorem PatR.lasts {lo : Nat} {A : Option Addr} {c : Nat} {hs : List HunkC} : Lasts lo (fun w => PatR w lo A c hs) := fun w w' hR hk => ⟨hR.rd.keep hk, fun h hh => HunkR.lasts w w' (hR.each h hh) hk, hR.sb⟩
theorem PatR.mono {w : World} {lo lo' : Nat} {A : Option Addr} {c : Nat} {hs : List HunkC} (hR : PatR w lo A c hs) (hl : lo' ≤ lo) : PatR w lo' A c hs := ⟨hR.rd.mono hl, fun h hh => (hR.each h hh).mono hl, hR.sb⟩
abbrev pls (hs : List HunkC) : List Hunk := hs.map HunkC.pl
structure PatC where
  A : Option Addr
  c : Nat
  hs : List HunkC
abbrev patCells (p : PatC) : List Value := [.slice p.A p.hs.length p.c]
abbrev PatC.pl (p : PatC) : List Hunk := pls p.hs
structure PatsR (w : World) (lo : Nat) (A : Option Addr) (ps : List PatC) : Prop where
  rd : Rdl w lo 1 patCells A ps
  each : ∀ p ∈ ps, PatR w lo p.A p.c p.hs
theorem PatsR.lasts {lo : Nat} {A : Option Addr} {ps : List PatC} : Lasts lo (fun w => PatsR w lo A ps) := fun w w' hR hk => ⟨hR.rd.keep hk, fun h hh => PatR.lasts w w' (hR.each h hh) hk⟩
theorem PatsR.mono {w : World} {lo lo' : Nat} {A : Option Addr} {ps : List PatC} (hR : PatsR w lo A ps) (hl : lo' ≤ lo) : PatsR w lo' A ps := ⟨hR.rd.mono hl, fun h hh => (hR.each h hh).mono hl⟩
end Go.Cf
namespace Go.Cf
open Go.RowKit
def splitB : Bs → List Bs
  | [] => [[]]
  | c :: r => if c = 32 then [] :: splitB r else match splitB r with
    | h :: t => (c :: h) :: t
    | [] => [[c]]
theorem splitB_ne (l : Bs) : splitB l ≠ [] := by
  cases l with
  | nil => simp [splitB]
  | cons c r => simp only [splitB]; split; simp; split <;> simp
theorem splitB_none : ∀ (l : Bs), (∀ c ∈ l, c ≠ 32) → splitB l = [l]
  | [], _ => rfl
  | c :: r, h => by
    rw [splitB, if_neg (h c (by simp)), splitB_none r (fun x hx => h x (by simp [hx]))]
theorem splitB_len : ∀ l : Bs, (splitB l).length ≤ l.length + 1
  | [] => by simp [splitB]
  | c :: r => by
    have ih := splitB_len r
    simp only [splitB]
    split
    · simp; omega
    · split
      · rename_i h; rw [h] at ih; simp at ih ⊢; omega
      · simp
def cutB (s : ByteArray) : List ByteArray := (splitB (bsOf s)).map baOf
theorem cutB_len (s : ByteArray) : (cutB s).length ≤ s.size + 1 := by
  have := splitB_len (bsOf s)
  rw [bsOf_len] at this
  simpa [cutB] using this
theorem list_hitB : ∀ l : Bs, 0 < l.count 32 → ∃ m : Nat, Lib.indexByte l 32 = m ∧ m < l.length ∧ splitB l = l.take m :: splitB (l.drop (m + 1)) ∧ (l.drop (m + 1)).count 32 + 1 = l.count 32
  | [], h => by simp at h
  | c :: r, h => by
    by_cases hc : c = 32
    · subst hc
      exact ⟨0, by simp [Lib.indexByte], by simp, by simp [splitB], by simp⟩
    · have hr : 0 < r.count 32 := by simpa [List.count_cons, hc] using h
      obtain ⟨m, h1, h2, h3, h4⟩ := list_hitB r hr
      refine ⟨m + 1, ?_, by simp; omega, ?_, ?_⟩
      · have : ¬ ((m : Int) == -1) = true := by simp
        simp only [Lib.indexByte, h1]
        rw [if_neg (by simpa using hc), if_neg this]; simp
      · rw [splitB, if_neg hc, h3]; simp
      · simpa [List.count_cons, hc] using h4
theorem list_missB : ∀ l : Bs, l.count 32 = 0 → Lib.indexByte l 32 = -1
  | [], _ => rfl
  | c :: r, h => by
    have hc : ¬ c = 32 := fun e => by subst e; simp at h
    have hr : r.count 32 = 0 := by simpa [List.count_cons, hc] using h
    simp only [Lib.indexByte, list_missB r hr]
    rw [if_neg (by simpa using hc), if_pos (by decide)]
def blanks (s : ByteArray) : Nat := Lib.countByte s.data.toList 32
theorem blanks_le (s : ByteArray) : blanks s ≤ s.size := by
  have := List.count_le_length (a := (32 : UInt8)) (l := s.data.toList)
  simpa [blanks, Lib.countByte] using this
theorem idx_hitB {s : ByteArray} (h : 0 < blanks s) : ∃ m : Nat, Lib.indexByte s.data.toList 32 = m ∧ m < s.size ∧ cutB s = s.extract 0 m :: cutB (s.extract (m + 1) s.size) ∧ blanks (s.extract (m + 1) s.size) + 1 = blanks s := by
  obtain ⟨m, h1, h2, h3, h4⟩ := list_hitB (bsOf s) h
  have e : bsOf (s.extract (m + 1) s.size) = (bsOf s).drop (m + 1) := by
    rw [bsOf_extract, List.take_of_length_le (by rw [List.length_drop, bsOf_len]; omega)]
  rw [bsOf_len] at h2
  refine ⟨m, h1, h2, ?_, ?_⟩
  · unfold cutB
    rw [h3, e, List.map_cons]
    congr 1
    exact bs_inj (by rw [bsOf_baOf, bsOf_extract]; simp)
  · show (bsOf (s.extract (m + 1) s.size)).count 32 + 1 = (bsOf s).count 32
    rw [e]; exact h4
theorem idx_missB {s : ByteArray} (h : blanks s = 0) : Lib.indexByte s.data.toList 32 = -1 ∧ cutB s = [s] := by
  refine ⟨list_missB _ h, ?_⟩
  unfold cutB
  rw [splitB_none _ (fun c hc e => by subst e; exact absurd h (Nat.ne_of_gt (List.count_pos_iff.2 hc)))]
  simp [baOf_bsOf]
end Go.Cf
namespace Go.Cf
open Go.RowKit
theorem wrap8_in {x : Int} (h0 : 0 ≤ x) (h1 : x < 256) : IntKind.u8.wrap x = x := by
  rw [IntKind.wrap_u8]; omega
section
variable {P : Program} {w0 : World} {T : List Reg} {ρ : Env} {dst : Option Tmp} {ty : TypeId} {pos : String} {af : Array Edge} {gd : Option (Nat × Bool)} {x y : Operand} {t yt src d e : TypeId} {a b : Int}
theorem y_sub8 (hx : ev ρ x = .int .u8 a) (hy : ev ρ y = .int .u8 b) (h0 : 0 ≤ a - b) (h1 : a - b < 256) : Yield P w0 T ρ ⟨dst, .binOp .sub t x y yt, ty, pos, af, gd⟩ (.int .u8 (a - b)) := fun _ _ => by
  have h := wrap8_in h0 h1
  simp [execOp, go_sem, hx, hy, Op.intArith, h]
theorem y_toInt (hs : (P.underlying src).isSome = true) (hd : P.underlying d = some (.int .i64)) (hx : ev ρ x = .int .u8 a) (h0 : 0 ≤ a) (h1 : a < 256) : Yield P w0 T ρ ⟨dst, .convert src d x, ty, pos, af, gd⟩ (.int .i64 a) := fun w _ => by
  have hk : P.intKind d = .i64 := by simp [Program.intKind, hd]
  have h := run_convert_int (P := P) w src d .u8 a hs (by rw [hk]; exact hd)
  rw [hk, wrap_in (show In64 a by unfold In64; omega)] at h
  simp [execOp, hx, h]
end
end Go.Cf
namespace Go.Cf
open Go.RowKit
def tl (cap : Nat) : Nat := if cap = 1 then 0 else 1
section
variable {P : Program} {w0 : World} {T : List Reg} {ρ : Env} {dst : Option Tmp} {ty : TypeId} {pos : String} {af : Array Edge} {gd : Option (Nat × Bool)} {x y : Operand} {t e : TypeId}
theorem y_tail {g len cap : Nat} {kl : IntKind} (ht : P.underlying t = some (.slice e)) (hs : ∀ w, (sizeOf e).run P w = .ok 1 w) (hx : ev ρ x = .slice (some ⟨g, 0, none⟩) len cap) (hy : ev ρ y = .int kl 1) (h1 : 1 ≤ len) :
    Yield P w0 T ρ ⟨dst, .slice t x (some y) none none, ty, pos, af, gd⟩ (.slice (some ⟨g, tl cap, none⟩) (len - 1) (cap - 1)) := by
  have h := y_slice_lo (P := P) (w0 := w0) (T := T) (dst := dst) (ty := ty) (pos := pos) (af := af) (gd := gd) ht hs hx hy (by omega) (by omega)
  have e1 : sliced (some ⟨g, 0, none⟩) (1 : Int).toNat len cap 1 = .slice (some ⟨g, tl cap, none⟩) (len - 1) (cap - 1) := by
    unfold sliced tl
    by_cases hc : cap = 1
    · simp [hc]
    · simp [hc, Addr.add_lit]
  rwa [e1] at h
theorem cell_tail (i : Nat) {α : Type} {f : α → List Value} {l : List α} {base g nn cap k : Nat} {a : α} {v : Value} (hi : T[i]? = some (rowl f base e 1 (.slice (some ⟨g, 0, none⟩) nn cap) l)) (hn : nn = l.length) (hf : ∀ x, (f x).length = 1) (hc : cap ≠ 1) (hk : l[k + 1]? = some a) (hv : (f a)[0]? = some v) :
    Cell w0 T ((⟨g, tl cap, none⟩ : Addr).add (k * 1)) v := fun w hM => by
  have h := cells_rowl (w0 := w0) i hi hn hf hk 0 v hv w hM
  have e1 : ((⟨g, tl cap, none⟩ : Addr).add (k * 1)) = (⟨g, 0, none⟩ : Addr).add ((k + 1) * 1 + 0) := by
    rw [Addr.add_lit, Addr.add_lit, tl, if_neg hc]
    congr 1; omega
  rw [e1]; exact h
end
end Go.Cf
