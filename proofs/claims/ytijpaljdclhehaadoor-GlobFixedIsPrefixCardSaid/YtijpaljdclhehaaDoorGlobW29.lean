/- walks, printed by program -/
import Derived.Test.YtijpaljdclhehaaDoorGlobX
import Derived.Test.YtijpaljdclhehaaDoorGlobWx
namespace Go.Proofs.YtijpaljdclhehaaDoor
open Go.RowKit Go.Cf
set_option maxRecDepth 10000



set_option maxHeartbeats 2000000 in
theorem law29_any (w : World) (p s : ByteArray) (hs : s.size ≤ reachBytes) : Calls Tryd.prog 13 #[.string p, .string s] w fun e w' => e = .returned (.bool true) ∧ Below w.heap.size w w' := by
  have hRB : reachBytes ≤ 9223372036854775807 / 8 := by decide
  have h471 : (⟨#[47]⟩ : ByteArray).size = 1 := rfl
  have h472 : (⟨#[42, 42, 47]⟩ : ByteArray).size = 3 := rfl
  have h473 : (⟨#[47, 42, 42]⟩ : ByteArray).size = 3 := rfl
  refine gcalls Tryd.func13 rfl Tryd.ntmps13 (Nat.le_of_ble_eq_true rfl) ?_
  refine gfrom [(0, .string _), (1, .string _)] ⟨rfl, rfl, trivial⟩ fun σ => ?_
  refine gseq fun N1 hN1 => ?_
  refine greg ?_
  refine gop (y_assign (v := .bool _) rfl) rfl rfl rfl ?_
  refine gops_nil ?_
  refine hN1 _ _ ?_
  refine gfrom [(0, .string _), (1, .string _)] ⟨rfl, rfl, trivial⟩ fun σ => ?_
  refine gseq fun N2 hN2 => ?_
  refine greg ?_
  refine gop (y_move (v := .string _) rfl) rfl rfl rfl ?_
  refine gop (y_move (v := .string _) rfl) rfl rfl rfl ?_
  refine gop_pure (e_call (vs := [.string _, .string _]) Tryd.func14 rfl (by kernel_rfl) rfl) (fun w hM => match_any w _ _) rfl rfl rfl ?_
  refine gop (y_move (v := .tuple #[.bool _, .agg #[_, _]]) rfl) rfl rfl rfl ?_
  refine gop (y_extract (v := .bool _) rfl rfl) rfl rfl rfl ?_
  refine gop (y_extract (v := .agg #[_, _]) rfl rfl) rfl rfl rfl ?_
  refine gop_alloc (cs := #[.int .i64 0, .int .i64 0]) Tryd.zeroValue23 rfl rfl (fun b6 hb6 => ?_)
  refine gop (y_assign (v := .bool _) rfl) rfl rfl rfl ?_
  refine gop_store 0 (v := .agg #[_, _]) (cs' := #[_, _]) rfl rfl Tryd.sizeOf23 rfl rfl rfl rfl (Nat.le_of_ble_eq_true rfl) rfl rfl ?_
  refine gops_nil ?_
  refine hN2 _ _ ?_
  refine gT [box b6 _] rfl ?_
  refine gfrom [(0, .string _), (1, .string _), (5, .bool _), (6, .pointer _)] ⟨rfl, rfl, rfl, rfl, trivial⟩ fun σ => ?_
  refine gseq fun N3 hN3 => ?_
  refine greg ?_
  refine gop (y_move (v := .string _) rfl) rfl rfl rfl ?_
  refine gop_pure (e_call (vs := [.string _]) Tryd.func37 rfl (by kernel_rfl) rfl) (fun w hM => fixed_any w _) rfl rfl rfl ?_
  refine gop (y_move (v := .tuple #[.string _, .agg #[_, _]]) rfl) rfl rfl rfl ?_
  refine gop (y_extract (v := .string _) rfl rfl) rfl rfl rfl ?_
  refine gop (y_extract (v := .agg #[_, _]) rfl rfl) rfl rfl rfl ?_
  refine gop_alloc (cs := #[.int .i64 0, .int .i64 0]) Tryd.zeroValue23 rfl rfl (fun b8 hb8 => ?_)
  refine gop (y_assign (v := .string _) rfl) rfl rfl rfl ?_
  refine gop_store 1 (v := .agg #[_, _]) (cs' := #[_, _]) rfl rfl Tryd.sizeOf23 rfl rfl rfl rfl (Nat.le_of_ble_eq_true rfl) rfl rfl ?_
  refine gops_nil ?_
  refine hN3 _ _ ?_
  refine gT [box b6 _, box b8 _] rfl ?_
  refine gfrom [(1, .string _), (5, .bool _), (6, .pointer _), (7, .string _), (8, .pointer _)] ⟨rfl, rfl, rfl, rfl, rfl, trivial⟩ fun σ => ?_
  refine gseq fun N4 hN4 => ?_
  refine gseq fun N5 hN5 => ?_
  refine greg ?_
  refine gop_pure (e_call (vs := []) Tryd.func16 rfl (by kernel_rfl) rfl) (fun w hM => globExample_any w) rfl rfl rfl ?_
  refine gop (y_not rfl) rfl rfl rfl ?_
  refine gops_nil ?_
  refine hN5 _ _ ?_
  refine gfrom [(1, .string _), (5, .bool _), (6, .pointer _), (7, .string _), (8, .pointer _), (22, .bool _)] ⟨rfl, rfl, rfl, rfl, rfl, rfl, trivial⟩ fun σ => ?_
  refine gcond (b := _) rfl (fun hc22 => ?_) (fun hc22 => ?_)
  · -- slot 22 t
     exact absurd hc22 (by decide)
  · -- slot 22 f
    replace hc22 := not_f hc22
    refine gskip ?_
    refine hN4 _ _ ?_
    refine gfrom [(1, .string _), (5, .bool _), (6, .pointer _), (7, .string _), (8, .pointer _)] ⟨rfl, rfl, rfl, rfl, rfl, trivial⟩ fun σ => ?_
    refine gseq fun N6 hN6 => ?_
    refine gseq fun N7 hN7 => ?_
    refine greg ?_
    refine gop (y_fieldAddr_box fa23_0 rfl) rfl rfl rfl ?_
    refine gop (y_load Tryd.isAgg3 rfl (cell_box 0 rfl rfl)) rfl rfl rfl ?_
    refine gop (y_neq rfl rfl) rfl rfl rfl ?_
    refine gop (y_move (v := .bool _) rfl) rfl rfl rfl ?_
    refine gop_if (want := false) rfl rfl rfl rfl rfl rfl (fun hg26 => ?_) (fun hg26 => ?_)
    · -- guard 26 on
      have hg26d := Decidable.not_not.1 (of_decide_eq_false hg26)
      refine gop (y_bare (y_move (v := .bool _) rfl)) rfl rfl rfl ?_
      refine gop_on rfl rfl rfl rfl hg26 ?_
      refine gop (y_bare (y_not rfl)) rfl rfl rfl ?_
      refine gop (y_pick_f (v := .bool _) rfl hg26 rfl) rfl rfl rfl ?_
      refine gop (y_move (v := .bool _) rfl) rfl rfl rfl ?_
      refine gop_if (want := false) rfl rfl rfl rfl rfl rfl (fun hg30 => ?_) (fun hg30 => ?_)
      · -- guard 30 on
        have hg30d := not_f hg30
        refine gop (y_bare (y_move (v := .string _) rfl)) rfl rfl rfl ?_
        refine gop_on rfl rfl rfl rfl hg30 ?_
        refine gop (y_bare (y_eqls rfl rfl)) rfl rfl rfl ?_
        refine gop (y_pick_f (v := .bool _) rfl hg30 rfl) rfl rfl rfl ?_
        refine gops_nil ?_
        refine hN7 _ _ ?_
        refine gfrom [(1, .string _), (7, .string _), (8, .pointer _), (33, .bool _)] ⟨rfl, rfl, rfl, rfl, trivial⟩ fun σ => ?_
        refine gcond (b := _) rfl (fun hc33 => ?_) (fun hc33 => ?_)
        · -- slot 33 t
          refine gseq fun N8 hN8 => ?_
          refine greg ?_
          refine gop (y_assign (v := .bool _) rfl) rfl rfl rfl ?_
          refine gops_nil ?_
          refine hN8 _ _ ?_
          refine gfrom [(4, .bool _)] ⟨rfl, trivial⟩ fun σ => ?_
          refine gret fun w1 hM => ?_
          refine ⟨_, res1 rfl (rt (v := .bool _) rfl), ?_⟩
          exact ⟨rfl, hM.low⟩
        · -- slot 33 f
          have hff := fixed_front hg26d (by simpa using hg30d) (strEq_no.1 hc33)
          refine gskip ?_
          refine hN6 _ _ ?_
          refine gfrom [(1, .string _), (7, .string _), (8, .pointer _)] ⟨rfl, rfl, rfl, trivial⟩ fun σ => ?_
          refine gseq fun N9 hN9 => ?_
          refine greg ?_
          refine gop (y_move (v := .string _) rfl) rfl rfl rfl ?_
          refine gop (y_lens Tryd.underlying9 rfl) rfl rfl rfl ?_
          refine gop (y_assign (v := .int _ _) rfl) rfl rfl rfl ?_
          refine gops_nil ?_
          refine hN9 _ _ ?_
          refine gfrom [(1, .string _), (7, .string _), (8, .pointer _), (9, .int _ _)] ⟨rfl, rfl, rfl, rfl, trivial⟩ fun σ => ?_
          refine gseq fun N10 hN10 => ?_
          refine greg ?_
          refine gop (y_fieldAddr_box fa23_0 rfl) rfl rfl rfl ?_
          refine gop (y_load Tryd.isAgg3 rfl (cell_box 1 rfl rfl)) rfl rfl rfl ?_
          refine gop (y_eql rfl rfl) rfl rfl rfl ?_
          refine gop (y_move (v := .bool _) rfl) rfl rfl rfl ?_
          refine gop_if (want := true) rfl rfl rfl rfl rfl rfl (fun hg39 => ?_) (fun hg39 => ?_)
          · -- guard 39 on
            have hg39d := of_decide_eq_true hg39
            refine gop (y_bare (y_move (v := .string _) rfl)) rfl rfl rfl ?_
            refine gop_on rfl rfl rfl rfl hg39 ?_
            refine gop (y_bare (y_lens Tryd.underlying9 rfl)) rfl rfl rfl ?_
            refine gop_on rfl rfl rfl rfl hg39 ?_
            refine gop (y_bare (y_move (v := .int _ _) rfl)) rfl rfl rfl ?_
            refine gop_on rfl rfl rfl rfl hg39 ?_
            refine gop (y_bare (y_geq rfl rfl)) rfl rfl rfl ?_
            refine gop (y_pick_t (v := .bool _) rfl hg39 rfl) rfl rfl rfl ?_
            refine gop (y_move (v := .bool _) rfl) rfl rfl rfl ?_
            refine gop_if (want := true) rfl rfl rfl rfl rfl rfl (fun hg45 => ?_) (fun hg45 => ?_)
            · -- guard 45 on
              have hg45d := of_decide_eq_true hg45
              refine gop (y_bare (y_move (v := .string _) rfl)) rfl rfl rfl ?_
              refine gop_on rfl rfl rfl rfl hg45 ?_
              refine gop (y_bare (y_move (v := .int _ _) rfl)) rfl rfl rfl ?_
              refine gop_on rfl rfl rfl rfl hg45 ?_
              refine gop (y_bare (y_strslice_hi Tryd.underlying9 rfl rfl (by omega) (by omega))) rfl rfl rfl ?_
              refine gop_on rfl rfl rfl rfl hg45 ?_
              refine gop (y_bare (y_move (v := .string _) rfl)) rfl rfl rfl ?_
              refine gop_on rfl rfl rfl rfl hg45 ?_
              refine gop (y_bare (y_eqls rfl rfl)) rfl rfl rfl ?_
              refine gop (y_pick_t (v := .bool _) rfl hg45 rfl) rfl rfl rfl ?_
              refine gop (y_move (v := .bool _) rfl) rfl rfl rfl ?_
              refine gop_if (want := true) rfl rfl rfl rfl rfl rfl (fun hg52 => ?_) (fun hg52 => ?_)
              · -- guard 52 on
                have hg52d := hg52
                refine gop (y_bare (y_move (v := .string _) rfl)) rfl rfl rfl ?_
                refine gop_on rfl rfl rfl rfl hg52 ?_
                refine gop (y_bare (y_lens Tryd.underlying9 rfl)) rfl rfl rfl ?_
                refine gop_on rfl rfl rfl rfl hg52 ?_
                refine gop (y_bare (y_move (v := .int _ _) rfl)) rfl rfl rfl ?_
                refine gop_on rfl rfl rfl rfl hg52 ?_
                refine gop (y_bare (y_eql rfl rfl)) rfl rfl rfl ?_
                refine gop_on rfl rfl rfl rfl hg52 ?_
                refine gop (y_bare (y_move (v := .bool _) rfl)) rfl rfl rfl ?_
                refine gop_if (want := false) rfl rfl rfl rfl rfl rfl (fun hg57 => ?_) (fun hg57 => ?_)
                · -- guard 57 on
                  have hg57d := of_decide_eq_false hg57
                  refine gop (y_bare (y_move (v := .string _) rfl)) rfl rfl rfl ?_
                  refine gop_on rfl rfl rfl rfl hg57 ?_
                  refine gop (y_bare (y_move (v := .int _ _) rfl)) rfl rfl rfl ?_
                  refine gop_on rfl rfl rfl rfl hg57 ?_
                  refine gop (y_bare (y_stridx (m := (fixedV p).size) Tryd.underlying9 rfl rfl (by omega) (by omega) (by omega))) rfl rfl rfl ?_
                  refine gop_on rfl rfl rfl rfl hg57 ?_
                  refine gop (y_bare (y_eql rfl rfl)) rfl rfl rfl ?_
                  refine gop_on rfl rfl rfl rfl hg52 ?_
                  refine gop (y_bare (y_pick_f (v := .bool _) rfl hg57 rfl)) rfl rfl rfl ?_
                  refine gop (y_pick_t (v := .bool _) rfl hg52 rfl) rfl rfl rfl ?_
                  refine gop (y_assign (v := .bool _) rfl) rfl rfl rfl ?_
                  refine gops_nil ?_
                  refine hN10 _ _ ?_
                  refine gfrom [(4, .bool _)] ⟨rfl, trivial⟩ fun σ => ?_
                  refine gret fun w1 hM => ?_
                  refine ⟨_, res1 rfl (rt (v := .bool _) rfl), ?_⟩
                  first | exact ⟨rfl, hM.low⟩ | exact ⟨by rw [hff.2.2 (by omega)]; rfl, hM.low⟩
                · -- guard 57 off
                  have hg57d := of_decide_eq_true hg57
                  refine gop_off rfl rfl rfl rfl hg57 rfl rfl ?_
                  refine gop_off rfl rfl rfl rfl hg57 rfl rfl ?_
                  refine gop_off rfl rfl rfl rfl hg57 rfl rfl ?_
                  refine gop_on rfl rfl rfl rfl hg52 ?_
                  refine gop (y_bare (y_pick_t (v := .bool _) rfl hg57 rfl)) rfl rfl rfl ?_
                  refine gop (y_pick_t (v := .bool _) rfl hg52 rfl) rfl rfl rfl ?_
                  refine gop (y_assign (v := .bool _) rfl) rfl rfl rfl ?_
                  refine gops_nil ?_
                  refine hN10 _ _ ?_
                  refine gfrom [(4, .bool _)] ⟨rfl, trivial⟩ fun σ => ?_
                  refine gret fun w1 hM => ?_
                  refine ⟨_, res1 rfl (rt (v := .bool _) rfl), ?_⟩
                  first | exact ⟨rfl, hM.low⟩ | exact ⟨by rw [hff.2.2 (by omega)]; rfl, hM.low⟩
              · -- guard 52 off
                 exact absurd (strEq_eq.2 (show s.extract 0 ((fixedV p).size : Int).toNat = fixedV p from hff.2.1)) (by rw [show strEq (s.extract 0 ((fixedV p).size : Int).toNat) (fixedV p) = false from hg52]; simp)
            · -- guard 45 off
               exact absurd hff.1 (by have h8 := of_decide_eq_false hg45; omega)
          · -- guard 39 off
             exact absurd (patFault_zero.2 (matchF_zero.1 hg26d).1) (of_decide_eq_false hg39)
      · -- guard 30 off
        have hg30d := not_t hg30
        refine gop_off rfl rfl rfl rfl hg30 rfl rfl ?_
        refine gop (y_pick_t (v := .bool _) rfl hg30 rfl) rfl rfl rfl ?_
        refine gops_nil ?_
        refine hN7 _ _ ?_
        refine gfrom [(1, .string _), (7, .string _), (8, .pointer _), (33, .bool _)] ⟨rfl, rfl, rfl, rfl, trivial⟩ fun σ => ?_
        refine gcond (b := _) rfl (fun hc33 => ?_) (fun hc33 => ?_)
        · -- slot 33 t
          refine gseq fun N11 hN11 => ?_
          refine greg ?_
          refine gop (y_assign (v := .bool _) rfl) rfl rfl rfl ?_
          refine gops_nil ?_
          refine hN11 _ _ ?_
          refine gfrom [(4, .bool _)] ⟨rfl, trivial⟩ fun σ => ?_
          refine gret fun w1 hM => ?_
          refine ⟨_, res1 rfl (rt (v := .bool _) rfl), ?_⟩
          exact ⟨rfl, hM.low⟩
        · -- slot 33 f
          cases hc33
    · -- guard 26 off
      have hg26d := of_decide_eq_true hg26
      refine gop_off rfl rfl rfl rfl hg26 rfl rfl ?_
      refine gop (y_pick_t (v := .bool _) rfl hg26 rfl) rfl rfl rfl ?_
      refine gop (y_move (v := .bool _) rfl) rfl rfl rfl ?_
      refine gop_off rfl rfl rfl rfl rfl rfl rfl ?_
      refine gop_off rfl rfl rfl rfl rfl rfl rfl ?_
      refine gop (y_pick_t (v := .bool _) rfl rfl rfl) rfl rfl rfl ?_
      refine gops_nil ?_
      refine hN7 _ _ ?_
      refine gfrom [(1, .string _), (7, .string _), (8, .pointer _), (33, .bool _)] ⟨rfl, rfl, rfl, rfl, trivial⟩ fun σ => ?_
      refine gcond (b := _) rfl (fun hc33 => ?_) (fun hc33 => ?_)
      · -- slot 33 t
        refine gseq fun N12 hN12 => ?_
        refine greg ?_
        refine gop (y_assign (v := .bool _) rfl) rfl rfl rfl ?_
        refine gops_nil ?_
        refine hN12 _ _ ?_
        refine gfrom [(4, .bool _)] ⟨rfl, trivial⟩ fun σ => ?_
        refine gret fun w1 hM => ?_
        refine ⟨_, res1 rfl (rt (v := .bool _) rfl), ?_⟩
        exact ⟨rfl, hM.low⟩
      · -- slot 33 f
        cases hc33
end Go.Proofs.YtijpaljdclhehaaDoor
