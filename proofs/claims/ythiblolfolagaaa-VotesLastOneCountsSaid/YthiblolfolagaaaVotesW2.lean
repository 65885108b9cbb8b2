/- walks, printed by program -/
import Derived.Test.YthiblolfolagaaaVotesA
namespace Go.Proofs.Ythiblolfolagaaa
open Go.RowKit Go.Cf
set_option maxRecDepth 10000

theorem el35 : Elem Try.prog 35 3 24 := elem_of (z := .agg #[.int .i64 0, .int .i64 0, .int .i64 0]) (by kernel_rfl) rfl (by decide)
theorem bd35_0_1_2 (x1 : Int) (x2 : Int) (x3 : Int) : Try.prog.built 35 [(0, .int .i64 x1), (1, .int .i64 x2), (2, .int .i64 x3)] = some #[.int .i64 x1, .int .i64 x2, .int .i64 x3] := by kernel_rfl

set_option maxHeartbeats 1000000 in
theorem law2_any (w : World) (A : Option Addr) (c : Nat) (l : List Vote) (B : Option Addr) (c2 : Nat) (tr : List Bool) (hv : Rdl w 0 3 voteCells A l) (ht : Rdl w 0 1 boolCells B tr) (hl : l.length ≤ maxLen) (htl : tr.length ≤ maxLen) (hcc : tr.length ≤ c2) (hlc : l.length ≤ c) (_hcm : c ≤ maxLen) (hA0 : A = none → c = 0) (hcb : c * 24 ≤ reachBytes) (user value : Int) :
    Calls Try.prog 4 #[.slice A l.length c, .slice B tr.length c2, .int .i64 user, .int .i64 value] w fun e w' => e = .returned (.bool true) ∧ Below w.heap.size w w' := by
  skip
  unfold reachBytes at hcb
  have hmx : maxLen = 9223372036854775807 := rfl
  refine gcalls Try.func4 rfl Try.ntmps4 (Nat.le_of_ble_eq_true rfl) ?_
  refine gfrom [(0, .slice _ _ _), (1, .slice _ _ _), (2, .int _ _), (3, .int _ _)] ⟨rfl, rfl, rfl, rfl, trivial⟩ fun σ => ?_
  refine gseq fun N1 hN1 => ?_
  refine greg ?_
  refine gop (y_assign (v := .bool _) rfl) rfl rfl rfl ?_
  refine gops_nil ?_
  refine hN1 _ _ ?_
  refine gfrom [(0, .slice _ _ _), (1, .slice _ _ _), (2, .int _ _), (3, .int _ _)] ⟨rfl, rfl, rfl, rfl, trivial⟩ fun σ => ?_
  refine gseq fun N2 hN2 => ?_
  refine greg ?_
  refine gop (y_move (v := .slice _ _ _) rfl) rfl rfl rfl ?_
  refine gop (y_len Try.underlying23 rfl) rfl rfl rfl ?_
  refine gop (y_sub rfl rfl ⟨by omega, by omega⟩) rfl rfl rfl ?_
  refine gop (y_assign (v := .int _ _) rfl) rfl rfl rfl ?_
  refine gops_nil ?_
  refine hN2 _ _ ?_
  refine gfrom [(0, .slice _ _ _), (1, .slice _ _ _), (2, .int _ _), (3, .int _ _), (9, .int _ _)] ⟨rfl, rfl, rfl, rfl, rfl, trivial⟩ fun σ => ?_
  refine gseq fun N3 hN3 => ?_
  refine greg ?_
  refine gop (y_move (v := .slice _ _ _) rfl) rfl rfl rfl ?_
  refine gop (y_move (v := .slice _ _ _) rfl) rfl rfl rfl ?_
  refine gop (y_move (v := .int _ _) rfl) rfl rfl rfl ?_
  refine gop_new (fun lo ws v => ∃ v1, v = .tuple #[v1, fv (Votes.stateF l tr ((tr.length : Int) - 1))] ∧ NewL 1 intCells (Votes.curL l tr ((tr.length : Int) - 1)) lo ws v1) (e_call (vs := [.slice _ _ _, .slice _ _ _, .int _ _]) Try.func9 rfl (by kernel_rfl) rfl) (fun w hM => (current_any w _ _ _ _ _ _ (hv.base hM) (ht.base hM) hl htl hcc _).mono fun _ _ ⟨v, h1, h2, h3⟩ => ⟨_, h1, h2, v, rfl, h3⟩) rfl rfl rfl ?_
  rintro _ lo22 ws22 hlo22 ⟨_, rfl, A22, c22, rfl, hcc22, hcm22, hr22⟩
  refine gop (y_move (v := .tuple #[.slice _ _ _, .agg #[_, _]]) rfl) rfl rfl rfl ?_
  refine gop (y_extract (v := .slice _ _ _) rfl rfl) rfl rfl rfl ?_
  refine gop (y_extract (v := .agg #[_, _]) rfl rfl) rfl rfl rfl ?_
  refine gop_alloc (cs := #[.int .i64 0, .int .i64 0]) Try.zeroValue25 rfl rfl (fun b11 hb11 => ?_)
  refine gop (y_assign (v := .slice _ _ _) rfl) rfl rfl rfl ?_
  refine gop_store 1 (v := .agg #[_, _]) (cs' := #[_, _]) rfl rfl Try.sizeOf25 rfl rfl rfl rfl (Nat.le_of_ble_eq_true rfl) rfl rfl ?_
  refine gops_nil ?_
  refine hN3 _ _ ?_
  refine gT [seal_ _ _, box b11 _] rfl ?_
  refine gfrom [(0, .slice _ _ _), (1, .slice _ _ _), (2, .int _ _), (3, .int _ _), (9, .int _ _), (10, .slice _ _ _), (11, .pointer _)] ⟨rfl, rfl, rfl, rfl, rfl, rfl, rfl, trivial⟩ fun σ => ?_
  refine gseq fun N4 hN4 => ?_
  refine greg ?_
  refine gop (y_move (v := .slice _ _ _) rfl) rfl rfl rfl ?_
  refine gops_nilrow voteCells 35 3 ?_
  refine gop_append 2 (f := voteCells) (l2 := l) Try.underlying22 el35 wide_vote (v := .slice none 0 0) rfl rfl rfl rfl hA0 (by simp; omega) (by simp; omega) (fun w hM => (hv.base hM).src (fun _ => rfl)) rfl (fun v27 => ?_)
  refine gop (y_move (v := .int _ _) rfl) rfl rfl rfl ?_
  refine gop (y_move (v := .int _ _) rfl) rfl rfl rfl ?_
  refine gop (y_move (v := .int _ _) rfl) rfl rfl rfl ?_
  refine gop (y_build (vs := [(0, .int _ _), (1, .int _ _), (2, .int _ _)]) (cells := #[_, _, _]) rfl (bd35_0_1_2 _ _ _)) rfl rfl rfl ?_
  refine gop_lit (vs := [.agg #[_, _, _]]) (cells := #[_, _, _]) Try.underlying22 Try.sizeOf35 Try.zeroValue35 rfl (by decide) (by decide) rfl rfl rfl rfl (fun b32 hb32 => ?_)
  refine gop_append 2 (f := voteCells) (l2 := [⟨user, (tr.length : Int) - 1, value⟩]) Try.underlying22 el35 wide_vote (v := v27) rfl rfl rfl rfl (fun h => by cases h) (by simp; omega) (by simp; omega) (src_box 3 rfl rfl) rfl (fun v33 => ?_)
  refine gops_fact (fun w hM => own_form (hM.own 2 rfl)) ?_
  rintro ⟨A33, c33, rfl, hc33, hm33⟩
  refine gop (y_move (v := .slice _ _ _) rfl) rfl rfl rfl ?_
  refine gop (y_move (v := .int _ _) rfl) rfl rfl rfl ?_
  refine gop_new (fun lo ws v => ∃ v1, v = .tuple #[v1, fv (Votes.stateF (l ++ [⟨user, (tr.length : Int) - 1, value⟩]) tr ((tr.length : Int) - 1))] ∧ NewL 1 intCells (Votes.curL (l ++ [⟨user, (tr.length : Int) - 1, value⟩]) tr ((tr.length : Int) - 1)) lo ws v1) (e_call (vs := [.slice A33 _ c33, .slice _ _ _, .int _ _]) Try.func9 rfl (by kernel_rfl) rfl) (fun w hM => by have hr : Rdl w 0 3 voteCells A33 (l ++ [⟨user, (tr.length : Int) - 1, value⟩]) := ((Rdl.of_own (f := voteCells) (fun _ => rfl) (hM.own 2 rfl)).mono (Nat.zero_le _)); have hc := current_any w A33 c33 (l ++ [⟨user, (tr.length : Int) - 1, value⟩]) B c2 tr hr (ht.base hM) (by simp; omega) htl hcc ((tr.length : Int) - 1); exact hc.mono fun _ _ ⟨v, h1, h2, h3⟩ => ⟨_, h1, h2, v, rfl, h3⟩) rfl rfl rfl ?_
  rintro _ lo36 ws36 hlo36 ⟨_, rfl, A36, c36, rfl, hcc36, hcm36, hr36⟩
  refine gop (y_move (v := .tuple #[.slice _ _ _, .agg #[_, _]]) rfl) rfl rfl rfl ?_
  refine gop (y_extract (v := .slice _ _ _) rfl rfl) rfl rfl rfl ?_
  refine gop (y_extract (v := .agg #[_, _]) rfl rfl) rfl rfl rfl ?_
  refine gop_alloc (cs := #[.int .i64 0, .int .i64 0]) Try.zeroValue25 rfl rfl (fun b13 hb13 => ?_)
  refine gop (y_assign (v := .slice _ _ _) rfl) rfl rfl rfl ?_
  refine gop_store 5 (v := .agg #[_, _]) (cs' := #[_, _]) rfl rfl Try.sizeOf25 rfl rfl rfl rfl (Nat.le_of_ble_eq_true rfl) rfl rfl ?_
  refine gops_nil ?_
  refine hN4 _ _ ?_
  refine gT [seal_ _ _, box b11 _, rowl _ _ _ _ _ _, box b32 _, seal_ _ _, box b13 _] rfl ?_
  refine gfrom [(2, .int _ _), (3, .int _ _), (10, .slice _ _ _), (11, .pointer _), (12, .slice _ _ _), (13, .pointer _)] ⟨rfl, rfl, rfl, rfl, rfl, rfl, trivial⟩ fun σ => ?_
  refine gseq fun N5 hN5 => ?_
  refine gseq fun N6 hN6 => ?_
  refine greg ?_
  refine gop_pure (e_call (vs := []) Try.func12 rfl (by kernel_rfl) rfl) (fun w hM => votesExample_any w) rfl rfl rfl ?_
  refine gop (y_not rfl) rfl rfl rfl ?_
  refine gops_nil ?_
  refine hN6 _ _ ?_
  refine gfrom [(2, .int _ _), (3, .int _ _), (10, .slice _ _ _), (11, .pointer _), (12, .slice _ _ _), (13, .pointer _), (40, .bool _)] ⟨rfl, rfl, rfl, rfl, rfl, rfl, rfl, trivial⟩ fun σ => ?_
  refine gcond (b := _) rfl (fun hc40 => ?_) (fun hc40 => ?_)
  · -- slot 40 t
    simp at hc40
  · -- slot 40 f
    replace hc40 := not_f hc40
    refine gskip ?_
    refine hN5 _ _ ?_
    refine gfrom [(2, .int _ _), (3, .int _ _), (10, .slice _ _ _), (11, .pointer _), (12, .slice _ _ _), (13, .pointer _)] ⟨rfl, rfl, rfl, rfl, rfl, rfl, trivial⟩ fun σ => ?_
    refine gseq fun N7 hN7 => ?_
    refine gseq fun N8 hN8 => ?_
    refine greg ?_
    refine gop (y_fieldAddr_box fa25_0 rfl) rfl rfl rfl ?_
    refine gop (y_load Try.isAgg3 rfl (cell_box 1 rfl rfl)) rfl rfl rfl ?_
    refine gop (y_neq rfl rfl) rfl rfl rfl ?_
    refine gop (y_move (v := .bool _) rfl) rfl rfl rfl ?_
    refine gop_if (want := false) rfl rfl rfl rfl rfl rfl (fun hg44 => ?_) (fun hg44 => ?_)
    · -- guard 44 on
      have hg44d := Decidable.not_not.1 (of_decide_eq_false hg44)
      refine gop (y_bare (y_fieldAddr_box fa25_0 rfl)) rfl rfl rfl ?_
      refine gop_on rfl rfl rfl rfl hg44 ?_
      refine gop (y_bare (y_load Try.isAgg3 rfl (cell_box 5 rfl rfl))) rfl rfl rfl ?_
      refine gop_on rfl rfl rfl rfl hg44 ?_
      refine gop (y_bare (y_neq rfl rfl)) rfl rfl rfl ?_
      refine gop (y_pick_f (v := .bool _) rfl hg44 rfl) rfl rfl rfl ?_
      refine gops_nil ?_
      refine hN8 _ _ ?_
      refine gfrom [(2, .int _ _), (3, .int _ _), (10, .slice _ _ _), (12, .slice _ _ _), (48, .bool _)] ⟨rfl, rfl, rfl, rfl, rfl, trivial⟩ fun σ => ?_
      refine gcond (b := _) rfl (fun hc48 => ?_) (fun hc48 => ?_)
      · -- slot 48 t
        replace hc48 := of_decide_eq_true hc48
        refine gseq fun N9 hN9 => ?_
        refine greg ?_
        refine gop (y_assign (v := .bool _) rfl) rfl rfl rfl ?_
        refine gops_nil ?_
        refine hN9 _ _ ?_
        refine gfrom [(8, .bool _)] ⟨rfl, trivial⟩ fun σ => ?_
        refine gret fun w1 hM => ?_
        refine ⟨_, res1 rfl (rt (v := .bool _) rfl), ?_⟩
        exact ⟨rfl, hM.low⟩
      · -- slot 48 f
        replace hc48 := Decidable.not_not.1 (of_decide_eq_false hc48)
        have h1 := Votes.stateF_code hg44d
        have h2 := Votes.stateF_code hc48
        have hl1 := Votes.curL_len_at h1
        have hl2 := Votes.curL_len_at h2
        refine gskip ?_
        refine hN7 _ _ ?_
        refine gfrom [(2, .int _ _), (3, .int _ _), (10, .slice _ _ _), (12, .slice _ _ _)] ⟨rfl, rfl, rfl, rfl, trivial⟩ fun σ => ?_
        refine gseq fun N10 hN10 => ?_
        refine gseq fun N11 hN11 => ?_
        refine greg ?_
        refine gop (y_assign (v := .int _ _) rfl) rfl rfl rfl ?_
        refine gops_nil ?_
        refine hN11 _ _ ?_
        refine gfrom [(2, .int _ _), (3, .int _ _), (10, .slice _ _ _), (12, .slice _ _ _), (14, .int _ _)] ⟨rfl, rfl, rfl, rfl, rfl, trivial⟩ fun σ => ?_
        refine gblock ?_
        refine gfrom2 [(14, .int _ _)] [(2, .int _ _), (3, .int _ _), (10, .slice _ _ _), (12, .slice _ _ _)] ⟨rfl, trivial⟩ ⟨rfl, rfl, rfl, rfl, trivial⟩ fun σ => ?_
        refine gloop2 (G := Nat) (fun k => k ≤ 8) (fun k => 8 - k) (fun k => [(14, .int .i64 (k : Int))]) (fun k => []) (0) ?h0 ⟨rfl, trivial⟩ ⟨rfl, rfl, rfl, rfl, trivial⟩ rfl ?round
        case h0 => exact Nat.zero_le 8
        case round =>
          intro k hφ σ
          have hk : k ≤ 8 := hφ
          refine gseq fun N12 hN12 => ?_
          refine gseq fun N13 hN13 => ?_
          refine greg ?_
          refine gop (y_move (v := .int _ _) rfl) rfl rfl rfl ?_
          refine gop (y_leq rfl rfl) rfl rfl rfl ?_
          refine gops_nil ?_
          refine hN13 _ _ ?_
          refine gfrom [(2, .int _ _), (3, .int _ _), (10, .slice _ _ _), (12, .slice _ _ _), (14, .int _ _), (50, .bool _)] ⟨rfl, rfl, rfl, rfl, rfl, rfl, trivial⟩ fun σ => ?_
          refine gcond (b := _) rfl (fun hc50 => ?_) (fun hc50 => ?_)
          · -- slot 50 t
            replace hc50 := of_decide_eq_true hc50
            have hka : k < (Votes.curL l tr ((tr.length : Int) - 1)).length := by omega
            have hkb : k < (Votes.curL (l ++ [⟨user, (tr.length : Int) - 1, value⟩]) tr ((tr.length : Int) - 1)).length := by omega
            have hlast := Votes.last_at h1 h2 k (by omega) hka hkb
            obtain ⟨ad, rfl, hloa, hca⟩ := hr22.at_ hka
            obtain ⟨ad', rfl, hlob, hcb'⟩ := hr36.at_ hkb
            refine gskip ?_
            refine hN12 _ _ ?_
            refine gfrom [(2, .int _ _), (3, .int _ _), (10, .slice _ _ _), (12, .slice _ _ _), (14, .int _ _)] ⟨rfl, rfl, rfl, rfl, rfl, trivial⟩ fun σ => ?_
            refine gseq fun N14 hN14 => ?_
            refine gblock ?_
            refine gseq fun N15 hN15 => ?_
            refine greg_q (by kernel_rfl) (by kernel_rfl) ?_
            refine gq (y_move (v := .int _ _) rfl) rfl rfl rfl ?_
            refine gq (y_move (v := .slice _ _ _) rfl) rfl rfl rfl ?_
            refine gq (y_len Try.underlying27 rfl) rfl rfl rfl ?_
            refine gq (y_geq rfl rfl) rfl rfl rfl ?_
            refine gq (y_move (v := .bool _) rfl) rfl rfl rfl ?_
            refine gq_if (want := false) rfl rfl rfl rfl rfl rfl (fun hg57 => ?_) (fun hg57 => ?_)
            · -- guard 57 on
              have hg57d := of_decide_eq_false hg57
              refine gq (y_bare (y_move (v := .int _ _) rfl)) rfl rfl rfl ?_
              refine gq_on rfl rfl rfl rfl hg57 ?_
              refine gq (y_bare (y_move (v := .slice _ _ _) rfl)) rfl rfl rfl ?_
              refine gq_on rfl rfl rfl rfl hg57 ?_
              refine gq (y_bare (y_len Try.underlying27 rfl)) rfl rfl rfl ?_
              refine gq_on rfl rfl rfl rfl hg57 ?_
              refine gq (y_bare (y_geq rfl rfl)) rfl rfl rfl ?_
              refine gq (y_pick_f (v := .bool _) rfl hg57 rfl) rfl rfl rfl ?_
              refine gq (y_move (v := .bool _) rfl) rfl rfl rfl ?_
              refine gq_if (want := false) rfl rfl rfl rfl rfl rfl (fun hg63 => ?_) (fun hg63 => ?_)
              · -- guard 63 on
                have hg63d := of_decide_eq_false hg63
                refine gq (y_bare (y_move (v := .int _ _) rfl)) rfl rfl rfl ?_
                refine gq_on rfl rfl rfl rfl hg63 ?_
                refine gq (y_bare (y_move (v := .int _ _) rfl)) rfl rfl rfl ?_
                refine gq_on rfl rfl rfl rfl hg63 ?_
                refine gq (y_bare (y_eql rfl rfl)) rfl rfl rfl ?_
                refine gq_on rfl rfl rfl rfl hg63 ?_
                refine gq (y_bare (y_move (v := .bool _) rfl)) rfl rfl rfl ?_
                refine gq_if (want := true) rfl rfl rfl rfl rfl rfl (fun hg67 => ?_) (fun hg67 => ?_)
                · -- guard 67 on
                  have hg67d := of_decide_eq_true hg67
                  refine gq (y_bare (y_move (v := .slice _ _ _) rfl)) rfl rfl rfl ?_
                  refine gq_on rfl rfl rfl rfl hg67 ?_
                  refine gq (y_bare (y_move (v := .int _ _) rfl)) rfl rfl rfl ?_
                  refine gq_on rfl rfl rfl rfl hg67 ?_
                  refine gq (y_bare (y_indexAddr Try.underlying27 Try.sizeOf3 rfl rfl rfl (by omega) (by omega))) rfl rfl rfl ?_
                  refine gq_on rfl rfl rfl rfl hg67 ?_
                  refine gq (y_bare (y_load Try.isAgg3 rfl (cell_seal 4 rfl (by rw [block_add]; exact hlob) (hcb' 0 _ rfl)))) rfl rfl rfl ?_
                  refine gq_on rfl rfl rfl rfl hg67 ?_
                  refine gq (y_bare (y_move (v := .int _ _) rfl)) rfl rfl rfl ?_
                  refine gq_on rfl rfl rfl rfl hg67 ?_
                  refine gq (y_bare (y_neq rfl rfl)) rfl rfl rfl ?_
                  refine gq_on rfl rfl rfl rfl hg63 ?_
                  refine gq (y_bare (y_pick_t (v := .bool _) rfl hg67 rfl)) rfl rfl rfl ?_
                  refine gq (y_pick_f (v := .bool _) rfl hg63 rfl) rfl rfl rfl ?_
                  refine gq (y_move (v := .bool _) rfl) rfl rfl rfl ?_
                  refine gq_if (want := false) rfl rfl rfl rfl rfl rfl (fun hg76 => ?_) (fun hg76 => ?_)
                  · -- guard 76 on
                    have hg76d := Decidable.not_not.1 (of_decide_eq_false hg76)
                    refine gq (y_bare (y_move (v := .int _ _) rfl)) rfl rfl rfl ?_
                    refine gq_on rfl rfl rfl rfl hg76 ?_
                    refine gq (y_bare (y_move (v := .int _ _) rfl)) rfl rfl rfl ?_
                    refine gq_on rfl rfl rfl rfl hg76 ?_
                    refine gq (y_bare (y_neq rfl rfl)) rfl rfl rfl ?_
                    refine gq_on rfl rfl rfl rfl hg76 ?_
                    refine gq (y_bare (y_move (v := .bool _) rfl)) rfl rfl rfl ?_
                    refine gq_if (want := true) rfl rfl rfl rfl rfl rfl (fun hg80 => ?_) (fun hg80 => ?_)
                    · -- guard 80 on
                      have hg80d := of_decide_eq_true hg80
                      refine gq (y_bare (y_move (v := .slice _ _ _) rfl)) rfl rfl rfl ?_
                      refine gq_on rfl rfl rfl rfl hg80 ?_
                      refine gq (y_bare (y_move (v := .int _ _) rfl)) rfl rfl rfl ?_
                      refine gq_on rfl rfl rfl rfl hg80 ?_
                      refine gq (y_bare (y_indexAddr Try.underlying27 Try.sizeOf3 rfl rfl rfl (by omega) (by omega))) rfl rfl rfl ?_
                      refine gq_on rfl rfl rfl rfl hg80 ?_
                      refine gq (y_bare (y_load Try.isAgg3 rfl (cell_seal 0 rfl (by rw [block_add]; exact hloa) (hca 0 _ rfl)))) rfl rfl rfl ?_
                      refine gq_on rfl rfl rfl rfl hg80 ?_
                      refine gq (y_bare (y_move (v := .slice _ _ _) rfl)) rfl rfl rfl ?_
                      refine gq_on rfl rfl rfl rfl hg80 ?_
                      refine gq (y_bare (y_move (v := .int _ _) rfl)) rfl rfl rfl ?_
                      refine gq_on rfl rfl rfl rfl hg80 ?_
                      refine gq (y_bare (y_indexAddr Try.underlying27 Try.sizeOf3 rfl rfl rfl (by omega) (by omega))) rfl rfl rfl ?_
                      refine gq_on rfl rfl rfl rfl hg80 ?_
                      refine gq (y_bare (y_load Try.isAgg3 rfl (cell_seal 4 rfl (by rw [block_add]; exact hlob) (hcb' 0 _ rfl)))) rfl rfl rfl ?_
                      refine gq_on rfl rfl rfl rfl hg80 ?_
                      refine gq (y_bare (y_neq rfl rfl)) rfl rfl rfl ?_
                      refine gq_on rfl rfl rfl rfl hg76 ?_
                      refine gq (y_bare (y_pick_t (v := .bool _) rfl hg80 rfl)) rfl rfl rfl ?_
                      refine gq (y_pick_f (v := .bool _) rfl hg76 rfl) rfl rfl rfl ?_
                      refine gqs_nil ?_
                      refine hN15 _ _ ?_
                      refine gfrom [(2, .int _ _), (3, .int _ _), (10, .slice _ _ _), (12, .slice _ _ _), (14, .int _ _), (91, .bool _)] ⟨rfl, rfl, rfl, rfl, rfl, rfl, trivial⟩ fun σ => ?_
                      refine gcond (b := _) rfl (fun hc91 => ?_) (fun hc91 => ?_)
                      · -- slot 91 t
                        first | exact (of_decide_eq_true hc91 (by rw [hlast, if_neg hg67d])).elim | exact absurd hg67d hg80d
                      · -- slot 91 f
                        replace hc91 := Decidable.not_not.1 (of_decide_eq_false hc91)
                        refine gskip ?_
                        refine hN14 _ _ ?_
                        refine gfrom [(2, .int _ _), (3, .int _ _), (10, .slice _ _ _), (12, .slice _ _ _), (14, .int _ _)] ⟨rfl, rfl, rfl, rfl, rfl, trivial⟩ fun σ => ?_
                        refine greg ?_
                        refine gop (y_move (v := .int _ _) rfl) rfl rfl rfl ?_
                        refine gop (y_add rfl rfl ⟨by omega, by omega⟩) rfl rfl rfl ?_
                        refine gop (y_assign (v := .int _ _) rfl) rfl rfl rfl ?_
                        refine gops_nil ?_
                        refine gnext2 (k + 1) (by show 8 - (k + 1) < 8 - k; omega) (show k + 1 ≤ 8 by omega) ⟨rfl, trivial⟩ ⟨rfl, rfl, rfl, rfl, trivial⟩ ⟨_, rfl⟩
                    · -- guard 80 off
                      have hg80d := Decidable.not_not.1 (of_decide_eq_false hg80)
                      refine gq_off rfl rfl rfl rfl hg80 rfl rfl ?_
                      refine gq_off rfl rfl rfl rfl hg80 rfl rfl ?_
                      refine gq_off rfl rfl rfl rfl hg80 rfl rfl ?_
                      refine gq_off rfl rfl rfl rfl hg80 rfl rfl ?_
                      refine gq_off rfl rfl rfl rfl hg80 rfl rfl ?_
                      refine gq_off rfl rfl rfl rfl hg80 rfl rfl ?_
                      refine gq_off rfl rfl rfl rfl hg80 rfl rfl ?_
                      refine gq_off rfl rfl rfl rfl hg80 rfl rfl ?_
                      refine gq_on rfl rfl rfl rfl hg76 ?_
                      refine gq (y_bare (y_pick_f (v := .bool _) rfl hg80 rfl)) rfl rfl rfl ?_
                      refine gq (y_pick_f (v := .bool _) rfl hg76 rfl) rfl rfl rfl ?_
                      refine gqs_nil ?_
                      refine hN15 _ _ ?_
                      refine gfrom [(2, .int _ _), (3, .int _ _), (10, .slice _ _ _), (12, .slice _ _ _), (14, .int _ _), (91, .bool _)] ⟨rfl, rfl, rfl, rfl, rfl, rfl, trivial⟩ fun σ => ?_
                      refine gcond (b := _) rfl (fun hc91 => ?_) (fun hc91 => ?_)
                      · -- slot 91 t
                        cases hc91
                      · -- slot 91 f
                        refine gskip ?_
                        refine hN14 _ _ ?_
                        refine gfrom [(2, .int _ _), (3, .int _ _), (10, .slice _ _ _), (12, .slice _ _ _), (14, .int _ _)] ⟨rfl, rfl, rfl, rfl, rfl, trivial⟩ fun σ => ?_
                        refine greg ?_
                        refine gop (y_move (v := .int _ _) rfl) rfl rfl rfl ?_
                        refine gop (y_add rfl rfl ⟨by omega, by omega⟩) rfl rfl rfl ?_
                        refine gop (y_assign (v := .int _ _) rfl) rfl rfl rfl ?_
                        refine gops_nil ?_
                        refine gnext2 (k + 1) (by show 8 - (k + 1) < 8 - k; omega) (show k + 1 ≤ 8 by omega) ⟨rfl, trivial⟩ ⟨rfl, rfl, rfl, rfl, trivial⟩ ⟨_, rfl⟩
                  · -- guard 76 off
                    exact (of_decide_eq_true hg76 (by rw [hlast, if_pos hg67d])).elim
                · -- guard 67 off
                  have hg67d := of_decide_eq_false hg67
                  refine gq_off rfl rfl rfl rfl hg67 rfl rfl ?_
                  refine gq_off rfl rfl rfl rfl hg67 rfl rfl ?_
                  refine gq_off rfl rfl rfl rfl hg67 rfl rfl ?_
                  refine gq_off rfl rfl rfl rfl hg67 rfl rfl ?_
                  refine gq_off rfl rfl rfl rfl hg67 rfl rfl ?_
                  refine gq_on rfl rfl rfl rfl hg63 ?_
                  refine gq (y_bare (y_pick_f (v := .bool _) rfl hg67 rfl)) rfl rfl rfl ?_
                  refine gq (y_pick_f (v := .bool _) rfl hg63 rfl) rfl rfl rfl ?_
                  refine gq (y_move (v := .bool _) rfl) rfl rfl rfl ?_
                  refine gq_on rfl rfl rfl rfl rfl ?_
                  refine gq (y_bare (y_move (v := .int _ _) rfl)) rfl rfl rfl ?_
                  refine gq_on rfl rfl rfl rfl rfl ?_
                  refine gq (y_bare (y_move (v := .int _ _) rfl)) rfl rfl rfl ?_
                  refine gq_on rfl rfl rfl rfl rfl ?_
                  refine gq (y_bare (y_neq rfl rfl)) rfl rfl rfl ?_
                  refine gq_on rfl rfl rfl rfl rfl ?_
                  refine gq (y_bare (y_move (v := .bool _) rfl)) rfl rfl rfl ?_
                  refine gq_if (want := true) rfl rfl rfl rfl rfl rfl (fun hg80 => ?_) (fun hg80 => ?_)
                  · -- guard 80 on
                    have hg80d := of_decide_eq_true hg80
                    refine gq (y_bare (y_move (v := .slice _ _ _) rfl)) rfl rfl rfl ?_
                    refine gq_on rfl rfl rfl rfl hg80 ?_
                    refine gq (y_bare (y_move (v := .int _ _) rfl)) rfl rfl rfl ?_
                    refine gq_on rfl rfl rfl rfl hg80 ?_
                    refine gq (y_bare (y_indexAddr Try.underlying27 Try.sizeOf3 rfl rfl rfl (by omega) (by omega))) rfl rfl rfl ?_
                    refine gq_on rfl rfl rfl rfl hg80 ?_
                    refine gq (y_bare (y_load Try.isAgg3 rfl (cell_seal 0 rfl (by rw [block_add]; exact hloa) (hca 0 _ rfl)))) rfl rfl rfl ?_
                    refine gq_on rfl rfl rfl rfl hg80 ?_
                    refine gq (y_bare (y_move (v := .slice _ _ _) rfl)) rfl rfl rfl ?_
                    refine gq_on rfl rfl rfl rfl hg80 ?_
                    refine gq (y_bare (y_move (v := .int _ _) rfl)) rfl rfl rfl ?_
                    refine gq_on rfl rfl rfl rfl hg80 ?_
                    refine gq (y_bare (y_indexAddr Try.underlying27 Try.sizeOf3 rfl rfl rfl (by omega) (by omega))) rfl rfl rfl ?_
                    refine gq_on rfl rfl rfl rfl hg80 ?_
                    refine gq (y_bare (y_load Try.isAgg3 rfl (cell_seal 4 rfl (by rw [block_add]; exact hlob) (hcb' 0 _ rfl)))) rfl rfl rfl ?_
                    refine gq_on rfl rfl rfl rfl hg80 ?_
                    refine gq (y_bare (y_neq rfl rfl)) rfl rfl rfl ?_
                    refine gq_on rfl rfl rfl rfl rfl ?_
                    refine gq (y_bare (y_pick_t (v := .bool _) rfl hg80 rfl)) rfl rfl rfl ?_
                    refine gq (y_pick_f (v := .bool _) rfl rfl rfl) rfl rfl rfl ?_
                    refine gqs_nil ?_
                    refine hN15 _ _ ?_
                    refine gfrom [(2, .int _ _), (3, .int _ _), (10, .slice _ _ _), (12, .slice _ _ _), (14, .int _ _), (91, .bool _)] ⟨rfl, rfl, rfl, rfl, rfl, rfl, trivial⟩ fun σ => ?_
                    refine gcond (b := _) rfl (fun hc91 => ?_) (fun hc91 => ?_)
                    · -- slot 91 t
                      first | exact (of_decide_eq_true hc91 (by rw [hlast, if_neg hg67d])).elim | exact absurd hg67d hg80d
                    · -- slot 91 f
                      replace hc91 := Decidable.not_not.1 (of_decide_eq_false hc91)
                      refine gskip ?_
                      refine hN14 _ _ ?_
                      refine gfrom [(2, .int _ _), (3, .int _ _), (10, .slice _ _ _), (12, .slice _ _ _), (14, .int _ _)] ⟨rfl, rfl, rfl, rfl, rfl, trivial⟩ fun σ => ?_
                      refine greg ?_
                      refine gop (y_move (v := .int _ _) rfl) rfl rfl rfl ?_
                      refine gop (y_add rfl rfl ⟨by omega, by omega⟩) rfl rfl rfl ?_
                      refine gop (y_assign (v := .int _ _) rfl) rfl rfl rfl ?_
                      refine gops_nil ?_
                      refine gnext2 (k + 1) (by show 8 - (k + 1) < 8 - k; omega) (show k + 1 ≤ 8 by omega) ⟨rfl, trivial⟩ ⟨rfl, rfl, rfl, rfl, trivial⟩ ⟨_, rfl⟩
                  · -- guard 80 off
                    have hg80d := Decidable.not_not.1 (of_decide_eq_false hg80)
                    refine gq_off rfl rfl rfl rfl hg80 rfl rfl ?_
                    refine gq_off rfl rfl rfl rfl hg80 rfl rfl ?_
                    refine gq_off rfl rfl rfl rfl hg80 rfl rfl ?_
                    refine gq_off rfl rfl rfl rfl hg80 rfl rfl ?_
                    refine gq_off rfl rfl rfl rfl hg80 rfl rfl ?_
                    refine gq_off rfl rfl rfl rfl hg80 rfl rfl ?_
                    refine gq_off rfl rfl rfl rfl hg80 rfl rfl ?_
                    refine gq_off rfl rfl rfl rfl hg80 rfl rfl ?_
                    refine gq_on rfl rfl rfl rfl rfl ?_
                    refine gq (y_bare (y_pick_f (v := .bool _) rfl hg80 rfl)) rfl rfl rfl ?_
                    refine gq (y_pick_f (v := .bool _) rfl rfl rfl) rfl rfl rfl ?_
                    refine gqs_nil ?_
                    refine hN15 _ _ ?_
                    refine gfrom [(2, .int _ _), (3, .int _ _), (10, .slice _ _ _), (12, .slice _ _ _), (14, .int _ _), (91, .bool _)] ⟨rfl, rfl, rfl, rfl, rfl, rfl, trivial⟩ fun σ => ?_
                    refine gcond (b := _) rfl (fun hc91 => ?_) (fun hc91 => ?_)
                    · -- slot 91 t
                      cases hc91
                    · -- slot 91 f
                      refine gskip ?_
                      refine hN14 _ _ ?_
                      refine gfrom [(2, .int _ _), (3, .int _ _), (10, .slice _ _ _), (12, .slice _ _ _), (14, .int _ _)] ⟨rfl, rfl, rfl, rfl, rfl, trivial⟩ fun σ => ?_
                      refine greg ?_
                      refine gop (y_move (v := .int _ _) rfl) rfl rfl rfl ?_
                      refine gop (y_add rfl rfl ⟨by omega, by omega⟩) rfl rfl rfl ?_
                      refine gop (y_assign (v := .int _ _) rfl) rfl rfl rfl ?_
                      refine gops_nil ?_
                      refine gnext2 (k + 1) (by show 8 - (k + 1) < 8 - k; omega) (show k + 1 ≤ 8 by omega) ⟨rfl, trivial⟩ ⟨rfl, rfl, rfl, rfl, trivial⟩ ⟨_, rfl⟩
              · -- guard 63 off
                have hz := of_decide_eq_true hg63; omega
            · -- guard 57 off
              have hz := of_decide_eq_true hg57; omega
          · -- slot 50 f
            replace hc50 := of_decide_eq_false hc50
            refine gexit ?_
            refine hN10 _ _ ?_
            refine gfrom [] trivial fun σ => ?_
            refine gseq fun N16 hN16 => ?_
            refine greg ?_
            refine gop (y_assign (v := .bool _) rfl) rfl rfl rfl ?_
            refine gops_nil ?_
            refine hN16 _ _ ?_
            refine gfrom [(8, .bool _)] ⟨rfl, trivial⟩ fun σ => ?_
            refine gret fun w1 hM => ?_
            refine ⟨_, res1 rfl (rt (v := .bool _) rfl), ?_⟩
            exact ⟨rfl, hM.low⟩
    · -- guard 44 off
      have hg44d := of_decide_eq_true hg44
      refine gop_off rfl rfl rfl rfl hg44 rfl rfl ?_
      refine gop_off rfl rfl rfl rfl hg44 rfl rfl ?_
      refine gop (y_pick_t (v := .bool _) rfl hg44 rfl) rfl rfl rfl ?_
      refine gops_nil ?_
      refine hN8 _ _ ?_
      refine gfrom [(2, .int _ _), (3, .int _ _), (10, .slice _ _ _), (12, .slice _ _ _), (48, .bool _)] ⟨rfl, rfl, rfl, rfl, rfl, trivial⟩ fun σ => ?_
      refine gcond (b := _) rfl (fun hc48 => ?_) (fun hc48 => ?_)
      · -- slot 48 t
        refine gseq fun N17 hN17 => ?_
        refine greg ?_
        refine gop (y_assign (v := .bool _) rfl) rfl rfl rfl ?_
        refine gops_nil ?_
        refine hN17 _ _ ?_
        refine gfrom [(8, .bool _)] ⟨rfl, trivial⟩ fun σ => ?_
        refine gret fun w1 hM => ?_
        refine ⟨_, res1 rfl (rt (v := .bool _) rfl), ?_⟩
        exact ⟨rfl, hM.low⟩
      · -- slot 48 f
        cases hc48
end Go.Proofs.Ythiblolfolagaaa
