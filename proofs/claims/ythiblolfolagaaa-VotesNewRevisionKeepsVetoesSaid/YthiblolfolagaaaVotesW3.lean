/- walks, printed by program -/
import Derived.Test.YthiblolfolagaaaVotesA
namespace Go.Proofs.Ythiblolfolagaaa
open Go.RowKit Go.Cf
set_option maxRecDepth 10000

theorem el4 : Elem Try.prog 4 1 1 := elem_of (z := .bool false) (by kernel_rfl) rfl (by decide)

set_option maxHeartbeats 1000000 in
theorem law3_any (w : World) (A : Option Addr) (c : Nat) (l : List Vote) (B : Option Addr) (c2 : Nat) (tr : List Bool) (hv : Rdl w 0 3 voteCells A l) (ht : Rdl w 0 1 boolCells B tr) (hl : l.length ≤ maxLen) (htl : tr.length ≤ maxLen) (hcc : tr.length ≤ c2) (hB0 : B = none → c2 = 0) (hc2b : c2 * 1 ≤ reachBytes) (_hc2m : c2 ≤ maxLen) (same : Bool) :
    Calls Try.prog 5 #[.slice A l.length c, .slice B tr.length c2, .bool same] w fun e w' => e = .returned (.bool true) ∧ Below w.heap.size w w' := by
  unfold reachBytes at hc2b
  have hmx : maxLen = 9223372036854775807 := rfl
  refine gcalls Try.func5 rfl Try.ntmps5 (Nat.le_of_ble_eq_true rfl) ?_
  refine gfrom [(0, .slice _ _ _), (1, .slice _ _ _), (2, .bool _)] ⟨rfl, rfl, rfl, trivial⟩ fun σ => ?_
  refine gseq fun N1 hN1 => ?_
  refine greg ?_
  refine gop (y_assign (v := .bool _) rfl) rfl rfl rfl ?_
  refine gops_nil ?_
  refine hN1 _ _ ?_
  refine gfrom [(0, .slice _ _ _), (1, .slice _ _ _), (2, .bool _)] ⟨rfl, rfl, rfl, trivial⟩ fun σ => ?_
  refine gseq fun N2 hN2 => ?_
  refine greg ?_
  refine gop (y_move (v := .slice _ _ _) rfl) rfl rfl rfl ?_
  refine gop (y_len Try.underlying23 rfl) rfl rfl rfl ?_
  refine gop (y_sub rfl rfl ⟨by omega, by omega⟩) rfl rfl rfl ?_
  refine gop (y_assign (v := .int _ _) rfl) rfl rfl rfl ?_
  refine gops_nil ?_
  refine hN2 _ _ ?_
  refine gfrom [(0, .slice _ _ _), (1, .slice _ _ _), (2, .bool _), (7, .int _ _)] ⟨rfl, rfl, rfl, rfl, trivial⟩ fun σ => ?_
  refine gseq fun N3 hN3 => ?_
  refine greg ?_
  refine gop (y_move (v := .slice _ _ _) rfl) rfl rfl rfl ?_
  refine gop (y_move (v := .slice _ _ _) rfl) rfl rfl rfl ?_
  refine gop (y_move (v := .int _ _) rfl) rfl rfl rfl ?_
  refine gop_new (fun lo ws v => ∃ v1, v = .tuple #[v1, fv (Votes.stateF l tr ((tr.length : Int) - 1))] ∧ NewL 1 intCells (Votes.curL l tr ((tr.length : Int) - 1)) lo ws v1) (e_call (vs := [.slice _ _ _, .slice _ _ _, .int _ _]) Try.func9 rfl (by kernel_rfl) rfl) (fun w hM => (current_any w _ _ _ _ _ _ (hv.base hM) (ht.base hM) hl htl hcc _).mono fun _ _ ⟨v, h1, h2, h3⟩ => ⟨_, h1, h2, v, rfl, h3⟩) rfl rfl rfl ?_
  rintro _ lo21 ws21 hlo21 ⟨_, rfl, A21, c21, rfl, hcc21, hcm21, hr21⟩
  refine gop (y_move (v := .tuple #[.slice _ _ _, .agg #[_, _]]) rfl) rfl rfl rfl ?_
  refine gop (y_extract (v := .slice _ _ _) rfl rfl) rfl rfl rfl ?_
  refine gop (y_extract (v := .agg #[_, _]) rfl rfl) rfl rfl rfl ?_
  refine gop_alloc (cs := #[.int .i64 0, .int .i64 0]) Try.zeroValue25 rfl rfl (fun b9 hb9 => ?_)
  refine gop (y_assign (v := .slice _ _ _) rfl) rfl rfl rfl ?_
  refine gop_store 1 (v := .agg #[_, _]) (cs' := #[_, _]) rfl rfl Try.sizeOf25 rfl rfl rfl rfl (Nat.le_of_ble_eq_true rfl) rfl rfl ?_
  refine gops_nil ?_
  refine hN3 _ _ ?_
  refine gT [seal_ _ _, box b9 _] rfl ?_
  refine gfrom [(0, .slice _ _ _), (1, .slice _ _ _), (2, .bool _), (7, .int _ _), (8, .slice _ _ _), (9, .pointer _)] ⟨rfl, rfl, rfl, rfl, rfl, rfl, trivial⟩ fun σ => ?_
  refine gseq fun N4 hN4 => ?_
  refine greg ?_
  refine gop (y_move (v := .slice _ _ _) rfl) rfl rfl rfl ?_
  refine gop (y_move (v := .slice _ _ _) rfl) rfl rfl rfl ?_
  refine gops_nilrow boolCells 4 1 ?_
  refine gop_append 2 (f := boolCells) (l2 := tr) Try.underlying23 el4 wide_bool (v := .slice none 0 0) rfl rfl rfl rfl hB0 (by simp; omega) (by simp; omega) (fun w hM => (ht.base hM).src (fun _ => rfl)) rfl (fun v27 => ?_)
  refine gop (y_move (v := .bool _) rfl) rfl rfl rfl ?_
  refine gop_lit (vs := [.bool _]) (cells := #[_]) Try.underlying23 Try.sizeOf4 Try.zeroValue4 rfl (by decide) (by decide) rfl rfl rfl rfl (fun b29 hb29 => ?_)
  refine gop_append 2 (f := boolCells) (l2 := [same]) Try.underlying23 el4 wide_bool (v := v27) rfl rfl rfl rfl (fun h => by cases h) (by simp; omega) (by simp; omega) (src_box 3 rfl rfl) rfl (fun v30 => ?_)
  refine gops_fact (fun w hM => own_form (hM.own 2 rfl)) ?_
  rintro ⟨A30, c30, rfl, hc30, hm30⟩
  refine gop (y_move (v := .int _ _) rfl) rfl rfl rfl ?_
  refine gop (y_add rfl rfl ⟨by omega, by omega⟩) rfl rfl rfl ?_
  refine gop_new (fun lo ws v => ∃ v1, v = .tuple #[v1, fv (Votes.stateF l (tr ++ [same]) ((tr.length : Int) - 1 + 1))] ∧ NewL 1 intCells (Votes.curL l (tr ++ [same]) ((tr.length : Int) - 1 + 1)) lo ws v1) (e_call (vs := [.slice _ _ _, .slice A30 _ c30, .int _ _]) Try.func9 rfl (by kernel_rfl) rfl) (fun w hM => (current_any w _ _ _ _ _ (tr ++ [same]) (hv.base hM) (((Rdl.of_own (f := boolCells) (fun _ => rfl) (hM.own 2 rfl)).mono (Nat.zero_le _))) hl (by simp; omega) hc30 _).mono fun _ _ ⟨v, h1, h2, h3⟩ => ⟨_, h1, h2, v, rfl, h3⟩) rfl rfl rfl ?_
  rintro _ lo33 ws33 hlo33 ⟨_, rfl, A33, c33, rfl, hcc33, hcm33, hr33⟩
  refine gop (y_move (v := .tuple #[.slice _ _ _, .agg #[_, _]]) rfl) rfl rfl rfl ?_
  refine gop (y_extract (v := .slice _ _ _) rfl rfl) rfl rfl rfl ?_
  refine gop (y_extract (v := .agg #[_, _]) rfl rfl) rfl rfl rfl ?_
  refine gop_alloc (cs := #[.int .i64 0, .int .i64 0]) Try.zeroValue25 rfl rfl (fun b11 hb11 => ?_)
  refine gop (y_assign (v := .slice _ _ _) rfl) rfl rfl rfl ?_
  refine gop_store 5 (v := .agg #[_, _]) (cs' := #[_, _]) rfl rfl Try.sizeOf25 rfl rfl rfl rfl (Nat.le_of_ble_eq_true rfl) rfl rfl ?_
  refine gops_nil ?_
  refine hN4 _ _ ?_
  refine gT [seal_ _ _, box b9 _, rowl _ _ _ _ _ _, box b29 _, seal_ _ _, box b11 _] rfl ?_
  refine gfrom [(2, .bool _), (8, .slice _ _ _), (9, .pointer _), (10, .slice _ _ _), (11, .pointer _)] ⟨rfl, rfl, rfl, rfl, rfl, trivial⟩ fun σ => ?_
  refine gseq fun N5 hN5 => ?_
  refine gseq fun N6 hN6 => ?_
  refine greg ?_
  refine gop_pure (e_call (vs := []) Try.func12 rfl (by kernel_rfl) rfl) (fun w hM => votesExample_any w) rfl rfl rfl ?_
  refine gop (y_not rfl) rfl rfl rfl ?_
  refine gops_nil ?_
  refine hN6 _ _ ?_
  refine gfrom [(2, .bool _), (8, .slice _ _ _), (9, .pointer _), (10, .slice _ _ _), (11, .pointer _), (37, .bool _)] ⟨rfl, rfl, rfl, rfl, rfl, rfl, trivial⟩ fun σ => ?_
  refine gcond (b := _) rfl (fun hc37 => ?_) (fun hc37 => ?_)
  · -- slot 37 t
    simp at hc37
  · -- slot 37 f
    replace hc37 := not_f hc37
    refine gskip ?_
    refine hN5 _ _ ?_
    refine gfrom [(2, .bool _), (8, .slice _ _ _), (9, .pointer _), (10, .slice _ _ _), (11, .pointer _)] ⟨rfl, rfl, rfl, rfl, rfl, trivial⟩ fun σ => ?_
    refine gseq fun N7 hN7 => ?_
    refine gseq fun N8 hN8 => ?_
    refine greg ?_
    refine gop (y_fieldAddr_box fa25_0 rfl) rfl rfl rfl ?_
    refine gop (y_load Try.isAgg3 rfl (cell_box 1 rfl rfl)) rfl rfl rfl ?_
    refine gop (y_neq rfl rfl) rfl rfl rfl ?_
    refine gop (y_move (v := .bool _) rfl) rfl rfl rfl ?_
    refine gop_if (want := false) rfl rfl rfl rfl rfl rfl (fun hg41 => ?_) (fun hg41 => ?_)
    · -- guard 41 on
      have hg41d := Decidable.not_not.1 (of_decide_eq_false hg41)
      refine gop (y_bare (y_fieldAddr_box fa25_0 rfl)) rfl rfl rfl ?_
      refine gop_on rfl rfl rfl rfl hg41 ?_
      refine gop (y_bare (y_load Try.isAgg3 rfl (cell_box 5 rfl rfl))) rfl rfl rfl ?_
      refine gop_on rfl rfl rfl rfl hg41 ?_
      refine gop (y_bare (y_neq rfl rfl)) rfl rfl rfl ?_
      refine gop (y_pick_f (v := .bool _) rfl hg41 rfl) rfl rfl rfl ?_
      refine gops_nil ?_
      refine hN8 _ _ ?_
      refine gfrom [(2, .bool _), (8, .slice _ _ _), (10, .slice _ _ _), (45, .bool _)] ⟨rfl, rfl, rfl, rfl, trivial⟩ fun σ => ?_
      refine gcond (b := _) rfl (fun hc45 => ?_) (fun hc45 => ?_)
      · -- slot 45 t
        replace hc45 := of_decide_eq_true hc45
        refine gseq fun N9 hN9 => ?_
        refine greg ?_
        refine gop (y_assign (v := .bool _) rfl) rfl rfl rfl ?_
        refine gops_nil ?_
        refine hN9 _ _ ?_
        refine gfrom [(6, .bool _)] ⟨rfl, trivial⟩ fun σ => ?_
        refine gret fun w1 hM => ?_
        refine ⟨_, res1 rfl (rt (v := .bool _) rfl), ?_⟩
        exact ⟨rfl, hM.low⟩
      · -- slot 45 f
        replace hc45 := Decidable.not_not.1 (of_decide_eq_false hc45)
        have h1 := Votes.stateF_code hg41d
        have h2 := Votes.stateF_code hc45
        have hl1 := Votes.curL_len_at h1
        have hl2 := Votes.curL_len_at h2
        refine gskip ?_
        refine hN7 _ _ ?_
        refine gfrom [(2, .bool _), (8, .slice _ _ _), (10, .slice _ _ _)] ⟨rfl, rfl, rfl, trivial⟩ fun σ => ?_
        refine gseq fun N10 hN10 => ?_
        refine gseq fun N11 hN11 => ?_
        refine greg ?_
        refine gop (y_assign (v := .int _ _) rfl) rfl rfl rfl ?_
        refine gops_nil ?_
        refine hN11 _ _ ?_
        refine gfrom [(2, .bool _), (8, .slice _ _ _), (10, .slice _ _ _), (12, .int _ _)] ⟨rfl, rfl, rfl, rfl, trivial⟩ fun σ => ?_
        refine gblock ?_
        refine gfrom2 [(12, .int _ _)] [(2, .bool _), (8, .slice _ _ _), (10, .slice _ _ _)] ⟨rfl, trivial⟩ ⟨rfl, rfl, rfl, trivial⟩ fun σ => ?_
        refine gloop2 (G := Nat) (fun k => k ≤ 8) (fun k => 8 - k) (fun k => [(12, .int .i64 (k : Int))]) (fun k => []) (0) ?h0 ⟨rfl, trivial⟩ ⟨rfl, rfl, rfl, trivial⟩ rfl ?round
        case h0 => exact Nat.zero_le 8
        case round =>
          intro k hφ σ
          have hk : k ≤ 8 := hφ
          refine gseq fun N12 hN12 => ?_
          refine gseq fun N13 hN13 => ?_
          refine greg ?_
          refine gop (y_move (v := .int _ _) rfl) rfl rfl rfl ?_
          refine gop (y_leq rfl rfl) rfl rfl rfl ?_
          refine gops_nil ?_
          refine hN13 _ _ ?_
          refine gfrom [(2, .bool _), (8, .slice _ _ _), (10, .slice _ _ _), (12, .int _ _), (47, .bool _)] ⟨rfl, rfl, rfl, rfl, rfl, trivial⟩ fun σ => ?_
          refine gcond (b := _) rfl (fun hc47 => ?_) (fun hc47 => ?_)
          · -- slot 47 t
            replace hc47 := of_decide_eq_true hc47
            have hka : k < (Votes.curL l tr ((tr.length : Int) - 1)).length := by omega
            have hkb : k < (Votes.curL l (tr ++ [same]) ((tr.length : Int) - 1 + 1)).length := by omega
            have hkp := Votes.keeps_at h1 h2 k (by omega) hka hkb
            obtain ⟨ad, rfl, hloa, hca⟩ := hr21.at_ hka
            obtain ⟨ad', rfl, hlob, hcb'⟩ := hr33.at_ hkb
            refine gskip ?_
            refine hN12 _ _ ?_
            refine gfrom [(2, .bool _), (8, .slice _ _ _), (10, .slice _ _ _), (12, .int _ _)] ⟨rfl, rfl, rfl, rfl, trivial⟩ fun σ => ?_
            refine gseq fun N14 hN14 => ?_
            refine gblock ?_
            refine gseq fun N15 hN15 => ?_
            refine gseq fun N16 hN16 => ?_
            refine greg ?_
            refine gop (y_move (v := .int _ _) rfl) rfl rfl rfl ?_
            refine gop (y_move (v := .slice _ _ _) rfl) rfl rfl rfl ?_
            refine gop (y_len Try.underlying27 rfl) rfl rfl rfl ?_
            refine gop (y_geq rfl rfl) rfl rfl rfl ?_
            refine gop (y_move (v := .bool _) rfl) rfl rfl rfl ?_
            refine gop_if (want := false) rfl rfl rfl rfl rfl rfl (fun hg54 => ?_) (fun hg54 => ?_)
            · -- guard 54 on
              have hg54d := of_decide_eq_false hg54
              refine gop (y_bare (y_move (v := .int _ _) rfl)) rfl rfl rfl ?_
              refine gop_on rfl rfl rfl rfl hg54 ?_
              refine gop (y_bare (y_move (v := .slice _ _ _) rfl)) rfl rfl rfl ?_
              refine gop_on rfl rfl rfl rfl hg54 ?_
              refine gop (y_bare (y_len Try.underlying27 rfl)) rfl rfl rfl ?_
              refine gop_on rfl rfl rfl rfl hg54 ?_
              refine gop (y_bare (y_geq rfl rfl)) rfl rfl rfl ?_
              refine gop (y_pick_f (v := .bool _) rfl hg54 rfl) rfl rfl rfl ?_
              refine gops_nil ?_
              refine hN16 _ _ ?_
              refine gfrom [(2, .bool _), (8, .slice _ _ _), (10, .slice _ _ _), (12, .int _ _), (59, .bool _)] ⟨rfl, rfl, rfl, rfl, rfl, trivial⟩ fun σ => ?_
              refine gcond (b := _) rfl (fun hc59 => ?_) (fun hc59 => ?_)
              · -- slot 59 t
                have hz := of_decide_eq_true hc59; omega
              · -- slot 59 f
                replace hc59 := of_decide_eq_false hc59
                refine gskip ?_
                refine hN15 _ _ ?_
                refine gfrom [(2, .bool _), (8, .slice _ _ _), (10, .slice _ _ _), (12, .int _ _)] ⟨rfl, rfl, rfl, rfl, trivial⟩ fun σ => ?_
                refine gseq fun N17 hN17 => ?_
                refine greg ?_
                refine gop (y_assign (v := .int _ _) rfl) rfl rfl rfl ?_
                refine gops_nil ?_
                refine hN17 _ _ ?_
                refine gfrom [(2, .bool _), (8, .slice _ _ _), (10, .slice _ _ _), (12, .int _ _), (13, .int _ _)] ⟨rfl, rfl, rfl, rfl, rfl, trivial⟩ fun σ => ?_
                refine gseq fun N18 hN18 => ?_
                refine gseq fun N19 hN19 => ?_
                refine greg ?_
                refine gop (y_move (v := .bool _) rfl) rfl rfl rfl ?_
                refine gop (y_move (v := .bool _) rfl) rfl rfl rfl ?_
                refine gop_if (want := false) rfl rfl rfl rfl rfl rfl (fun hg61 => ?_) (fun hg61 => ?_)
                · -- guard 61 on
                  have hg61d := hg61
                  refine gop (y_bare (y_move (v := .slice _ _ _) rfl)) rfl rfl rfl ?_
                  refine gop_on rfl rfl rfl rfl hg61 ?_
                  refine gop (y_bare (y_move (v := .int _ _) rfl)) rfl rfl rfl ?_
                  refine gop_on rfl rfl rfl rfl hg61 ?_
                  refine gop (y_bare (y_indexAddr Try.underlying27 Try.sizeOf3 rfl rfl rfl (by omega) (by omega))) rfl rfl rfl ?_
                  refine gop_on rfl rfl rfl rfl hg61 ?_
                  refine gop (y_bare (y_load Try.isAgg3 rfl (cell_seal 0 rfl (by rw [block_add]; exact hloa) (hca 0 _ rfl)))) rfl rfl rfl ?_
                  refine gop_on rfl rfl rfl rfl hg61 ?_
                  refine gop (y_bare (y_eql rfl rfl)) rfl rfl rfl ?_
                  refine gop (y_pick_f (v := .bool _) rfl hg61 rfl) rfl rfl rfl ?_
                  refine gops_nil ?_
                  refine hN19 _ _ ?_
                  refine gfrom [(2, .bool _), (8, .slice _ _ _), (10, .slice _ _ _), (12, .int _ _), (13, .int _ _), (67, .bool _)] ⟨rfl, rfl, rfl, rfl, rfl, rfl, trivial⟩ fun σ => ?_
                  refine gcond (b := _) rfl (fun hc67 => ?_) (fun hc67 => ?_)
                  · -- slot 67 t
                    replace hc67 := of_decide_eq_true hc67
                    refine greg ?_
                    refine gop (y_move (v := .slice _ _ _) rfl) rfl rfl rfl ?_
                    refine gop (y_move (v := .int _ _) rfl) rfl rfl rfl ?_
                    refine gop (y_indexAddr Try.underlying27 Try.sizeOf3 rfl rfl rfl (by omega) (by omega)) rfl rfl rfl ?_
                    refine gop (y_load Try.isAgg3 rfl (cell_seal 0 rfl (by rw [block_add]; exact hloa) (hca 0 _ rfl))) rfl rfl rfl ?_
                    refine gop (y_assign (v := .int _ _) rfl) rfl rfl rfl ?_
                    refine gops_nil ?_
                    refine hN18 _ _ ?_
                    refine gfrom [(2, .bool _), (8, .slice _ _ _), (10, .slice _ _ _), (12, .int _ _), (13, .int _ _)] ⟨rfl, rfl, rfl, rfl, rfl, trivial⟩ fun σ => ?_
                    refine gseq fun N20 hN20 => ?_
                    refine greg ?_
                    refine gop (y_move (v := .slice _ _ _) rfl) rfl rfl rfl ?_
                    refine gop (y_move (v := .int _ _) rfl) rfl rfl rfl ?_
                    refine gop (y_indexAddr Try.underlying27 Try.sizeOf3 rfl rfl rfl (by omega) (by omega)) rfl rfl rfl ?_
                    refine gop (y_load Try.isAgg3 rfl (cell_seal 4 rfl (by rw [block_add]; exact hlob) (hcb' 0 _ rfl))) rfl rfl rfl ?_
                    refine gop (y_move (v := .int _ _) rfl) rfl rfl rfl ?_
                    refine gop (y_neq rfl rfl) rfl rfl rfl ?_
                    refine gops_nil ?_
                    refine hN20 _ _ ?_
                    refine gfrom [(2, .bool _), (8, .slice _ _ _), (10, .slice _ _ _), (12, .int _ _), (77, .bool _)] ⟨rfl, rfl, rfl, rfl, rfl, trivial⟩ fun σ => ?_
                    refine gcond (b := _) rfl (fun hc77 => ?_) (fun hc77 => ?_)
                    · -- slot 77 t
                      have hz := of_decide_eq_true hc77
                      rw [hkp] at hz
                      first | (rw [if_pos (Or.inl (show same = true from hg61))] at hz; exact (hz rfl).elim) | (rw [if_pos (Or.inr hc67)] at hz; exact (hz rfl).elim) | (rw [if_neg (by simp [hg61, hc67])] at hz; exact (hz rfl).elim)
                    · -- slot 77 f
                      replace hc77 := Decidable.not_not.1 (of_decide_eq_false hc77)
                      refine gskip ?_
                      refine hN14 _ _ ?_
                      refine gfrom [(2, .bool _), (8, .slice _ _ _), (10, .slice _ _ _), (12, .int _ _)] ⟨rfl, rfl, rfl, rfl, trivial⟩ fun σ => ?_
                      refine greg ?_
                      refine gop (y_move (v := .int _ _) rfl) rfl rfl rfl ?_
                      refine gop (y_add rfl rfl ⟨by omega, by omega⟩) rfl rfl rfl ?_
                      refine gop (y_assign (v := .int _ _) rfl) rfl rfl rfl ?_
                      refine gops_nil ?_
                      refine gnext2 (k + 1) (by show 8 - (k + 1) < 8 - k; omega) (show k + 1 ≤ 8 by omega) ⟨rfl, trivial⟩ ⟨rfl, rfl, rfl, trivial⟩ ⟨_, rfl⟩
                  · -- slot 67 f
                    replace hc67 := of_decide_eq_false hc67
                    refine gskip ?_
                    refine hN18 _ _ ?_
                    refine gfrom [(2, .bool _), (8, .slice _ _ _), (10, .slice _ _ _), (12, .int _ _), (13, .int _ _)] ⟨rfl, rfl, rfl, rfl, rfl, trivial⟩ fun σ => ?_
                    refine gseq fun N21 hN21 => ?_
                    refine greg ?_
                    refine gop (y_move (v := .slice _ _ _) rfl) rfl rfl rfl ?_
                    refine gop (y_move (v := .int _ _) rfl) rfl rfl rfl ?_
                    refine gop (y_indexAddr Try.underlying27 Try.sizeOf3 rfl rfl rfl (by omega) (by omega)) rfl rfl rfl ?_
                    refine gop (y_load Try.isAgg3 rfl (cell_seal 4 rfl (by rw [block_add]; exact hlob) (hcb' 0 _ rfl))) rfl rfl rfl ?_
                    refine gop (y_move (v := .int _ _) rfl) rfl rfl rfl ?_
                    refine gop (y_neq rfl rfl) rfl rfl rfl ?_
                    refine gops_nil ?_
                    refine hN21 _ _ ?_
                    refine gfrom [(2, .bool _), (8, .slice _ _ _), (10, .slice _ _ _), (12, .int _ _), (77, .bool _)] ⟨rfl, rfl, rfl, rfl, rfl, trivial⟩ fun σ => ?_
                    refine gcond (b := _) rfl (fun hc77 => ?_) (fun hc77 => ?_)
                    · -- slot 77 t
                      have hz := of_decide_eq_true hc77
                      rw [hkp] at hz
                      first | (rw [if_pos (Or.inl (show same = true from hg61))] at hz; exact (hz rfl).elim) | (rw [if_pos (Or.inr hc67)] at hz; exact (hz rfl).elim) | (rw [if_neg (by simp [hg61, hc67])] at hz; exact (hz rfl).elim)
                    · -- slot 77 f
                      replace hc77 := Decidable.not_not.1 (of_decide_eq_false hc77)
                      refine gskip ?_
                      refine hN14 _ _ ?_
                      refine gfrom [(2, .bool _), (8, .slice _ _ _), (10, .slice _ _ _), (12, .int _ _)] ⟨rfl, rfl, rfl, rfl, trivial⟩ fun σ => ?_
                      refine greg ?_
                      refine gop (y_move (v := .int _ _) rfl) rfl rfl rfl ?_
                      refine gop (y_add rfl rfl ⟨by omega, by omega⟩) rfl rfl rfl ?_
                      refine gop (y_assign (v := .int _ _) rfl) rfl rfl rfl ?_
                      refine gops_nil ?_
                      refine gnext2 (k + 1) (by show 8 - (k + 1) < 8 - k; omega) (show k + 1 ≤ 8 by omega) ⟨rfl, trivial⟩ ⟨rfl, rfl, rfl, trivial⟩ ⟨_, rfl⟩
                · -- guard 61 off
                  have hg61d := hg61
                  refine gop_off rfl rfl rfl rfl hg61 rfl rfl ?_
                  refine gop_off rfl rfl rfl rfl hg61 rfl rfl ?_
                  refine gop_off rfl rfl rfl rfl hg61 rfl rfl ?_
                  refine gop_off rfl rfl rfl rfl hg61 rfl rfl ?_
                  refine gop (y_pick_t (v := .bool _) rfl hg61 rfl) rfl rfl rfl ?_
                  refine gops_nil ?_
                  refine hN19 _ _ ?_
                  refine gfrom [(2, .bool _), (8, .slice _ _ _), (10, .slice _ _ _), (12, .int _ _), (13, .int _ _), (67, .bool _)] ⟨rfl, rfl, rfl, rfl, rfl, rfl, trivial⟩ fun σ => ?_
                  refine gcond (b := _) rfl (fun hc67 => ?_) (fun hc67 => ?_)
                  · -- slot 67 t
                    refine greg ?_
                    refine gop (y_move (v := .slice _ _ _) rfl) rfl rfl rfl ?_
                    refine gop (y_move (v := .int _ _) rfl) rfl rfl rfl ?_
                    refine gop (y_indexAddr Try.underlying27 Try.sizeOf3 rfl rfl rfl (by omega) (by omega)) rfl rfl rfl ?_
                    refine gop (y_load Try.isAgg3 rfl (cell_seal 0 rfl (by rw [block_add]; exact hloa) (hca 0 _ rfl))) rfl rfl rfl ?_
                    refine gop (y_assign (v := .int _ _) rfl) rfl rfl rfl ?_
                    refine gops_nil ?_
                    refine hN18 _ _ ?_
                    refine gfrom [(2, .bool _), (8, .slice _ _ _), (10, .slice _ _ _), (12, .int _ _), (13, .int _ _)] ⟨rfl, rfl, rfl, rfl, rfl, trivial⟩ fun σ => ?_
                    refine gseq fun N22 hN22 => ?_
                    refine greg ?_
                    refine gop (y_move (v := .slice _ _ _) rfl) rfl rfl rfl ?_
                    refine gop (y_move (v := .int _ _) rfl) rfl rfl rfl ?_
                    refine gop (y_indexAddr Try.underlying27 Try.sizeOf3 rfl rfl rfl (by omega) (by omega)) rfl rfl rfl ?_
                    refine gop (y_load Try.isAgg3 rfl (cell_seal 4 rfl (by rw [block_add]; exact hlob) (hcb' 0 _ rfl))) rfl rfl rfl ?_
                    refine gop (y_move (v := .int _ _) rfl) rfl rfl rfl ?_
                    refine gop (y_neq rfl rfl) rfl rfl rfl ?_
                    refine gops_nil ?_
                    refine hN22 _ _ ?_
                    refine gfrom [(2, .bool _), (8, .slice _ _ _), (10, .slice _ _ _), (12, .int _ _), (77, .bool _)] ⟨rfl, rfl, rfl, rfl, rfl, trivial⟩ fun σ => ?_
                    refine gcond (b := _) rfl (fun hc77 => ?_) (fun hc77 => ?_)
                    · -- slot 77 t
                      have hz := of_decide_eq_true hc77
                      rw [hkp] at hz
                      first | (rw [if_pos (Or.inl (show same = true from hg61))] at hz; exact (hz rfl).elim) | (rw [if_pos (Or.inr hc67)] at hz; exact (hz rfl).elim) | (rw [if_neg (by simp [hg61, hc67])] at hz; exact (hz rfl).elim)
                    · -- slot 77 f
                      replace hc77 := Decidable.not_not.1 (of_decide_eq_false hc77)
                      refine gskip ?_
                      refine hN14 _ _ ?_
                      refine gfrom [(2, .bool _), (8, .slice _ _ _), (10, .slice _ _ _), (12, .int _ _)] ⟨rfl, rfl, rfl, rfl, trivial⟩ fun σ => ?_
                      refine greg ?_
                      refine gop (y_move (v := .int _ _) rfl) rfl rfl rfl ?_
                      refine gop (y_add rfl rfl ⟨by omega, by omega⟩) rfl rfl rfl ?_
                      refine gop (y_assign (v := .int _ _) rfl) rfl rfl rfl ?_
                      refine gops_nil ?_
                      refine gnext2 (k + 1) (by show 8 - (k + 1) < 8 - k; omega) (show k + 1 ≤ 8 by omega) ⟨rfl, trivial⟩ ⟨rfl, rfl, rfl, trivial⟩ ⟨_, rfl⟩
                  · -- slot 67 f
                    cases hc67
            · -- guard 54 off
              have hz := of_decide_eq_true hg54; omega
          · -- slot 47 f
            replace hc47 := of_decide_eq_false hc47
            refine gexit ?_
            refine hN10 _ _ ?_
            refine gfrom [] trivial fun σ => ?_
            refine gseq fun N23 hN23 => ?_
            refine greg ?_
            refine gop (y_assign (v := .bool _) rfl) rfl rfl rfl ?_
            refine gops_nil ?_
            refine hN23 _ _ ?_
            refine gfrom [(6, .bool _)] ⟨rfl, trivial⟩ fun σ => ?_
            refine gret fun w1 hM => ?_
            refine ⟨_, res1 rfl (rt (v := .bool _) rfl), ?_⟩
            exact ⟨rfl, hM.low⟩
    · -- guard 41 off
      have hg41d := of_decide_eq_true hg41
      refine gop_off rfl rfl rfl rfl hg41 rfl rfl ?_
      refine gop_off rfl rfl rfl rfl hg41 rfl rfl ?_
      refine gop (y_pick_t (v := .bool _) rfl hg41 rfl) rfl rfl rfl ?_
      refine gops_nil ?_
      refine hN8 _ _ ?_
      refine gfrom [(2, .bool _), (8, .slice _ _ _), (10, .slice _ _ _), (45, .bool _)] ⟨rfl, rfl, rfl, rfl, trivial⟩ fun σ => ?_
      refine gcond (b := _) rfl (fun hc45 => ?_) (fun hc45 => ?_)
      · -- slot 45 t
        refine gseq fun N24 hN24 => ?_
        refine greg ?_
        refine gop (y_assign (v := .bool _) rfl) rfl rfl rfl ?_
        refine gops_nil ?_
        refine hN24 _ _ ?_
        refine gfrom [(6, .bool _)] ⟨rfl, trivial⟩ fun σ => ?_
        refine gret fun w1 hM => ?_
        refine ⟨_, res1 rfl (rt (v := .bool _) rfl), ?_⟩
        exact ⟨rfl, hM.low⟩
      · -- slot 45 f
        cases hc45
end Go.Proofs.Ythiblolfolagaaa
