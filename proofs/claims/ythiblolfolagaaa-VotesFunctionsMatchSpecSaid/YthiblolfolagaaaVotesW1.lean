/- walks, printed by program -/
import Derived.Test.YthiblolfolagaaaVotesA
namespace Go.Proofs.Ythiblolfolagaaa
open Go.RowKit Go.Cf
set_option maxRecDepth 10000

theorem eq25 (a0 b0 : Int) (a1 b1 : Int) (w : World) : (binOp .eql 25 (.agg #[.int .i64 a0, .int .i64 a1]) (.agg #[.int .i64 b0, .int .i64 b1])).run Try.prog w = .ok (.bool ((decide (a0 = b0) && decide (a1 = b1)))) w := by
  simp [run_eql_struct, run_equalIn_agg, Try.underlying25, Try.stoodInHeld25, Program.fieldsOf, go_sem]
  (repeat' split) <;> simp_all

set_option maxHeartbeats 1000000 in
theorem law1_any (w : World) (A : Option Addr) (c : Nat) (l : List Vote) (B : Option Addr) (c2 : Nat) (tr : List Bool) (hv : Rdl w 0 3 voteCells A l) (ht : Rdl w 0 1 boolCells B tr) (hl : l.length ≤ maxLen) (htl : tr.length ≤ maxLen) (hcc : tr.length ≤ c2) (at_ : Int) (hat : In64 at_) :
    Calls Try.prog 3 #[.slice A l.length c, .slice B tr.length c2, .int .i64 at_] w fun e w' => e = .returned (.bool true) ∧ Below w.heap.size w w' := by
  unfold In64 at hat
  refine gcalls Try.func3 rfl Try.ntmps3 (Nat.le_of_ble_eq_true rfl) ?_
  refine gfrom [(0, .slice _ _ _), (1, .slice _ _ _), (2, .int _ _)] ⟨rfl, rfl, rfl, trivial⟩ fun σ => ?_
  refine gseq fun N1 hN1 => ?_
  refine greg ?_
  refine gop (y_assign (v := .bool _) rfl) rfl rfl rfl ?_
  refine gops_nil ?_
  refine hN1 _ _ ?_
  refine gfrom [(0, .slice _ _ _), (1, .slice _ _ _), (2, .int _ _)] ⟨rfl, rfl, rfl, trivial⟩ fun σ => ?_
  refine gseq fun N2 hN2 => ?_
  refine greg ?_
  refine gop (y_move (v := .slice _ _ _) rfl) rfl rfl rfl ?_
  refine gop (y_move (v := .slice _ _ _) rfl) rfl rfl rfl ?_
  refine gop_pure (e_call (vs := [.slice _ _ _, .slice _ _ _]) Try.func8 rfl (by kernel_rfl) rfl) (fun w hM => votesFault_any w _ _ _ _ _ _ (hv.base hM) (ht.base hM) hl htl hcc) rfl rfl rfl ?_
  refine gop_alloc (cs := #[.int .i64 0, .int .i64 0]) Try.zeroValue25 rfl rfl (fun b7 hb7 => ?_)
  refine gop_store 0 (v := .agg #[_, _]) (cs' := #[_, _]) rfl rfl Try.sizeOf25 rfl rfl rfl rfl (Nat.le_of_ble_eq_true rfl) rfl rfl ?_
  refine gops_nil ?_
  refine hN2 _ _ ?_
  refine gT [box b7 _] rfl ?_
  refine gfrom [(0, .slice _ _ _), (1, .slice _ _ _), (2, .int _ _), (7, .pointer _)] ⟨rfl, rfl, rfl, rfl, trivial⟩ fun σ => ?_
  refine gseq fun N3 hN3 => ?_
  refine greg ?_
  refine gop (y_move (v := .slice _ _ _) rfl) rfl rfl rfl ?_
  refine gop (y_move (v := .slice _ _ _) rfl) rfl rfl rfl ?_
  refine gop (y_move (v := .int _ _) rfl) rfl rfl rfl ?_
  refine gop_new (fun lo ws v => ∃ v1, v = .tuple #[v1, fv (Votes.stateF l tr (at_))] ∧ NewL 1 intCells (Votes.curL l tr (at_)) lo ws v1) (e_call (vs := [.slice _ _ _, .slice _ _ _, .int _ _]) Try.func9 rfl (by kernel_rfl) rfl) (fun w hM => (current_any w _ _ _ _ _ _ (hv.base hM) (ht.base hM) hl htl hcc _).mono fun _ _ ⟨v, h1, h2, h3⟩ => ⟨_, h1, h2, v, rfl, h3⟩) rfl rfl rfl ?_
  rintro _ lo29 ws29 hlo29 ⟨_, rfl, A29, c29, rfl, hcc29, hcm29, hr29⟩
  refine gop (y_move (v := .tuple #[.slice _ _ _, .agg #[_, _]]) rfl) rfl rfl rfl ?_
  refine gop (y_extract (v := .slice _ _ _) rfl rfl) rfl rfl rfl ?_
  refine gop (y_extract (v := .agg #[_, _]) rfl rfl) rfl rfl rfl ?_
  refine gop_alloc (cs := #[.int .i64 0, .int .i64 0]) Try.zeroValue25 rfl rfl (fun b9 hb9 => ?_)
  refine gop (y_assign (v := .slice _ _ _) rfl) rfl rfl rfl ?_
  refine gop_store 2 (v := .agg #[_, _]) (cs' := #[_, _]) rfl rfl Try.sizeOf25 rfl rfl rfl rfl (Nat.le_of_ble_eq_true rfl) rfl rfl ?_
  refine gops_nil ?_
  refine hN3 _ _ ?_
  refine gT [box b7 _, seal_ _ _, box b9 _] rfl ?_
  refine gfrom [(0, .slice _ _ _), (1, .slice _ _ _), (2, .int _ _), (7, .pointer _), (8, .slice _ _ _), (9, .pointer _)] ⟨rfl, rfl, rfl, rfl, rfl, rfl, trivial⟩ fun σ => ?_
  refine gseq fun N4 hN4 => ?_
  refine greg ?_
  refine gop (y_move (v := .slice _ _ _) rfl) rfl rfl rfl ?_
  refine gop (y_move (v := .slice _ _ _) rfl) rfl rfl rfl ?_
  refine gop (y_move (v := .int _ _) rfl) rfl rfl rfl ?_
  refine gop_pure (e_call (vs := [.slice _ _ _, .slice _ _ _, .int _ _]) Try.func10 rfl (by kernel_rfl) rfl) (fun w hM => score_any w _ _ _ _ _ _ (hv.base hM) (ht.base hM) hl htl hcc _) rfl rfl rfl ?_
  refine gop (y_move (v := .tuple #[.int _ _, .bool _, .agg #[_, _]]) rfl) rfl rfl rfl ?_
  refine gop (y_extract (v := .int _ _) rfl rfl) rfl rfl rfl ?_
  refine gop (y_extract (v := .bool _) rfl rfl) rfl rfl rfl ?_
  refine gop (y_extract (v := .agg #[_, _]) rfl rfl) rfl rfl rfl ?_
  refine gop_alloc (cs := #[.int .i64 0, .int .i64 0]) Try.zeroValue25 rfl rfl (fun b12 hb12 => ?_)
  refine gop (y_assign (v := .int _ _) rfl) rfl rfl rfl ?_
  refine gop (y_assign (v := .bool _) rfl) rfl rfl rfl ?_
  refine gop_store 3 (v := .agg #[_, _]) (cs' := #[_, _]) rfl rfl Try.sizeOf25 rfl rfl rfl rfl (Nat.le_of_ble_eq_true rfl) rfl rfl ?_
  refine gops_nil ?_
  refine hN4 _ _ ?_
  refine gT [box b7 _, seal_ _ _, box b9 _, box b12 _] rfl ?_
  refine gfrom [(0, .slice _ _ _), (1, .slice _ _ _), (2, .int _ _), (7, .pointer _), (8, .slice _ _ _), (9, .pointer _), (10, .int _ _), (11, .bool _), (12, .pointer _)] ⟨rfl, rfl, rfl, rfl, rfl, rfl, rfl, rfl, rfl, trivial⟩ fun σ => ?_
  refine gseq fun N5 hN5 => ?_
  refine greg ?_
  refine gop (y_move (v := .slice _ _ _) rfl) rfl rfl rfl ?_
  refine gop (y_move (v := .slice _ _ _) rfl) rfl rfl rfl ?_
  refine gop (y_move (v := .int _ _) rfl) rfl rfl rfl ?_
  refine gop_new (fun lo ws v => ∃ v1, v = .tuple #[v1, fv (Votes.stateF l tr (at_))] ∧ NewL 1 intCells (Votes.lapL l tr (at_)) lo ws v1) (e_call (vs := [.slice _ _ _, .slice _ _ _, .int _ _]) Try.func11 rfl (by kernel_rfl) rfl) (fun w hM => (lapsed_any w _ _ _ _ _ _ (hv.base hM) (ht.base hM) hl htl hcc _).mono fun _ _ ⟨v, h1, h2, h3⟩ => ⟨_, h1, h2, v, rfl, h3⟩) rfl rfl rfl ?_
  rintro _ lo44 ws44 hlo44 ⟨_, rfl, A44, c44, rfl, hcc44, hcm44, hr44⟩
  refine gop (y_move (v := .tuple #[.slice _ _ _, .agg #[_, _]]) rfl) rfl rfl rfl ?_
  refine gop (y_extract (v := .slice _ _ _) rfl rfl) rfl rfl rfl ?_
  refine gop (y_extract (v := .agg #[_, _]) rfl rfl) rfl rfl rfl ?_
  refine gop_alloc (cs := #[.int .i64 0, .int .i64 0]) Try.zeroValue25 rfl rfl (fun b14 hb14 => ?_)
  refine gop (y_assign (v := .slice _ _ _) rfl) rfl rfl rfl ?_
  refine gop_store 5 (v := .agg #[_, _]) (cs' := #[_, _]) rfl rfl Try.sizeOf25 rfl rfl rfl rfl (Nat.le_of_ble_eq_true rfl) rfl rfl ?_
  refine gops_nil ?_
  refine hN5 _ _ ?_
  refine gT [box b7 _, seal_ _ _, box b9 _, box b12 _, seal_ _ _, box b14 _] rfl ?_
  refine gfrom [(0, .slice _ _ _), (1, .slice _ _ _), (2, .int _ _), (7, .pointer _), (8, .slice _ _ _), (9, .pointer _), (10, .int _ _), (11, .bool _), (12, .pointer _), (13, .slice _ _ _), (14, .pointer _)] ⟨rfl, rfl, rfl, rfl, rfl, rfl, rfl, rfl, rfl, rfl, rfl, trivial⟩ fun σ => ?_
  refine gseq fun N6 hN6 => ?_
  refine gseq fun N7 hN7 => ?_
  refine greg_q (by kernel_rfl) (by kernel_rfl) ?_
  refine gq_pure (e_call (vs := []) Try.func12 rfl (by kernel_rfl) rfl) (fun w hM => votesExample_any w) rfl rfl rfl ?_
  refine gq (y_not rfl) rfl rfl rfl ?_
  refine gq (y_move (v := .bool _) rfl) rfl rfl rfl ?_
  refine gq_if (want := false) rfl rfl rfl rfl rfl rfl (fun hg49 => ?_) (fun hg49 => ?_)
  · -- guard 49 on
    have hg49d := not_f hg49
    refine gq (y_bare (y_move (v := .slice _ _ _) rfl)) rfl rfl rfl ?_
    refine gq_on rfl rfl rfl rfl hg49 ?_
    refine gq (y_bare (y_move (v := .slice _ _ _) rfl)) rfl rfl rfl ?_
    refine gq_on rfl rfl rfl rfl hg49 ?_
    refine gq_pure (e_call (vs := [.slice _ _ _, .slice _ _ _]) Try.func13 rfl (by kernel_rfl) rfl) (fun w hM => validate_any w _ _ _ _ _ _ (hv.base hM) (ht.base hM) hl htl hcc) rfl rfl rfl ?_
    refine gq_on rfl rfl rfl rfl hg49 ?_
    refine gq (y_bare (y_loads (cs := [_, _]) Try.isAgg25 Try.sizeOf25 rfl rfl (cells_box 0 rfl))) rfl rfl rfl ?_
    refine gq_on rfl rfl rfl rfl hg49 ?_
    refine gq (y_bare (y_bin (vx := .agg #[_, _]) (vy := .agg #[_, _]) rfl rfl (fun w => eg25 _ _ _ _ _ w) (fun w => ne25 _ _ _ _ w))) rfl rfl rfl ?_
    refine gq (y_pick_f (v := .bool _) rfl hg49 rfl) rfl rfl rfl ?_
    refine gqs_nil ?_
    refine hN7 _ _ ?_
    refine gfrom [(0, .slice _ _ _), (1, .slice _ _ _), (2, .int _ _), (7, .pointer _), (8, .slice _ _ _), (9, .pointer _), (10, .int _ _), (11, .bool _), (12, .pointer _), (13, .slice _ _ _), (14, .pointer _), (55, .bool _)] ⟨rfl, rfl, rfl, rfl, rfl, rfl, rfl, rfl, rfl, rfl, rfl, rfl, trivial⟩ fun σ => ?_
    refine gcond (b := _) rfl (fun hc55 => ?_) (fun hc55 => ?_)
    · -- slot 55 t
      simp at hc55
    · -- slot 55 f
      refine gskip ?_
      refine hN6 _ _ ?_
      refine gfrom [(0, .slice _ _ _), (1, .slice _ _ _), (2, .int _ _), (7, .pointer _), (8, .slice _ _ _), (9, .pointer _), (10, .int _ _), (11, .bool _), (12, .pointer _), (13, .slice _ _ _), (14, .pointer _)] ⟨rfl, rfl, rfl, rfl, rfl, rfl, rfl, rfl, rfl, rfl, rfl, trivial⟩ fun σ => ?_
      refine gseq fun N8 hN8 => ?_
      refine gfrom [(0, .slice _ _ _), (1, .slice _ _ _), (2, .int _ _), (7, .pointer _), (8, .slice _ _ _), (9, .pointer _), (10, .int _ _), (11, .bool _), (12, .pointer _), (13, .slice _ _ _), (14, .pointer _)] ⟨rfl, rfl, rfl, rfl, rfl, rfl, rfl, rfl, rfl, rfl, rfl, trivial⟩ fun σ => ?_
      refine gcut3 (Lf := [(0, .slice _ _ _), (1, .slice _ _ _), (2, .int _ _), (7, .pointer _), (8, .slice _ _ _), (9, .pointer _), (10, .int _ _), (11, .bool _), (12, .pointer _), (13, .slice _ _ _), (14, .pointer _)]) (G := Unit) (fun g => True) (fun g => []) (fun g => [(0, box b7 (.cells #[.int .i64 (Votes.stateF l tr at_).code, .int .i64 (Votes.stateF l tr at_).index] 25))]) ⟨rfl, rfl, rfl, rfl, rfl, rfl, rfl, rfl, rfl, rfl, rfl, trivial⟩ ?_ ?_
      ·
        refine gseq fun N9 hN9 => ?_
        refine greg ?_
        refine gop (y_fieldAddr_box fa25_0 rfl) rfl rfl rfl ?_
        refine gop (y_load Try.isAgg3 rfl (cell_box 0 rfl rfl)) rfl rfl rfl ?_
        refine gop (y_eql rfl rfl) rfl rfl rfl ?_
        refine gop (y_move (v := .bool _) rfl) rfl rfl rfl ?_
        refine gop_if (want := true) rfl rfl rfl rfl rfl rfl (fun hg59 => ?_) (fun hg59 => ?_)
        · -- guard 59 on
          have hg59d := of_decide_eq_true hg59
          refine gop (y_bare (y_move (v := .int _ _) rfl)) rfl rfl rfl ?_
          refine gop_on rfl rfl rfl rfl hg59 ?_
          refine gop (y_bare (y_lss rfl rfl)) rfl rfl rfl ?_
          refine gop_on rfl rfl rfl rfl hg59 ?_
          refine gop (y_bare (y_move (v := .bool _) rfl)) rfl rfl rfl ?_
          refine gop_if (want := false) rfl rfl rfl rfl rfl rfl (fun hg62 => ?_) (fun hg62 => ?_)
          · -- guard 62 on
            have hg62d := of_decide_eq_false hg62
            refine gop (y_bare (y_move (v := .int _ _) rfl)) rfl rfl rfl ?_
            refine gop_on rfl rfl rfl rfl hg62 ?_
            refine gop (y_bare (y_move (v := .slice _ _ _) rfl)) rfl rfl rfl ?_
            refine gop_on rfl rfl rfl rfl hg62 ?_
            refine gop (y_bare (y_len Try.underlying23 rfl)) rfl rfl rfl ?_
            refine gop_on rfl rfl rfl rfl hg62 ?_
            refine gop (y_bare (y_geq rfl rfl)) rfl rfl rfl ?_
            refine gop_on rfl rfl rfl rfl hg59 ?_
            refine gop (y_bare (y_pick_f (v := .bool _) rfl hg62 rfl)) rfl rfl rfl ?_
            refine gop (y_pick_t (v := .bool _) rfl hg59 rfl) rfl rfl rfl ?_
            refine gops_nil ?_
            refine hN9 _ _ ?_
            refine gfrom [(0, .slice _ _ _), (1, .slice _ _ _), (2, .int _ _), (7, .pointer _), (8, .slice _ _ _), (9, .pointer _), (10, .int _ _), (11, .bool _), (12, .pointer _), (13, .slice _ _ _), (14, .pointer _), (68, .bool _)] ⟨rfl, rfl, rfl, rfl, rfl, rfl, rfl, rfl, rfl, rfl, rfl, rfl, trivial⟩ fun σ => ?_
            refine gcond (b := _) rfl (fun hc68 => ?_) (fun hc68 => ?_)
            · -- slot 68 t
              replace hc68 := of_decide_eq_true hc68
              have hF : Votes.stateF l tr at_ = ⟨3, -3⟩ := Votes.stateF_range hg59d (by omega)
              refine greg ?_
              refine gop_pure (e_call (vs := [_, _]) Try.func14 rfl (by kernel_rfl) rfl) (fun w hM => fault_any w _ _) rfl rfl rfl ?_
              refine gop_store 0 (v := .agg #[_, _]) (cs' := #[_, _]) rfl rfl Try.sizeOf25 rfl rfl rfl rfl (Nat.le_of_ble_eq_true rfl) rfl rfl ?_
              refine gops_nil ?_
              rw [hF]
              refine gcut3_end (()) (trivial) trivial ⟨rfl, rfl, rfl, rfl, rfl, rfl, rfl, rfl, rfl, rfl, rfl, trivial⟩ ⟨_, rfl⟩
            · -- slot 68 f
              replace hc68 := of_decide_eq_false hc68
              have hF : Votes.stateF l tr at_ = Votes.validate l tr := Votes.stateF_same (fun h => ⟨by omega, by omega⟩)
              refine gskip ?_
              rw [hF]
              refine gcut3_end (()) (trivial) trivial ⟨rfl, rfl, rfl, rfl, rfl, rfl, rfl, rfl, rfl, rfl, rfl, trivial⟩ ⟨_, rfl⟩
          · -- guard 62 off
            have hg62d := of_decide_eq_true hg62
            refine gop_off rfl rfl rfl rfl hg62 rfl rfl ?_
            refine gop_off rfl rfl rfl rfl hg62 rfl rfl ?_
            refine gop_off rfl rfl rfl rfl hg62 rfl rfl ?_
            refine gop_on rfl rfl rfl rfl hg59 ?_
            refine gop (y_bare (y_pick_t (v := .bool _) rfl hg62 rfl)) rfl rfl rfl ?_
            refine gop (y_pick_t (v := .bool _) rfl hg59 rfl) rfl rfl rfl ?_
            refine gops_nil ?_
            refine hN9 _ _ ?_
            refine gfrom [(0, .slice _ _ _), (1, .slice _ _ _), (2, .int _ _), (7, .pointer _), (8, .slice _ _ _), (9, .pointer _), (10, .int _ _), (11, .bool _), (12, .pointer _), (13, .slice _ _ _), (14, .pointer _), (68, .bool _)] ⟨rfl, rfl, rfl, rfl, rfl, rfl, rfl, rfl, rfl, rfl, rfl, rfl, trivial⟩ fun σ => ?_
            refine gcond (b := _) rfl (fun hc68 => ?_) (fun hc68 => ?_)
            · -- slot 68 t
              have hF : Votes.stateF l tr at_ = ⟨3, -3⟩ := Votes.stateF_range hg59d (by omega)
              refine greg ?_
              refine gop_pure (e_call (vs := [_, _]) Try.func14 rfl (by kernel_rfl) rfl) (fun w hM => fault_any w _ _) rfl rfl rfl ?_
              refine gop_store 0 (v := .agg #[_, _]) (cs' := #[_, _]) rfl rfl Try.sizeOf25 rfl rfl rfl rfl (Nat.le_of_ble_eq_true rfl) rfl rfl ?_
              refine gops_nil ?_
              rw [hF]
              refine gcut3_end (()) (trivial) trivial ⟨rfl, rfl, rfl, rfl, rfl, rfl, rfl, rfl, rfl, rfl, rfl, trivial⟩ ⟨_, rfl⟩
            · -- slot 68 f
              cases hc68
        · -- guard 59 off
          have hg59d := of_decide_eq_false hg59
          refine gop_off rfl rfl rfl rfl hg59 rfl rfl ?_
          refine gop_off rfl rfl rfl rfl hg59 rfl rfl ?_
          refine gop_offu rfl rfl rfl rfl rfl rfl ?_
          refine gop_offu rfl rfl rfl rfl rfl rfl ?_
          refine gop_offu rfl rfl rfl rfl rfl rfl ?_
          refine gop_offu rfl rfl rfl rfl rfl rfl ?_
          refine gop_off rfl rfl rfl rfl hg59 rfl rfl ?_
          refine gop (y_pick_f (v := .bool _) rfl hg59 rfl) rfl rfl rfl ?_
          refine gops_nil ?_
          refine hN9 _ _ ?_
          refine gfrom [(0, .slice _ _ _), (1, .slice _ _ _), (2, .int _ _), (7, .pointer _), (8, .slice _ _ _), (9, .pointer _), (10, .int _ _), (11, .bool _), (12, .pointer _), (13, .slice _ _ _), (14, .pointer _), (68, .bool _)] ⟨rfl, rfl, rfl, rfl, rfl, rfl, rfl, rfl, rfl, rfl, rfl, rfl, trivial⟩ fun σ => ?_
          refine gcond (b := _) rfl (fun hc68 => ?_) (fun hc68 => ?_)
          · -- slot 68 t
            cases hc68
          · -- slot 68 f
            have hF : Votes.stateF l tr at_ = Votes.validate l tr := Votes.stateF_same (fun h => ⟨by omega, by omega⟩)
            refine gskip ?_
            rw [hF]
            refine gcut3_end (()) (trivial) trivial ⟨rfl, rfl, rfl, rfl, rfl, rfl, rfl, rfl, rfl, rfl, rfl, trivial⟩ ⟨_, rfl⟩
      ·
        intro g hcut σ
        refine hN8 _ _ ?_
        refine gseq fun N10 hN10 => ?_
        refine gseq fun N11 hN11 => ?_
        refine greg ?_
        refine gop (y_fieldAddr_box fa25_0 rfl) rfl rfl rfl ?_
        refine gop (y_load Try.isAgg3 rfl (cell_box 0 rfl rfl)) rfl rfl rfl ?_
        refine gop (y_neq rfl rfl) rfl rfl rfl ?_
        refine gops_nil ?_
        refine hN11 _ _ ?_
        refine gT [box b7 _, seal_ _ _, box b9 _, box b12 _, seal_ _ _, box b14 _] rfl ?_
        refine gfrom [(0, .slice _ _ _), (1, .slice _ _ _), (2, .int _ _), (7, .pointer _), (8, .slice _ _ _), (9, .pointer _), (10, .int _ _), (11, .bool _), (12, .pointer _), (13, .slice _ _ _), (14, .pointer _), (72, .bool _)] ⟨rfl, rfl, rfl, rfl, rfl, rfl, rfl, rfl, rfl, rfl, rfl, rfl, trivial⟩ fun σ => ?_
        refine gcond (b := _) rfl (fun hc72 => ?_) (fun hc72 => ?_)
        · -- slot 72 t
          replace hc72 := of_decide_eq_true hc72
          have hno := Votes.refs_no (l := l) (tr := tr) (at_ := at_) (fun h => hc72 (by rw [h]))
          refine gseq fun N12 hN12 => ?_
          refine greg ?_
          refine gop (y_loads (cs := [_, _]) Try.isAgg25 Try.sizeOf25 rfl rfl (cells_box 2 rfl)) rfl rfl rfl ?_
          refine gop (y_loads (cs := [_, _]) Try.isAgg25 Try.sizeOf25 rfl rfl (cells_box 0 rfl)) rfl rfl rfl ?_
          refine gop (y_bin (vx := .agg #[_, _]) (vy := .agg #[_, _]) rfl rfl (fun w => eg25 _ _ _ _ _ w) (fun w => eq25 _ _ _ _ w)) rfl rfl rfl ?_
          refine gop (y_move (v := .bool _) rfl) rfl rfl rfl ?_
          refine gop_if (want := true) rfl rfl rfl rfl rfl rfl (fun hg76 => ?_) (fun hg76 => ?_)
          · -- guard 76 on
            have hg76d := hg76
            refine gop (y_bare (y_loads (cs := [_, _]) Try.isAgg25 Try.sizeOf25 rfl rfl (cells_box 3 rfl))) rfl rfl rfl ?_
            refine gop_on rfl rfl rfl rfl hg76 ?_
            refine gop (y_bare (y_loads (cs := [_, _]) Try.isAgg25 Try.sizeOf25 rfl rfl (cells_box 0 rfl))) rfl rfl rfl ?_
            refine gop_on rfl rfl rfl rfl hg76 ?_
            refine gop (y_bare (y_bin (vx := .agg #[_, _]) (vy := .agg #[_, _]) rfl rfl (fun w => eg25 _ _ _ _ _ w) (fun w => eq25 _ _ _ _ w))) rfl rfl rfl ?_
            refine gop (y_pick_t (v := .bool _) rfl hg76 rfl) rfl rfl rfl ?_
            refine gop (y_move (v := .bool _) rfl) rfl rfl rfl ?_
            refine gop_if (want := true) rfl rfl rfl rfl rfl rfl (fun hg81 => ?_) (fun hg81 => ?_)
            · -- guard 81 on
              have hg81d := hg81
              refine gop (y_bare (y_loads (cs := [_, _]) Try.isAgg25 Try.sizeOf25 rfl rfl (cells_box 5 rfl))) rfl rfl rfl ?_
              refine gop_on rfl rfl rfl rfl hg81 ?_
              refine gop (y_bare (y_loads (cs := [_, _]) Try.isAgg25 Try.sizeOf25 rfl rfl (cells_box 0 rfl))) rfl rfl rfl ?_
              refine gop_on rfl rfl rfl rfl hg81 ?_
              refine gop (y_bare (y_bin (vx := .agg #[_, _]) (vy := .agg #[_, _]) rfl rfl (fun w => eg25 _ _ _ _ _ w) (fun w => eq25 _ _ _ _ w))) rfl rfl rfl ?_
              refine gop (y_pick_t (v := .bool _) rfl hg81 rfl) rfl rfl rfl ?_
              refine gop (y_move (v := .bool _) rfl) rfl rfl rfl ?_
              refine gop_if (want := true) rfl rfl rfl rfl rfl rfl (fun hg86 => ?_) (fun hg86 => ?_)
              · -- guard 86 on
                have hg86d := hg86
                refine gop (y_bare (y_move (v := .slice _ _ _) rfl)) rfl rfl rfl ?_
                refine gop_on rfl rfl rfl rfl hg86 ?_
                refine gop (y_bare (y_len Try.underlying27 rfl)) rfl rfl rfl ?_
                refine gop_on rfl rfl rfl rfl hg86 ?_
                refine gop (y_bare (y_eql rfl rfl)) rfl rfl rfl ?_
                refine gop (y_pick_t (v := .bool _) rfl hg86 rfl) rfl rfl rfl ?_
                refine gop (y_move (v := .bool _) rfl) rfl rfl rfl ?_
                refine gop_if (want := true) rfl rfl rfl rfl rfl rfl (fun hg91 => ?_) (fun hg91 => ?_)
                · -- guard 91 on
                  have hg91d := of_decide_eq_true hg91
                  refine gop (y_bare (y_move (v := .int _ _) rfl)) rfl rfl rfl ?_
                  refine gop_on rfl rfl rfl rfl hg91 ?_
                  refine gop (y_bare (y_eql rfl rfl)) rfl rfl rfl ?_
                  refine gop (y_pick_t (v := .bool _) rfl hg91 rfl) rfl rfl rfl ?_
                  refine gop (y_move (v := .bool _) rfl) rfl rfl rfl ?_
                  refine gop_if (want := true) rfl rfl rfl rfl rfl rfl (fun hg95 => ?_) (fun hg95 => ?_)
                  · -- guard 95 on
                    have hg95d := of_decide_eq_true hg95
                    refine gop (y_bare (y_move (v := .bool _) rfl)) rfl rfl rfl ?_
                    refine gop_on rfl rfl rfl rfl hg95 ?_
                    refine gop (y_bare (y_not rfl)) rfl rfl rfl ?_
                    refine gop (y_pick_t (v := .bool _) rfl hg95 rfl) rfl rfl rfl ?_
                    refine gop (y_move (v := .bool _) rfl) rfl rfl rfl ?_
                    refine gop_if (want := true) rfl rfl rfl rfl rfl rfl (fun hg99 => ?_) (fun hg99 => ?_)
                    · -- guard 99 on
                      have hg99d := not_t hg99
                      refine gop (y_bare (y_move (v := .slice _ _ _) rfl)) rfl rfl rfl ?_
                      refine gop_on rfl rfl rfl rfl hg99 ?_
                      refine gop (y_bare (y_len Try.underlying27 rfl)) rfl rfl rfl ?_
                      refine gop_on rfl rfl rfl rfl hg99 ?_
                      refine gop (y_bare (y_eql rfl rfl)) rfl rfl rfl ?_
                      refine gop (y_pick_t (v := .bool _) rfl hg99 rfl) rfl rfl rfl ?_
                      refine gop (y_assign (v := .bool _) rfl) rfl rfl rfl ?_
                      refine gops_nil ?_
                      refine hN12 _ _ ?_
                      refine gfrom [(6, .bool _)] ⟨rfl, trivial⟩ fun σ => ?_
                      refine gret fun w1 hM => ?_
                      refine ⟨_, res1 rfl (rt (v := .bool _) rfl), ?_⟩
                      exact ⟨by simp [hno], hM.low⟩
                    · -- guard 99 off
                      simp [hno] at hg99
                  · -- guard 95 off
                    simp [hno] at hg95
                · -- guard 91 off
                  simp [hno] at hg91
              · -- guard 86 off
                simp at hg86
            · -- guard 81 off
              simp at hg81
          · -- guard 76 off
            simp at hg76
        · -- slot 72 f
          replace hc72 := Decidable.not_not.1 (of_decide_eq_false hc72)
          have hF0 := Votes.stateF_code hc72
          obtain ⟨ok, h0, h1⟩ := Votes.stateF_ok l tr at_ hF0
          obtain ⟨a, rfl⟩ := Int.eq_ofNat_of_zero_le h0
          have hreq := Votes.refs_ok hF0
          have hshort := ok.short
          refine gskip ?_
          refine hN10 _ _ ?_
          refine gfrom [(0, .slice _ _ _), (1, .slice _ _ _), (2, .int _ _), (8, .slice _ _ _), (9, .pointer _), (10, .int _ _), (11, .bool _), (12, .pointer _), (13, .slice _ _ _), (14, .pointer _)] ⟨rfl, rfl, rfl, rfl, rfl, rfl, rfl, rfl, rfl, rfl, trivial⟩ fun σ => ?_
          refine gseq fun N13 hN13 => ?_
          refine greg ?_
          refine gop (y_assign (v := .slice _ _ _) rfl) rfl rfl rfl ?_
          refine gops_nil ?_
          refine hN13 _ _ ?_
          refine gfrom [(0, .slice _ _ _), (1, .slice _ _ _), (2, .int _ _), (8, .slice _ _ _), (9, .pointer _), (10, .int _ _), (11, .bool _), (12, .pointer _), (13, .slice _ _ _), (14, .pointer _), (15, .slice _ _ _)] ⟨rfl, rfl, rfl, rfl, rfl, rfl, rfl, rfl, rfl, rfl, rfl, trivial⟩ fun σ => ?_
          refine gseq fun N14 hN14 => ?_
          refine greg ?_
          refine gop (y_assign (v := .slice _ _ _) rfl) rfl rfl rfl ?_
          refine gops_nil ?_
          refine hN14 _ _ ?_
          refine gfrom [(0, .slice _ _ _), (1, .slice _ _ _), (2, .int _ _), (8, .slice _ _ _), (9, .pointer _), (10, .int _ _), (11, .bool _), (12, .pointer _), (13, .slice _ _ _), (14, .pointer _), (15, .slice _ _ _), (16, .slice _ _ _)] ⟨rfl, rfl, rfl, rfl, rfl, rfl, rfl, rfl, rfl, rfl, rfl, rfl, trivial⟩ fun σ => ?_
          refine gseq fun N15 hN15 => ?_
          refine greg ?_
          refine gop (y_assign (v := .int _ _) rfl) rfl rfl rfl ?_
          refine gops_nil ?_
          refine hN15 _ _ ?_
          refine gfrom [(0, .slice _ _ _), (1, .slice _ _ _), (2, .int _ _), (8, .slice _ _ _), (9, .pointer _), (10, .int _ _), (11, .bool _), (12, .pointer _), (13, .slice _ _ _), (14, .pointer _), (15, .slice _ _ _), (16, .slice _ _ _), (17, .int _ _)] ⟨rfl, rfl, rfl, rfl, rfl, rfl, rfl, rfl, rfl, rfl, rfl, rfl, rfl, trivial⟩ fun σ => ?_
          refine gseq fun N16 hN16 => ?_
          refine greg ?_
          refine gop (y_assign (v := .bool _) rfl) rfl rfl rfl ?_
          refine gops_nil ?_
          refine hN16 _ _ ?_
          refine gfrom [(0, .slice _ _ _), (1, .slice _ _ _), (2, .int _ _), (8, .slice _ _ _), (9, .pointer _), (10, .int _ _), (11, .bool _), (12, .pointer _), (13, .slice _ _ _), (14, .pointer _), (15, .slice _ _ _), (16, .slice _ _ _), (17, .int _ _), (18, .bool _)] ⟨rfl, rfl, rfl, rfl, rfl, rfl, rfl, rfl, rfl, rfl, rfl, rfl, rfl, rfl, trivial⟩ fun σ => ?_
          refine gseq fun N17 hN17 => ?_
          refine gseq fun N18 hN18 => ?_
          refine greg ?_
          refine gop (y_assign (v := .int _ _) rfl) rfl rfl rfl ?_
          refine gops_nil ?_
          refine hN18 _ _ ?_
          refine gfrom [(0, .slice _ _ _), (1, .slice _ _ _), (2, .int _ _), (8, .slice _ _ _), (9, .pointer _), (10, .int _ _), (11, .bool _), (12, .pointer _), (13, .slice _ _ _), (14, .pointer _), (15, .slice _ _ _), (16, .slice _ _ _), (17, .int _ _), (18, .bool _), (19, .int _ _)] ⟨rfl, rfl, rfl, rfl, rfl, rfl, rfl, rfl, rfl, rfl, rfl, rfl, rfl, rfl, rfl, trivial⟩ fun σ => ?_
          refine gblock ?_
          refine gnilrow intCells 3 1 ?_
          refine gnilrow intCells 3 1 ?_
          refine gfrom2 [(15, .slice _ _ _), (16, .slice _ _ _), (17, .int _ _), (18, .bool _), (19, .int _ _)] [(0, .slice _ _ _), (1, .slice _ _ _), (2, .int _ _), (8, .slice _ _ _), (9, .pointer _), (10, .int _ _), (11, .bool _), (12, .pointer _), (13, .slice _ _ _), (14, .pointer _)] ⟨rfl, rfl, rfl, rfl, rfl, trivial⟩ ⟨rfl, rfl, rfl, rfl, rfl, rfl, rfl, rfl, rfl, rfl, trivial⟩ fun σ => ?_
          refine gloop2 (G := Nat × Value × Value) (fun (k, vC, vL) => k ≤ 8) (fun (k, vC, vL) => 8 - k) (fun (k, vC, vL) => [(15, vC), (16, vL), (17, .int .i64 (Votes.isum (Votes.refCur l tr a (k)))), (18, .bool ((Votes.refCur l tr a (k)).any fun n => decide (n = -2))), (19, .int .i64 (k : Int))]) (fun (k, vC, vL) => [(6, rowl intCells w.heap.size 3 1 vC (Votes.refCur l tr a (k))), (7, rowl intCells w.heap.size 3 1 vL (Votes.refLap l tr a k))]) ((0, .slice none 0 0, .slice none 0 0)) ?h0 ⟨rfl, rfl, rfl, rfl, rfl, trivial⟩ ⟨rfl, rfl, rfl, rfl, rfl, rfl, rfl, rfl, rfl, rfl, trivial⟩ rfl ?round
          case h0 => exact Nat.zero_le 8
          case round =>
            rintro ⟨k, vC, vL⟩ hφ σ
            have hk : k ≤ 8 := hφ
            refine gT [box b7 _, seal_ _ _, box b9 _, box b12 _, seal_ _ _, box b14 _, rowl _ _ _ _ _ _, rowl _ _ _ _ _ _] rfl ?_
            refine gseq fun N19 hN19 => ?_
            refine gseq fun N20 hN20 => ?_
            refine greg ?_
            refine gop (y_move (v := .int _ _) rfl) rfl rfl rfl ?_
            refine gop (y_leq rfl rfl) rfl rfl rfl ?_
            refine gops_nil ?_
            refine hN20 _ _ ?_
            refine gfrom [(0, .slice _ _ _), (1, .slice _ _ _), (2, .int _ _), (8, .slice _ _ _), (9, .pointer _), (10, .int _ _), (11, .bool _), (12, .pointer _), (13, .slice _ _ _), (14, .pointer _), (15, vC), (16, vL), (17, .int _ _), (18, .bool _), (19, .int _ _), (105, .bool _)] ⟨rfl, rfl, rfl, rfl, rfl, rfl, rfl, rfl, rfl, rfl, rfl, rfl, rfl, rfl, rfl, rfl, trivial⟩ fun σ => ?_
            refine gcond (b := _) rfl (fun hc105 => ?_) (fun hc105 => ?_)
            · -- slot 105 t
              replace hc105 := of_decide_eq_true hc105
              have hk7 : k ≤ 7 := by omega
              have hlr := Votes.lastVote_rev l tr a (k : Int) ok
              have hsb := Votes.isum_ref_bd l tr a ok k
              have hvb := Votes.refVal_bd l tr a k ok
              have hll := Votes.refLap_len l tr a k
              have hcl := Votes.refCur_len l tr a k
              refine gskip ?_
              refine hN19 _ _ ?_
              refine gfrom [(0, .slice _ _ _), (1, .slice _ _ _), (2, .int _ _), (8, .slice _ _ _), (9, .pointer _), (10, .int _ _), (11, .bool _), (12, .pointer _), (13, .slice _ _ _), (14, .pointer _), (15, vC), (16, vL), (17, .int _ _), (18, .bool _), (19, .int _ _)] ⟨rfl, rfl, rfl, rfl, rfl, rfl, rfl, rfl, rfl, rfl, rfl, rfl, rfl, rfl, rfl, trivial⟩ fun σ => ?_
              refine gseq fun N21 hN21 => ?_
              refine gblock ?_
              refine gseq fun N22 hN22 => ?_
              refine greg ?_
              refine gop (y_move (v := .slice _ _ _) rfl) rfl rfl rfl ?_
              refine gop (y_move (v := .int _ _) rfl) rfl rfl rfl ?_
              refine gop (y_move (v := .int _ _) rfl) rfl rfl rfl ?_
              refine gop_pure (e_call (vs := [.slice _ _ _, .int _ _, .int _ _]) Try.func15 rfl (by kernel_rfl) rfl) (fun w hM => lastVote_any w _ _ _ _ _ (hv.base hM) hl) rfl rfl rfl ?_
              refine gop_alloc (cs := #[.int .i64 0, .int .i64 0, .int .i64 0]) Try.zeroValue35 rfl rfl (fun b20 hb20 => ?_)
              refine gop_store 8 (v := .agg #[_, _, _]) (cs' := #[_, _, _]) rfl rfl Try.sizeOf35 rfl rfl rfl rfl (Nat.le_of_ble_eq_true rfl) rfl rfl ?_
              refine gops_nil ?_
              refine hN22 _ _ ?_
              refine gT [box b7 _, seal_ _ _, box b9 _, box b12 _, seal_ _ _, box b14 _, rowl _ _ _ _ _ _, rowl _ _ _ _ _ _, box b20 _] rfl ?_
              refine gfrom [(0, .slice _ _ _), (1, .slice _ _ _), (2, .int _ _), (8, .slice _ _ _), (9, .pointer _), (10, .int _ _), (11, .bool _), (12, .pointer _), (13, .slice _ _ _), (14, .pointer _), (15, vC), (16, vL), (17, .int _ _), (18, .bool _), (19, .int _ _), (20, .pointer _)] ⟨rfl, rfl, rfl, rfl, rfl, rfl, rfl, rfl, rfl, rfl, rfl, rfl, rfl, rfl, rfl, rfl, trivial⟩ fun σ => ?_
              refine gseq fun N23 hN23 => ?_
              refine greg ?_
              refine gop (y_assign (v := .int _ _) rfl) rfl rfl rfl ?_
              refine gops_nil ?_
              refine hN23 _ _ ?_
              refine gfrom [(0, .slice _ _ _), (1, .slice _ _ _), (2, .int _ _), (8, .slice _ _ _), (9, .pointer _), (10, .int _ _), (11, .bool _), (12, .pointer _), (13, .slice _ _ _), (14, .pointer _), (15, vC), (16, vL), (17, .int _ _), (18, .bool _), (19, .int _ _), (20, .pointer _), (21, .int _ _)] ⟨rfl, rfl, rfl, rfl, rfl, rfl, rfl, rfl, rfl, rfl, rfl, rfl, rfl, rfl, rfl, rfl, rfl, trivial⟩ fun σ => ?_
              refine gseq fun N24 hN24 => ?_
              refine gseq fun N25 hN25 => ?_
              refine greg ?_
              refine gop (y_loads (cs := [_, _, _]) Try.isAgg35 Try.sizeOf35 rfl rfl (cells_box 8 rfl)) rfl rfl rfl ?_
              refine gop (y_move (v := .slice _ _ _) rfl) rfl rfl rfl ?_
              refine gop (y_move (v := .int _ _) rfl) rfl rfl rfl ?_
              refine gop_pure (e_call (vs := [.agg #[_, _, _], .slice _ _ _, .int _ _]) Try.func16 rfl (by kernel_rfl) rfl) (fun w hM => counts_any w (Votes.lastVote l k a) _ _ _ a (ht.base hM) hlr.1 (by omega) (by omega) hshort) rfl rfl rfl ?_
              refine gops_nil ?_
              refine hN25 _ _ ?_
              refine gfrom [(0, .slice _ _ _), (1, .slice _ _ _), (2, .int _ _), (8, .slice _ _ _), (9, .pointer _), (10, .int _ _), (11, .bool _), (12, .pointer _), (13, .slice _ _ _), (14, .pointer _), (15, vC), (16, vL), (17, .int _ _), (18, .bool _), (19, .int _ _), (20, .pointer _), (21, .int _ _), (115, .bool _)] ⟨rfl, rfl, rfl, rfl, rfl, rfl, rfl, rfl, rfl, rfl, rfl, rfl, rfl, rfl, rfl, rfl, rfl, rfl, trivial⟩ fun σ => ?_
              refine gcond (b := _) rfl (fun hc115 => ?_) (fun hc115 => ?_)
              · -- slot 115 t
                have hval : Votes.refVal l tr a k = (Votes.lastVote l k a).val := by rw [Votes.refVal, if_pos hc115]
                have hlap : Votes.refLap l tr a (k + 1) = Votes.refLap l tr a k := by rw [Votes.refLap_succ, if_neg (by simp [hc115])]
                refine greg ?_
                refine gop (y_fieldAddr_box fa35_2 rfl) rfl rfl rfl ?_
                refine gop (y_load Try.isAgg3 rfl (cell_box 8 rfl rfl)) rfl rfl rfl ?_
                refine gop (y_assign (v := .int _ _) rfl) rfl rfl rfl ?_
                refine gops_nil ?_
                refine hN24 _ _ ?_
                refine gfrom [(0, .slice _ _ _), (1, .slice _ _ _), (2, .int _ _), (8, .slice _ _ _), (9, .pointer _), (10, .int _ _), (11, .bool _), (12, .pointer _), (13, .slice _ _ _), (14, .pointer _), (15, vC), (16, vL), (17, .int _ _), (18, .bool _), (19, .int _ _), (21, .int _ _)] ⟨rfl, rfl, rfl, rfl, rfl, rfl, rfl, rfl, rfl, rfl, rfl, rfl, rfl, rfl, rfl, rfl, trivial⟩ fun σ => ?_
                refine gseq fun N26 hN26 => ?_
                refine greg ?_
                refine gop (y_move (v := vC) rfl) rfl rfl rfl ?_
                refine gop (y_move (v := .int _ _) rfl) rfl rfl rfl ?_
                refine gop_lit (vs := [.int _ _]) (cells := #[_]) Try.underlying27 Try.sizeOf3 Try.zeroValue3 rfl (by decide) (by decide) rfl rfl rfl rfl (fun b127 hb127 => ?_)
                refine gop_append 6 (f := intCells) (l2 := [_]) Try.underlying27 el3 wide_int (v := vC) rfl rfl rfl rfl (fun h => by cases h) (by simp [maxLen]; omega) (by simp; omega) (src_box 9 rfl rfl) rfl (fun v128 => ?_)
                refine gop (y_assign (v := v128) rfl) rfl rfl rfl ?_
                refine gops_nil ?_
                refine hN26 _ _ ?_
                refine gT [box b7 _, seal_ _ _, box b9 _, box b12 _, seal_ _ _, box b14 _, rowl _ _ _ _ _ _, rowl _ _ _ _ _ _, box b20 _, box b127 _] rfl ?_
                refine gfrom [(0, .slice _ _ _), (1, .slice _ _ _), (2, .int _ _), (8, .slice _ _ _), (9, .pointer _), (10, .int _ _), (11, .bool _), (12, .pointer _), (13, .slice _ _ _), (14, .pointer _), (15, v128), (16, vL), (17, .int _ _), (18, .bool _), (19, .int _ _), (21, .int _ _)] ⟨rfl, rfl, rfl, rfl, rfl, rfl, rfl, rfl, rfl, rfl, rfl, rfl, rfl, rfl, rfl, rfl, trivial⟩ fun σ => ?_
                refine gseq fun N27 hN27 => ?_
                refine greg ?_
                refine gop (y_move (v := .int _ _) rfl) rfl rfl rfl ?_
                refine gop (y_move (v := .int _ _) rfl) rfl rfl rfl ?_
                refine gop (y_add rfl rfl ⟨by omega, by omega⟩) rfl rfl rfl ?_
                refine gop (y_assign (v := .int _ _) rfl) rfl rfl rfl ?_
                refine gops_nil ?_
                refine hN27 _ _ ?_
                refine gfrom [(0, .slice _ _ _), (1, .slice _ _ _), (2, .int _ _), (8, .slice _ _ _), (9, .pointer _), (10, .int _ _), (11, .bool _), (12, .pointer _), (13, .slice _ _ _), (14, .pointer _), (15, v128), (16, vL), (17, .int _ _), (18, .bool _), (19, .int _ _), (21, .int _ _)] ⟨rfl, rfl, rfl, rfl, rfl, rfl, rfl, rfl, rfl, rfl, rfl, rfl, rfl, rfl, rfl, rfl, trivial⟩ fun σ => ?_
                refine greg ?_
                refine gop (y_move (v := .bool _) rfl) rfl rfl rfl ?_
                refine gop (y_move (v := .bool _) rfl) rfl rfl rfl ?_
                refine gop_if (want := false) rfl rfl rfl rfl rfl rfl (fun hg133 => ?_) (fun hg133 => ?_)
                · -- guard 133 on
                  have hg133d := hg133
                  refine gop (y_bare (y_move (v := .int _ _) rfl)) rfl rfl rfl ?_
                  refine gop_on rfl rfl rfl rfl hg133 ?_
                  refine gop (y_bare (y_eql rfl rfl)) rfl rfl rfl ?_
                  refine gop (y_pick_f (v := .bool _) rfl hg133 rfl) rfl rfl rfl ?_
                  refine gop (y_assign (v := .bool _) rfl) rfl rfl rfl ?_
                  refine gops_nil ?_
                  refine hN21 _ _ ?_
                  refine gfrom [(0, .slice _ _ _), (1, .slice _ _ _), (2, .int _ _), (8, .slice _ _ _), (9, .pointer _), (10, .int _ _), (11, .bool _), (12, .pointer _), (13, .slice _ _ _), (14, .pointer _), (15, v128), (16, vL), (17, .int _ _), (18, .bool _), (19, .int _ _)] ⟨rfl, rfl, rfl, rfl, rfl, rfl, rfl, rfl, rfl, rfl, rfl, rfl, rfl, rfl, rfl, trivial⟩ fun σ => ?_
                  refine greg ?_
                  refine gop (y_move (v := .int _ _) rfl) rfl rfl rfl ?_
                  refine gop (y_add rfl rfl ⟨by omega, by omega⟩) rfl rfl rfl ?_
                  refine gop (y_assign (v := .int _ _) rfl) rfl rfl rfl ?_
                  refine gops_nil ?_
                  rw [show Votes.refCur l tr a (k) ++ [(Votes.lastVote l (k : Int) a).val] = Votes.refCur l tr a (k + 1) from by rw [Votes.refCur_succ, hval], ← hlap]
                  refine gnext2 ((k + 1, v128, vL)) (by show 8 - (k + 1) < 8 - k; omega) (show k + 1 ≤ 8 by omega) ⟨rfl, rfl, (congrArg (Value.int .i64) (by rw [Votes.refCur_succ, Votes.isum_snoc, hval])), (congrArg Value.bool (by rw [Votes.refCur_succ, List.any_append, hg133d]; simp [hval])), rfl, trivial⟩ ⟨rfl, rfl, rfl, rfl, rfl, rfl, rfl, rfl, rfl, rfl, trivial⟩ ⟨_, rfl⟩
                · -- guard 133 off
                  have hg133d := hg133
                  refine gop_off rfl rfl rfl rfl hg133 rfl rfl ?_
                  refine gop (y_pick_t (v := .bool _) rfl hg133 rfl) rfl rfl rfl ?_
                  refine gop (y_assign (v := .bool _) rfl) rfl rfl rfl ?_
                  refine gops_nil ?_
                  refine hN21 _ _ ?_
                  refine gfrom [(0, .slice _ _ _), (1, .slice _ _ _), (2, .int _ _), (8, .slice _ _ _), (9, .pointer _), (10, .int _ _), (11, .bool _), (12, .pointer _), (13, .slice _ _ _), (14, .pointer _), (15, v128), (16, vL), (17, .int _ _), (18, .bool _), (19, .int _ _)] ⟨rfl, rfl, rfl, rfl, rfl, rfl, rfl, rfl, rfl, rfl, rfl, rfl, rfl, rfl, rfl, trivial⟩ fun σ => ?_
                  refine greg ?_
                  refine gop (y_move (v := .int _ _) rfl) rfl rfl rfl ?_
                  refine gop (y_add rfl rfl ⟨by omega, by omega⟩) rfl rfl rfl ?_
                  refine gop (y_assign (v := .int _ _) rfl) rfl rfl rfl ?_
                  refine gops_nil ?_
                  rw [show Votes.refCur l tr a (k) ++ [(Votes.lastVote l (k : Int) a).val] = Votes.refCur l tr a (k + 1) from by rw [Votes.refCur_succ, hval], ← hlap]
                  refine gnext2 ((k + 1, v128, vL)) (by show 8 - (k + 1) < 8 - k; omega) (show k + 1 ≤ 8 by omega) ⟨rfl, rfl, (congrArg (Value.int .i64) (by rw [Votes.refCur_succ, Votes.isum_snoc, hval])), (congrArg Value.bool (by rw [Votes.refCur_succ, List.any_append, hg133d]; simp [hval])), rfl, trivial⟩ ⟨rfl, rfl, rfl, rfl, rfl, rfl, rfl, rfl, rfl, rfl, trivial⟩ ⟨_, rfl⟩
              · -- slot 115 f
                have hval : Votes.refVal l tr a k = 0 := by rw [Votes.refVal, if_neg (by simp [hc115])]
                refine gseq fun N28 hN28 => ?_
                refine greg ?_
                refine gop (y_fieldAddr_box fa35_2 rfl) rfl rfl rfl ?_
                refine gop (y_load Try.isAgg3 rfl (cell_box 8 rfl rfl)) rfl rfl rfl ?_
                refine gop (y_neq rfl rfl) rfl rfl rfl ?_
                refine gops_nil ?_
                refine hN28 _ _ ?_
                refine gfrom [(0, .slice _ _ _), (1, .slice _ _ _), (2, .int _ _), (8, .slice _ _ _), (9, .pointer _), (10, .int _ _), (11, .bool _), (12, .pointer _), (13, .slice _ _ _), (14, .pointer _), (15, vC), (16, vL), (17, .int _ _), (18, .bool _), (19, .int _ _), (21, .int _ _), (120, .bool _)] ⟨rfl, rfl, rfl, rfl, rfl, rfl, rfl, rfl, rfl, rfl, rfl, rfl, rfl, rfl, rfl, rfl, rfl, trivial⟩ fun σ => ?_
                refine gcond (b := _) rfl (fun hc120 => ?_) (fun hc120 => ?_)
                · -- slot 120 t
                  replace hc120 := of_decide_eq_true hc120
                  have hlap : Votes.refLap l tr a (k + 1) = Votes.refLap l tr a k ++ [(k : Int)] := by rw [Votes.refLap_succ, if_pos ⟨hc115, hc120⟩]
                  refine greg ?_
                  refine gop (y_move (v := vL) rfl) rfl rfl rfl ?_
                  refine gop (y_move (v := .int _ _) rfl) rfl rfl rfl ?_
                  refine gop_lit (vs := [.int _ _]) (cells := #[_]) Try.underlying27 Try.sizeOf3 Try.zeroValue3 rfl (by decide) (by decide) rfl rfl rfl rfl (fun b123 hb123 => ?_)
                  refine gop_append 7 (f := intCells) (l2 := [(k : Int)]) Try.underlying27 el3 wide_int (v := vL) rfl rfl rfl rfl (fun h => by cases h) (by simp [maxLen]; omega) (by simp; omega) (src_box 9 rfl rfl) rfl (fun v124 => ?_)
                  refine gop (y_assign (v := v124) rfl) rfl rfl rfl ?_
                  refine gops_nil ?_
                  refine hN24 _ _ ?_
                  refine gT [box b7 _, seal_ _ _, box b9 _, box b12 _, seal_ _ _, box b14 _, rowl _ _ _ _ _ _, rowl _ _ _ _ _ _, box b20 _, box b123 _] rfl ?_
                  refine gfrom [(0, .slice _ _ _), (1, .slice _ _ _), (2, .int _ _), (8, .slice _ _ _), (9, .pointer _), (10, .int _ _), (11, .bool _), (12, .pointer _), (13, .slice _ _ _), (14, .pointer _), (15, vC), (16, v124), (17, .int _ _), (18, .bool _), (19, .int _ _), (21, .int _ _)] ⟨rfl, rfl, rfl, rfl, rfl, rfl, rfl, rfl, rfl, rfl, rfl, rfl, rfl, rfl, rfl, rfl, trivial⟩ fun σ => ?_
                  refine gseq fun N29 hN29 => ?_
                  refine greg ?_
                  refine gop (y_move (v := vC) rfl) rfl rfl rfl ?_
                  refine gop (y_move (v := .int _ _) rfl) rfl rfl rfl ?_
                  refine gop_lit (vs := [.int _ _]) (cells := #[_]) Try.underlying27 Try.sizeOf3 Try.zeroValue3 rfl (by decide) (by decide) rfl rfl rfl rfl (fun b127 hb127 => ?_)
                  refine gop_append 6 (f := intCells) (l2 := [_]) Try.underlying27 el3 wide_int (v := vC) rfl rfl rfl rfl (fun h => by cases h) (by simp [maxLen]; omega) (by simp; omega) (src_box 10 rfl rfl) rfl (fun v128 => ?_)
                  refine gop (y_assign (v := v128) rfl) rfl rfl rfl ?_
                  refine gops_nil ?_
                  refine hN29 _ _ ?_
                  refine gT [box b7 _, seal_ _ _, box b9 _, box b12 _, seal_ _ _, box b14 _, rowl _ _ _ _ _ _, rowl _ _ _ _ _ _, box b20 _, box b123 _, box b127 _] rfl ?_
                  refine gfrom [(0, .slice _ _ _), (1, .slice _ _ _), (2, .int _ _), (8, .slice _ _ _), (9, .pointer _), (10, .int _ _), (11, .bool _), (12, .pointer _), (13, .slice _ _ _), (14, .pointer _), (15, v128), (16, v124), (17, .int _ _), (18, .bool _), (19, .int _ _), (21, .int _ _)] ⟨rfl, rfl, rfl, rfl, rfl, rfl, rfl, rfl, rfl, rfl, rfl, rfl, rfl, rfl, rfl, rfl, trivial⟩ fun σ => ?_
                  refine gseq fun N30 hN30 => ?_
                  refine greg ?_
                  refine gop (y_move (v := .int _ _) rfl) rfl rfl rfl ?_
                  refine gop (y_move (v := .int _ _) rfl) rfl rfl rfl ?_
                  refine gop (y_add rfl rfl ⟨by omega, by omega⟩) rfl rfl rfl ?_
                  refine gop (y_assign (v := .int _ _) rfl) rfl rfl rfl ?_
                  refine gops_nil ?_
                  refine hN30 _ _ ?_
                  refine gfrom [(0, .slice _ _ _), (1, .slice _ _ _), (2, .int _ _), (8, .slice _ _ _), (9, .pointer _), (10, .int _ _), (11, .bool _), (12, .pointer _), (13, .slice _ _ _), (14, .pointer _), (15, v128), (16, v124), (17, .int _ _), (18, .bool _), (19, .int _ _), (21, .int _ _)] ⟨rfl, rfl, rfl, rfl, rfl, rfl, rfl, rfl, rfl, rfl, rfl, rfl, rfl, rfl, rfl, rfl, trivial⟩ fun σ => ?_
                  refine greg ?_
                  refine gop (y_move (v := .bool _) rfl) rfl rfl rfl ?_
                  refine gop (y_move (v := .bool _) rfl) rfl rfl rfl ?_
                  refine gop_if (want := false) rfl rfl rfl rfl rfl rfl (fun hg133 => ?_) (fun hg133 => ?_)
                  · -- guard 133 on
                    have hg133d := hg133
                    refine gop (y_bare (y_move (v := .int _ _) rfl)) rfl rfl rfl ?_
                    refine gop_on rfl rfl rfl rfl hg133 ?_
                    refine gop (y_bare (y_eql rfl rfl)) rfl rfl rfl ?_
                    refine gop (y_pick_f (v := .bool _) rfl hg133 rfl) rfl rfl rfl ?_
                    refine gop (y_assign (v := .bool _) rfl) rfl rfl rfl ?_
                    refine gops_nil ?_
                    refine hN21 _ _ ?_
                    refine gfrom [(0, .slice _ _ _), (1, .slice _ _ _), (2, .int _ _), (8, .slice _ _ _), (9, .pointer _), (10, .int _ _), (11, .bool _), (12, .pointer _), (13, .slice _ _ _), (14, .pointer _), (15, v128), (16, v124), (17, .int _ _), (18, .bool _), (19, .int _ _)] ⟨rfl, rfl, rfl, rfl, rfl, rfl, rfl, rfl, rfl, rfl, rfl, rfl, rfl, rfl, rfl, trivial⟩ fun σ => ?_
                    refine greg ?_
                    refine gop (y_move (v := .int _ _) rfl) rfl rfl rfl ?_
                    refine gop (y_add rfl rfl ⟨by omega, by omega⟩) rfl rfl rfl ?_
                    refine gop (y_assign (v := .int _ _) rfl) rfl rfl rfl ?_
                    refine gops_nil ?_
                    rw [show Votes.refCur l tr a (k) ++ [0] = Votes.refCur l tr a (k + 1) from by rw [Votes.refCur_succ, hval], ← hlap]
                    refine gnext2 ((k + 1, v128, v124)) (by show 8 - (k + 1) < 8 - k; omega) (show k + 1 ≤ 8 by omega) ⟨rfl, rfl, (congrArg (Value.int .i64) (by rw [Votes.refCur_succ, Votes.isum_snoc, hval])), (congrArg Value.bool (by rw [Votes.refCur_succ, List.any_append, hg133d]; simp [hval])), rfl, trivial⟩ ⟨rfl, rfl, rfl, rfl, rfl, rfl, rfl, rfl, rfl, rfl, trivial⟩ ⟨_, rfl⟩
                  · -- guard 133 off
                    have hg133d := hg133
                    refine gop_off rfl rfl rfl rfl hg133 rfl rfl ?_
                    refine gop (y_pick_t (v := .bool _) rfl hg133 rfl) rfl rfl rfl ?_
                    refine gop (y_assign (v := .bool _) rfl) rfl rfl rfl ?_
                    refine gops_nil ?_
                    refine hN21 _ _ ?_
                    refine gfrom [(0, .slice _ _ _), (1, .slice _ _ _), (2, .int _ _), (8, .slice _ _ _), (9, .pointer _), (10, .int _ _), (11, .bool _), (12, .pointer _), (13, .slice _ _ _), (14, .pointer _), (15, v128), (16, v124), (17, .int _ _), (18, .bool _), (19, .int _ _)] ⟨rfl, rfl, rfl, rfl, rfl, rfl, rfl, rfl, rfl, rfl, rfl, rfl, rfl, rfl, rfl, trivial⟩ fun σ => ?_
                    refine greg ?_
                    refine gop (y_move (v := .int _ _) rfl) rfl rfl rfl ?_
                    refine gop (y_add rfl rfl ⟨by omega, by omega⟩) rfl rfl rfl ?_
                    refine gop (y_assign (v := .int _ _) rfl) rfl rfl rfl ?_
                    refine gops_nil ?_
                    rw [show Votes.refCur l tr a (k) ++ [0] = Votes.refCur l tr a (k + 1) from by rw [Votes.refCur_succ, hval], ← hlap]
                    refine gnext2 ((k + 1, v128, v124)) (by show 8 - (k + 1) < 8 - k; omega) (show k + 1 ≤ 8 by omega) ⟨rfl, rfl, (congrArg (Value.int .i64) (by rw [Votes.refCur_succ, Votes.isum_snoc, hval])), (congrArg Value.bool (by rw [Votes.refCur_succ, List.any_append, hg133d]; simp [hval])), rfl, trivial⟩ ⟨rfl, rfl, rfl, rfl, rfl, rfl, rfl, rfl, rfl, rfl, trivial⟩ ⟨_, rfl⟩
                · -- slot 120 f
                  replace hc120 := Decidable.not_not.1 (of_decide_eq_false hc120)
                  have hlap : Votes.refLap l tr a (k + 1) = Votes.refLap l tr a k := by rw [Votes.refLap_succ, if_neg (by simp [hc120])]
                  refine gskip ?_
                  refine hN24 _ _ ?_
                  refine gfrom [(0, .slice _ _ _), (1, .slice _ _ _), (2, .int _ _), (8, .slice _ _ _), (9, .pointer _), (10, .int _ _), (11, .bool _), (12, .pointer _), (13, .slice _ _ _), (14, .pointer _), (15, vC), (16, vL), (17, .int _ _), (18, .bool _), (19, .int _ _), (21, .int _ _)] ⟨rfl, rfl, rfl, rfl, rfl, rfl, rfl, rfl, rfl, rfl, rfl, rfl, rfl, rfl, rfl, rfl, trivial⟩ fun σ => ?_
                  refine gseq fun N31 hN31 => ?_
                  refine greg ?_
                  refine gop (y_move (v := vC) rfl) rfl rfl rfl ?_
                  refine gop (y_move (v := .int _ _) rfl) rfl rfl rfl ?_
                  refine gop_lit (vs := [.int _ _]) (cells := #[_]) Try.underlying27 Try.sizeOf3 Try.zeroValue3 rfl (by decide) (by decide) rfl rfl rfl rfl (fun b127 hb127 => ?_)
                  refine gop_append 6 (f := intCells) (l2 := [_]) Try.underlying27 el3 wide_int (v := vC) rfl rfl rfl rfl (fun h => by cases h) (by simp [maxLen]; omega) (by simp; omega) (src_box 9 rfl rfl) rfl (fun v128 => ?_)
                  refine gop (y_assign (v := v128) rfl) rfl rfl rfl ?_
                  refine gops_nil ?_
                  refine hN31 _ _ ?_
                  refine gT [box b7 _, seal_ _ _, box b9 _, box b12 _, seal_ _ _, box b14 _, rowl _ _ _ _ _ _, rowl _ _ _ _ _ _, box b20 _, box b127 _] rfl ?_
                  refine gfrom [(0, .slice _ _ _), (1, .slice _ _ _), (2, .int _ _), (8, .slice _ _ _), (9, .pointer _), (10, .int _ _), (11, .bool _), (12, .pointer _), (13, .slice _ _ _), (14, .pointer _), (15, v128), (16, vL), (17, .int _ _), (18, .bool _), (19, .int _ _), (21, .int _ _)] ⟨rfl, rfl, rfl, rfl, rfl, rfl, rfl, rfl, rfl, rfl, rfl, rfl, rfl, rfl, rfl, rfl, trivial⟩ fun σ => ?_
                  refine gseq fun N32 hN32 => ?_
                  refine greg ?_
                  refine gop (y_move (v := .int _ _) rfl) rfl rfl rfl ?_
                  refine gop (y_move (v := .int _ _) rfl) rfl rfl rfl ?_
                  refine gop (y_add rfl rfl ⟨by omega, by omega⟩) rfl rfl rfl ?_
                  refine gop (y_assign (v := .int _ _) rfl) rfl rfl rfl ?_
                  refine gops_nil ?_
                  refine hN32 _ _ ?_
                  refine gfrom [(0, .slice _ _ _), (1, .slice _ _ _), (2, .int _ _), (8, .slice _ _ _), (9, .pointer _), (10, .int _ _), (11, .bool _), (12, .pointer _), (13, .slice _ _ _), (14, .pointer _), (15, v128), (16, vL), (17, .int _ _), (18, .bool _), (19, .int _ _), (21, .int _ _)] ⟨rfl, rfl, rfl, rfl, rfl, rfl, rfl, rfl, rfl, rfl, rfl, rfl, rfl, rfl, rfl, rfl, trivial⟩ fun σ => ?_
                  refine greg ?_
                  refine gop (y_move (v := .bool _) rfl) rfl rfl rfl ?_
                  refine gop (y_move (v := .bool _) rfl) rfl rfl rfl ?_
                  refine gop_if (want := false) rfl rfl rfl rfl rfl rfl (fun hg133 => ?_) (fun hg133 => ?_)
                  · -- guard 133 on
                    have hg133d := hg133
                    refine gop (y_bare (y_move (v := .int _ _) rfl)) rfl rfl rfl ?_
                    refine gop_on rfl rfl rfl rfl hg133 ?_
                    refine gop (y_bare (y_eql rfl rfl)) rfl rfl rfl ?_
                    refine gop (y_pick_f (v := .bool _) rfl hg133 rfl) rfl rfl rfl ?_
                    refine gop (y_assign (v := .bool _) rfl) rfl rfl rfl ?_
                    refine gops_nil ?_
                    refine hN21 _ _ ?_
                    refine gfrom [(0, .slice _ _ _), (1, .slice _ _ _), (2, .int _ _), (8, .slice _ _ _), (9, .pointer _), (10, .int _ _), (11, .bool _), (12, .pointer _), (13, .slice _ _ _), (14, .pointer _), (15, v128), (16, vL), (17, .int _ _), (18, .bool _), (19, .int _ _)] ⟨rfl, rfl, rfl, rfl, rfl, rfl, rfl, rfl, rfl, rfl, rfl, rfl, rfl, rfl, rfl, trivial⟩ fun σ => ?_
                    refine greg ?_
                    refine gop (y_move (v := .int _ _) rfl) rfl rfl rfl ?_
                    refine gop (y_add rfl rfl ⟨by omega, by omega⟩) rfl rfl rfl ?_
                    refine gop (y_assign (v := .int _ _) rfl) rfl rfl rfl ?_
                    refine gops_nil ?_
                    rw [show Votes.refCur l tr a (k) ++ [0] = Votes.refCur l tr a (k + 1) from by rw [Votes.refCur_succ, hval], ← hlap]
                    refine gnext2 ((k + 1, v128, vL)) (by show 8 - (k + 1) < 8 - k; omega) (show k + 1 ≤ 8 by omega) ⟨rfl, rfl, (congrArg (Value.int .i64) (by rw [Votes.refCur_succ, Votes.isum_snoc, hval])), (congrArg Value.bool (by rw [Votes.refCur_succ, List.any_append, hg133d]; simp [hval])), rfl, trivial⟩ ⟨rfl, rfl, rfl, rfl, rfl, rfl, rfl, rfl, rfl, rfl, trivial⟩ ⟨_, rfl⟩
                  · -- guard 133 off
                    have hg133d := hg133
                    refine gop_off rfl rfl rfl rfl hg133 rfl rfl ?_
                    refine gop (y_pick_t (v := .bool _) rfl hg133 rfl) rfl rfl rfl ?_
                    refine gop (y_assign (v := .bool _) rfl) rfl rfl rfl ?_
                    refine gops_nil ?_
                    refine hN21 _ _ ?_
                    refine gfrom [(0, .slice _ _ _), (1, .slice _ _ _), (2, .int _ _), (8, .slice _ _ _), (9, .pointer _), (10, .int _ _), (11, .bool _), (12, .pointer _), (13, .slice _ _ _), (14, .pointer _), (15, v128), (16, vL), (17, .int _ _), (18, .bool _), (19, .int _ _)] ⟨rfl, rfl, rfl, rfl, rfl, rfl, rfl, rfl, rfl, rfl, rfl, rfl, rfl, rfl, rfl, trivial⟩ fun σ => ?_
                    refine greg ?_
                    refine gop (y_move (v := .int _ _) rfl) rfl rfl rfl ?_
                    refine gop (y_add rfl rfl ⟨by omega, by omega⟩) rfl rfl rfl ?_
                    refine gop (y_assign (v := .int _ _) rfl) rfl rfl rfl ?_
                    refine gops_nil ?_
                    rw [show Votes.refCur l tr a (k) ++ [0] = Votes.refCur l tr a (k + 1) from by rw [Votes.refCur_succ, hval], ← hlap]
                    refine gnext2 ((k + 1, v128, vL)) (by show 8 - (k + 1) < 8 - k; omega) (show k + 1 ≤ 8 by omega) ⟨rfl, rfl, (congrArg (Value.int .i64) (by rw [Votes.refCur_succ, Votes.isum_snoc, hval])), (congrArg Value.bool (by rw [Votes.refCur_succ, List.any_append, hg133d]; simp [hval])), rfl, trivial⟩ ⟨rfl, rfl, rfl, rfl, rfl, rfl, rfl, rfl, rfl, rfl, trivial⟩ ⟨_, rfl⟩
            · -- slot 105 f
              replace hc105 := of_decide_eq_false hc105
              obtain rfl : k = 8 := by omega
              refine g_fact (fun w hM => own_form (hM.own 6 rfl)) ?_
              rintro ⟨AC, cC, rfl, hcC, hmC⟩
              refine g_fact (fun w hM => own_form (hM.own 7 rfl)) ?_
              rintro ⟨AL, cL, rfl, hcL, hmL⟩
              refine gexit ?_
              refine hN17 _ _ ?_
              refine gfrom [(8, .slice _ _ _), (9, .pointer _), (10, .int _ _), (11, .bool _), (12, .pointer _), (13, .slice _ _ _), (14, .pointer _), (15, .slice AC _ cC), (16, .slice AL _ cL), (17, .int _ _), (18, .bool _)] ⟨rfl, rfl, rfl, rfl, rfl, rfl, rfl, rfl, rfl, rfl, rfl, trivial⟩ fun σ => ?_
              refine gseq fun N33 hN33 => ?_
              refine greg ?_
              refine gop (y_fieldAddr_box fa25_0 rfl) rfl rfl rfl ?_
              refine gop (y_load Try.isAgg3 rfl (cell_box 2 rfl rfl)) rfl rfl rfl ?_
              refine gop (y_eql rfl rfl) rfl rfl rfl ?_
              refine gop (y_move (v := .bool _) rfl) rfl rfl rfl ?_
              refine gop_if (want := true) rfl rfl rfl rfl rfl rfl (fun hg140 => ?_) (fun hg140 => ?_)
              · -- guard 140 on
                have hg140d := of_decide_eq_true hg140
                refine gop (y_bare (y_fieldAddr_box fa25_0 rfl)) rfl rfl rfl ?_
                refine gop_on rfl rfl rfl rfl hg140 ?_
                refine gop (y_bare (y_load Try.isAgg3 rfl (cell_box 3 rfl rfl))) rfl rfl rfl ?_
                refine gop_on rfl rfl rfl rfl hg140 ?_
                refine gop (y_bare (y_eql rfl rfl)) rfl rfl rfl ?_
                refine gop (y_pick_t (v := .bool _) rfl hg140 rfl) rfl rfl rfl ?_
                refine gop (y_move (v := .bool _) rfl) rfl rfl rfl ?_
                refine gop_if (want := true) rfl rfl rfl rfl rfl rfl (fun hg145 => ?_) (fun hg145 => ?_)
                · -- guard 145 on
                  have hg145d := of_decide_eq_true hg145
                  refine gop (y_bare (y_fieldAddr_box fa25_0 rfl)) rfl rfl rfl ?_
                  refine gop_on rfl rfl rfl rfl hg145 ?_
                  refine gop (y_bare (y_load Try.isAgg3 rfl (cell_box 5 rfl rfl))) rfl rfl rfl ?_
                  refine gop_on rfl rfl rfl rfl hg145 ?_
                  refine gop (y_bare (y_eql rfl rfl)) rfl rfl rfl ?_
                  refine gop (y_pick_t (v := .bool _) rfl hg145 rfl) rfl rfl rfl ?_
                  refine gop (y_move (v := .bool _) rfl) rfl rfl rfl ?_
                  refine gop_if (want := true) rfl rfl rfl rfl rfl rfl (fun hg150 => ?_) (fun hg150 => ?_)
                  · -- guard 150 on
                    have hg150d := of_decide_eq_true hg150
                    refine gop (y_bare (y_move (v := .slice _ _ _) rfl)) rfl rfl rfl ?_
                    refine gop_on rfl rfl rfl rfl hg150 ?_
                    refine gop (y_bare (y_move (v := .slice AC _ cC) rfl)) rfl rfl rfl ?_
                    refine gop_on rfl rfl rfl rfl hg150 ?_
                    refine gop_pure (e_call (vs := [.slice _ _ _, .slice AC _ cC]) Try.func17 rfl (by kernel_rfl) rfl) (fun w hM => sameInts_any w _ _ _ _ _ _ ((hr29.seal_ 1 rfl (Nat.le_refl _) hM).mono (Nat.zero_le _)) ((Rdl.of_own (f := intCells) (fun _ => rfl) (hM.own 6 rfl)).mono (Nat.zero_le _)) (by rw [hreq.1, Votes.refCur_len]; decide)) rfl rfl rfl ?_
                    refine gop (y_pick_t (v := .bool _) rfl hg150 rfl) rfl rfl rfl ?_
                    refine gop (y_move (v := .bool _) rfl) rfl rfl rfl ?_
                    refine gop_if (want := true) rfl rfl rfl rfl rfl rfl (fun hg155 => ?_) (fun hg155 => ?_)
                    · -- guard 155 on
                      have hg155d := hg155
                      refine gop (y_bare (y_move (v := .int _ _) rfl)) rfl rfl rfl ?_
                      refine gop_on rfl rfl rfl rfl hg155 ?_
                      refine gop (y_bare (y_move (v := .int _ _) rfl)) rfl rfl rfl ?_
                      refine gop_on rfl rfl rfl rfl hg155 ?_
                      refine gop (y_bare (y_eql rfl rfl)) rfl rfl rfl ?_
                      refine gop (y_pick_t (v := .bool _) rfl hg155 rfl) rfl rfl rfl ?_
                      refine gop (y_move (v := .bool _) rfl) rfl rfl rfl ?_
                      refine gop_if (want := true) rfl rfl rfl rfl rfl rfl (fun hg160 => ?_) (fun hg160 => ?_)
                      · -- guard 160 on
                        have hg160d := of_decide_eq_true hg160
                        refine gop (y_bare (y_move (v := .bool _) rfl)) rfl rfl rfl ?_
                        refine gop_on rfl rfl rfl rfl hg160 ?_
                        refine gop (y_bare (y_move (v := .bool _) rfl)) rfl rfl rfl ?_
                        refine gop_on rfl rfl rfl rfl hg160 ?_
                        refine gop (y_bare (y_eqlb rfl rfl Try.underlying4)) rfl rfl rfl ?_
                        refine gop (y_pick_t (v := .bool _) rfl hg160 rfl) rfl rfl rfl ?_
                        refine gop (y_move (v := .bool _) rfl) rfl rfl rfl ?_
                        refine gop_if (want := true) rfl rfl rfl rfl rfl rfl (fun hg165 => ?_) (fun hg165 => ?_)
                        · -- guard 165 on
                          have hg165d := hg165
                          refine gop (y_bare (y_move (v := .slice _ _ _) rfl)) rfl rfl rfl ?_
                          refine gop_on rfl rfl rfl rfl hg165 ?_
                          refine gop (y_bare (y_move (v := .slice AL _ cL) rfl)) rfl rfl rfl ?_
                          refine gop_on rfl rfl rfl rfl hg165 ?_
                          refine gop_pure (e_call (vs := [.slice _ _ _, .slice AL _ cL]) Try.func17 rfl (by kernel_rfl) rfl) (fun w hM => sameInts_any w _ _ _ _ _ _ ((hr44.seal_ 4 rfl (Nat.le_refl _) hM).mono (Nat.zero_le _)) ((Rdl.of_own (f := intCells) (fun _ => rfl) (hM.own 7 rfl)).mono (Nat.zero_le _)) (by have := Votes.refLap_len l tr a 8; rw [hreq.2.1]; unfold maxLen; omega)) rfl rfl rfl ?_
                          refine gop (y_pick_t (v := .bool _) rfl hg165 rfl) rfl rfl rfl ?_
                          refine gop (y_assign (v := .bool _) rfl) rfl rfl rfl ?_
                          refine gops_nil ?_
                          refine hN33 _ _ ?_
                          refine gfrom [(6, .bool _)] ⟨rfl, trivial⟩ fun σ => ?_
                          refine gret fun w1 hM => ?_
                          refine ⟨_, res1 rfl (rt (v := .bool _) rfl), ?_⟩
                          exact ⟨by simp [hreq], hM.low⟩
                        · -- guard 165 off
                          simp [hreq] at hg165
                      · -- guard 160 off
                        simp [hreq] at hg160
                    · -- guard 155 off
                      simp [hreq] at hg155
                  · -- guard 150 off
                    simp [hF0] at hg150
                · -- guard 145 off
                  simp [hF0] at hg145
              · -- guard 140 off
                simp [hF0] at hg140
  · -- guard 49 off
    exact absurd hg49 (by decide)
end Go.Proofs.Ythiblolfolagaaa
