/- walks, printed by program -/
import Derived.Test.YthiblolfolagaaaVotesA
namespace Go.Proofs.Ythiblolfolagaaa
open Go.RowKit Go.Cf
set_option maxRecDepth 10000

theorem el35 : Elem Try.prog 35 3 24 := elem_of (z := .agg #[.int .i64 0, .int .i64 0, .int .i64 0]) (by kernel_rfl) rfl (by decide)

set_option maxHeartbeats 1000000 in
theorem law5_any (w : World) (A : Option Addr) (c : Nat) (l : List Vote) (B : Option Addr) (c2 : Nat) (tr : List Bool) (hv : Rdl w 0 3 voteCells A l) (ht : Rdl w 0 1 boolCells B tr) (hl : l.length ≤ maxLen) (htl : tr.length ≤ maxLen) (hcc : tr.length ≤ c2) (hlc : l.length ≤ c) (_hcm : c ≤ maxLen) (hA0 : A = none → c = 0) (hcb : c * 24 ≤ reachBytes) (at_ : Int) :
    Calls Try.prog 7 #[.slice A l.length c, .slice B tr.length c2, .int .i64 at_] w fun e w' => e = .returned (.bool true) ∧ Below w.heap.size w w' := by
  unfold reachBytes at hcb
  have hmx : maxLen = 9223372036854775807 := rfl
  refine gcalls Try.func7 rfl Try.ntmps7 (Nat.le_of_ble_eq_true rfl) ?_
  refine gfrom [(0, .slice _ _ _), (1, .slice _ _ _), (2, .int _ _)] ⟨rfl, rfl, rfl, trivial⟩ fun σ => ?_
  refine gseq fun N1 hN1 => ?_
  refine greg ?_
  refine gop (y_assign (v := .bool _) rfl) rfl rfl rfl ?_
  refine gops_nil ?_
  refine hN1 _ _ ?_
  refine gfrom [(0, .slice _ _ _), (1, .slice _ _ _), (2, .int _ _)] ⟨rfl, rfl, rfl, trivial⟩ fun σ => ?_
  refine gseq fun N2 hN2 => ?_
  refine greg ?_
  refine gop (y_assign (v := .slice _ _ _) rfl) rfl rfl rfl ?_
  refine gops_nil ?_
  refine hN2 _ _ ?_
  refine gfrom [(0, .slice _ _ _), (1, .slice _ _ _), (2, .int _ _), (7, .slice _ _ _)] ⟨rfl, rfl, rfl, rfl, trivial⟩ fun σ => ?_
  refine gseq fun N3 hN3 => ?_
  refine gseq fun N4 hN4 => ?_
  refine greg ?_
  refine gop (y_assign (v := .int _ _) rfl) rfl rfl rfl ?_
  refine gops_nil ?_
  refine hN4 _ _ ?_
  refine gfrom [(0, .slice _ _ _), (1, .slice _ _ _), (2, .int _ _), (7, .slice _ _ _), (8, .int _ _)] ⟨rfl, rfl, rfl, rfl, rfl, trivial⟩ fun σ => ?_
  refine gblock ?_
  refine gnilrow voteCells 35 3 ?_
  refine gfrom2 [(7, .slice _ _ _), (8, .int _ _)] [(0, .slice _ _ _), (1, .slice _ _ _), (2, .int _ _)] ⟨rfl, rfl, trivial⟩ ⟨rfl, rfl, rfl, trivial⟩ fun σ => ?_
  refine gloop2 (G := Nat × Value) (fun (k, vE) => k ≤ l.length) (fun (k, vE) => l.length - k) (fun (k, vE) => [(7, vE), (8, .int .i64 (k : Int))]) (fun (k, vE) => [(0, rowl voteCells w.heap.size 35 3 vE ((l.take k).filter (fun v => decide (v.rev ≤ at_))))]) ((0, .slice none 0 0)) ?h0 ⟨rfl, rfl, trivial⟩ ⟨rfl, rfl, rfl, trivial⟩ rfl ?round
  case h0 => exact Nat.zero_le _
  case round =>
    rintro ⟨k, vE⟩ hφ σ
    have hk : k ≤ l.length := hφ
    refine gT [rowl _ _ _ _ _ _] rfl ?_
    refine gseq fun N5 hN5 => ?_
    refine gseq fun N6 hN6 => ?_
    refine greg ?_
    refine gop (y_move (v := .int _ _) rfl) rfl rfl rfl ?_
    refine gop (y_move (v := .slice _ _ _) rfl) rfl rfl rfl ?_
    refine gop (y_len Try.underlying22 rfl) rfl rfl rfl ?_
    refine gop (y_lss rfl rfl) rfl rfl rfl ?_
    refine gops_nil ?_
    refine hN6 _ _ ?_
    refine gfrom [(0, .slice _ _ _), (1, .slice _ _ _), (2, .int _ _), (7, vE), (8, .int _ _), (20, .bool _)] ⟨rfl, rfl, rfl, rfl, rfl, rfl, trivial⟩ fun σ => ?_
    refine gcond (b := _) rfl (fun hc20 => ?_) (fun hc20 => ?_)
    · -- slot 20 t
      replace hc20 := of_decide_eq_true hc20
      have hk1 : k < l.length := by omega
      obtain ⟨ad, rfl, -, hcv⟩ := hv.at_ hk1
      have hft := filter_take (fun v : Vote => decide (v.rev ≤ at_)) l k hk1
      have hfl : ((l.take k).filter (fun v => decide (v.rev ≤ at_))).length ≤ k := Nat.le_trans (List.length_filter_le _ _) (by simp; omega)
      refine gskip ?_
      refine hN5 _ _ ?_
      refine gfrom [(0, .slice _ _ _), (1, .slice _ _ _), (2, .int _ _), (7, vE), (8, .int _ _)] ⟨rfl, rfl, rfl, rfl, rfl, trivial⟩ fun σ => ?_
      refine gseq fun N7 hN7 => ?_
      refine gblock ?_
      refine gseq fun N8 hN8 => ?_
      refine greg ?_
      refine gop (y_move (v := .slice _ _ _) rfl) rfl rfl rfl ?_
      refine gop (y_move (v := .int _ _) rfl) rfl rfl rfl ?_
      refine gop (y_indexAddr Try.underlying22 Try.sizeOf35 rfl rfl rfl (by omega) (by omega)) rfl rfl rfl ?_
      refine gop (y_fieldAddr_add fa35_1 rfl) rfl rfl rfl ?_
      refine gop (y_load Try.isAgg3 rfl (cell_base (hcv 1 _ rfl))) rfl rfl rfl ?_
      refine gop (y_move (v := .int _ _) rfl) rfl rfl rfl ?_
      refine gop (y_leq rfl rfl) rfl rfl rfl ?_
      refine gops_nil ?_
      refine hN8 _ _ ?_
      refine gfrom [(0, .slice _ _ _), (1, .slice _ _ _), (2, .int _ _), (7, vE), (8, .int _ _), (29, .bool _)] ⟨rfl, rfl, rfl, rfl, rfl, rfl, trivial⟩ fun σ => ?_
      refine gcond (b := _) rfl (fun hc29 => ?_) (fun hc29 => ?_)
      · -- slot 29 t
        replace hc29 := of_decide_eq_true hc29
        refine greg ?_
        refine gop (y_move (v := vE) rfl) rfl rfl rfl ?_
        refine gop (y_move (v := .slice _ _ _) rfl) rfl rfl rfl ?_
        refine gop (y_move (v := .int _ _) rfl) rfl rfl rfl ?_
        refine gop (y_indexAddr Try.underlying22 Try.sizeOf35 rfl rfl rfl (by omega) (by omega)) rfl rfl rfl ?_
        refine gop (y_loads (cs := [_, _, _]) Try.isAgg35 Try.sizeOf35 rfl rfl (cells_base hcv)) rfl rfl rfl ?_
        refine gop_lit (vs := [.agg #[_, _, _]]) (cells := #[_, _, _]) Try.underlying22 Try.sizeOf35 Try.zeroValue35 rfl (by decide) (by decide) rfl rfl rfl rfl (fun b35 hb35 => ?_)
        refine gop_append 0 (f := voteCells) (l2 := [l[k]]) Try.underlying22 el35 wide_vote (v := vE) rfl rfl rfl rfl (fun h => by cases h) (by simp; omega) (by simp; omega) (src_box 1 rfl rfl) rfl (fun v36 => ?_)
        refine gop (y_assign (v := v36) rfl) rfl rfl rfl ?_
        refine gops_nil ?_
        refine hN7 _ _ ?_
        refine gT [rowl _ _ _ _ _ _, box b35 _] rfl ?_
        refine gfrom [(0, .slice _ _ _), (1, .slice _ _ _), (2, .int _ _), (7, v36), (8, .int _ _)] ⟨rfl, rfl, rfl, rfl, rfl, trivial⟩ fun σ => ?_
        refine greg ?_
        refine gop (y_move (v := .int _ _) rfl) rfl rfl rfl ?_
        refine gop (y_add rfl rfl ⟨by omega, by omega⟩) rfl rfl rfl ?_
        refine gop (y_assign (v := .int _ _) rfl) rfl rfl rfl ?_
        refine gops_nil ?_
        rw [show ((l.take k).filter (fun v => decide (v.rev ≤ at_))) ++ [l[k]] = ((l.take (k + 1)).filter (fun v => decide (v.rev ≤ at_))) from by rw [hft, if_pos (by simpa using hc29)]]
        refine gnext2 ((k + 1, v36)) (by show l.length - (k + 1) < l.length - k; omega) (show k + 1 ≤ _ by omega) ⟨rfl, rfl, trivial⟩ ⟨rfl, rfl, rfl, trivial⟩ ⟨_, rfl⟩
      · -- slot 29 f
        replace hc29 := of_decide_eq_false hc29
        refine gskip ?_
        refine hN7 _ _ ?_
        refine gfrom [(0, .slice _ _ _), (1, .slice _ _ _), (2, .int _ _), (7, vE), (8, .int _ _)] ⟨rfl, rfl, rfl, rfl, rfl, trivial⟩ fun σ => ?_
        refine greg ?_
        refine gop (y_move (v := .int _ _) rfl) rfl rfl rfl ?_
        refine gop (y_add rfl rfl ⟨by omega, by omega⟩) rfl rfl rfl ?_
        refine gop (y_assign (v := .int _ _) rfl) rfl rfl rfl ?_
        refine gops_nil ?_
        rw [show ((l.take k).filter (fun v => decide (v.rev ≤ at_))) = ((l.take (k + 1)).filter (fun v => decide (v.rev ≤ at_))) from by rw [hft, if_neg (by simpa using hc29), List.append_nil]]
        refine gnext2 ((k + 1, vE)) (by show l.length - (k + 1) < l.length - k; omega) (show k + 1 ≤ _ by omega) ⟨rfl, rfl, trivial⟩ ⟨rfl, rfl, rfl, trivial⟩ ⟨_, rfl⟩
    · -- slot 20 f
      replace hc20 := of_decide_eq_false hc20
      obtain rfl : k = l.length := by omega
      rw [List.take_length]
      refine g_fact (fun w hM => own_form (hM.own 0 rfl)) ?_
      rintro ⟨AE, cE, rfl, hcE, hmE⟩
      refine gexit ?_
      refine hN3 _ _ ?_
      refine gfrom [(0, .slice _ _ _), (1, .slice _ _ _), (2, .int _ _), (7, .slice AE _ cE)] ⟨rfl, rfl, rfl, rfl, trivial⟩ fun σ => ?_
      refine gseq fun N9 hN9 => ?_
      refine greg ?_
      refine gop (y_move (v := .slice _ _ _) rfl) rfl rfl rfl ?_
      refine gop (y_move (v := .slice _ _ _) rfl) rfl rfl rfl ?_
      refine gop (y_move (v := .int _ _) rfl) rfl rfl rfl ?_
      refine gop_new (fun lo ws v => ∃ v1, v = .tuple #[v1, fv (Votes.stateF l tr at_)] ∧ NewL 1 intCells (Votes.curL l tr at_) lo ws v1) (e_call (vs := [.slice _ _ _, .slice _ _ _, .int _ _]) Try.func9 rfl (by kernel_rfl) rfl) (fun w hM => (current_any w _ _ l _ _ _ (hv.base hM) (ht.base hM) hl htl hcc _).mono fun _ _ ⟨v, h1, h2, h3⟩ => ⟨_, h1, h2, v, rfl, h3⟩) rfl rfl rfl ?_
      rintro _ lo41 ws41 hlo41 ⟨_, rfl, A41, c41, rfl, hcc41, hcm41, hr41⟩
      refine gop (y_move (v := .tuple #[.slice _ _ _, .agg #[_, _]]) rfl) rfl rfl rfl ?_
      refine gop (y_extract (v := .slice _ _ _) rfl rfl) rfl rfl rfl ?_
      refine gop (y_extract (v := .agg #[_, _]) rfl rfl) rfl rfl rfl ?_
      refine gop_alloc (cs := #[.int .i64 0, .int .i64 0]) Try.zeroValue25 rfl rfl (fun b10 hb10 => ?_)
      refine gop (y_assign (v := .slice _ _ _) rfl) rfl rfl rfl ?_
      refine gop_store 2 (v := .agg #[_, _]) (cs' := #[_, _]) rfl rfl Try.sizeOf25 rfl rfl rfl rfl (Nat.le_of_ble_eq_true rfl) rfl rfl ?_
      refine gops_nil ?_
      refine hN9 _ _ ?_
      refine gT [rowl _ _ _ _ _ _, seal_ _ _, box b10 _] rfl ?_
      refine gfrom [(0, .slice _ _ _), (1, .slice _ _ _), (2, .int _ _), (7, .slice AE _ cE), (9, .slice _ _ _), (10, .pointer _)] ⟨rfl, rfl, rfl, rfl, rfl, rfl, trivial⟩ fun σ => ?_
      refine gseq fun N10 hN10 => ?_
      refine greg ?_
      refine gop (y_move (v := .slice AE _ cE) rfl) rfl rfl rfl ?_
      refine gop (y_move (v := .slice _ _ _) rfl) rfl rfl rfl ?_
      refine gop (y_move (v := .int _ _) rfl) rfl rfl rfl ?_
      refine gop_new (fun lo ws v => ∃ v1, v = .tuple #[v1, fv (Votes.stateF (l.filter (fun v => decide (v.rev ≤ at_))) tr at_)] ∧ NewL 1 intCells (Votes.curL (l.filter (fun v => decide (v.rev ≤ at_))) tr at_) lo ws v1) (e_call (vs := [.slice AE _ cE, .slice _ _ _, .int _ _]) Try.func9 rfl (by kernel_rfl) rfl) (fun w hM => (current_any w _ _ (l.filter (fun v => decide (v.rev ≤ at_))) _ _ _ (((Rdl.of_own (f := voteCells) (fun _ => rfl) (hM.own 0 rfl)).mono (Nat.zero_le _))) (ht.base hM) (Nat.le_trans (List.length_filter_le _ _) hl) htl hcc _).mono fun _ _ ⟨v, h1, h2, h3⟩ => ⟨_, h1, h2, v, rfl, h3⟩) rfl rfl rfl ?_
      rintro _ lo48 ws48 hlo48 ⟨_, rfl, A48, c48, rfl, hcc48, hcm48, hr48⟩
      refine gop (y_move (v := .tuple #[.slice _ _ _, .agg #[_, _]]) rfl) rfl rfl rfl ?_
      refine gop (y_extract (v := .slice _ _ _) rfl rfl) rfl rfl rfl ?_
      refine gop (y_extract (v := .agg #[_, _]) rfl rfl) rfl rfl rfl ?_
      refine gop_alloc (cs := #[.int .i64 0, .int .i64 0]) Try.zeroValue25 rfl rfl (fun b12 hb12 => ?_)
      refine gop (y_assign (v := .slice _ _ _) rfl) rfl rfl rfl ?_
      refine gop_store 4 (v := .agg #[_, _]) (cs' := #[_, _]) rfl rfl Try.sizeOf25 rfl rfl rfl rfl (Nat.le_of_ble_eq_true rfl) rfl rfl ?_
      refine gops_nil ?_
      refine hN10 _ _ ?_
      refine gT [rowl _ _ _ _ _ _, seal_ _ _, box b10 _, seal_ _ _, box b12 _] rfl ?_
      refine gfrom [(0, .slice _ _ _), (1, .slice _ _ _), (2, .int _ _), (7, .slice AE _ cE), (9, .slice _ _ _), (10, .pointer _), (11, .slice _ _ _), (12, .pointer _)] ⟨rfl, rfl, rfl, rfl, rfl, rfl, rfl, rfl, trivial⟩ fun σ => ?_
      refine gseq fun N11 hN11 => ?_
      refine greg ?_
      refine gop (y_move (v := .slice _ _ _) rfl) rfl rfl rfl ?_
      refine gop (y_move (v := .slice _ _ _) rfl) rfl rfl rfl ?_
      refine gop (y_move (v := .int _ _) rfl) rfl rfl rfl ?_
      refine gop_new (fun lo ws v => ∃ v1, v = .tuple #[v1, fv (Votes.stateF l tr at_)] ∧ NewL 1 intCells (Votes.lapL l tr at_) lo ws v1) (e_call (vs := [.slice _ _ _, .slice _ _ _, .int _ _]) Try.func11 rfl (by kernel_rfl) rfl) (fun w hM => (lapsed_any w _ _ l _ _ _ (hv.base hM) (ht.base hM) hl htl hcc _).mono fun _ _ ⟨v, h1, h2, h3⟩ => ⟨_, h1, h2, v, rfl, h3⟩) rfl rfl rfl ?_
      rintro _ lo55 ws55 hlo55 ⟨_, rfl, A55, c55, rfl, hcc55, hcm55, hr55⟩
      refine gop (y_move (v := .tuple #[.slice _ _ _, .agg #[_, _]]) rfl) rfl rfl rfl ?_
      refine gop (y_extract (v := .slice _ _ _) rfl rfl) rfl rfl rfl ?_
      refine gop (y_extract (v := .agg #[_, _]) rfl rfl) rfl rfl rfl ?_
      refine gop_alloc (cs := #[.int .i64 0, .int .i64 0]) Try.zeroValue25 rfl rfl (fun b14 hb14 => ?_)
      refine gop (y_assign (v := .slice _ _ _) rfl) rfl rfl rfl ?_
      refine gop_store 6 (v := .agg #[_, _]) (cs' := #[_, _]) rfl rfl Try.sizeOf25 rfl rfl rfl rfl (Nat.le_of_ble_eq_true rfl) rfl rfl ?_
      refine gops_nil ?_
      refine hN11 _ _ ?_
      refine gT [rowl _ _ _ _ _ _, seal_ _ _, box b10 _, seal_ _ _, box b12 _, seal_ _ _, box b14 _] rfl ?_
      refine gfrom [(1, .slice _ _ _), (2, .int _ _), (7, .slice AE _ cE), (9, .slice _ _ _), (10, .pointer _), (11, .slice _ _ _), (12, .pointer _), (13, .slice _ _ _), (14, .pointer _)] ⟨rfl, rfl, rfl, rfl, rfl, rfl, rfl, rfl, rfl, trivial⟩ fun σ => ?_
      refine gseq fun N12 hN12 => ?_
      refine greg ?_
      refine gop (y_move (v := .slice AE _ cE) rfl) rfl rfl rfl ?_
      refine gop (y_move (v := .slice _ _ _) rfl) rfl rfl rfl ?_
      refine gop (y_move (v := .int _ _) rfl) rfl rfl rfl ?_
      refine gop_new (fun lo ws v => ∃ v1, v = .tuple #[v1, fv (Votes.stateF (l.filter (fun v => decide (v.rev ≤ at_))) tr at_)] ∧ NewL 1 intCells (Votes.lapL (l.filter (fun v => decide (v.rev ≤ at_))) tr at_) lo ws v1) (e_call (vs := [.slice AE _ cE, .slice _ _ _, .int _ _]) Try.func11 rfl (by kernel_rfl) rfl) (fun w hM => (lapsed_any w _ _ (l.filter (fun v => decide (v.rev ≤ at_))) _ _ _ (((Rdl.of_own (f := voteCells) (fun _ => rfl) (hM.own 0 rfl)).mono (Nat.zero_le _))) (ht.base hM) (Nat.le_trans (List.length_filter_le _ _) hl) htl hcc _).mono fun _ _ ⟨v, h1, h2, h3⟩ => ⟨_, h1, h2, v, rfl, h3⟩) rfl rfl rfl ?_
      rintro _ lo62 ws62 hlo62 ⟨_, rfl, A62, c62, rfl, hcc62, hcm62, hr62⟩
      refine gop (y_move (v := .tuple #[.slice _ _ _, .agg #[_, _]]) rfl) rfl rfl rfl ?_
      refine gop (y_extract (v := .slice _ _ _) rfl rfl) rfl rfl rfl ?_
      refine gop (y_extract (v := .agg #[_, _]) rfl rfl) rfl rfl rfl ?_
      refine gop_alloc (cs := #[.int .i64 0, .int .i64 0]) Try.zeroValue25 rfl rfl (fun b16 hb16 => ?_)
      refine gop (y_assign (v := .slice _ _ _) rfl) rfl rfl rfl ?_
      refine gop_store 8 (v := .agg #[_, _]) (cs' := #[_, _]) rfl rfl Try.sizeOf25 rfl rfl rfl rfl (Nat.le_of_ble_eq_true rfl) rfl rfl ?_
      refine gops_nil ?_
      refine hN12 _ _ ?_
      refine gT [rowl _ _ _ _ _ _, seal_ _ _, box b10 _, seal_ _ _, box b12 _, seal_ _ _, box b14 _, seal_ _ _, box b16 _] rfl ?_
      refine gfrom [(9, .slice _ _ _), (10, .pointer _), (11, .slice _ _ _), (12, .pointer _), (13, .slice _ _ _), (14, .pointer _), (15, .slice _ _ _), (16, .pointer _)] ⟨rfl, rfl, rfl, rfl, rfl, rfl, rfl, rfl, trivial⟩ fun σ => ?_
      refine gseq fun N13 hN13 => ?_
      refine gseq fun N14 hN14 => ?_
      refine greg ?_
      refine gop_pure (e_call (vs := []) Try.func12 rfl (by kernel_rfl) rfl) (fun w hM => votesExample_any w) rfl rfl rfl ?_
      refine gop (y_not rfl) rfl rfl rfl ?_
      refine gops_nil ?_
      refine hN14 _ _ ?_
      refine gfrom [(9, .slice _ _ _), (10, .pointer _), (11, .slice _ _ _), (12, .pointer _), (13, .slice _ _ _), (14, .pointer _), (15, .slice _ _ _), (16, .pointer _), (66, .bool _)] ⟨rfl, rfl, rfl, rfl, rfl, rfl, rfl, rfl, rfl, trivial⟩ fun σ => ?_
      refine gcond (b := _) rfl (fun hc66 => ?_) (fun hc66 => ?_)
      · -- slot 66 t
        simp at hc66
      · -- slot 66 f
        replace hc66 := not_f hc66
        refine gskip ?_
        refine hN13 _ _ ?_
        refine gfrom [(9, .slice _ _ _), (10, .pointer _), (11, .slice _ _ _), (12, .pointer _), (13, .slice _ _ _), (14, .pointer _), (15, .slice _ _ _), (16, .pointer _)] ⟨rfl, rfl, rfl, rfl, rfl, rfl, rfl, rfl, trivial⟩ fun σ => ?_
        refine gseq fun N15 hN15 => ?_
        refine greg ?_
        refine gop (y_fieldAddr_box fa25_0 rfl) rfl rfl rfl ?_
        refine gop (y_load Try.isAgg3 rfl (cell_box 2 rfl rfl)) rfl rfl rfl ?_
        refine gop (y_neq rfl rfl) rfl rfl rfl ?_
        refine gop (y_move (v := .bool _) rfl) rfl rfl rfl ?_
        refine gop_if (want := false) rfl rfl rfl rfl rfl rfl (fun hg70 => ?_) (fun hg70 => ?_)
        · -- guard 70 on
          have hg70d := Decidable.not_not.1 (of_decide_eq_false hg70)
          have h1 := Votes.stateF_code hg70d
          obtain ⟨e2, e3, e4⟩ := Votes.early_all h1
          refine gop (y_bare (y_fieldAddr_box fa25_0 rfl)) rfl rfl rfl ?_
          refine gop_on rfl rfl rfl rfl hg70 ?_
          refine gop (y_bare (y_load Try.isAgg3 rfl (cell_box 4 rfl rfl))) rfl rfl rfl ?_
          refine gop_on rfl rfl rfl rfl hg70 ?_
          refine gop (y_bare (y_eql rfl rfl)) rfl rfl rfl ?_
          refine gop_on rfl rfl rfl rfl hg70 ?_
          refine gop (y_bare (y_move (v := .bool _) rfl)) rfl rfl rfl ?_
          refine gop_if (want := true) rfl rfl rfl rfl rfl rfl (fun hg74 => ?_) (fun hg74 => ?_)
          · -- guard 74 on
            have hg74d := of_decide_eq_true hg74
            refine gop (y_bare (y_fieldAddr_box fa25_0 rfl)) rfl rfl rfl ?_
            refine gop_on rfl rfl rfl rfl hg74 ?_
            refine gop (y_bare (y_load Try.isAgg3 rfl (cell_box 6 rfl rfl))) rfl rfl rfl ?_
            refine gop_on rfl rfl rfl rfl hg74 ?_
            refine gop (y_bare (y_eql rfl rfl)) rfl rfl rfl ?_
            refine gop_on rfl rfl rfl rfl hg70 ?_
            refine gop (y_bare (y_pick_t (v := .bool _) rfl hg74 rfl)) rfl rfl rfl ?_
            refine gop_on rfl rfl rfl rfl hg70 ?_
            refine gop (y_bare (y_move (v := .bool _) rfl)) rfl rfl rfl ?_
            refine gop_if (want := true) rfl rfl rfl rfl rfl rfl (fun hg79 => ?_) (fun hg79 => ?_)
            · -- guard 79 on
              have hg79d := of_decide_eq_true hg79
              refine gop (y_bare (y_fieldAddr_box fa25_0 rfl)) rfl rfl rfl ?_
              refine gop_on rfl rfl rfl rfl hg79 ?_
              refine gop (y_bare (y_load Try.isAgg3 rfl (cell_box 8 rfl rfl))) rfl rfl rfl ?_
              refine gop_on rfl rfl rfl rfl hg79 ?_
              refine gop (y_bare (y_eql rfl rfl)) rfl rfl rfl ?_
              refine gop_on rfl rfl rfl rfl hg70 ?_
              refine gop (y_bare (y_pick_t (v := .bool _) rfl hg79 rfl)) rfl rfl rfl ?_
              refine gop_on rfl rfl rfl rfl hg70 ?_
              refine gop (y_bare (y_move (v := .bool _) rfl)) rfl rfl rfl ?_
              refine gop_if (want := true) rfl rfl rfl rfl rfl rfl (fun hg84 => ?_) (fun hg84 => ?_)
              · -- guard 84 on
                have hg84d := of_decide_eq_true hg84
                refine gop (y_bare (y_move (v := .slice _ _ _) rfl)) rfl rfl rfl ?_
                refine gop_on rfl rfl rfl rfl hg84 ?_
                refine gop (y_bare (y_move (v := .slice _ _ _) rfl)) rfl rfl rfl ?_
                refine gop_on rfl rfl rfl rfl hg84 ?_
                refine gop_pure (e_call (vs := [.slice _ _ _, .slice _ _ _]) Try.func17 rfl (by kernel_rfl) rfl) (fun w hM => sameInts_any w _ _ _ _ _ _ ((hr41.seal_ 1 rfl (Nat.le_refl _) hM).mono (Nat.zero_le _)) ((hr48.seal_ 3 rfl (Nat.le_refl _) hM).mono (Nat.zero_le _)) (by omega)) rfl rfl rfl ?_
                refine gop_on rfl rfl rfl rfl hg70 ?_
                refine gop (y_bare (y_pick_t (v := .bool _) rfl hg84 rfl)) rfl rfl rfl ?_
                refine gop_on rfl rfl rfl rfl hg70 ?_
                refine gop (y_bare (y_move (v := .bool _) rfl)) rfl rfl rfl ?_
                refine gop_if (want := true) rfl rfl rfl rfl rfl rfl (fun hg89 => ?_) (fun hg89 => ?_)
                · -- guard 89 on
                  have hg89d := hg89
                  refine gop (y_bare (y_move (v := .slice _ _ _) rfl)) rfl rfl rfl ?_
                  refine gop_on rfl rfl rfl rfl hg89 ?_
                  refine gop (y_bare (y_move (v := .slice _ _ _) rfl)) rfl rfl rfl ?_
                  refine gop_on rfl rfl rfl rfl hg89 ?_
                  refine gop_pure (e_call (vs := [.slice _ _ _, .slice _ _ _]) Try.func17 rfl (by kernel_rfl) rfl) (fun w hM => sameInts_any w _ _ _ _ _ _ ((hr55.seal_ 5 rfl (Nat.le_refl _) hM).mono (Nat.zero_le _)) ((hr62.seal_ 7 rfl (Nat.le_refl _) hM).mono (Nat.zero_le _)) (by omega)) rfl rfl rfl ?_
                  refine gop_on rfl rfl rfl rfl hg70 ?_
                  refine gop (y_bare (y_pick_t (v := .bool _) rfl hg89 rfl)) rfl rfl rfl ?_
                  refine gop (y_pick_f (v := .bool _) rfl hg70 rfl) rfl rfl rfl ?_
                  refine gop (y_assign (v := .bool _) rfl) rfl rfl rfl ?_
                  refine gops_nil ?_
                  refine hN15 _ _ ?_
                  refine gfrom [(6, .bool _)] ⟨rfl, trivial⟩ fun σ => ?_
                  refine gret fun w1 hM => ?_
                  refine ⟨_, res1 rfl (rt (v := .bool _) rfl), ?_⟩
                  first | exact ⟨rfl, hM.low⟩ | exact ⟨by simp [e4], hM.low⟩
                · -- guard 89 off
                  simp [e3] at hg89
              · -- guard 84 off
                simp [e2] at hg84
            · -- guard 79 off
              simp [h1] at hg79
          · -- guard 74 off
            simp [e2] at hg74
        · -- guard 70 off
          have hg70d := of_decide_eq_true hg70
          refine gop_off rfl rfl rfl rfl hg70 rfl rfl ?_
          refine gop_off rfl rfl rfl rfl hg70 rfl rfl ?_
          refine gop_off rfl rfl rfl rfl hg70 rfl rfl ?_
          refine gop_offu rfl rfl rfl rfl rfl rfl ?_
          refine gop_offu rfl rfl rfl rfl rfl rfl ?_
          refine gop_offu rfl rfl rfl rfl rfl rfl ?_
          refine gop_off rfl rfl rfl rfl hg70 rfl rfl ?_
          refine gop_off rfl rfl rfl rfl hg70 rfl rfl ?_
          refine gop_offu rfl rfl rfl rfl rfl rfl ?_
          refine gop_offu rfl rfl rfl rfl rfl rfl ?_
          refine gop_offu rfl rfl rfl rfl rfl rfl ?_
          refine gop_off rfl rfl rfl rfl hg70 rfl rfl ?_
          refine gop_off rfl rfl rfl rfl hg70 rfl rfl ?_
          refine gop_offu rfl rfl rfl rfl rfl rfl ?_
          refine gop_offu rfl rfl rfl rfl rfl rfl ?_
          refine gop_offu rfl rfl rfl rfl rfl rfl ?_
          refine gop_off rfl rfl rfl rfl hg70 rfl rfl ?_
          refine gop_off rfl rfl rfl rfl hg70 rfl rfl ?_
          refine gop_offu rfl rfl rfl rfl rfl rfl ?_
          refine gop_offu rfl rfl rfl rfl rfl rfl ?_
          refine gop_offu rfl rfl rfl rfl rfl rfl ?_
          refine gop_off rfl rfl rfl rfl hg70 rfl rfl ?_
          refine gop (y_pick_t (v := .bool _) rfl hg70 rfl) rfl rfl rfl ?_
          refine gop (y_assign (v := .bool _) rfl) rfl rfl rfl ?_
          refine gops_nil ?_
          refine hN15 _ _ ?_
          refine gfrom [(6, .bool _)] ⟨rfl, trivial⟩ fun σ => ?_
          refine gret fun w1 hM => ?_
          refine ⟨_, res1 rfl (rt (v := .bool _) rfl), ?_⟩
          first | exact ⟨rfl, hM.low⟩ | exact ⟨by simp [e4], hM.low⟩
end Go.Proofs.Ythiblolfolagaaa
