/- walks, printed by program -/
import Derived.Test.YthiblolfolagaaaVotesA
namespace Go.Proofs.Ythiblolfolagaaa
open Go.RowKit Go.Cf
set_option maxRecDepth 10000

theorem el35 : Elem Try.prog 35 3 24 := elem_of (z := .agg #[.int .i64 0, .int .i64 0, .int .i64 0]) (by kernel_rfl) rfl (by decide)

theorem current_len (w : World) (A : Option Addr) (c n : Nat) (l : List Vote) (B : Option Addr) (c2 : Nat) (tr : List Bool) (hn : n = l.length) (hv : Rdl w 0 3 voteCells A l) (ht : Rdl w 0 1 boolCells B tr) (hl : l.length ≤ maxLen) (htl : tr.length ≤ maxLen) (hcc : tr.length ≤ c2) (at_ : Int) :
    Calls Try.prog 9 #[.slice A n c, .slice B tr.length c2, .int .i64 at_] w fun e w' => ∃ v, e = .returned (.tuple #[v, fv (Votes.stateF l tr at_)]) ∧ Below w.heap.size w w' ∧ NewL 1 intCells (Votes.curL l tr at_) w.heap.size w' v := by
  subst hn
  exact current_any w A c l B c2 tr hv ht hl htl hcc at_
set_option maxHeartbeats 1000000 in
theorem law4_any (w : World) (A : Option Addr) (c : Nat) (l : List Vote) (B : Option Addr) (c2 : Nat) (tr : List Bool) (hv : Rdl w 0 3 voteCells A l) (ht : Rdl w 0 1 boolCells B tr) (hl : l.length ≤ maxLen) (htl : tr.length ≤ maxLen) (hcc : tr.length ≤ c2) (hlc : l.length ≤ c) (_hcm : c ≤ maxLen) (hA0 : A = none → c = 0) (hcb : c * 24 ≤ reachBytes) (at_ i : Int) (hi : In64 i) :
    Calls Try.prog 6 #[.slice A l.length c, .slice B tr.length c2, .int .i64 at_, .int .i64 i] w fun e w' => e = .returned (.bool true) ∧ Below w.heap.size w w' := by
  unfold In64 at hi
  unfold reachBytes at hcb
  have hmx : maxLen = 9223372036854775807 := rfl
  refine gcalls Try.func6 rfl Try.ntmps6 (Nat.le_of_ble_eq_true rfl) ?_
  refine gfrom [(0, .slice _ _ _), (1, .slice _ _ _), (2, .int _ _), (3, .int _ _)] ⟨rfl, rfl, rfl, rfl, trivial⟩ fun σ => ?_
  refine gseq fun N1 hN1 => ?_
  refine greg ?_
  refine gop (y_assign (v := .bool _) rfl) rfl rfl rfl ?_
  refine gops_nil ?_
  refine hN1 _ _ ?_
  refine gfrom [(0, .slice _ _ _), (1, .slice _ _ _), (2, .int _ _), (3, .int _ _)] ⟨rfl, rfl, rfl, rfl, trivial⟩ fun σ => ?_
  refine gseq fun N2 hN2 => ?_
  refine greg ?_
  refine gop (y_move (v := .slice _ _ _) rfl) rfl rfl rfl ?_
  refine gop (y_move (v := .slice _ _ _) rfl) rfl rfl rfl ?_
  refine gop (y_move (v := .int _ _) rfl) rfl rfl rfl ?_
  refine gop_new (fun lo ws v => ∃ v1, v = .tuple #[v1, fv (Votes.stateF l tr (at_))] ∧ NewL 1 intCells (Votes.curL l tr (at_)) lo ws v1) (e_call (vs := [.slice _ _ _, .slice _ _ _, .int _ _]) Try.func9 rfl (by kernel_rfl) rfl) (fun w hM => (current_any w _ _ _ _ _ _ (hv.base hM) (ht.base hM) hl htl hcc _).mono fun _ _ ⟨v, h1, h2, h3⟩ => ⟨_, h1, h2, v, rfl, h3⟩) rfl rfl rfl ?_
  rintro _ lo18 ws18 hlo18 ⟨_, rfl, A18, c18, rfl, hcc18, hcm18, hr18⟩
  refine gop (y_move (v := .tuple #[.slice _ _ _, .agg #[_, _]]) rfl) rfl rfl rfl ?_
  refine gop (y_extract (v := .slice _ _ _) rfl rfl) rfl rfl rfl ?_
  refine gop (y_extract (v := .agg #[_, _]) rfl rfl) rfl rfl rfl ?_
  refine gop_alloc (cs := #[.int .i64 0, .int .i64 0]) Try.zeroValue25 rfl rfl (fun b10 hb10 => ?_)
  refine gop (y_assign (v := .slice _ _ _) rfl) rfl rfl rfl ?_
  refine gop_store 1 (v := .agg #[_, _]) (cs' := #[_, _]) rfl rfl Try.sizeOf25 rfl rfl rfl rfl (Nat.le_of_ble_eq_true rfl) rfl rfl ?_
  refine gops_nil ?_
  refine hN2 _ _ ?_
  refine gT [seal_ _ _, box b10 _] rfl ?_
  refine gfrom [(0, .slice _ _ _), (1, .slice _ _ _), (2, .int _ _), (3, .int _ _), (9, .slice _ _ _), (10, .pointer _)] ⟨rfl, rfl, rfl, rfl, rfl, rfl, trivial⟩ fun σ => ?_
  refine gseq fun N3 hN3 => ?_
  refine gseq fun N4 hN4 => ?_
  refine greg ?_
  refine gop_pure (e_call (vs := []) Try.func12 rfl (by kernel_rfl) rfl) (fun w hM => votesExample_any w) rfl rfl rfl ?_
  refine gop (y_not rfl) rfl rfl rfl ?_
  refine gops_nil ?_
  refine hN4 _ _ ?_
  refine gfrom [(0, .slice _ _ _), (1, .slice _ _ _), (2, .int _ _), (3, .int _ _), (9, .slice _ _ _), (10, .pointer _), (22, .bool _)] ⟨rfl, rfl, rfl, rfl, rfl, rfl, rfl, trivial⟩ fun σ => ?_
  refine gcond (b := _) rfl (fun hc22 => ?_) (fun hc22 => ?_)
  · -- slot 22 t
    simp at hc22
  · -- slot 22 f
    replace hc22 := not_f hc22
    refine gskip ?_
    refine hN3 _ _ ?_
    refine gfrom [(0, .slice _ _ _), (1, .slice _ _ _), (2, .int _ _), (3, .int _ _), (9, .slice _ _ _), (10, .pointer _)] ⟨rfl, rfl, rfl, rfl, rfl, rfl, trivial⟩ fun σ => ?_
    refine gseq fun N5 hN5 => ?_
    refine gseq fun N6 hN6 => ?_
    refine greg_q (by kernel_rfl) (by kernel_rfl) ?_
    refine gq (y_move (v := .int _ _) rfl) rfl rfl rfl ?_
    refine gq (y_lss rfl rfl) rfl rfl rfl ?_
    refine gq (y_move (v := .bool _) rfl) rfl rfl rfl ?_
    refine gq_if (want := false) rfl rfl rfl rfl rfl rfl (fun hg25 => ?_) (fun hg25 => ?_)
    · -- guard 25 on
      have hg25d := of_decide_eq_false hg25
      obtain ⟨k, rfl⟩ := Int.eq_ofNat_of_zero_le (show 0 ≤ i by omega)
      refine gq (y_bare (y_move (v := .int _ _) rfl)) rfl rfl rfl ?_
      refine gq_on rfl rfl rfl rfl hg25 ?_
      refine gq (y_bare (y_move (v := .slice _ _ _) rfl)) rfl rfl rfl ?_
      refine gq_on rfl rfl rfl rfl hg25 ?_
      refine gq (y_bare (y_len Try.underlying22 rfl)) rfl rfl rfl ?_
      refine gq_on rfl rfl rfl rfl hg25 ?_
      refine gq (y_bare (y_sub rfl rfl ⟨by omega, by omega⟩)) rfl rfl rfl ?_
      refine gq_on rfl rfl rfl rfl hg25 ?_
      refine gq (y_bare (y_geq rfl rfl)) rfl rfl rfl ?_
      refine gq (y_pick_f (v := .bool _) rfl hg25 rfl) rfl rfl rfl ?_
      refine gq (y_move (v := .bool _) rfl) rfl rfl rfl ?_
      refine gq_if (want := false) rfl rfl rfl rfl rfl rfl (fun hg32 => ?_) (fun hg32 => ?_)
      · -- guard 32 on
        have hg32d := of_decide_eq_false hg32
        have hk0 : k < l.length := by omega
        have hk1 : k + 1 < l.length := by omega
        obtain ⟨ad, rfl, -, hcv⟩ := hv.at_ hk0
        obtain ⟨ad', e', -, hcw⟩ := hv.at_ hk1
        obtain rfl := Option.some.inj e'
        refine gq (y_bare (y_move (v := .slice _ _ _) rfl)) rfl rfl rfl ?_
        refine gq_on rfl rfl rfl rfl hg32 ?_
        refine gq (y_bare (y_move (v := .int _ _) rfl)) rfl rfl rfl ?_
        refine gq_on rfl rfl rfl rfl hg32 ?_
        refine gq (y_bare (y_indexAddr (m := k) Try.underlying22 Try.sizeOf35 rfl rfl (by omega) (by omega) (by omega))) rfl rfl rfl ?_
        refine gq_on rfl rfl rfl rfl hg32 ?_
        refine gq (y_bare (y_fieldAddr_add fa35_0 rfl)) rfl rfl rfl ?_
        refine gq_on rfl rfl rfl rfl hg32 ?_
        refine gq (y_bare (y_load Try.isAgg3 rfl (cell_base (hcv 0 _ rfl)))) rfl rfl rfl ?_
        refine gq_on rfl rfl rfl rfl hg32 ?_
        refine gq (y_bare (y_move (v := .slice _ _ _) rfl)) rfl rfl rfl ?_
        refine gq_on rfl rfl rfl rfl hg32 ?_
        refine gq (y_bare (y_move (v := .int _ _) rfl)) rfl rfl rfl ?_
        refine gq_on rfl rfl rfl rfl hg32 ?_
        refine gq (y_bare (y_add rfl rfl ⟨by omega, by omega⟩)) rfl rfl rfl ?_
        refine gq_on rfl rfl rfl rfl hg32 ?_
        refine gq (y_bare (y_indexAddr (m := k + 1) Try.underlying22 Try.sizeOf35 rfl rfl (by omega) (by omega) (by omega))) rfl rfl rfl ?_
        refine gq_on rfl rfl rfl rfl hg32 ?_
        refine gq (y_bare (y_fieldAddr_add fa35_0 rfl)) rfl rfl rfl ?_
        refine gq_on rfl rfl rfl rfl hg32 ?_
        refine gq (y_bare (y_load Try.isAgg3 rfl (cell_base (hcw 0 _ rfl)))) rfl rfl rfl ?_
        refine gq_on rfl rfl rfl rfl hg32 ?_
        refine gq (y_bare (y_eql rfl rfl)) rfl rfl rfl ?_
        refine gq (y_pick_f (v := .bool _) rfl hg32 rfl) rfl rfl rfl ?_
        refine gq (y_move (v := .bool _) rfl) rfl rfl rfl ?_
        refine gq_if (want := false) rfl rfl rfl rfl rfl rfl (fun hg46 => ?_) (fun hg46 => ?_)
        · -- guard 46 on
          have hg46d := of_decide_eq_false hg46
          refine gq (y_bare (y_move (v := .slice _ _ _) rfl)) rfl rfl rfl ?_
          refine gq_on rfl rfl rfl rfl hg46 ?_
          refine gq (y_bare (y_move (v := .int _ _) rfl)) rfl rfl rfl ?_
          refine gq_on rfl rfl rfl rfl hg46 ?_
          refine gq (y_bare (y_indexAddr (m := k) Try.underlying22 Try.sizeOf35 rfl rfl (by omega) (by omega) (by omega))) rfl rfl rfl ?_
          refine gq_on rfl rfl rfl rfl hg46 ?_
          refine gq (y_bare (y_fieldAddr_add fa35_1 rfl)) rfl rfl rfl ?_
          refine gq_on rfl rfl rfl rfl hg46 ?_
          refine gq (y_bare (y_load Try.isAgg3 rfl (cell_base (hcv 1 _ rfl)))) rfl rfl rfl ?_
          refine gq_on rfl rfl rfl rfl hg46 ?_
          refine gq (y_bare (y_move (v := .slice _ _ _) rfl)) rfl rfl rfl ?_
          refine gq_on rfl rfl rfl rfl hg46 ?_
          refine gq (y_bare (y_move (v := .int _ _) rfl)) rfl rfl rfl ?_
          refine gq_on rfl rfl rfl rfl hg46 ?_
          refine gq (y_bare (y_add rfl rfl ⟨by omega, by omega⟩)) rfl rfl rfl ?_
          refine gq_on rfl rfl rfl rfl hg46 ?_
          refine gq (y_bare (y_indexAddr (m := k + 1) Try.underlying22 Try.sizeOf35 rfl rfl (by omega) (by omega) (by omega))) rfl rfl rfl ?_
          refine gq_on rfl rfl rfl rfl hg46 ?_
          refine gq (y_bare (y_fieldAddr_add fa35_1 rfl)) rfl rfl rfl ?_
          refine gq_on rfl rfl rfl rfl hg46 ?_
          refine gq (y_bare (y_load Try.isAgg3 rfl (cell_base (hcw 1 _ rfl)))) rfl rfl rfl ?_
          refine gq_on rfl rfl rfl rfl hg46 ?_
          refine gq (y_bare (y_neq rfl rfl)) rfl rfl rfl ?_
          refine gq (y_pick_f (v := .bool _) rfl hg46 rfl) rfl rfl rfl ?_
          refine gqs_nil ?_
          refine hN6 _ _ ?_
          refine gfrom [(0, .slice _ _ _), (1, .slice _ _ _), (2, .int _ _), (3, .int _ _), (9, .slice _ _ _), (10, .pointer _), (59, .bool _)] ⟨rfl, rfl, rfl, rfl, rfl, rfl, rfl, trivial⟩ fun σ => ?_
          refine gcond (b := _) rfl (fun hc59 => ?_) (fun hc59 => ?_)
          · -- slot 59 t
            replace hc59 := of_decide_eq_true hc59
            refine gseq fun N7 hN7 => ?_
            refine greg ?_
            refine gop (y_assign (v := .bool _) rfl) rfl rfl rfl ?_
            refine gops_nil ?_
            refine hN7 _ _ ?_
            refine gfrom [(8, .bool _)] ⟨rfl, trivial⟩ fun σ => ?_
            refine gret fun w1 hM => ?_
            refine ⟨_, res1 rfl (rt (v := .bool _) rfl), ?_⟩
            exact ⟨rfl, hM.low⟩
          · -- slot 59 f
            replace hc59 := Decidable.not_not.1 (of_decide_eq_false hc59)
            have hsw := Votes.swap_set (tr := tr) (at_ := at_) hk1 hg46d hc59
            refine gskip ?_
            refine hN5 _ _ ?_
            refine gfrom [(0, .slice _ _ _), (1, .slice _ _ _), (2, .int _ _), (3, .int _ _), (9, .slice _ _ _), (10, .pointer _)] ⟨rfl, rfl, rfl, rfl, rfl, rfl, trivial⟩ fun σ => ?_
            refine gseq fun N8 hN8 => ?_
            refine greg ?_
            refine gop (y_move (v := .slice _ _ _) rfl) rfl rfl rfl ?_
            refine gops_nilrow voteCells 35 3 ?_
            refine gop_append 2 (f := voteCells) (l2 := l) Try.underlying22 el35 wide_vote (v := .slice none 0 0) rfl rfl rfl rfl hA0 (by simp; omega) (by simp; omega) (fun w hM => (hv.base hM).src (fun _ => rfl)) rfl (fun v61 => ?_)
            refine gops_fact (fun w hM => own_some (n := l.length) (hM.own 2 rfl) (by omega)) ?_
            rintro ⟨g61, c61, rfl, hc61, hm61⟩
            refine gop (y_assign (v := .slice (some ⟨g61, 0, none⟩) _ c61) rfl) rfl rfl rfl ?_
            refine gops_nil ?_
            refine hN8 _ _ ?_
            refine gT [seal_ _ _, box b10 _, rowl _ _ _ _ _ _] rfl ?_
            refine gfrom [(0, .slice _ _ _), (1, .slice _ _ _), (2, .int _ _), (3, .int _ _), (9, .slice _ _ _), (10, .pointer _), (11, .slice (some ⟨g61, 0, none⟩) _ c61)] ⟨rfl, rfl, rfl, rfl, rfl, rfl, rfl, trivial⟩ fun σ => ?_
            refine gseq fun N9 hN9 => ?_
            refine greg ?_
            refine gop (y_move (v := .slice (some ⟨g61, 0, none⟩) _ c61) rfl) rfl rfl rfl ?_
            refine gop (y_move (v := .int _ _) rfl) rfl rfl rfl ?_
            refine gop (y_move (v := .slice _ _ _) rfl) rfl rfl rfl ?_
            refine gop (y_move (v := .int _ _) rfl) rfl rfl rfl ?_
            refine gop (y_add rfl rfl ⟨by omega, by omega⟩) rfl rfl rfl ?_
            refine gop (y_indexAddr (m := k + 1) Try.underlying22 Try.sizeOf35 rfl rfl (by omega) (by omega) (by omega)) rfl rfl rfl ?_
            refine gop (y_loads (cs := [_, _, _]) Try.isAgg35 Try.sizeOf35 rfl rfl (cells_base hcw)) rfl rfl rfl ?_
            refine gop (y_indexAddr (m := k) Try.underlying22 Try.sizeOf35 rfl rfl (by omega) (by omega) (by omega)) rfl rfl rfl ?_
            refine gop_store_row 2 (f := voteCells) (size := 3) (k := k) (o := 0) (v := .agg #[_, _, _]) (a' := l[k + 1]) (fun _ => rfl) rfl (by omega) rfl Try.sizeOf35 rfl rfl rfl rfl (by simp) (List.getElem?_eq_getElem (show k < _ by simp; omega)) (by omega) rfl rfl ?_
            refine gops_nil ?_
            refine hN9 _ _ ?_
            refine gT [seal_ _ _, box b10 _, rowl _ _ _ _ _ _] rfl ?_
            refine gfrom [(0, .slice _ _ _), (1, .slice _ _ _), (2, .int _ _), (3, .int _ _), (9, .slice _ _ _), (10, .pointer _), (11, .slice (some ⟨g61, 0, none⟩) _ c61)] ⟨rfl, rfl, rfl, rfl, rfl, rfl, rfl, trivial⟩ fun σ => ?_
            refine gseq fun N10 hN10 => ?_
            refine greg ?_
            refine gop (y_move (v := .slice (some ⟨g61, 0, none⟩) _ c61) rfl) rfl rfl rfl ?_
            refine gop (y_move (v := .int _ _) rfl) rfl rfl rfl ?_
            refine gop (y_add rfl rfl ⟨by omega, by omega⟩) rfl rfl rfl ?_
            refine gop (y_move (v := .slice _ _ _) rfl) rfl rfl rfl ?_
            refine gop (y_move (v := .int _ _) rfl) rfl rfl rfl ?_
            refine gop (y_indexAddr (m := k) Try.underlying22 Try.sizeOf35 rfl rfl (by omega) (by omega) (by omega)) rfl rfl rfl ?_
            refine gop (y_loads (cs := [_, _, _]) Try.isAgg35 Try.sizeOf35 rfl rfl (cells_base hcv)) rfl rfl rfl ?_
            refine gop (y_indexAddr (m := k + 1) Try.underlying22 Try.sizeOf35 rfl rfl (by omega) (by omega) (by omega)) rfl rfl rfl ?_
            refine gop_store_row 2 (f := voteCells) (size := 3) (k := k + 1) (o := 0) (v := .agg #[_, _, _]) (a' := l[k]) (fun _ => rfl) rfl (by omega) rfl Try.sizeOf35 rfl rfl rfl rfl (by simp) (List.getElem?_eq_getElem (show k + 1 < _ by simp; omega)) (by omega) rfl rfl ?_
            refine gops_nil ?_
            refine hN10 _ _ ?_
            refine gT [seal_ _ _, box b10 _, rowl _ _ _ _ _ _] rfl ?_
            refine gfrom [(1, .slice _ _ _), (2, .int _ _), (9, .slice _ _ _), (10, .pointer _), (11, .slice (some ⟨g61, 0, none⟩) _ c61)] ⟨rfl, rfl, rfl, rfl, rfl, trivial⟩ fun σ => ?_
            refine gseq fun N11 hN11 => ?_
            refine greg ?_
            refine gop (y_move (v := .slice (some ⟨g61, 0, none⟩) _ c61) rfl) rfl rfl rfl ?_
            refine gop (y_move (v := .slice _ _ _) rfl) rfl rfl rfl ?_
            refine gop (y_move (v := .int _ _) rfl) rfl rfl rfl ?_
            refine gop_new (fun lo ws v => ∃ v1, v = .tuple #[v1, fv (Votes.stateF ((l.set k l[k + 1]).set (k + 1) l[k]) tr at_)] ∧ NewL 1 intCells (Votes.curL ((l.set k l[k + 1]).set (k + 1) l[k]) tr at_) lo ws v1) (e_call (vs := [.slice (some ⟨g61, 0, none⟩) _ c61, .slice _ _ _, .int _ _]) Try.func9 rfl (by kernel_rfl) rfl) (fun w hM => (current_len w _ _ _ ((l.set k l[k + 1]).set (k + 1) l[k]) _ _ _ (by simp) ((Rdl.of_own (f := voteCells) (fun _ => rfl) (hM.own 2 rfl)).mono (Nat.zero_le _)) (ht.base hM) (by simp; omega) htl hcc _).mono fun _ _ ⟨v, h1, h2, h3⟩ => ⟨_, h1, h2, v, rfl, h3⟩) rfl rfl rfl ?_
            rintro _ lo82 ws82 hlo82 ⟨_, rfl, A82, c82, rfl, hcc82, hcm82, hr82⟩
            refine gop (y_move (v := .tuple #[.slice _ _ _, .agg #[_, _]]) rfl) rfl rfl rfl ?_
            refine gop (y_extract (v := .slice _ _ _) rfl rfl) rfl rfl rfl ?_
            refine gop (y_extract (v := .agg #[_, _]) rfl rfl) rfl rfl rfl ?_
            refine gop_alloc (cs := #[.int .i64 0, .int .i64 0]) Try.zeroValue25 rfl rfl (fun b13 hb13 => ?_)
            refine gop (y_assign (v := .slice _ _ _) rfl) rfl rfl rfl ?_
            refine gop_store 4 (v := .agg #[_, _]) (cs' := #[_, _]) rfl rfl Try.sizeOf25 rfl rfl rfl rfl (Nat.le_of_ble_eq_true rfl) rfl rfl ?_
            refine gops_nil ?_
            refine hN11 _ _ ?_
            refine gT [seal_ _ _, box b10 _, rowl _ _ _ _ _ _, seal_ _ _, box b13 _] rfl ?_
            refine gfrom [(9, .slice _ _ _), (10, .pointer _), (12, .slice _ _ _), (13, .pointer _)] ⟨rfl, rfl, rfl, rfl, trivial⟩ fun σ => ?_
            refine gseq fun N12 hN12 => ?_
            refine greg ?_
            refine gop (y_fieldAddr_box fa25_0 rfl) rfl rfl rfl ?_
            refine gop (y_load Try.isAgg3 rfl (cell_box 1 rfl rfl)) rfl rfl rfl ?_
            refine gop (y_eql rfl rfl) rfl rfl rfl ?_
            refine gop (y_fieldAddr_box fa25_0 rfl) rfl rfl rfl ?_
            refine gop (y_load Try.isAgg3 rfl (cell_box 4 rfl rfl)) rfl rfl rfl ?_
            refine gop (y_eql rfl rfl) rfl rfl rfl ?_
            refine gop (y_eqlb rfl rfl Try.underlying4) rfl rfl rfl ?_
            refine gop (y_move (v := .bool _) rfl) rfl rfl rfl ?_
            refine gop_if (want := true) rfl rfl rfl rfl rfl rfl (fun hg92 => ?_) (fun hg92 => ?_)
            · -- guard 92 on
              have hg92d := hg92
              refine gop (y_bare (y_move (v := .slice _ _ _) rfl)) rfl rfl rfl ?_
              refine gop_on rfl rfl rfl rfl hg92 ?_
              refine gop (y_bare (y_move (v := .slice _ _ _) rfl)) rfl rfl rfl ?_
              refine gop_on rfl rfl rfl rfl hg92 ?_
              refine gop_pure (e_call (vs := [.slice _ _ _, .slice _ _ _]) Try.func17 rfl (by kernel_rfl) rfl) (fun w hM => sameInts_any w _ _ _ _ _ _ ((hr18.seal_ 0 rfl (Nat.le_refl _) hM).mono (Nat.zero_le _)) ((hr82.seal_ 3 rfl (Nat.le_refl _) hM).mono (Nat.zero_le _)) (by omega)) rfl rfl rfl ?_
              refine gop (y_pick_t (v := .bool _) rfl hg92 rfl) rfl rfl rfl ?_
              refine gop (y_assign (v := .bool _) rfl) rfl rfl rfl ?_
              refine gops_nil ?_
              refine hN12 _ _ ?_
              refine gfrom [(8, .bool _)] ⟨rfl, trivial⟩ fun σ => ?_
              refine gret fun w1 hM => ?_
              refine ⟨_, res1 rfl (rt (v := .bool _) rfl), ?_⟩
              exact ⟨by simp [hsw.1], hM.low⟩
            · -- guard 92 off
              simp [Votes.code_iff, hsw.2] at hg92
        · -- guard 46 off
          have hg46d := of_decide_eq_true hg46
          refine gq_off rfl rfl rfl rfl hg46 rfl rfl ?_
          refine gq_off rfl rfl rfl rfl hg46 rfl rfl ?_
          refine gq_off rfl rfl rfl rfl hg46 rfl rfl ?_
          refine gq_off rfl rfl rfl rfl hg46 rfl rfl ?_
          refine gq_off rfl rfl rfl rfl hg46 rfl rfl ?_
          refine gq_off rfl rfl rfl rfl hg46 rfl rfl ?_
          refine gq_off rfl rfl rfl rfl hg46 rfl rfl ?_
          refine gq_off rfl rfl rfl rfl hg46 rfl rfl ?_
          refine gq_off rfl rfl rfl rfl hg46 rfl rfl ?_
          refine gq_off rfl rfl rfl rfl hg46 rfl rfl ?_
          refine gq_off rfl rfl rfl rfl hg46 rfl rfl ?_
          refine gq (y_pick_t (v := .bool _) rfl hg46 rfl) rfl rfl rfl ?_
          refine gqs_nil ?_
          refine hN6 _ _ ?_
          refine gfrom [(0, .slice _ _ _), (1, .slice _ _ _), (2, .int _ _), (3, .int _ _), (9, .slice _ _ _), (10, .pointer _), (59, .bool _)] ⟨rfl, rfl, rfl, rfl, rfl, rfl, rfl, trivial⟩ fun σ => ?_
          refine gcond (b := _) rfl (fun hc59 => ?_) (fun hc59 => ?_)
          · -- slot 59 t
            refine gseq fun N13 hN13 => ?_
            refine greg ?_
            refine gop (y_assign (v := .bool _) rfl) rfl rfl rfl ?_
            refine gops_nil ?_
            refine hN13 _ _ ?_
            refine gfrom [(8, .bool _)] ⟨rfl, trivial⟩ fun σ => ?_
            refine gret fun w1 hM => ?_
            refine ⟨_, res1 rfl (rt (v := .bool _) rfl), ?_⟩
            exact ⟨rfl, hM.low⟩
          · -- slot 59 f
            cases hc59
      · -- guard 32 off
        have hg32d := of_decide_eq_true hg32
        refine gq_off rfl rfl rfl rfl hg32 rfl rfl ?_
        refine gq_off rfl rfl rfl rfl hg32 rfl rfl ?_
        refine gq_off rfl rfl rfl rfl hg32 rfl rfl ?_
        refine gq_off rfl rfl rfl rfl hg32 rfl rfl ?_
        refine gq_off rfl rfl rfl rfl hg32 rfl rfl ?_
        refine gq_off rfl rfl rfl rfl hg32 rfl rfl ?_
        refine gq_off rfl rfl rfl rfl hg32 rfl rfl ?_
        refine gq_off rfl rfl rfl rfl hg32 rfl rfl ?_
        refine gq_off rfl rfl rfl rfl hg32 rfl rfl ?_
        refine gq_off rfl rfl rfl rfl hg32 rfl rfl ?_
        refine gq_off rfl rfl rfl rfl hg32 rfl rfl ?_
        refine gq (y_pick_t (v := .bool _) rfl hg32 rfl) rfl rfl rfl ?_
        refine gq (y_move (v := .bool _) rfl) rfl rfl rfl ?_
        refine gq_off rfl rfl rfl rfl rfl rfl rfl ?_
        refine gq_off rfl rfl rfl rfl rfl rfl rfl ?_
        refine gq_off rfl rfl rfl rfl rfl rfl rfl ?_
        refine gq_off rfl rfl rfl rfl rfl rfl rfl ?_
        refine gq_off rfl rfl rfl rfl rfl rfl rfl ?_
        refine gq_off rfl rfl rfl rfl rfl rfl rfl ?_
        refine gq_off rfl rfl rfl rfl rfl rfl rfl ?_
        refine gq_off rfl rfl rfl rfl rfl rfl rfl ?_
        refine gq_off rfl rfl rfl rfl rfl rfl rfl ?_
        refine gq_off rfl rfl rfl rfl rfl rfl rfl ?_
        refine gq_off rfl rfl rfl rfl rfl rfl rfl ?_
        refine gq_off rfl rfl rfl rfl rfl rfl rfl ?_
        refine gq (y_pick_t (v := .bool _) rfl rfl rfl) rfl rfl rfl ?_
        refine gqs_nil ?_
        refine hN6 _ _ ?_
        refine gfrom [(0, .slice _ _ _), (1, .slice _ _ _), (2, .int _ _), (3, .int _ _), (9, .slice _ _ _), (10, .pointer _), (59, .bool _)] ⟨rfl, rfl, rfl, rfl, rfl, rfl, rfl, trivial⟩ fun σ => ?_
        refine gcond (b := _) rfl (fun hc59 => ?_) (fun hc59 => ?_)
        · -- slot 59 t
          refine gseq fun N14 hN14 => ?_
          refine greg ?_
          refine gop (y_assign (v := .bool _) rfl) rfl rfl rfl ?_
          refine gops_nil ?_
          refine hN14 _ _ ?_
          refine gfrom [(8, .bool _)] ⟨rfl, trivial⟩ fun σ => ?_
          refine gret fun w1 hM => ?_
          refine ⟨_, res1 rfl (rt (v := .bool _) rfl), ?_⟩
          exact ⟨rfl, hM.low⟩
        · -- slot 59 f
          cases hc59
    · -- guard 25 off
      have hg25d := of_decide_eq_true hg25
      refine gq_off rfl rfl rfl rfl hg25 rfl rfl ?_
      refine gq_off rfl rfl rfl rfl hg25 rfl rfl ?_
      refine gq_off rfl rfl rfl rfl hg25 rfl rfl ?_
      refine gq_off rfl rfl rfl rfl hg25 rfl rfl ?_
      refine gq (y_pick_t (v := .bool _) rfl hg25 rfl) rfl rfl rfl ?_
      refine gq (y_move (v := .bool _) rfl) rfl rfl rfl ?_
      refine gq_off rfl rfl rfl rfl rfl rfl rfl ?_
      refine gq_off rfl rfl rfl rfl rfl rfl rfl ?_
      refine gq_off rfl rfl rfl rfl rfl rfl rfl ?_
      refine gq_off rfl rfl rfl rfl rfl rfl rfl ?_
      refine gq_off rfl rfl rfl rfl rfl rfl rfl ?_
      refine gq_off rfl rfl rfl rfl rfl rfl rfl ?_
      refine gq_off rfl rfl rfl rfl rfl rfl rfl ?_
      refine gq_off rfl rfl rfl rfl rfl rfl rfl ?_
      refine gq_off rfl rfl rfl rfl rfl rfl rfl ?_
      refine gq_off rfl rfl rfl rfl rfl rfl rfl ?_
      refine gq_off rfl rfl rfl rfl rfl rfl rfl ?_
      refine gq_off rfl rfl rfl rfl rfl rfl rfl ?_
      refine gq (y_pick_t (v := .bool _) rfl rfl rfl) rfl rfl rfl ?_
      refine gq (y_move (v := .bool _) rfl) rfl rfl rfl ?_
      refine gq_off rfl rfl rfl rfl rfl rfl rfl ?_
      refine gq_off rfl rfl rfl rfl rfl rfl rfl ?_
      refine gq_off rfl rfl rfl rfl rfl rfl rfl ?_
      refine gq_off rfl rfl rfl rfl rfl rfl rfl ?_
      refine gq_off rfl rfl rfl rfl rfl rfl rfl ?_
      refine gq_off rfl rfl rfl rfl rfl rfl rfl ?_
      refine gq_off rfl rfl rfl rfl rfl rfl rfl ?_
      refine gq_off rfl rfl rfl rfl rfl rfl rfl ?_
      refine gq_off rfl rfl rfl rfl rfl rfl rfl ?_
      refine gq_off rfl rfl rfl rfl rfl rfl rfl ?_
      refine gq_off rfl rfl rfl rfl rfl rfl rfl ?_
      refine gq_off rfl rfl rfl rfl rfl rfl rfl ?_
      refine gq (y_pick_t (v := .bool _) rfl rfl rfl) rfl rfl rfl ?_
      refine gqs_nil ?_
      refine hN6 _ _ ?_
      refine gfrom [(0, .slice _ _ _), (1, .slice _ _ _), (2, .int _ _), (3, .int _ _), (9, .slice _ _ _), (10, .pointer _), (59, .bool _)] ⟨rfl, rfl, rfl, rfl, rfl, rfl, rfl, trivial⟩ fun σ => ?_
      refine gcond (b := _) rfl (fun hc59 => ?_) (fun hc59 => ?_)
      · -- slot 59 t
        refine gseq fun N15 hN15 => ?_
        refine greg ?_
        refine gop (y_assign (v := .bool _) rfl) rfl rfl rfl ?_
        refine gops_nil ?_
        refine hN15 _ _ ?_
        refine gfrom [(8, .bool _)] ⟨rfl, trivial⟩ fun σ => ?_
        refine gret fun w1 hM => ?_
        refine ⟨_, res1 rfl (rt (v := .bool _) rfl), ?_⟩
        exact ⟨rfl, hM.low⟩
      · -- slot 59 f
        cases hc59
end Go.Proofs.Ythiblolfolagaaa
