/- walks, printed by program -/
import Derived.Test.YtijpaljdclhehaaDoorGlobI
import Derived.Test.YtijpaljdclhehaaDoorGlobP
import Derived.Test.YtijpaljdclhehaaDoorGlobK
namespace Go.Proofs.YtijpaljdclhehaaDoor
open Go.RowKit Go.Cf
set_option maxRecDepth 10000

theorem bd89_  : Tryd.prog.built 89 [] = some #[.int .i64 0, .int .i64 0, .int .i64 0] := by kernel_rfl

set_option maxHeartbeats 4000000 in
theorem common_any (w : World) (p q : ByteArray) (hp : p.size ≤ 60) (hq : q.size ≤ 60) : Calls Tryd.prog 46 #[.string p, .string q] w fun e w' => e = .returned (.bool (commonB p q)) ∧ Below w.heap.size w w' := by
  refine gcalls Tryd.func46 rfl Tryd.ntmps46 (Nat.le_of_ble_eq_true rfl) ?_
  refine gfrom [(0, .string _), (1, .string _)] ⟨rfl, rfl, trivial⟩ fun σ => ?_
  refine gseq fun N1 hN1 => ?_
  refine greg ?_
  refine gop (y_assign (v := .bool _) rfl) rfl rfl rfl ?_
  refine gops_nil ?_
  refine hN1 _ _ ?_
  refine gfrom [(0, .string _), (1, .string _)] ⟨rfl, rfl, trivial⟩ fun σ => ?_
  refine gseq fun N2 hN2 => ?_
  refine greg ?_
  refine gop_makeMap ek3 Value.bool rfl (fun b8 hb8 => ?_)
  refine gop (y_assign (v := .map (some b8)) rfl) rfl rfl rfl ?_
  refine gops_nil ?_
  refine hN2 _ _ ?_
  refine gT [mapr _ _ _ _] rfl ?_
  refine gfrom [(0, .string _), (1, .string _), (5, .map (some b8))] ⟨rfl, rfl, rfl, trivial⟩ fun σ => ?_
  refine gseq fun N3 hN3 => ?_
  refine greg ?_
  refine gop (y_build (vs := []) (cells := #[.int .i64 0, .int .i64 0, .int .i64 0]) rfl bd89_) rfl rfl rfl ?_
  refine gop_lit (vs := [.agg #[_, _, _]]) (cells := #[_, _, _]) Tryd.underlying90 Tryd.sizeOf89 Tryd.zeroValue89 rfl (by decide) (by decide) rfl rfl rfl rfl (fun b10 hb10 => ?_)
  refine gops_mem _ (weak_boxrow 1 (size := 3) (f := placeCells) (l := [(0, 0, 0)]) rfl (fun _ => rfl) rfl (by simp [maxLen])) ?_
  refine gop (y_assign (v := .slice (some _) _ _) rfl) rfl rfl rfl ?_
  refine gops_nil ?_
  refine hN3 _ _ ?_
  refine gT [mapr _ _ _ _, rowl _ _ _ _ _ _] rfl ?_
  refine gfrom [(0, .string _), (1, .string _), (5, .map (some b8)), (6, .slice (some _) _ _)] ⟨rfl, rfl, rfl, rfl, trivial⟩ fun σ => ?_
  refine gseq fun N4 hN4 => ?_
  refine gblock ?_
  refine gfrom2 [(6, .slice (some _) _ _)] [(0, .string _), (1, .string _), (5, .map (some b8))] ⟨rfl, trivial⟩ ⟨rfl, rfl, rfl, trivial⟩ fun σ => ?_
  refine gloop2 (G := Option Addr × Nat × List Pl × List Pl) (fun (A, c, l, S) => Dfs p q l S) (fun (A, c, l, S) => 4 * (14884 - S.length) + l.length) (fun (A, c, l, S) => [(6, .slice A l.length c)]) (fun (A, c, l, S) => [(0, mapr ek3 Value.bool b8 (S.map fun y => (y, true))), (1, rowl placeCells w.heap.size 89 3 (.slice A l.length c) l)]) ((some ⟨b10, 0, none⟩, 1, [(0, 0, 0)], [])) ?h0 ⟨rfl, trivial⟩ ⟨rfl, rfl, rfl, trivial⟩ rfl ?round
  case h0 => exact Dfs.first
  case round =>
    rintro ⟨A, c, l, S⟩ hφ σ
    have hD : Dfs p q l S := hφ
    have hSl := hD.seen hp hq
    refine gT [mapr _ _ _ _, rowl _ _ _ _ _ _] rfl ?_
    refine gseq fun N5 hN5 => ?_
    refine gseq fun N6 hN6 => ?_
    refine greg ?_
    refine gop (y_move (v := .slice A _ c) rfl) rfl rfl rfl ?_
    refine gop (y_len Tryd.underlying90 rfl) rfl rfl rfl ?_
    refine gop (y_gtr rfl rfl) rfl rfl rfl ?_
    refine gops_nil ?_
    refine hN6 _ _ ?_
    refine gfrom [(0, .string _), (1, .string _), (5, .map (some b8)), (6, .slice A _ c), (13, .bool _)] ⟨rfl, rfl, rfl, rfl, rfl, trivial⟩ fun σ => ?_
    refine gcond (b := _) rfl (fun hc13 => ?_) (fun hc13 => ?_)
    · -- slot 13 t
      replace hc13 := of_decide_eq_true hc13
      have hl0 : 0 < l.length := by omega
      obtain ⟨l1, x, rfl⟩ : ∃ l1 x, l = l1 ++ [x] := ⟨l.dropLast, l.getLast (List.ne_nil_of_length_pos hl0), (List.dropLast_concat_getLast _).symm⟩
      have hok := (hD.reach x (.inl (by simp))).ok
      have hln := hD.len
      have hnl := nextL_len p q x
      simp only [List.length_append, List.length_cons, List.length_nil] at hln
      refine g_fact (fun w hM => own_some (hM.own 1 rfl) hl0) ?_
      rintro ⟨rg1, cg1, hvg, hcap, -⟩
      simp only [Value.slice.injEq] at hvg
      obtain ⟨rfl, -, rfl⟩ := hvg
      have hlx : (l1 ++ [x]).length = l1.length + 1 := by simp
      refine gskip ?_
      refine hN5 _ _ ?_
      refine gfrom [(0, .string _), (1, .string _), (5, .map (some b8)), (6, .slice (some ⟨rg1, 0, none⟩) _ _)] ⟨rfl, rfl, rfl, rfl, trivial⟩ fun σ => ?_
      refine gblock ?_
      refine gseq fun N7 hN7 => ?_
      refine greg ?_
      refine gop (y_move (v := .slice (some ⟨rg1, 0, none⟩) _ _) rfl) rfl rfl rfl ?_
      refine gop (y_move (v := .slice (some ⟨rg1, 0, none⟩) _ _) rfl) rfl rfl rfl ?_
      refine gop (y_len Tryd.underlying90 rfl) rfl rfl rfl ?_
      refine gop (y_sub rfl rfl ⟨by omega, by omega⟩) rfl rfl rfl ?_
      refine gop (y_indexAddr (m := l1.length) Tryd.underlying90 Tryd.sizeOf89 rfl rfl (by omega) (by omega) (by omega)) rfl rfl rfl ?_
      refine gop (y_loads (cs := [_, _, _]) Tryd.isAgg89 Tryd.sizeOf89 rfl rfl (cells_rowp 1 (f := placeCells) (l := l1 ++ [x]) rfl rfl (fun _ => rfl) (show (l1 ++ [x])[l1.length]? = some x by simp))) rfl rfl rfl ?_
      refine gop_alloc (cs := #[.int .i64 0, .int .i64 0, .int .i64 0]) Tryd.zeroValue89 rfl rfl (fun b7 hb7 => ?_)
      refine gop_store 2 (v := .agg #[_, _, _]) (cs' := #[_, _, _]) rfl rfl Tryd.sizeOf89 rfl rfl rfl rfl (Nat.le_of_ble_eq_true rfl) rfl rfl ?_
      refine gops_nil ?_
      refine hN7 _ _ ?_
      refine gT [mapr _ _ _ _, rowl _ _ _ _ _ _, box b7 _] rfl ?_
      refine gfrom [(0, .string _), (1, .string _), (5, .map (some b8)), (6, .slice (some ⟨rg1, 0, none⟩) _ _), (7, .pointer _)] ⟨rfl, rfl, rfl, rfl, rfl, trivial⟩ fun σ => ?_
      refine gseq fun N8 hN8 => ?_
      refine greg ?_
      refine gop (y_move (v := .slice (some ⟨rg1, 0, none⟩) _ _) rfl) rfl rfl rfl ?_
      refine gop (y_move (v := .slice (some ⟨rg1, 0, none⟩) _ _) rfl) rfl rfl rfl ?_
      refine gop (y_len Tryd.underlying90 rfl) rfl rfl rfl ?_
      refine gop (y_sub rfl rfl ⟨by omega, by omega⟩) rfl rfl rfl ?_
      refine gop (y_trunc (m := l1.length) Tryd.underlying90 Tryd.sizeOf89 rfl rfl (by omega) (by omega) (by omega)) rfl rfl rfl ?_
      refine gops_mem _ (weak_trunc 1 (size := 3) (f := placeCells) (l := l1) (m := [x]) rfl (fun _ => rfl)) ?_
      refine gop (y_assign (v := .slice _ _ _) rfl) rfl rfl rfl ?_
      refine gops_nil ?_
      refine hN8 _ _ ?_
      refine gT [mapr _ _ _ _, rowl _ _ _ _ _ _, box b7 _] rfl ?_
      refine gfrom [(0, .string _), (1, .string _), (5, .map (some b8)), (6, .slice _ _ _), (7, .pointer _)] ⟨rfl, rfl, rfl, rfl, rfl, trivial⟩ fun σ => ?_
      refine gseq fun N9 hN9 => ?_
      refine gseq fun N10 hN10 => ?_
      refine greg ?_
      refine gop (y_move (v := .map (some b8)) rfl) rfl rfl rfl ?_
      refine gop (y_loads (cs := [_, _, _]) Tryd.isAgg89 Tryd.sizeOf89 rfl rfl (cells_box 2 rfl)) rfl rfl rfl ?_
      refine gop (y_lookup 0 (c := false) (v0 := .bool false) (u := .bool (decide (x ∈ S))) key3 Tryd.underlying87 Tryd.zeroValue4 rfl x rfl rfl (look_seen S x)) rfl rfl rfl ?_
      refine gops_nil ?_
      refine hN10 _ _ ?_
      refine gfrom [(0, .string _), (1, .string _), (5, .map (some b8)), (6, .slice _ _ _), (7, .pointer _), (27, .bool _)] ⟨rfl, rfl, rfl, rfl, rfl, rfl, trivial⟩ fun σ => ?_
      refine gcond (b := _) rfl (fun hc27 => ?_) (fun hc27 => ?_)
      · -- slot 27 t
        replace hc27 := of_decide_eq_true hc27
        refine gexit ?_
        refine gnext2 ((some ⟨rg1, 0, none⟩, c, l1, S)) (by show 4 * (14884 - S.length) + l1.length < 4 * (14884 - S.length) + (l1 ++ [x]).length; simp) (hD.skip hc27) ⟨rfl, trivial⟩ ⟨rfl, rfl, rfl, trivial⟩ ⟨_, rfl⟩
      · -- slot 27 f
        replace hc27 := of_decide_eq_false hc27
        refine gskip ?_
        refine hN9 _ _ ?_
        refine gfrom [(0, .string _), (1, .string _), (5, .map (some b8)), (6, .slice _ _ _), (7, .pointer _)] ⟨rfl, rfl, rfl, rfl, rfl, trivial⟩ fun σ => ?_
        refine gseq fun N11 hN11 => ?_
        refine greg ?_
        refine gop (y_move (v := .map (some b8)) rfl) rfl rfl rfl ?_
        refine gop (y_loads (cs := [_, _, _]) Tryd.isAgg89 Tryd.sizeOf89 rfl rfl (cells_box 2 rfl)) rfl rfl rfl ?_
        refine gop_mapUpdate 0 key3 Tryd.underlying87 rfl (x) (true) rfl rfl rfl rfl rfl ?_
        refine gops_nil ?_
        refine hN11 _ _ ?_
        refine gT [mapr _ _ _ _, rowl _ _ _ _ _ _, box b7 _] rfl ?_
        refine gfrom [(0, .string _), (1, .string _), (5, .map (some b8)), (6, .slice _ _ _), (7, .pointer _)] ⟨rfl, rfl, rfl, rfl, rfl, trivial⟩ fun σ => ?_
        refine gseq fun N12 hN12 => ?_
        refine gseq fun N13 hN13 => ?_
        refine greg ?_
        refine gop (y_fieldAddr_box fa89_0 rfl) rfl rfl rfl ?_
        refine gop (y_load Tryd.isAgg3 rfl (cell_box 2 rfl rfl)) rfl rfl rfl ?_
        refine gop (y_move (v := .string _) rfl) rfl rfl rfl ?_
        refine gop (y_lens Tryd.underlying9 rfl) rfl rfl rfl ?_
        refine gop (y_eql rfl rfl) rfl rfl rfl ?_
        refine gop (y_move (v := .bool _) rfl) rfl rfl rfl ?_
        refine gop_if (want := true) rfl rfl rfl rfl rfl rfl (fun hg35 => ?_) (fun hg35 => ?_)
        · -- guard 35 on
          have hg35d := of_decide_eq_true hg35
          refine gop (y_bare (y_fieldAddr_box fa89_1 rfl)) rfl rfl rfl ?_
          refine gop_on rfl rfl rfl rfl hg35 ?_
          refine gop (y_bare (y_load Tryd.isAgg3 rfl (cell_box 2 rfl rfl))) rfl rfl rfl ?_
          refine gop_on rfl rfl rfl rfl hg35 ?_
          refine gop (y_bare (y_move (v := .string _) rfl)) rfl rfl rfl ?_
          refine gop_on rfl rfl rfl rfl hg35 ?_
          refine gop (y_bare (y_lens Tryd.underlying9 rfl)) rfl rfl rfl ?_
          refine gop_on rfl rfl rfl rfl hg35 ?_
          refine gop (y_bare (y_eql rfl rfl)) rfl rfl rfl ?_
          refine gop (y_pick_t (v := .bool _) rfl hg35 rfl) rfl rfl rfl ?_
          refine gop (y_move (v := .bool _) rfl) rfl rfl rfl ?_
          refine gop_if (want := true) rfl rfl rfl rfl rfl rfl (fun hg42 => ?_) (fun hg42 => ?_)
          · -- guard 42 on
            have hg42d := of_decide_eq_true hg42
            refine gop (y_bare (y_fieldAddr_box fa89_2 rfl)) rfl rfl rfl ?_
            refine gop_on rfl rfl rfl rfl hg42 ?_
            refine gop (y_bare (y_load Tryd.isAgg3 rfl (cell_box 2 rfl rfl))) rfl rfl rfl ?_
            refine gop_on rfl rfl rfl rfl hg42 ?_
            refine gop (y_bare (y_eql rfl rfl)) rfl rfl rfl ?_
            refine gop (y_pick_t (v := .bool _) rfl hg42 rfl) rfl rfl rfl ?_
            refine gops_nil ?_
            refine hN13 _ _ ?_
            refine gfrom [(0, .string _), (1, .string _), (5, .map (some b8)), (6, .slice _ _ _), (7, .pointer _), (46, .bool _)] ⟨rfl, rfl, rfl, rfl, rfl, rfl, trivial⟩ fun σ => ?_
            refine gcond (b := _) rfl (fun hc46 => ?_) (fun hc46 => ?_)
            · -- slot 46 t
              replace hc46 := of_decide_eq_true hc46
              refine gseq fun N14 hN14 => ?_
              refine greg ?_
              refine gop (y_assign (v := .bool _) rfl) rfl rfl rfl ?_
              refine gops_nil ?_
              refine hN14 _ _ ?_
              refine gfrom [(4, .bool _)] ⟨rfl, trivial⟩ fun σ => ?_
              refine gret fun w1 hM => ?_
              refine ⟨_, res1 rfl (rt (v := .bool _) rfl), ?_⟩
              exact ⟨by rw [hD.hit (by obtain ⟨x1, x2, x3⟩ := x; simp_all [goalP]; omega)], hM.low⟩
            · -- slot 46 f
              replace hc46 := of_decide_eq_false hc46
              refine gskip ?_
              refine hN12 _ _ ?_
              refine gfrom [(0, .string _), (1, .string _), (5, .map (some b8)), (6, .slice _ _ _), (7, .pointer _)] ⟨rfl, rfl, rfl, rfl, rfl, trivial⟩ fun σ => ?_
              refine greg ?_
              refine gop (y_move (v := .slice _ _ _) rfl) rfl rfl rfl ?_
              refine gop (y_move (v := .string _) rfl) rfl rfl rfl ?_
              refine gop (y_move (v := .string _) rfl) rfl rfl rfl ?_
              refine gop (y_loads (cs := [_, _, _]) Tryd.isAgg89 Tryd.sizeOf89 rfl rfl (cells_box 2 rfl)) rfl rfl rfl ?_
              refine gop_got (fun v T' => ∃ lo, w.heap.size ≤ lo ∧ T' = [rowl placeCells lo 89 3 v (nextL p q x)]) (e_call (vs := [.string _, .string _, .agg #[_, _, _]]) Tryd.func71 rfl (by kernel_rfl) rfl) (fun w hM => (next_any w p q x.1 x.2.1 x.2.2 (by omega) (by omega) hok.1 hok.2.1 hok.2.2).mono fun _ _ ⟨v, T1, h1, h2, h3⟩ => ⟨v, T1, h1, ⟨_, hM.low.size, h2⟩, h3⟩) rfl rfl rfl ?_
              rintro v51 _ ⟨lo51, hlo51, rfl⟩
              refine gops_fact (fun w hM => row_form (hM.ok _ (List.mem_of_getElem? (i := 3) rfl))) ?_
              rintro ⟨A51, c51, rfl, hc51, hm51, hn51⟩
              refine gop_append 1 (f := placeCells) (l2 := nextL p q x) Tryd.underlying90 el89 wide_place (v := .slice _ _ _) rfl rfl rfl rfl hn51 (by unfold maxLen; omega) (by omega) (src_row 3 rfl (fun _ => rfl)) rfl (fun v52 => ?_)
              refine gops_fact (fun w hM => own_form (hM.own 1 rfl)) ?_
              rintro ⟨A52, c52, rfl, hc52, hm52⟩
              refine gop (y_assign (v := .slice A52 _ c52) rfl) rfl rfl rfl ?_
              refine gops_nil ?_
              rw [put_seen S x hc27]
              have hT := hD.take hc27 (fun e => by subst e; simp_all [goalP])
              refine gnext2 ((A52, c52, l1 ++ nextL p q x, S ++ [x])) (by show 4 * (14884 - (S ++ [x]).length) + (l1 ++ nextL p q x).length < 4 * (14884 - S.length) + (l1 ++ [x]).length; have h5 := hT.seen hp hq; simp only [List.length_append, List.length_cons, List.length_nil] at h5 ⊢; omega) (hT) ⟨rfl, trivial⟩ ⟨rfl, rfl, rfl, trivial⟩ ⟨_, rfl⟩
          · -- guard 42 off
            have hg42d := of_decide_eq_false hg42
            refine gop_off rfl rfl rfl rfl hg42 rfl rfl ?_
            refine gop_off rfl rfl rfl rfl hg42 rfl rfl ?_
            refine gop (y_pick_f (v := .bool _) rfl hg42 rfl) rfl rfl rfl ?_
            refine gops_nil ?_
            refine hN13 _ _ ?_
            refine gfrom [(0, .string _), (1, .string _), (5, .map (some b8)), (6, .slice _ _ _), (7, .pointer _), (46, .bool _)] ⟨rfl, rfl, rfl, rfl, rfl, rfl, trivial⟩ fun σ => ?_
            refine gcond (b := _) rfl (fun hc46 => ?_) (fun hc46 => ?_)
            · -- slot 46 t
              cases hc46
            · -- slot 46 f
              refine gskip ?_
              refine hN12 _ _ ?_
              refine gfrom [(0, .string _), (1, .string _), (5, .map (some b8)), (6, .slice _ _ _), (7, .pointer _)] ⟨rfl, rfl, rfl, rfl, rfl, trivial⟩ fun σ => ?_
              refine greg ?_
              refine gop (y_move (v := .slice _ _ _) rfl) rfl rfl rfl ?_
              refine gop (y_move (v := .string _) rfl) rfl rfl rfl ?_
              refine gop (y_move (v := .string _) rfl) rfl rfl rfl ?_
              refine gop (y_loads (cs := [_, _, _]) Tryd.isAgg89 Tryd.sizeOf89 rfl rfl (cells_box 2 rfl)) rfl rfl rfl ?_
              refine gop_got (fun v T' => ∃ lo, w.heap.size ≤ lo ∧ T' = [rowl placeCells lo 89 3 v (nextL p q x)]) (e_call (vs := [.string _, .string _, .agg #[_, _, _]]) Tryd.func71 rfl (by kernel_rfl) rfl) (fun w hM => (next_any w p q x.1 x.2.1 x.2.2 (by omega) (by omega) hok.1 hok.2.1 hok.2.2).mono fun _ _ ⟨v, T1, h1, h2, h3⟩ => ⟨v, T1, h1, ⟨_, hM.low.size, h2⟩, h3⟩) rfl rfl rfl ?_
              rintro v51 _ ⟨lo51, hlo51, rfl⟩
              refine gops_fact (fun w hM => row_form (hM.ok _ (List.mem_of_getElem? (i := 3) rfl))) ?_
              rintro ⟨A51, c51, rfl, hc51, hm51, hn51⟩
              refine gop_append 1 (f := placeCells) (l2 := nextL p q x) Tryd.underlying90 el89 wide_place (v := .slice _ _ _) rfl rfl rfl rfl hn51 (by unfold maxLen; omega) (by omega) (src_row 3 rfl (fun _ => rfl)) rfl (fun v52 => ?_)
              refine gops_fact (fun w hM => own_form (hM.own 1 rfl)) ?_
              rintro ⟨A52, c52, rfl, hc52, hm52⟩
              refine gop (y_assign (v := .slice A52 _ c52) rfl) rfl rfl rfl ?_
              refine gops_nil ?_
              rw [put_seen S x hc27]
              have hT := hD.take hc27 (fun e => by subst e; simp_all [goalP])
              refine gnext2 ((A52, c52, l1 ++ nextL p q x, S ++ [x])) (by show 4 * (14884 - (S ++ [x]).length) + (l1 ++ nextL p q x).length < 4 * (14884 - S.length) + (l1 ++ [x]).length; have h5 := hT.seen hp hq; simp only [List.length_append, List.length_cons, List.length_nil] at h5 ⊢; omega) (hT) ⟨rfl, trivial⟩ ⟨rfl, rfl, rfl, trivial⟩ ⟨_, rfl⟩
        · -- guard 35 off
          have hg35d := of_decide_eq_false hg35
          refine gop_off rfl rfl rfl rfl hg35 rfl rfl ?_
          refine gop_off rfl rfl rfl rfl hg35 rfl rfl ?_
          refine gop_off rfl rfl rfl rfl hg35 rfl rfl ?_
          refine gop_off rfl rfl rfl rfl hg35 rfl rfl ?_
          refine gop (y_pick_f (v := .bool _) rfl hg35 rfl) rfl rfl rfl ?_
          refine gop (y_move (v := .bool _) rfl) rfl rfl rfl ?_
          refine gop_off rfl rfl rfl rfl rfl rfl rfl ?_
          refine gop_off rfl rfl rfl rfl rfl rfl rfl ?_
          refine gop_off rfl rfl rfl rfl rfl rfl rfl ?_
          refine gop (y_pick_f (v := .bool _) rfl rfl rfl) rfl rfl rfl ?_
          refine gops_nil ?_
          refine hN13 _ _ ?_
          refine gfrom [(0, .string _), (1, .string _), (5, .map (some b8)), (6, .slice _ _ _), (7, .pointer _), (46, .bool _)] ⟨rfl, rfl, rfl, rfl, rfl, rfl, trivial⟩ fun σ => ?_
          refine gcond (b := _) rfl (fun hc46 => ?_) (fun hc46 => ?_)
          · -- slot 46 t
            cases hc46
          · -- slot 46 f
            refine gskip ?_
            refine hN12 _ _ ?_
            refine gfrom [(0, .string _), (1, .string _), (5, .map (some b8)), (6, .slice _ _ _), (7, .pointer _)] ⟨rfl, rfl, rfl, rfl, rfl, trivial⟩ fun σ => ?_
            refine greg ?_
            refine gop (y_move (v := .slice _ _ _) rfl) rfl rfl rfl ?_
            refine gop (y_move (v := .string _) rfl) rfl rfl rfl ?_
            refine gop (y_move (v := .string _) rfl) rfl rfl rfl ?_
            refine gop (y_loads (cs := [_, _, _]) Tryd.isAgg89 Tryd.sizeOf89 rfl rfl (cells_box 2 rfl)) rfl rfl rfl ?_
            refine gop_got (fun v T' => ∃ lo, w.heap.size ≤ lo ∧ T' = [rowl placeCells lo 89 3 v (nextL p q x)]) (e_call (vs := [.string _, .string _, .agg #[_, _, _]]) Tryd.func71 rfl (by kernel_rfl) rfl) (fun w hM => (next_any w p q x.1 x.2.1 x.2.2 (by omega) (by omega) hok.1 hok.2.1 hok.2.2).mono fun _ _ ⟨v, T1, h1, h2, h3⟩ => ⟨v, T1, h1, ⟨_, hM.low.size, h2⟩, h3⟩) rfl rfl rfl ?_
            rintro v51 _ ⟨lo51, hlo51, rfl⟩
            refine gops_fact (fun w hM => row_form (hM.ok _ (List.mem_of_getElem? (i := 3) rfl))) ?_
            rintro ⟨A51, c51, rfl, hc51, hm51, hn51⟩
            refine gop_append 1 (f := placeCells) (l2 := nextL p q x) Tryd.underlying90 el89 wide_place (v := .slice _ _ _) rfl rfl rfl rfl hn51 (by unfold maxLen; omega) (by omega) (src_row 3 rfl (fun _ => rfl)) rfl (fun v52 => ?_)
            refine gops_fact (fun w hM => own_form (hM.own 1 rfl)) ?_
            rintro ⟨A52, c52, rfl, hc52, hm52⟩
            refine gop (y_assign (v := .slice A52 _ c52) rfl) rfl rfl rfl ?_
            refine gops_nil ?_
            rw [put_seen S x hc27]
            have hT := hD.take hc27 (fun e => by subst e; simp_all [goalP])
            refine gnext2 ((A52, c52, l1 ++ nextL p q x, S ++ [x])) (by show 4 * (14884 - (S ++ [x]).length) + (l1 ++ nextL p q x).length < 4 * (14884 - S.length) + (l1 ++ [x]).length; have h5 := hT.seen hp hq; simp only [List.length_append, List.length_cons, List.length_nil] at h5 ⊢; omega) (hT) ⟨rfl, trivial⟩ ⟨rfl, rfl, rfl, trivial⟩ ⟨_, rfl⟩
    · -- slot 13 f
      replace hc13 := of_decide_eq_false hc13
      obtain rfl : l = [] := List.eq_nil_of_length_eq_zero (by omega)
      refine gexit ?_
      refine hN4 _ _ ?_
      refine gfrom [] trivial fun σ => ?_
      refine gseq fun N15 hN15 => ?_
      refine greg ?_
      refine gop (y_assign (v := .bool _) rfl) rfl rfl rfl ?_
      refine gops_nil ?_
      refine hN15 _ _ ?_
      refine gfrom [(4, .bool _)] ⟨rfl, trivial⟩ fun σ => ?_
      refine gret fun w1 hM => ?_
      refine ⟨_, res1 rfl (rt (v := .bool _) rfl), ?_⟩
      exact ⟨by rw [hD.miss], hM.low⟩
end Go.Proofs.YtijpaljdclhehaaDoor
