/- Own frame, plain models and walks, part 3 (texts of this claim put together). -/
import Derived.Test.YtllblbkbglifjaaDoorP31b
namespace Go.Proofs.YtllblbkbglifjaaDoor
open Go.RowKit Go.Cf
set_option maxRecDepth 10000
set_option maxHeartbeats 4000000 in
theorem polFormat_any (w : World) (A : Option Addr) (c : Nat) (l : List PN) (hl : Rdl w 0 4 pnCells A l) (hlc : l.length ≤ c) (hcm : c ≤ maxLen) : Calls Tryd.prog 9 #[.agg #[.slice A l.length c]] w fun e w' => e = .returned (.tuple #[.string (baL (fmtR l).2), fv (fmtR l).1]) ∧ Below w.heap.size w w' := by
  have hlm : l.length ≤ 9223372036854775807 := by have h9 := Nat.le_trans hlc hcm; unfold maxLen at h9; omega
  refine gcalls Tryd.func9 rfl Tryd.ntmps9 (Nat.le_of_ble_eq_true rfl) ?_
  refine gfrom [(0, .agg #[_])] ⟨rfl, trivial⟩ fun σ => ?_
  refine gseq fun N1 hN1 => ?_
  refine greg ?_
  refine gop_box (v := .agg #[_]) (cs := #[_]) rfl rfl rfl (fun b1 hb1 => ?_)
  refine gop (y_assign (v := .string _) rfl) rfl rfl rfl ?_
  refine gop_alloc (cs := #[.int .i64 0, .int .i64 0]) Tryd.zeroValue28 rfl rfl (fun b3 hb3 => ?_)
  refine gops_nil ?_
  refine hN1 _ _ ?_
  refine gT [box b1 _, box b3 _] rfl ?_
  refine gfrom [(1, .pointer _), (3, .pointer _)] ⟨rfl, rfl, trivial⟩ fun σ => ?_
  refine gseq fun N2 hN2 => ?_
  refine gseq fun N3 hN3 => ?_
  refine greg ?_
  refine gop (y_loads (cs := [_]) Tryd.isAgg24 Tryd.sizeOf24 rfl rfl (cells_box 0 rfl)) rfl rfl rfl ?_
  refine gop_pure (e_call (vs := [.agg #[_]]) Tryd.func13 rfl (by kernel_rfl) rfl) (fun w hM => polValidate_any w A c l (hl.base hM) hlc hcm) rfl rfl rfl ?_
  refine gop_alloc (cs := #[.int .i64 0, .int .i64 0]) Tryd.zeroValue28 rfl rfl (fun b4 hb4 => ?_)
  refine gop_store 2 (v := .agg #[_, _]) (cs' := #[_, _]) rfl rfl Tryd.sizeOf28 rfl rfl rfl rfl (Nat.le_of_ble_eq_true rfl) rfl rfl ?_
  refine gops_nil ?_
  refine hN3 _ _ ?_
  refine gT [box b1 _, box b3 _, box b4 _] rfl ?_
  refine gfrom [(1, .pointer _), (3, .pointer _), (4, .pointer _)] ⟨rfl, rfl, rfl, trivial⟩ fun σ => ?_
  refine gseq fun N4 hN4 => ?_
  refine greg ?_
  refine gop (y_loads (cs := [_, _]) Tryd.isAgg28 Tryd.sizeOf28 rfl rfl (cells_box 2 rfl)) rfl rfl rfl ?_
  refine gop (y_build (vs := []) (cells := #[.int .i64 0, .int .i64 0]) rfl bd28_) rfl rfl rfl ?_
  refine gop (y_bin (vx := .agg #[_, _]) (vy := .agg #[_, _]) rfl rfl (fun w => eg28 _ _ _ _ _ w) (fun w => ne28 _ _ _ _ w)) rfl rfl rfl ?_
  refine gops_nil ?_
  refine hN4 _ _ ?_
  refine gfrom [(1, .pointer _), (3, .pointer _), (4, .pointer _), (10, .bool _)] ⟨rfl, rfl, rfl, rfl, trivial⟩ fun σ => ?_
  refine gcond (b := _) rfl (fun hc10 => ?_) (fun hc10 => ?_)
  · 
    replace hc10 := fault_ne.1 hc10
    have hF : fmtR l = (polF l, []) := by rw [fmtR, if_pos hc10]
    refine gseq fun N5 hN5 => ?_
    refine greg_e1 [] [(1, room b3 28 2)] (by kernel_rfl) ?_
    refine ge_take 0 (TK := [box b1 _, room b3 28 2, box b4 _]) rfl (by kernel_rfl) (by kernel_rfl) (by kernel_rfl) #[false, true, false] (by kernel_rfl) rfl (y_loads (cs := [_, _]) Tryd.isAgg28 Tryd.sizeOf28 rfl rfl (cells_box 2 rfl)) rfl rfl rfl (weak_room 1 rfl rfl) (listed' := #[true, false, false]) rfl ?_
    refine ge_take 1 (TK := [box b1 _, room b3 28 2, box b4 _]) rfl (by kernel_rfl) (by kernel_rfl) (by kernel_rfl) #[true, false, false] (by kernel_rfl) rfl (y_assign (v := .string _) rfl) rfl rfl rfl (weak_room 1 rfl rfl) (listed' := #[true, true, false]) rfl ?_
    refine ge_one 2 (k' := 0) (listed' := #[true, true, true]) (by kernel_rfl) rfl rfl rfl ?_
    refine gop_store 1 (v := .agg #[_, _]) (cs' := #[_, _]) rfl rfl Tryd.sizeOf28 rfl rfl rfl rfl (Nat.le_of_ble_eq_true rfl) rfl rfl ?_
    refine gops_nil ?_
    refine ge_fin (TK := [box b1 _, room b3 28 2, box b4 _]) rfl (weak_room 1 rfl rfl) ?_
    refine ge_done (by kernel_rfl) ?_
    refine hN5 _ _ ?_
    refine gT [box b1 _, box b3 _, box b4 _] rfl ?_
    refine gfrom [(2, .string _), (3, .pointer _)] ⟨rfl, rfl, trivial⟩ fun σ => ?_
    refine gret fun w1 hM => ?_
    refine ⟨_, res2 rfl (rt (v := .string _) rfl) (rc 1 (cs := [_, _]) hM rfl rfl Tryd.isAgg28 Tryd.sizeOf28 rfl), ?_⟩
    exact ⟨by first | (rw [hF]; done) | (rw [hF]; rfl), hM.low⟩
  · 
    replace hc10 := fault_eq.1 hc10
    obtain ⟨hn0, hn24, -⟩ := pol_ok hc10
    have ht := tree_of hc10
    have hF0 : fmtR l = if 200 < (showB (treeOf l) 0).length then (⟨10, -1⟩, []) else (⟨0, 0⟩, showB (treeOf l) 0) := by rw [fmtR, if_neg (fun h => h hc10)]
    have hbs := baL_size (showB (treeOf l) 0)
    refine gskip ?_
    refine hN2 _ _ ?_
    refine gfrom [(1, .pointer _), (3, .pointer _)] ⟨rfl, rfl, trivial⟩ fun σ => ?_
    refine gseq fun N6 hN6 => ?_
    refine greg ?_
    refine gop (y_loads (cs := [_]) Tryd.isAgg24 Tryd.sizeOf24 rfl rfl (cells_box 0 rfl)) rfl rfl rfl ?_
    refine gop (y_fieldAddr_box fa24_0 rfl) rfl rfl rfl ?_
    refine gop (y_load Tryd.isAgg22 rfl (cell_box 0 rfl rfl)) rfl rfl rfl ?_
    refine gop (y_len Tryd.underlying22 rfl) rfl rfl rfl ?_
    refine gop (y_sub rfl rfl ⟨by omega, by omega⟩) rfl rfl rfl ?_
    refine gop_pure (e_call (vs := [.agg #[_], .int _ _, _]) Tryd.func24 rfl (by kernel_rfl) rfl) (fun w hM => polShow_any A c l hlc hcm (by omega) (treeOf l).size (treeOf l) 0 _ _ (l.length - 1) w (by omega) rfl rfl (by omega) (hl.base hM) ht.ok ht.at_) rfl rfl rfl ?_
    refine gop (y_assign (v := .string _) rfl) rfl rfl rfl ?_
    refine gops_nil ?_
    refine hN6 _ _ ?_
    refine gfrom [(3, .pointer _), (5, .string _)] ⟨rfl, rfl, trivial⟩ fun σ => ?_
    refine gseq fun N7 hN7 => ?_
    refine gseq fun N8 hN8 => ?_
    refine greg ?_
    refine gop (y_move (v := .string _) rfl) rfl rfl rfl ?_
    refine gop (y_lens Tryd.underlying9 rfl) rfl rfl rfl ?_
    refine gop (y_gtr rfl rfl) rfl rfl rfl ?_
    refine gops_nil ?_
    refine hN8 _ _ ?_
    refine gfrom [(3, .pointer _), (5, .string _), (20, .bool _)] ⟨rfl, rfl, rfl, trivial⟩ fun σ => ?_
    refine gcond (b := _) rfl (fun hc20 => ?_) (fun hc20 => ?_)
    · 
      replace hc20 := of_decide_eq_true hc20
      have hF : fmtR l = (⟨10, -1⟩, []) := by rw [hF0, if_pos (by omega)]
      refine gseq fun N9 hN9 => ?_
      refine greg ?_
      refine gop (y_build (vs := [(0, _), (1, _)]) (cells := #[_, _]) rfl (bd28_0_1 _ _)) rfl rfl rfl ?_
      refine gop (y_assign (v := .string _) rfl) rfl rfl rfl ?_
      refine gop_store 1 (v := .agg #[_, _]) (cs' := #[_, _]) rfl rfl Tryd.sizeOf28 rfl rfl rfl rfl (Nat.le_of_ble_eq_true rfl) rfl rfl ?_
      refine gops_nil ?_
      refine hN9 _ _ ?_
      refine gT [box b1 _, box b3 _, box b4 _] rfl ?_
      refine gfrom [(2, .string _), (3, .pointer _)] ⟨rfl, rfl, trivial⟩ fun σ => ?_
      refine gret fun w1 hM => ?_
      refine ⟨_, res2 rfl (rt (v := .string _) rfl) (rc 1 (cs := [_, _]) hM rfl rfl Tryd.isAgg28 Tryd.sizeOf28 rfl), ?_⟩
      exact ⟨by first | (rw [hF]; done) | (rw [hF]; rfl), hM.low⟩
    · 
      replace hc20 := of_decide_eq_false hc20
      have hF : fmtR l = (⟨0, 0⟩, showB (treeOf l) 0) := by rw [hF0, if_neg (by omega)]
      refine gskip ?_
      refine hN7 _ _ ?_
      refine gfrom [(3, .pointer _), (5, .string _)] ⟨rfl, rfl, trivial⟩ fun σ => ?_
      refine gseq fun N10 hN10 => ?_
      refine greg ?_
      refine gop (y_move (v := .string _) rfl) rfl rfl rfl ?_
      refine gop (y_build (vs := []) (cells := #[.int .i64 0, .int .i64 0]) rfl bd28_) rfl rfl rfl ?_
      refine gop (y_assign (v := .string _) rfl) rfl rfl rfl ?_
      refine gop_store 1 (v := .agg #[_, _]) (cs' := #[_, _]) rfl rfl Tryd.sizeOf28 rfl rfl rfl rfl (Nat.le_of_ble_eq_true rfl) rfl rfl ?_
      refine gops_nil ?_
      refine hN10 _ _ ?_
      refine gT [box b1 _, box b3 _, box b4 _] rfl ?_
      refine gfrom [(2, .string _), (3, .pointer _)] ⟨rfl, rfl, trivial⟩ fun σ => ?_
      refine gret fun w1 hM => ?_
      refine ⟨_, res2 rfl (rt (v := .string _) rfl) (rc 1 (cs := [_, _]) hM rfl rfl Tryd.isAgg28 Tryd.sizeOf28 rfl), ?_⟩
      exact ⟨by first | (rw [hF]; done) | (rw [hF]; rfl), hM.low⟩
end Go.Proofs.YtllblbkbglifjaaDoor
namespace Go.Proofs.YtllblbkbglifjaaDoor
open Go.RowKit Go.Cf
set_option maxRecDepth 10000
theorem fa52_0 (a : Addr) (w : World) : (Instr.fieldAt 52 (.pointer (some a)) 0).run Tryd.prog w = .ok (.pointer (some (a.add 0))) w := by kernel_rfl
theorem el47 : Elem Tryd.prog 47 4 32 := elem_of (z := .agg #[.int .i64 0, .int .i64 0, .int .i64 0, .int .i64 0]) (by kernel_rfl) rfl (by decide)
theorem bd24_0 (x1 : Option Addr) (x1l x1c : Nat) : Tryd.prog.built 24 [(0, .slice x1 x1l x1c)] = some #[.slice x1 x1l x1c] := by kernel_rfl
theorem bd24_  : Tryd.prog.built 24 [] = some #[.slice none 0 0] := by kernel_rfl
theorem bd47_0_2_3 (x1 : Int) (x2 : Int) (x3 : Int) : Tryd.prog.built 47 [(0, .int .i64 x1), (2, .int .i64 x2), (3, .int .i64 x3)] = some #[.int .i64 x1, .int .i64 0, .int .i64 x2, .int .i64 x3] := by kernel_rfl
theorem bd47_0_2 (x1 : Int) (x2 : Int) : Tryd.prog.built 47 [(0, .int .i64 x1), (2, .int .i64 x2)] = some #[.int .i64 x1, .int .i64 0, .int .i64 x2, .int .i64 0] := by kernel_rfl
set_option maxHeartbeats 4000000 in
theorem polAdd1_any (w0 w : World) (bg bc : Nat) (B : Option Addr) (o : List PN) (fr : Reg) (hM0 : Mem w0 [box bg (.cells #[.slice B (o.length) bc] 52), rowl pnCells w0.heap.size 47 4 (.slice B (o).length bc) (o), fr] w) (hol : o.length ≤ 1000) (n : PN) :
    Calls Tryd.prog 41 #[.pointer (some ⟨bg, 0, none⟩), pnV n] w fun e w' => ∃ B' bc', e = .returned (.int .i64 (o.length : Nat)) ∧ Mem w0 [box bg (.cells #[.slice B' ((o ++ [n]).length) bc'] 52), rowl pnCells w0.heap.size 47 4 (.slice B' (o ++ [n]).length bc') (o ++ [n]), fr] w' := by
  refine gcallsT Tryd.func41 rfl Tryd.ntmps41 (Nat.le_of_ble_eq_true rfl) hM0 ?_
  refine gfrom [(0, .pointer (some ⟨bg, 0, none⟩)), (1, .agg #[_, _, _, _])] ⟨rfl, rfl, trivial⟩ fun σ => ?_
  refine gseq fun N1 hN1 => ?_
  refine greg ?_
  refine gop_box (v := .agg #[_, _, _, _]) (cs := #[_, _, _, _]) rfl rfl rfl (fun b3 hb3 => ?_)
  refine gop (y_assign (v := .int _ _) rfl) rfl rfl rfl ?_
  refine gops_nil ?_
  refine hN1 _ _ ?_
  refine gT [box bg _, rowl _ _ _ _ _ _, fr, box b3 _] rfl ?_
  refine gfrom [(0, .pointer (some ⟨bg, 0, none⟩)), (3, .pointer _)] ⟨rfl, rfl, trivial⟩ fun σ => ?_
  refine gseq fun N2 hN2 => ?_
  refine greg_e1 [10] [(1, emp)] (by kernel_rfl) ?_
  refine ge_take 0 (TK := [box bg _, emp, fr, box b3 _]) rfl (by kernel_rfl) (by kernel_rfl) (by kernel_rfl) #[false, true, true, true, true, true, true, true, false, false, false] (by kernel_rfl) rfl (y_move (v := .pointer (some ⟨bg, 0, none⟩)) rfl) rfl rfl rfl (weak_emp 1 rfl) (listed' := #[true, false, false, false, false, false, false, false, false, false, false]) rfl ?_
  refine ge_take 1 (TK := [box bg _, emp, fr, box b3 _]) rfl (by kernel_rfl) (by kernel_rfl) (by kernel_rfl) #[true, false, false, false, false, true, true, false, false, false, false] (by kernel_rfl) rfl (y_move (v := .pointer (some ⟨bg, 0, none⟩)) rfl) rfl rfl rfl (weak_emp 1 rfl) (listed' := #[true, true, false, false, false, false, false, false, false, false, false]) rfl ?_
  refine ge_take 2 (TK := [box bg _, emp, fr, box b3 _]) rfl (by kernel_rfl) (by kernel_rfl) (by kernel_rfl) #[true, true, false, false, false, true, true, false, false, false, false] (by kernel_rfl) rfl (y_nilCheck rfl) rfl rfl rfl (weak_emp 1 rfl) (listed' := #[true, true, true, false, false, false, false, false, false, false, false]) rfl ?_
  refine ge_take 3 (TK := [box bg _, emp, fr, box b3 _]) rfl (by kernel_rfl) (by kernel_rfl) (by kernel_rfl) #[true, true, true, false, false, true, true, false, false, false, false] (by kernel_rfl) rfl (y_fieldAddr_box fa52_0 rfl) rfl rfl rfl (weak_emp 1 rfl) (listed' := #[true, true, true, true, false, false, false, false, false, false, false]) rfl ?_
  refine ge_take 4 (TK := [box bg _, emp, fr, box b3 _]) rfl (by kernel_rfl) (by kernel_rfl) (by kernel_rfl) #[true, true, true, true, false, true, true, false, false, false, false] (by kernel_rfl) rfl (y_load Tryd.isAgg22 rfl (cell_box 0 rfl rfl)) rfl rfl rfl (weak_emp 1 rfl) (listed' := #[true, true, true, true, true, false, false, false, false, false, false]) rfl ?_
  refine ge_take 5 (TK := [box bg _, emp, fr, box b3 _]) rfl (by kernel_rfl) (by kernel_rfl) (by kernel_rfl) #[true, true, true, true, true, false, false, false, false, false, false] (by kernel_rfl) rfl (y_loads (cs := [_, _, _, _]) Tryd.isAgg47 Tryd.sizeOf47 rfl rfl (cells_box 3 rfl)) rfl rfl rfl (weak_emp 1 rfl) (listed' := #[true, true, true, true, true, true, false, false, false, false, false]) rfl ?_
  refine ge_one 6 (k' := 0) (listed' := #[true, true, true, true, true, true, true, false, false, false, false]) (by kernel_rfl) rfl rfl rfl ?_
  refine gop_lit (vs := [.agg #[_, _, _, _]]) (cells := #[_, _, _, _]) Tryd.underlying22 Tryd.sizeOf47 Tryd.zeroValue47 rfl (by decide) (by decide) rfl rfl rfl rfl (fun b11 hb11 => ?_)
  refine gops_nil ?_
  refine ge_fin (TK := [box bg _, emp, fr, box b3 _]) rfl (weak_trans (weak_take (T' := [box bg _, rowl _ _ _ _ _ _, fr, box b3 _]) rfl) (weak_emp 1 rfl)) ?_
  refine ge_one 7 (k' := 0) (listed' := #[true, true, true, true, true, true, true, true, false, false, false]) (by kernel_rfl) rfl rfl rfl ?_
  refine gop_append 1 (f := pnCells) (l2 := [n]) Tryd.underlying22 el47 wide_pn (v := .slice _ _ _) rfl rfl rfl rfl (fun h => by cases h) (by simp [maxLen]; omega) (by simp; omega) (src_box 4 rfl rfl) rfl (fun v12 => ?_)
  refine gops_fact (fun w hM => own_form (hM.own 1 rfl)) ?_
  rintro ⟨A12, c12, rfl, hc12, hm12⟩
  refine gops_nil ?_
  refine ge_fin (TK := [box bg _, emp, fr, box b3 _]) rfl (weak_trans (weak_take (T' := [box bg _, rowl _ _ _ _ _ _, fr, box b3 _]) rfl) (weak_emp 1 rfl)) ?_
  refine ge_take 8 (TK := [box bg _, emp, fr, box b3 _]) rfl (by kernel_rfl) (by kernel_rfl) (by kernel_rfl) #[true, true, true, true, true, true, true, true, false, false, false] (by kernel_rfl) rfl (y_nilCheck rfl) rfl rfl rfl (weak_trans (weak_take (T' := [box bg _, rowl _ _ _ _ _ _, fr, box b3 _]) rfl) (weak_emp 1 rfl)) (listed' := #[true, true, true, true, true, true, true, true, true, false, false]) rfl ?_
  refine ge_take 9 (TK := [box bg _, emp, fr, box b3 _]) rfl (by kernel_rfl) (by kernel_rfl) (by kernel_rfl) #[true, true, true, true, true, true, true, true, true, false, false] (by kernel_rfl) rfl (y_fieldAddr_box fa52_0 rfl) rfl rfl rfl (weak_trans (weak_take (T' := [box bg _, rowl _ _ _ _ _ _, fr, box b3 _]) rfl) (weak_emp 1 rfl)) (listed' := #[true, true, true, true, true, true, true, true, true, true, false]) rfl ?_
  refine ge_one 10 (k' := 1) (listed' := #[true, true, true, true, true, true, true, true, true, true, true]) (by kernel_rfl) rfl rfl rfl ?_
  refine gop_store 0 (v := .slice A12 _ c12) (cs' := #[_]) rfl rfl Tryd.sizeOf22 rfl rfl rfl rfl (Nat.le_of_ble_eq_true rfl) rfl rfl ?_
  refine gops_nil ?_
  refine ge_fin (TK := []) rfl (weak_nil) ?_
  refine ge_done (by kernel_rfl) ?_
  refine hN2 _ _ ?_
  refine gT [box bg _, rowl _ _ _ _ _ _, fr, box b3 _, box b11 _] rfl ?_
  refine gfrom [(0, .pointer (some ⟨bg, 0, none⟩))] ⟨rfl, trivial⟩ fun σ => ?_
  refine gseq fun N3 hN3 => ?_
  refine greg ?_
  refine gop (y_move (v := .pointer (some ⟨bg, 0, none⟩)) rfl) rfl rfl rfl ?_
  refine gop (y_nilCheck rfl) rfl rfl rfl ?_
  refine gop (y_fieldAddr_box fa52_0 rfl) rfl rfl rfl ?_
  refine gop (y_load Tryd.isAgg22 rfl (cell_box 0 rfl rfl)) rfl rfl rfl ?_
  refine gop (y_len Tryd.underlying22 rfl) rfl rfl rfl ?_
  refine gop (y_sub rfl rfl ⟨by first | omega | (simp; done) | (simp; omega), by first | omega | (simp; done) | (simp; omega)⟩) rfl rfl rfl ?_
  refine gop (y_assign (v := .int _ _) rfl) rfl rfl rfl ?_
  refine gops_nil ?_
  refine hN3 _ _ ?_
  refine gfrom [(4, .int _ _)] ⟨rfl, trivial⟩ fun σ => ?_
  refine gret fun w1 hM => ?_
  refine ⟨_, res1 rfl (rt (v := .int _ _) rfl), ?_⟩
  exact ⟨A12, c12, by simp, weak_take (T' := [_, _, fr]) rfl _ hM⟩
set_option maxHeartbeats 4000000 in
theorem polMade1_any (w : World) (bg bc : Nat) (B : Option Addr) (t : Tr) (hto : t.ok) (hsz : t.size ≤ 1000) (hcell : w.cell? ⟨bg, 0, none⟩ = some (.slice B (post t 0).length bc)) (hrd : Rdl w 0 4 pnCells B (post t 0)) (hlc : (post t 0).length ≤ bc) (hcm : bc ≤ maxLen) : Calls Tryd.prog 26 #[.pointer (some ⟨bg, 0, none⟩)] w fun e w' => e = .returned (.tuple #[.agg #[.slice (if 24 < (t).size ∨ 12 < (t).depth then none else B) (if 24 < (t).size ∨ 12 < (t).depth then 0 else (post t 0).length) (if 24 < (t).size ∨ 12 < (t).depth then 0 else bc)], fv (madeR t).1]) ∧ Below w.heap.size w w' := by
  have hpl := post_len t 0
  have hps := t.pos
  have hdd := depL_post hto
  refine gcalls Tryd.func26 rfl Tryd.ntmps26 (Nat.le_of_ble_eq_true rfl) ?_
  refine gfrom [(0, .pointer (some ⟨bg, 0, none⟩))] ⟨rfl, trivial⟩ fun σ => ?_
  refine gseq fun N1 hN1 => ?_
  refine greg ?_
  refine gop_alloc (cs := #[.slice none 0 0]) Tryd.zeroValue24 rfl rfl (fun b2 hb2 => ?_)
  refine gop_alloc (cs := #[.int .i64 0, .int .i64 0]) Tryd.zeroValue28 rfl rfl (fun b3 hb3 => ?_)
  refine gops_nil ?_
  refine hN1 _ _ ?_
  refine gT [box b2 _, box b3 _] rfl ?_
  refine gfrom [(0, .pointer (some ⟨bg, 0, none⟩)), (2, .pointer _), (3, .pointer _)] ⟨rfl, rfl, rfl, trivial⟩ fun σ => ?_
  refine gseq fun N2 hN2 => ?_
  refine greg ?_
  refine gop (y_move (v := .pointer (some ⟨bg, 0, none⟩)) rfl) rfl rfl rfl ?_
  refine gop (y_nilCheck rfl) rfl rfl rfl ?_
  refine gop (y_fieldAddr_box fa52_0 rfl) rfl rfl rfl ?_
  refine gop (y_load Tryd.isAgg22 rfl (cell_base hcell)) rfl rfl rfl ?_
  refine gop (y_build (vs := [(0, .slice _ _ _)]) (cells := #[_]) rfl (bd24_0 _ _ _)) rfl rfl rfl ?_
  refine gop_alloc (cs := #[.slice none 0 0]) Tryd.zeroValue24 rfl rfl (fun b4 hb4 => ?_)
  refine gop_store 2 (v := .agg #[_]) (cs' := #[_]) rfl rfl Tryd.sizeOf24 rfl rfl rfl rfl (Nat.le_of_ble_eq_true rfl) rfl rfl ?_
  refine gops_nil ?_
  refine hN2 _ _ ?_
  refine gT [box b2 _, box b3 _, box b4 _] rfl ?_
  refine gfrom [(2, .pointer _), (3, .pointer _), (4, .pointer _)] ⟨rfl, rfl, rfl, trivial⟩ fun σ => ?_
  refine gseq fun N3 hN3 => ?_
  refine gseq fun N4 hN4 => ?_
  refine greg ?_
  refine gop (y_fieldAddr_box fa24_0 rfl) rfl rfl rfl ?_
  refine gop (y_load Tryd.isAgg22 rfl (cell_box 2 rfl rfl)) rfl rfl rfl ?_
  refine gop (y_len Tryd.underlying22 rfl) rfl rfl rfl ?_
  refine gop (y_gtr rfl rfl) rfl rfl rfl ?_
  refine gop (y_move (v := .bool _) rfl) rfl rfl rfl ?_
  refine gop_if (want := false) rfl rfl rfl rfl rfl rfl (fun hg14 => ?_) (fun hg14 => ?_)
  · 
    have hg14d := of_decide_eq_false hg14
    refine gop (y_bare (y_loads (cs := [_]) Tryd.isAgg24 Tryd.sizeOf24 rfl rfl (cells_box 2 rfl))) rfl rfl rfl ?_
    refine gop_on rfl rfl rfl rfl hg14 ?_
    refine gop_pure (e_call (vs := [.agg #[_]]) Tryd.func29 rfl (by kernel_rfl) rfl) (fun w hM => polDepth_any w B bc (post t 0) (hrd.base hM) hlc hcm (by omega) (by omega) (linked_post hto)) rfl rfl rfl ?_
    refine gop_on rfl rfl rfl rfl hg14 ?_
    refine gop (y_bare (y_gtr rfl rfl)) rfl rfl rfl ?_
    refine gop (y_pick_f (v := .bool _) rfl hg14 rfl) rfl rfl rfl ?_
    refine gops_nil ?_
    refine hN4 _ _ ?_
    refine gfrom [(2, .pointer _), (3, .pointer _), (4, .pointer _), (18, .bool _)] ⟨rfl, rfl, rfl, rfl, trivial⟩ fun σ => ?_
    refine gcond (b := _) rfl (fun hc18 => ?_) (fun hc18 => ?_)
    · 
      replace hc18 := of_decide_eq_true hc18
      have hB : 24 < t.size ∨ 12 < t.depth := by omega
      have hF : (madeR t).1 = ⟨10, -1⟩ := by rw [madeR, if_pos hB]
      refine gseq fun N5 hN5 => ?_
      refine greg ?_
      refine gop (y_build (vs := []) (cells := #[.slice none 0 0]) rfl bd24_) rfl rfl rfl ?_
      refine gop (y_build (vs := [(0, _), (1, _)]) (cells := #[_, _]) rfl (bd28_0_1 _ _)) rfl rfl rfl ?_
      refine gop_store 0 (v := .agg #[_]) (cs' := #[_]) rfl rfl Tryd.sizeOf24 rfl rfl rfl rfl (Nat.le_of_ble_eq_true rfl) rfl rfl ?_
      refine gop_store 1 (v := .agg #[_, _]) (cs' := #[_, _]) rfl rfl Tryd.sizeOf28 rfl rfl rfl rfl (Nat.le_of_ble_eq_true rfl) rfl rfl ?_
      refine gops_nil ?_
      refine hN5 _ _ ?_
      refine gT [box b2 _, box b3 _, box b4 _] rfl ?_
      refine gfrom [(2, .pointer _), (3, .pointer _)] ⟨rfl, rfl, trivial⟩ fun σ => ?_
      refine gret fun w1 hM => ?_
      refine ⟨_, res2 rfl (rc 0 (cs := [_]) hM rfl rfl Tryd.isAgg24 Tryd.sizeOf24 rfl) (rc 1 (cs := [_, _]) hM rfl rfl Tryd.isAgg28 Tryd.sizeOf28 rfl), ?_⟩
      exact ⟨by rw [hF]; first | (simp only [if_pos hB]; done) | (simp only [if_neg hB]; done), hM.low⟩
    · 
      replace hc18 := of_decide_eq_false hc18
      have hB : ¬ (24 < t.size ∨ 12 < t.depth) := by omega
      have hF : (madeR t).1 = ⟨0, 0⟩ := by rw [madeR, if_neg hB]
      refine gskip ?_
      refine hN3 _ _ ?_
      refine gfrom [(2, .pointer _), (3, .pointer _), (4, .pointer _)] ⟨rfl, rfl, rfl, trivial⟩ fun σ => ?_
      refine gseq fun N6 hN6 => ?_
      refine greg ?_
      refine gop (y_loads (cs := [_]) Tryd.isAgg24 Tryd.sizeOf24 rfl rfl (cells_box 2 rfl)) rfl rfl rfl ?_
      refine gop (y_build (vs := []) (cells := #[.int .i64 0, .int .i64 0]) rfl bd28_) rfl rfl rfl ?_
      refine gop_store 0 (v := .agg #[_]) (cs' := #[_]) rfl rfl Tryd.sizeOf24 rfl rfl rfl rfl (Nat.le_of_ble_eq_true rfl) rfl rfl ?_
      refine gop_store 1 (v := .agg #[_, _]) (cs' := #[_, _]) rfl rfl Tryd.sizeOf28 rfl rfl rfl rfl (Nat.le_of_ble_eq_true rfl) rfl rfl ?_
      refine gops_nil ?_
      refine hN6 _ _ ?_
      refine gT [box b2 _, box b3 _, box b4 _] rfl ?_
      refine gfrom [(2, .pointer _), (3, .pointer _)] ⟨rfl, rfl, trivial⟩ fun σ => ?_
      refine gret fun w1 hM => ?_
      refine ⟨_, res2 rfl (rc 0 (cs := [_]) hM rfl rfl Tryd.isAgg24 Tryd.sizeOf24 rfl) (rc 1 (cs := [_, _]) hM rfl rfl Tryd.isAgg28 Tryd.sizeOf28 rfl), ?_⟩
      exact ⟨by rw [hF]; first | (simp only [if_pos hB]; done) | (simp only [if_neg hB]; done), hM.low⟩
  · 
    have hg14d := of_decide_eq_true hg14
    refine gop_off rfl rfl rfl rfl hg14 rfl rfl ?_
    refine gop_off rfl rfl rfl rfl hg14 rfl rfl ?_
    refine gop (y_pick_t (v := .bool _) rfl hg14 rfl) rfl rfl rfl ?_
    refine gops_nil ?_
    refine hN4 _ _ ?_
    refine gfrom [(2, .pointer _), (3, .pointer _), (4, .pointer _), (18, .bool _)] ⟨rfl, rfl, rfl, rfl, trivial⟩ fun σ => ?_
    refine gcond (b := _) rfl (fun hc18 => ?_) (fun hc18 => ?_)
    · 
      have hB : 24 < t.size ∨ 12 < t.depth := by omega
      have hF : (madeR t).1 = ⟨10, -1⟩ := by rw [madeR, if_pos hB]
      refine gseq fun N7 hN7 => ?_
      refine greg ?_
      refine gop (y_build (vs := []) (cells := #[.slice none 0 0]) rfl bd24_) rfl rfl rfl ?_
      refine gop (y_build (vs := [(0, _), (1, _)]) (cells := #[_, _]) rfl (bd28_0_1 _ _)) rfl rfl rfl ?_
      refine gop_store 0 (v := .agg #[_]) (cs' := #[_]) rfl rfl Tryd.sizeOf24 rfl rfl rfl rfl (Nat.le_of_ble_eq_true rfl) rfl rfl ?_
      refine gop_store 1 (v := .agg #[_, _]) (cs' := #[_, _]) rfl rfl Tryd.sizeOf28 rfl rfl rfl rfl (Nat.le_of_ble_eq_true rfl) rfl rfl ?_
      refine gops_nil ?_
      refine hN7 _ _ ?_
      refine gT [box b2 _, box b3 _, box b4 _] rfl ?_
      refine gfrom [(2, .pointer _), (3, .pointer _)] ⟨rfl, rfl, trivial⟩ fun σ => ?_
      refine gret fun w1 hM => ?_
      refine ⟨_, res2 rfl (rc 0 (cs := [_]) hM rfl rfl Tryd.isAgg24 Tryd.sizeOf24 rfl) (rc 1 (cs := [_, _]) hM rfl rfl Tryd.isAgg28 Tryd.sizeOf28 rfl), ?_⟩
      exact ⟨by rw [hF]; first | (simp only [if_pos hB]; done) | (simp only [if_neg hB]; done), hM.low⟩
    · 
      cases hc18
set_option maxHeartbeats 8000000 in
theorem polNormal1_any (w0 : World) (A : Option Addr) (c : Nat) (l : List PN) (hl : Rdl w0 0 4 pnCells A l) (hlc : l.length ≤ c) (hcm : c ≤ maxLen) (bg : Nat) (z : Nat) : ∀ (t : Tr) (x : Bool) (i : Int) (m : Nat) (w : World) (B : Option Addr) (bc : Nat) (o : List PN) (fr : Reg), t.size = z → i = (m : Int) → t.ok → At l m t → o.length + 2 * t.size ≤ 900 →
    Mem w0 [box bg (.cells #[.slice B (o.length) bc] 52), rowl pnCells w0.heap.size 47 4 (.slice B (o).length bc) (o), fr] w → Calls Tryd.prog 25 #[.pointer (some ⟨bg, 0, none⟩), .agg #[.slice A l.length c], .int .i64 i, .bool x] w fun e w' => ∃ B' bc', e = .returned (.int .i64 ((o.length + (nrm t x).size : Nat) - 1)) ∧ Mem w0 [box bg (.cells #[.slice B' ((o ++ post (nrm t x) o.length).length) bc'] 52), rowl pnCells w0.heap.size 47 4 (.slice B' (o ++ post (nrm t x) o.length).length bc') (o ++ post (nrm t x) o.length), fr] w' := by
  have hlm : l.length ≤ 9223372036854775807 := by have h9 := Nat.le_trans hlc hcm; unfold maxLen at h9; omega
  refine Nat.strongRecOn z ?_
  intro z ih t x i m w B bc o fr hz hi hok hat hol hM0
  have hm1 := hat.lt
  obtain ⟨ad, rfl, -, hca⟩ := hl.at_ hm1
  obtain ⟨hsm, -⟩ := tree_at hok hat hm1
  obtain ⟨hk1, hk7⟩ := tree_kind hok hat hm1
  have hps := t.pos
  have hnr := nrm_ok t x hok
  refine gcallsT Tryd.func25 rfl Tryd.ntmps25 (Nat.le_of_ble_eq_true rfl) hM0 ?_
  refine gfrom [(0, .pointer (some ⟨bg, 0, none⟩)), (1, .agg #[_]), (2, .int _ _), (3, .bool _)] ⟨rfl, rfl, rfl, rfl, trivial⟩ fun σ => ?_
  refine gseq fun N1 hN1 => ?_
  refine greg ?_
  refine gop_box (v := .agg #[_]) (cs := #[_]) rfl rfl rfl (fun b5 hb5 => ?_)
  refine gop (y_assign (v := .int _ _) rfl) rfl rfl rfl ?_
  refine gops_nil ?_
  refine hN1 _ _ ?_
  refine gT [box bg _, rowl _ _ _ _ _ _, fr, box b5 _] rfl ?_
  refine gfrom [(0, .pointer (some ⟨bg, 0, none⟩)), (2, .int _ _), (3, .bool _), (5, .pointer _)] ⟨rfl, rfl, rfl, rfl, trivial⟩ fun σ => ?_
  refine gseq fun N2 hN2 => ?_
  refine greg ?_
  refine gop (y_fieldAddr_box fa24_0 rfl) rfl rfl rfl ?_
  refine gop (y_load Tryd.isAgg22 rfl (cell_box 3 rfl rfl)) rfl rfl rfl ?_
  refine gop (y_move (v := .int _ _) rfl) rfl rfl rfl ?_
  refine gop (y_indexAddr (m := m) Tryd.underlying22 Tryd.sizeOf47 rfl rfl (by omega) (by omega) (by omega)) rfl rfl rfl ?_
  refine gop (y_loads (cs := [_, _, _, _]) Tryd.isAgg47 Tryd.sizeOf47 rfl rfl (cells_base hca)) rfl rfl rfl ?_
  refine gop_alloc (cs := #[.int .i64 0, .int .i64 0, .int .i64 0, .int .i64 0]) Tryd.zeroValue47 rfl rfl (fun b9 hb9 => ?_)
  refine gop_store 4 (v := .agg #[_, _, _, _]) (cs' := #[_, _, _, _]) rfl rfl Tryd.sizeOf47 rfl rfl rfl rfl (Nat.le_of_ble_eq_true rfl) rfl rfl ?_
  refine gops_nil ?_
  refine hN2 _ _ ?_
  refine gT [box bg _, rowl _ _ _ _ _ _, fr, box b5 _, box b9 _] rfl ?_
  refine gfrom [(0, .pointer (some ⟨bg, 0, none⟩)), (3, .bool _), (5, .pointer _), (9, .pointer _)] ⟨rfl, rfl, rfl, rfl, trivial⟩ fun σ => ?_
  refine gseq fun N3 hN3 => ?_
  refine gseq fun N4 hN4 => ?_
  refine greg ?_
  refine gop (y_fieldAddr_box fa47_0 rfl) rfl rfl rfl ?_
  refine gop (y_load Tryd.isAgg3 rfl (cell_box 4 rfl rfl)) rfl rfl rfl ?_
  refine gop_pure (e_call (vs := [.int _ _]) Tryd.func28 rfl (by kernel_rfl) rfl) (fun w hM => polOps_any w _) rfl rfl rfl ?_
  refine gops_nil ?_
  refine hN4 _ _ ?_
  refine gfrom [(0, .pointer (some ⟨bg, 0, none⟩)), (3, .bool _), (5, .pointer _), (9, .pointer _), (21, .int _ _)] ⟨rfl, rfl, rfl, rfl, rfl, trivial⟩ fun σ => ?_
  refine gblock ?_
  refine gseq fun N5 hN5 => ?_
  refine greg ?_
  refine gop (y_eql rfl rfl) rfl rfl rfl ?_
  refine gop (y_assign (v := .bool _) rfl) rfl rfl rfl ?_
  refine gops_nil ?_
  refine hN5 _ _ ?_
  refine gfrom [(0, .pointer (some ⟨bg, 0, none⟩)), (3, .bool _), (5, .pointer _), (9, .pointer _), (21, .int _ _), (22, .bool _)] ⟨rfl, rfl, rfl, rfl, rfl, rfl, trivial⟩ fun σ => ?_
  refine gcond (b := _) rfl (fun hc22 => ?_) (fun hc22 => ?_)
  · 
    replace hc22 := of_decide_eq_true hc22
    have h5k := opN_one (by omega : opN l[m].kind = 1)
    have hnk : ¬ l[m].kind < 5 := by omega
    obtain ⟨hi1, hk7, d, q, hdo, hdt, hdl, hds, hdq, h5, h67⟩ := tree_big hok hat hm1 hnk
    have hdp := depth_pos d
    have hdz := hdt.size_le
    have hte := h5 h5k
    have hn : nrm t x = nrm d (!x) := by rw [hte, nrm]
    have hsd : t.size = d.size + 1 := by rw [hte]; rfl
    refine gseq fun N6 hN6 => ?_
    refine greg ?_
    refine gop (y_move (v := .pointer (some ⟨bg, 0, none⟩)) rfl) rfl rfl rfl ?_
    refine gop (y_loads (cs := [_]) Tryd.isAgg24 Tryd.sizeOf24 rfl rfl (cells_box 3 rfl)) rfl rfl rfl ?_
    refine gop (y_fieldAddr_box fa47_2 rfl) rfl rfl rfl ?_
    refine gop (y_load Tryd.isAgg3 rfl (cell_box 4 rfl rfl)) rfl rfl rfl ?_
    refine gop (y_move (v := .bool _) rfl) rfl rfl rfl ?_
    refine gop (y_not rfl) rfl rfl rfl ?_
    refine gop_does2 0 1 (fun v r s G => ∃ B' bc', v = .int .i64 (((o).length + (nrm d (!x)).size : Nat) - 1) ∧ r = box bg (.cells #[.slice B' ((o ++ post (nrm d (!x)) (o).length).length) bc'] 52) ∧ s = rowl pnCells w0.heap.size 47 4 (.slice B' (o ++ post (nrm d (!x)) (o).length).length bc') (o ++ post (nrm d (!x)) (o).length) ∧ G = []) (e_call (vs := [.pointer (some ⟨bg, 0, none⟩), .agg #[_], .int _ _, .bool _]) Tryd.func25 rfl (by kernel_rfl) rfl) rfl rfl rfl (fun w fr1 hfr hM => (ih d.size (by omega) d (!x) _ q w _ _ (o) fr1 rfl hdl hdo hdt (by omega) hM).mono fun _ _ ⟨B', bc', h1, h2⟩ => ⟨_, _, _, [], h1, ⟨B', bc', rfl, rfl, rfl, rfl⟩, h2⟩) rfl rfl rfl ?_
    rintro _ _ _ _ ⟨B30, bc30, rfl, rfl, rfl, rfl⟩
    refine gop (y_assign (v := .int _ _) rfl) rfl rfl rfl ?_
    refine gops_nil ?_
    refine hN6 _ _ ?_
    refine gT [box bg _, rowl _ _ _ _ _ _, fr, box b5 _, box b9 _] rfl ?_
    refine gfrom [(8, .int _ _)] ⟨rfl, trivial⟩ fun σ => ?_
    refine gret fun w1 hM => ?_
    refine ⟨_, res1 rfl (rt (v := .int _ _) rfl), ?_⟩
    rw [hn]
    exact ⟨B30, bc30, rfl, weak_take (T' := [_, _, fr]) rfl _ hM⟩
  · 
    replace hc22 := of_decide_eq_false hc22
    refine gseq fun N7 hN7 => ?_
    refine greg ?_
    refine gop (y_eql rfl rfl) rfl rfl rfl ?_
    refine gop (y_assign (v := .bool _) rfl) rfl rfl rfl ?_
    refine gops_nil ?_
    refine hN7 _ _ ?_
    refine gfrom [(0, .pointer (some ⟨bg, 0, none⟩)), (3, .bool _), (5, .pointer _), (9, .pointer _), (31, .bool _)] ⟨rfl, rfl, rfl, rfl, rfl, trivial⟩ fun σ => ?_
    refine gcond (b := _) rfl (fun hc31 => ?_) (fun hc31 => ?_)
    · 
      replace hc31 := of_decide_eq_true hc31
      have h67k := opN_two (by omega : opN l[m].kind = 2)
      have hnk : ¬ l[m].kind < 5 := by omega
      obtain ⟨hi1, hk7, d, q, hdo, hdt, hdl, hds, hdq, h5, h67⟩ := tree_big hok hat hm1 hnk
      have hdp := depth_pos d
      have hdz := hdt.size_le
      obtain ⟨b, hbo, hbt, hbs, hbr, he⟩ := h67 (by omega)
      have hbp := b.pos
      have hda := nrm_ok d x hdo
      have hba := nrm_ok b x hbo
      have hsd : t.size = d.size + b.size + 1 := by rw [he]; rfl
      have hn : nrm t x = .bin (if x = true then 13 - l[m].kind else l[m].kind) (nrm d x) (nrm b x) := by rw [he, nrm]
      have hal1 := app_len o (nrm d x)
      have hal2 := app_len (o ++ post (nrm d x) o.length) (nrm b x)
      refine gseq fun N8 hN8 => ?_
      refine greg ?_
      refine gop (y_fieldAddr_box fa47_0 rfl) rfl rfl rfl ?_
      refine gop (y_load Tryd.isAgg3 rfl (cell_box 4 rfl rfl)) rfl rfl rfl ?_
      refine gop (y_assign (v := .int _ _) rfl) rfl rfl rfl ?_
      refine gops_nil ?_
      refine hN8 _ _ ?_
      refine gfrom [(0, .pointer (some ⟨bg, 0, none⟩)), (3, .bool _), (5, .pointer _), (9, .pointer _), (10, .int _ _)] ⟨rfl, rfl, rfl, rfl, rfl, trivial⟩ fun σ => ?_
      refine gseq fun N9 hN9 => ?_
      refine gfrom [(0, .pointer (some ⟨bg, 0, none⟩)), (3, .bool _), (5, .pointer _), (9, .pointer _), (10, .int _ _)] ⟨rfl, rfl, rfl, rfl, rfl, trivial⟩ fun σ => ?_
      refine gcut3 (Lf := [(0, .pointer (some ⟨bg, 0, none⟩)), (3, .bool _), (5, .pointer _), (9, .pointer _)]) (G := Unit) (fun g => True) (fun g => [(10, .int .i64 (if x = true then 13 - l[m].kind else l[m].kind))]) (fun g => []) ⟨rfl, rfl, rfl, rfl, trivial⟩ ?_ ?_
      ·
        refine gseq fun N10 hN10 => ?_
        refine greg ?_
        refine gop (y_move (v := .bool _) rfl) rfl rfl rfl ?_
        refine gops_nil ?_
        refine hN10 _ _ ?_
        refine gfrom [(0, .pointer (some ⟨bg, 0, none⟩)), (3, .bool _), (5, .pointer _), (9, .pointer _), (10, .int _ _), (35, .bool _)] ⟨rfl, rfl, rfl, rfl, rfl, rfl, trivial⟩ fun σ => ?_
        refine gcond (b := _) rfl (fun hc35 => ?_) (fun hc35 => ?_)
        · 
          refine greg ?_
          refine gop (y_move (v := .int _ _) rfl) rfl rfl rfl ?_
          refine gop (y_sub rfl rfl ⟨by omega, by omega⟩) rfl rfl rfl ?_
          refine gop (y_assign (v := .int _ _) rfl) rfl rfl rfl ?_
          refine gops_nil ?_
          refine gcut3_end (()) (trivial) ⟨(congrArg (Value.int .i64) (by first | (rw [if_pos hc35]; done) | (rw [if_neg (by simp [hc35])]; done))), trivial⟩ ⟨rfl, rfl, rfl, rfl, trivial⟩ ⟨_, rfl⟩
        · 
          refine gskip ?_
          refine gcut3_end (()) (trivial) ⟨(congrArg (Value.int .i64) (by first | (rw [if_pos hc35]; done) | (rw [if_neg (by simp [hc35])]; done))), trivial⟩ ⟨rfl, rfl, rfl, rfl, trivial⟩ ⟨_, rfl⟩
      ·
        intro g hcut σ
        refine hN9 _ _ ?_
        refine gseq fun N11 hN11 => ?_
        refine greg ?_
        refine gop (y_move (v := .pointer (some ⟨bg, 0, none⟩)) rfl) rfl rfl rfl ?_
        refine gop (y_loads (cs := [_]) Tryd.isAgg24 Tryd.sizeOf24 rfl rfl (cells_box 3 rfl)) rfl rfl rfl ?_
        refine gop (y_fieldAddr_box fa47_2 rfl) rfl rfl rfl ?_
        refine gop (y_load Tryd.isAgg3 rfl (cell_box 4 rfl rfl)) rfl rfl rfl ?_
        refine gop (y_move (v := .bool _) rfl) rfl rfl rfl ?_
        refine gop_does2 0 1 (fun v r s G => ∃ B' bc', v = .int .i64 (((o).length + (nrm d x).size : Nat) - 1) ∧ r = box bg (.cells #[.slice B' ((o ++ post (nrm d x) (o).length).length) bc'] 52) ∧ s = rowl pnCells w0.heap.size 47 4 (.slice B' (o ++ post (nrm d x) (o).length).length bc') (o ++ post (nrm d x) (o).length) ∧ G = []) (e_call (vs := [.pointer (some ⟨bg, 0, none⟩), .agg #[_], .int _ _, .bool _]) Tryd.func25 rfl (by kernel_rfl) rfl) rfl rfl rfl (fun w fr1 hfr hM => (ih d.size (by omega) d x _ q w _ _ (o) fr1 rfl hdl hdo hdt (by omega) hM).mono fun _ _ ⟨B', bc', h1, h2⟩ => ⟨_, _, _, [], h1, ⟨B', bc', rfl, rfl, rfl, rfl⟩, h2⟩) rfl rfl rfl ?_
        rintro _ _ _ _ ⟨B43, bc43, rfl, rfl, rfl, rfl⟩
        refine gop (y_assign (v := .int _ _) rfl) rfl rfl rfl ?_
        refine gops_nil ?_
        refine hN11 _ _ ?_
        refine gT [box bg _, rowl _ _ _ _ _ _, fr, box b5 _, box b9 _] rfl ?_
        refine gfrom [(0, .pointer (some ⟨bg, 0, none⟩)), (3, .bool _), (5, .pointer _), (9, .pointer _), (10, .int _ _), (11, .int _ _)] ⟨rfl, rfl, rfl, rfl, rfl, rfl, trivial⟩ fun σ => ?_
        refine gseq fun N12 hN12 => ?_
        refine greg ?_
        refine gop (y_move (v := .pointer (some ⟨bg, 0, none⟩)) rfl) rfl rfl rfl ?_
        refine gop (y_loads (cs := [_]) Tryd.isAgg24 Tryd.sizeOf24 rfl rfl (cells_box 3 rfl)) rfl rfl rfl ?_
        refine gop (y_fieldAddr_box fa47_3 rfl) rfl rfl rfl ?_
        refine gop (y_load Tryd.isAgg3 rfl (cell_box 4 rfl rfl)) rfl rfl rfl ?_
        refine gop (y_move (v := .bool _) rfl) rfl rfl rfl ?_
        refine gop_does2 0 1 (fun v r s G => ∃ B' bc', v = .int .i64 (((o ++ post (nrm d x) o.length).length + (nrm b x).size : Nat) - 1) ∧ r = box bg (.cells #[.slice B' ((o ++ post (nrm d x) o.length ++ post (nrm b x) (o ++ post (nrm d x) o.length).length).length) bc'] 52) ∧ s = rowl pnCells w0.heap.size 47 4 (.slice B' (o ++ post (nrm d x) o.length ++ post (nrm b x) (o ++ post (nrm d x) o.length).length).length bc') (o ++ post (nrm d x) o.length ++ post (nrm b x) (o ++ post (nrm d x) o.length).length) ∧ G = []) (e_call (vs := [.pointer (some ⟨bg, 0, none⟩), .agg #[_], .int _ _, .bool _]) Tryd.func25 rfl (by kernel_rfl) rfl) rfl rfl rfl (fun w fr1 hfr hM => (ih b.size (by omega) b x _ (m - 1) w _ _ (o ++ post (nrm d x) o.length) fr1 rfl hbr hbo hbt (by omega) hM).mono fun _ _ ⟨B', bc', h1, h2⟩ => ⟨_, _, _, [], h1, ⟨B', bc', rfl, rfl, rfl, rfl⟩, h2⟩) rfl rfl rfl ?_
        rintro _ _ _ _ ⟨B49, bc49, rfl, rfl, rfl, rfl⟩
        refine gop (y_assign (v := .int _ _) rfl) rfl rfl rfl ?_
        refine gops_nil ?_
        refine hN12 _ _ ?_
        refine gT [box bg _, rowl _ _ _ _ _ _, fr, box b5 _, box b9 _] rfl ?_
        refine gfrom [(0, .pointer (some ⟨bg, 0, none⟩)), (10, .int _ _), (11, .int _ _), (12, .int _ _)] ⟨rfl, rfl, rfl, rfl, trivial⟩ fun σ => ?_
        refine gseq fun N13 hN13 => ?_
        refine greg ?_
        refine gop (y_move (v := .pointer (some ⟨bg, 0, none⟩)) rfl) rfl rfl rfl ?_
        refine gop (y_move (v := .int _ _) rfl) rfl rfl rfl ?_
        refine gop (y_move (v := .int _ _) rfl) rfl rfl rfl ?_
        refine gop (y_move (v := .int _ _) rfl) rfl rfl rfl ?_
        refine gop (y_build (vs := [(0, .int _ _), (2, .int _ _), (3, .int _ _)]) (cells := #[_, .int .i64 0, _, _]) rfl (bd47_0_2_3 _ _ _)) rfl rfl rfl ?_
        refine gop_does2 0 1 (fun v r s G => ∃ B' bc', v = .int .i64 (((o ++ post (nrm d x) o.length) ++ post (nrm b x) (o ++ post (nrm d x) o.length).length).length : Nat) ∧ r = box bg (.cells #[.slice B' (((o ++ post (nrm d x) o.length) ++ post (nrm b x) (o ++ post (nrm d x) o.length).length ++ [(⟨if x = true then 13 - l[m].kind else l[m].kind, 0, ((o.length + (nrm d x).size : Nat) : Int) - 1, (((o ++ post (nrm d x) o.length).length + (nrm b x).size : Nat) : Int) - 1⟩ : PN)]).length) bc'] 52) ∧ s = rowl pnCells w0.heap.size 47 4 (.slice B' ((o ++ post (nrm d x) o.length) ++ post (nrm b x) (o ++ post (nrm d x) o.length).length ++ [(⟨if x = true then 13 - l[m].kind else l[m].kind, 0, ((o.length + (nrm d x).size : Nat) : Int) - 1, (((o ++ post (nrm d x) o.length).length + (nrm b x).size : Nat) : Int) - 1⟩ : PN)]).length bc') ((o ++ post (nrm d x) o.length) ++ post (nrm b x) (o ++ post (nrm d x) o.length).length ++ [(⟨if x = true then 13 - l[m].kind else l[m].kind, 0, ((o.length + (nrm d x).size : Nat) : Int) - 1, (((o ++ post (nrm d x) o.length).length + (nrm b x).size : Nat) : Int) - 1⟩ : PN)]) ∧ G = []) (e_call (vs := [.pointer (some ⟨bg, 0, none⟩), .agg #[_, _, _, _]]) Tryd.func41 rfl (by kernel_rfl) rfl) rfl rfl rfl (fun w fr1 hfr hM => (polAdd1_any _ w bg _ _ ((o ++ post (nrm d x) o.length) ++ post (nrm b x) (o ++ post (nrm d x) o.length).length) fr1 hM (by omega) ((⟨if x = true then 13 - l[m].kind else l[m].kind, 0, ((o.length + (nrm d x).size : Nat) : Int) - 1, (((o ++ post (nrm d x) o.length).length + (nrm b x).size : Nat) : Int) - 1⟩ : PN))).mono fun _ _ ⟨B', bc', h1, h2⟩ => ⟨_, _, _, [], h1, ⟨B', bc', rfl, rfl, rfl, rfl⟩, h2⟩) rfl rfl rfl ?_
        rintro _ _ _ _ ⟨B55, bc55, rfl, rfl, rfl, rfl⟩
        refine gop (y_assign (v := .int _ _) rfl) rfl rfl rfl ?_
        refine gops_nil ?_
        refine hN13 _ _ ?_
        refine gT [box bg _, rowl _ _ _ _ _ _, fr, box b5 _, box b9 _] rfl ?_
        refine gfrom [(8, .int _ _)] ⟨rfl, trivial⟩ fun σ => ?_
        refine gret fun w1 hM => ?_
        refine ⟨_, res1 rfl (rt (v := .int _ _) rfl), ?_⟩
        rw [hn, ← post_bin_app]
        exact ⟨B55, bc55, congrArg (fun z => Ending.returned (Value.int .i64 z)) (by rw [hal2, hal1, size_bin]; omega), weak_take (T' := [_, _, fr]) rfl _ hM⟩
    · 
      replace hc31 := of_decide_eq_false hc31
      have hlf := opN_zero (by omega) (by omega) ⟨hk1, hk7⟩
      obtain ⟨-, -, htl, -⟩ := hsm hlf
      have hnode : l[m] = ⟨l[m].kind, l[m].number, 0, 0⟩ := leaf_node (htl ▸ hat) hm1
      refine gskip ?_
      refine hN3 _ _ ?_
      refine gfrom [(0, .pointer (some ⟨bg, 0, none⟩)), (3, .bool _), (9, .pointer _)] ⟨rfl, rfl, rfl, trivial⟩ fun σ => ?_
      refine gseq fun N14 hN14 => ?_
      refine greg ?_
      refine gop (y_move (v := .pointer (some ⟨bg, 0, none⟩)) rfl) rfl rfl rfl ?_
      refine gop (y_loads (cs := [_, _, _, _]) Tryd.isAgg47 Tryd.sizeOf47 rfl rfl (cells_box 4 rfl)) rfl rfl rfl ?_
      refine gop_does2 0 1 (fun v r s G => ∃ B' bc', v = .int .i64 ((o).length : Nat) ∧ r = box bg (.cells #[.slice B' ((o ++ [l[m]]).length) bc'] 52) ∧ s = rowl pnCells w0.heap.size 47 4 (.slice B' (o ++ [l[m]]).length bc') (o ++ [l[m]]) ∧ G = []) (e_call (vs := [.pointer (some ⟨bg, 0, none⟩), .agg #[_, _, _, _]]) Tryd.func41 rfl (by kernel_rfl) rfl) rfl rfl rfl (fun w fr1 hfr hM => (polAdd1_any _ w bg _ _ (o) fr1 hM (by omega) (l[m])).mono fun _ _ ⟨B', bc', h1, h2⟩ => ⟨_, _, _, [], h1, ⟨B', bc', rfl, rfl, rfl, rfl⟩, h2⟩) rfl rfl rfl ?_
      rintro _ _ _ _ ⟨B58, bc58, rfl, rfl, rfl, rfl⟩
      refine gop (y_assign (v := .int _ _) rfl) rfl rfl rfl ?_
      refine gops_nil ?_
      refine hN14 _ _ ?_
      refine gT [box bg _, rowl _ _ _ _ _ _, fr, box b5 _, box b9 _] rfl ?_
      refine gfrom [(0, .pointer (some ⟨bg, 0, none⟩)), (3, .bool _), (13, .int _ _)] ⟨rfl, rfl, rfl, trivial⟩ fun σ => ?_
      refine gseq fun N15 hN15 => ?_
      refine gseq fun N16 hN16 => ?_
      refine greg ?_
      refine gop (y_move (v := .bool _) rfl) rfl rfl rfl ?_
      refine gops_nil ?_
      refine hN16 _ _ ?_
      refine gfrom [(0, .pointer (some ⟨bg, 0, none⟩)), (13, .int _ _), (59, .bool _)] ⟨rfl, rfl, rfl, trivial⟩ fun σ => ?_
      refine gcond (b := _) rfl (fun hc59 => ?_) (fun hc59 => ?_)
      · 
        have hn : nrm t x = .neg (.leaf l[m].kind l[m].number) := by rw [htl, nrm, if_pos hc59]
        refine greg ?_
        refine gop (y_move (v := .pointer (some ⟨bg, 0, none⟩)) rfl) rfl rfl rfl ?_
        refine gop (y_move (v := .int _ _) rfl) rfl rfl rfl ?_
        refine gop (y_build (vs := [(0, _), (2, .int _ _)]) (cells := #[_, .int .i64 0, _, .int .i64 0]) rfl (bd47_0_2 _ _)) rfl rfl rfl ?_
        refine gop_does2 0 1 (fun v r s G => ∃ B' bc', v = .int .i64 ((o ++ [l[m]]).length : Nat) ∧ r = box bg (.cells #[.slice B' ((o ++ [l[m]] ++ [(⟨5, 0, ((o.length : Nat) : Int), 0⟩ : PN)]).length) bc'] 52) ∧ s = rowl pnCells w0.heap.size 47 4 (.slice B' (o ++ [l[m]] ++ [(⟨5, 0, ((o.length : Nat) : Int), 0⟩ : PN)]).length bc') (o ++ [l[m]] ++ [(⟨5, 0, ((o.length : Nat) : Int), 0⟩ : PN)]) ∧ G = []) (e_call (vs := [.pointer (some ⟨bg, 0, none⟩), .agg #[_, _, _, _]]) Tryd.func41 rfl (by kernel_rfl) rfl) rfl rfl rfl (fun w fr1 hfr hM => (polAdd1_any _ w bg _ _ (o ++ [l[m]]) fr1 hM (by simp; omega) ((⟨5, 0, ((o.length : Nat) : Int), 0⟩ : PN))).mono fun _ _ ⟨B', bc', h1, h2⟩ => ⟨_, _, _, [], h1, ⟨B', bc', rfl, rfl, rfl, rfl⟩, h2⟩) rfl rfl rfl ?_
        rintro _ _ _ _ ⟨B63, bc63, rfl, rfl, rfl, rfl⟩
        refine gop (y_assign (v := .int _ _) rfl) rfl rfl rfl ?_
        refine gops_nil ?_
        refine hN15 _ _ ?_
        refine gT [box bg _, rowl _ _ _ _ _ _, fr, box b5 _, box b9 _] rfl ?_
        refine gfrom [(13, .int _ _)] ⟨rfl, trivial⟩ fun σ => ?_
        refine gseq fun N17 hN17 => ?_
        refine greg ?_
        refine gop (y_move (v := .int _ _) rfl) rfl rfl rfl ?_
        refine gop (y_assign (v := .int _ _) rfl) rfl rfl rfl ?_
        refine gops_nil ?_
        refine hN17 _ _ ?_
        refine gfrom [(8, .int _ _)] ⟨rfl, trivial⟩ fun σ => ?_
        refine gret fun w1 hM => ?_
        refine ⟨_, res1 rfl (rt (v := .int _ _) rfl), ?_⟩
        first
        | (have e1 : o ++ post (nrm t x) o.length = o ++ [l[m]] ++ [(⟨5, 0, ((o.length : Nat) : Int), 0⟩ : PN)] := by
             rw [hn, post, post, ← hnode, List.append_assoc]
             simp only [Tr.size]
             congr 4
             omega
           rw [e1]
           exact ⟨B63, bc63, congrArg (fun z => Ending.returned (Value.int .i64 z)) (by rw [hn]; simp only [Tr.size, List.length_append, List.length_cons, List.length_nil]; omega), weak_take (T' := [_, _, fr]) rfl _ hM⟩)
        | (have e1 : o ++ post (nrm t x) o.length = o ++ [l[m]] := by rw [hn, post, ← hnode]
           rw [e1]
           exact ⟨B58, bc58, congrArg (fun z => Ending.returned (Value.int .i64 z)) (by rw [hn]; simp only [Tr.size]; omega), weak_take (T' := [_, _, fr]) rfl _ hM⟩)
      · 
        have hn : nrm t x = .leaf l[m].kind l[m].number := by rw [htl, nrm, if_neg (by simp [hc59])]
        refine gskip ?_
        refine hN15 _ _ ?_
        refine gfrom [(13, .int _ _)] ⟨rfl, trivial⟩ fun σ => ?_
        refine gseq fun N18 hN18 => ?_
        refine greg ?_
        refine gop (y_move (v := .int _ _) rfl) rfl rfl rfl ?_
        refine gop (y_assign (v := .int _ _) rfl) rfl rfl rfl ?_
        refine gops_nil ?_
        refine hN18 _ _ ?_
        refine gfrom [(8, .int _ _)] ⟨rfl, trivial⟩ fun σ => ?_
        refine gret fun w1 hM => ?_
        refine ⟨_, res1 rfl (rt (v := .int _ _) rfl), ?_⟩
        first
        | (have e1 : o ++ post (nrm t x) o.length = o ++ [l[m]] ++ [(⟨5, 0, ((o.length : Nat) : Int), 0⟩ : PN)] := by
             rw [hn, post, post, ← hnode, List.append_assoc]
             simp only [Tr.size]
             congr 4
             omega
           rw [e1]
           exact ⟨B63, bc63, congrArg (fun z => Ending.returned (Value.int .i64 z)) (by rw [hn]; simp only [Tr.size, List.length_append, List.length_cons, List.length_nil]; omega), weak_take (T' := [_, _, fr]) rfl _ hM⟩)
        | (have e1 : o ++ post (nrm t x) o.length = o ++ [l[m]] := by rw [hn, post, ← hnode]
           rw [e1]
           exact ⟨B58, bc58, congrArg (fun z => Ending.returned (Value.int .i64 z)) (by rw [hn]; simp only [Tr.size]; omega), weak_take (T' := [_, _, fr]) rfl _ hM⟩)
end Go.Proofs.YtllblbkbglifjaaDoor
namespace Go.Proofs.YtllblbkbglifjaaDoor
open Go.RowKit Go.Cf
set_option maxRecDepth 10000
set_option maxHeartbeats 4000000 in
theorem polNormal_any (w : World) (A : Option Addr) (c : Nat) (l : List PN) (hl : Rdl w 0 4 pnCells A l) (hlc : l.length ≤ c) (hcm : c ≤ maxLen) :
    Calls Tryd.prog 11 #[.agg #[.slice A l.length c]] w fun e w' => ∃ pv, e = .returned (.tuple #[.agg #[pv], fv (norR l).1]) ∧ Below w.heap.size w w' ∧ NewL 4 pnCells (norR l).2 w.heap.size w' pv := by
  have hlm : l.length ≤ 9223372036854775807 := by have h9 := Nat.le_trans hlc hcm; unfold maxLen at h9; omega
  refine gcalls Tryd.func11 rfl Tryd.ntmps11 (Nat.le_of_ble_eq_true rfl) ?_
  refine gfrom [(0, .agg #[_])] ⟨rfl, trivial⟩ fun σ => ?_
  refine gseq fun N1 hN1 => ?_
  refine greg ?_
  refine gop_box (v := .agg #[_]) (cs := #[_]) rfl rfl rfl (fun b1 hb1 => ?_)
  refine gop_alloc (cs := #[.slice none 0 0]) Tryd.zeroValue24 rfl rfl (fun b2 hb2 => ?_)
  refine gop_alloc (cs := #[.int .i64 0, .int .i64 0]) Tryd.zeroValue28 rfl rfl (fun b3 hb3 => ?_)
  refine gops_nil ?_
  refine hN1 _ _ ?_
  refine gT [box b1 _, box b2 _, box b3 _] rfl ?_
  refine gfrom [(1, .pointer _), (2, .pointer _), (3, .pointer _)] ⟨rfl, rfl, rfl, trivial⟩ fun σ => ?_
  refine gseq fun N2 hN2 => ?_
  refine gseq fun N3 hN3 => ?_
  refine greg ?_
  refine gop (y_loads (cs := [_]) Tryd.isAgg24 Tryd.sizeOf24 rfl rfl (cells_box 0 rfl)) rfl rfl rfl ?_
  refine gop_pure (e_call (vs := [.agg #[_]]) Tryd.func13 rfl (by kernel_rfl) rfl) (fun w hM => polValidate_any w A c l (hl.base hM) hlc hcm) rfl rfl rfl ?_
  refine gop_alloc (cs := #[.int .i64 0, .int .i64 0]) Tryd.zeroValue28 rfl rfl (fun b4 hb4 => ?_)
  refine gop_store 3 (v := .agg #[_, _]) (cs' := #[_, _]) rfl rfl Tryd.sizeOf28 rfl rfl rfl rfl (Nat.le_of_ble_eq_true rfl) rfl rfl ?_
  refine gops_nil ?_
  refine hN3 _ _ ?_
  refine gT [box b1 _, box b2 _, box b3 _, box b4 _] rfl ?_
  refine gfrom [(1, .pointer _), (2, .pointer _), (3, .pointer _), (4, .pointer _)] ⟨rfl, rfl, rfl, rfl, trivial⟩ fun σ => ?_
  refine gseq fun N4 hN4 => ?_
  refine greg ?_
  refine gop (y_loads (cs := [_, _]) Tryd.isAgg28 Tryd.sizeOf28 rfl rfl (cells_box 3 rfl)) rfl rfl rfl ?_
  refine gop (y_build (vs := []) (cells := #[.int .i64 0, .int .i64 0]) rfl bd28_) rfl rfl rfl ?_
  refine gop (y_bin (vx := .agg #[_, _]) (vy := .agg #[_, _]) rfl rfl (fun w => eg28 _ _ _ _ _ w) (fun w => ne28 _ _ _ _ w)) rfl rfl rfl ?_
  refine gops_nil ?_
  refine hN4 _ _ ?_
  refine gfrom [(1, .pointer _), (2, .pointer _), (3, .pointer _), (4, .pointer _), (10, .bool _)] ⟨rfl, rfl, rfl, rfl, rfl, trivial⟩ fun σ => ?_
  refine gcond (b := _) rfl (fun hc10 => ?_) (fun hc10 => ?_)
  · 
    replace hc10 := fault_ne.1 hc10
    have hN : norR l = (polF l, []) := by rw [norR, if_pos hc10]
    refine gseq fun N5 hN5 => ?_
    refine greg_e1 [] [(1, room b2 24 1), (2, room b3 28 2)] (by kernel_rfl) ?_
    refine ge_take 0 (TK := [box b1 _, room b2 24 1, room b3 28 2, box b4 _]) rfl (by kernel_rfl) (by kernel_rfl) (by kernel_rfl) #[false, true, false, false] (by kernel_rfl) rfl (y_build (vs := []) (cells := #[.slice none 0 0]) rfl bd24_) rfl rfl rfl (weak_trans (weak_room 1 rfl rfl) (weak_room 2 rfl rfl)) (listed' := #[true, false, false, false]) rfl ?_
    refine ge_take 1 (TK := [box b1 _, room b2 24 1, room b3 28 2, box b4 _]) rfl (by kernel_rfl) (by kernel_rfl) (by kernel_rfl) #[true, false, true, false] (by kernel_rfl) rfl (y_loads (cs := [_, _]) Tryd.isAgg28 Tryd.sizeOf28 rfl rfl (cells_box 3 rfl)) rfl rfl rfl (weak_trans (weak_room 1 rfl rfl) (weak_room 2 rfl rfl)) (listed' := #[true, true, false, false]) rfl ?_
    refine ge_one 2 (k' := 0) (listed' := #[true, true, true, false]) (by kernel_rfl) rfl rfl rfl ?_
    refine gop_store 1 (v := .agg #[_]) (cs' := #[_]) rfl rfl Tryd.sizeOf24 rfl rfl rfl rfl (Nat.le_of_ble_eq_true rfl) rfl rfl ?_
    refine gops_nil ?_
    refine ge_fin (TK := [box b1 _, room b2 24 1, room b3 28 2, box b4 _]) rfl (weak_trans (weak_room 1 rfl rfl) (weak_room 2 rfl rfl)) ?_
    refine ge_one 3 (k' := 0) (listed' := #[true, true, true, true]) (by kernel_rfl) rfl rfl rfl ?_
    refine gop_store 2 (v := .agg #[_, _]) (cs' := #[_, _]) rfl rfl Tryd.sizeOf28 rfl rfl rfl rfl (Nat.le_of_ble_eq_true rfl) rfl rfl ?_
    refine gops_nil ?_
    refine ge_fin (TK := [box b1 _, room b2 24 1, room b3 28 2, box b4 _]) rfl (weak_trans (weak_room 1 rfl rfl) (weak_room 2 rfl rfl)) ?_
    refine ge_done (by kernel_rfl) ?_
    refine hN5 _ _ ?_
    refine gT [box b1 _, box b2 _, box b3 _, box b4 _] rfl ?_
    refine gfrom [(2, .pointer _), (3, .pointer _)] ⟨rfl, rfl, trivial⟩ fun σ => ?_
    refine gret fun w1 hM => ?_
    refine ⟨_, res2 rfl (rc 1 (cs := [_]) hM rfl rfl Tryd.isAgg24 Tryd.sizeOf24 rfl) (rc 2 (cs := [_, _]) hM rfl rfl Tryd.isAgg28 Tryd.sizeOf28 rfl), ?_⟩
    rw [hN]
    exact ⟨_, rfl, hM.low, newL_nil⟩
  · 
    replace hc10 := fault_eq.1 hc10
    obtain ⟨hn0, hn24, -⟩ := pol_ok hc10
    have ht := tree_of hc10
    have htl := ht.len
    have hN : norR l = madeR (nrm (treeOf l) false) := by rw [norR, if_neg (fun h => h hc10)]
    refine gskip ?_
    refine hN2 _ _ ?_
    refine gfrom [(1, .pointer _), (2, .pointer _), (3, .pointer _)] ⟨rfl, rfl, rfl, trivial⟩ fun σ => ?_
    refine gseq fun N6 hN6 => ?_
    refine greg ?_
    refine gop_alloc (cs := #[.slice none 0 0]) Tryd.zeroValue52 rfl rfl (fun b5 hb5 => ?_)
    refine gops_nil ?_
    refine hN6 _ _ ?_
    refine gT [box b1 _, box b2 _, box b3 _, box b4 _, box b5 _] rfl ?_
    refine gfrom [(1, .pointer _), (2, .pointer _), (3, .pointer _), (5, .pointer _)] ⟨rfl, rfl, rfl, rfl, trivial⟩ fun σ => ?_
    refine gseq fun N7 hN7 => ?_
    refine greg ?_
    refine gop (y_loads (cs := [_]) Tryd.isAgg24 Tryd.sizeOf24 rfl rfl (cells_box 0 rfl)) rfl rfl rfl ?_
    refine gop (y_fieldAddr_box fa24_0 rfl) rfl rfl rfl ?_
    refine gop (y_load Tryd.isAgg22 rfl (cell_box 0 rfl rfl)) rfl rfl rfl ?_
    refine gop (y_len Tryd.underlying22 rfl) rfl rfl rfl ?_
    refine gop (y_sub rfl rfl ⟨by omega, by omega⟩) rfl rfl rfl ?_
    refine gops_nilrow pnCells 47 4 ?_
    refine gop_does2 4 5 (fun v r s G => ∃ B' bc', v = .int .i64 ((([] : List PN).length + (nrm (treeOf l) false).size : Nat) - 1) ∧ r = box b5 (.cells #[.slice B' (post (nrm (treeOf l) false) 0).length bc'] 52) ∧ s = rowl pnCells w.heap.size 47 4 (.slice B' (post (nrm (treeOf l) false) 0).length bc') (post (nrm (treeOf l) false) 0) ∧ G = []) (e_call (vs := [.pointer _, .agg #[_], .int _ _, _]) Tryd.func25 rfl (by kernel_rfl) rfl) rfl rfl rfl (fun w fr1 hfr hM => (polNormal1_any _ A c l hl hlc hcm b5 (treeOf l).size (treeOf l) false _ (l.length - 1) w _ _ [] fr1 rfl (by omega) ht.ok ht.at_ (by simp; omega) hM).mono fun _ _ ⟨B', bc', h1, h2⟩ => ⟨_, _, _, [], h1, ⟨B', bc', rfl, rfl, rfl, rfl⟩, h2⟩) rfl rfl rfl ?_
    rintro _ _ _ _ ⟨B18, bc18, rfl, rfl, rfl, rfl⟩
    refine gops_fact (fun w hM => row_form (hM.ok _ (List.mem_of_getElem? (i := 5) rfl))) ?_
    rintro ⟨A18, c18, hv18, hc18, hm18, hn18⟩
    simp only [Value.slice.injEq] at hv18
    obtain ⟨rfl, -, rfl⟩ := hv18
    refine gops_nil ?_
    refine hN7 _ _ ?_
    refine gT [box b1 _, box b2 _, box b3 _, box b4 _, box b5 _, rowl _ _ _ _ _ _] rfl ?_
    refine gfrom [(2, .pointer _), (3, .pointer _), (5, .pointer _)] ⟨rfl, rfl, rfl, trivial⟩ fun σ => ?_
    refine gseq fun N8 hN8 => ?_
    refine greg ?_
    refine gop_pure (e_call (vs := [.pointer _]) Tryd.func26 rfl (by kernel_rfl) rfl) (fun w hM => polMade1_any w b5 _ _ (nrm (treeOf l) false) (nrm_ok _ false ht.ok).1 (by have h9 := (nrm_ok _ false ht.ok).2; omega) (cell_box 4 (off := 0) rfl rfl w hM) ((row_rdl (f := pnCells) (fun _ => rfl) (hM.ok _ (List.mem_of_getElem? (i := 5) rfl))).mono (Nat.zero_le _)) hc18 hm18) rfl rfl rfl ?_
    refine gop (y_extract (v := .agg #[_]) rfl rfl) rfl rfl rfl ?_
    refine gop (y_extract (v := .agg #[_, _]) rfl rfl) rfl rfl rfl ?_
    refine gop_store 1 (v := .agg #[_]) (cs' := #[_]) rfl rfl Tryd.sizeOf24 rfl rfl rfl rfl (Nat.le_of_ble_eq_true rfl) rfl rfl ?_
    refine gop_store 2 (v := .agg #[_, _]) (cs' := #[_, _]) rfl rfl Tryd.sizeOf28 rfl rfl rfl rfl (Nat.le_of_ble_eq_true rfl) rfl rfl ?_
    refine gops_nil ?_
    refine hN8 _ _ ?_
    refine gT [box b1 _, box b2 _, box b3 _, box b4 _, box b5 _, rowl _ _ _ _ _ _] rfl ?_
    refine gfrom [(2, .pointer _), (3, .pointer _)] ⟨rfl, rfl, trivial⟩ fun σ => ?_
    refine gret fun w1 hM => ?_
    refine ⟨_, res2 rfl (rc 1 (cs := [_]) hM rfl rfl Tryd.isAgg24 Tryd.sizeOf24 rfl) (rc 2 (cs := [_, _]) hM rfl rfl Tryd.isAgg28 Tryd.sizeOf28 rfl), ?_⟩
    rw [hN]
    by_cases hB : 24 < (nrm (treeOf l) false).size ∨ 12 < (nrm (treeOf l) false).depth
    · have hm : (madeR (nrm (treeOf l) false)).2 = [] := by rw [madeR, if_pos hB]
      refine ⟨_, rfl, hM.low, ?_⟩
      rw [hm]
      simp only [if_pos hB]
      exact newL_nil
    · have hm : (madeR (nrm (treeOf l) false)).2 = post (nrm (treeOf l) false) 0 := by rw [madeR, if_neg hB]
      refine ⟨_, rfl, hM.low, ?_⟩
      rw [hm]
      simp only [if_neg hB]
      exact hM.newL 5 rfl (fun _ => rfl)
end Go.Proofs.YtllblbkbglifjaaDoor
namespace Go.Cf
open Go.RowKit
structure HunkC where
  pl : Hunk
  oA : Option Addr
  oc : Nat
  nA : Option Addr
  nc : Nat
abbrev hunkCells (h : HunkC) : List Value := [.int .i64 h.pl.at_, .slice h.oA h.pl.old.length h.oc, .slice h.nA h.pl.new.length h.nc]
structure SB (A : Option Addr) (n c : Nat) (b : Nat) : Prop where
  len : n ≤ c
  max : c ≤ maxLen
  nil : A = none → c = 0
  bytes : n * b ≤ reachBytes
theorem SB.lit {a : Addr} {b : Nat} (n : Nat) (h : n ≤ 1000) (hb : b ≤ 1000) : SB (some a) n n b := by
  refine ⟨Nat.le_refl _, by unfold maxLen; omega, (fun h => by cases h), ?_⟩
  have : n * b ≤ 1000 * 1000 := Nat.mul_le_mul h hb
  unfold reachBytes; omega
structure HunkR (w : World) (lo : Nat) (h : HunkC) : Prop where
  old : Rdl w lo 1 strCells h.oA h.pl.old
  new : Rdl w lo 1 strCells h.nA h.pl.new
  ob : SB h.oA h.pl.old.length h.oc 16
  nb : SB h.nA h.pl.new.length h.nc 16
  at_ : In64 h.pl.at_
def Lasts (lo : Nat) (R : World → Prop) : Prop := ∀ w w', R w → (∀ p : Addr, lo ≤ p.block → p.block < w.heap.size → w'.cell? p = w.cell? p) → R w'
theorem Lasts.base {lo : Nat} {R : World → Prop} (h : Lasts lo R) {w0 w : World} {T : List Reg} (hR : R w0) (hM : Mem w0 T w) : R w := h w0 w hR fun _ _ hp => hM.low.cell hp
theorem Lasts.below {lo : Nat} {R : World → Prop} (h : Lasts lo R) {w0 w : World} (hR : R w0) (hb : Below w0.heap.size w0 w) : R w := h w0 w hR fun _ _ hp => hb.cell hp
theorem Lasts.seal_ {lo : Nat} {R : World → Prop} (h : Lasts lo R) {w0 w ws : World} {T : List Reg} (i : Nat) {lo1 : Nat} (hi : T[i]? = some (seal_ lo1 ws)) (hR : R ws) (hlo : lo1 ≤ lo) (hM : Mem w0 T w) : R w :=
  h ws w hR fun p h1 h2 => by
    have h3 : ∀ k, lo1 ≤ k → k < ws.heap.size → w.heap[k]? = ws.heap[k]? := hM.ok _ (List.mem_of_getElem? hi)
    exact World.cell?_of_block (h3 p.block (Nat.le_trans hlo h1) h2)
theorem HunkR.mono {w : World} {lo lo' : Nat} {h : HunkC} (hR : HunkR w lo h) (hl : lo' ≤ lo) : HunkR w lo' h := ⟨hR.old.mono hl, hR.new.mono hl, hR.ob, hR.nb, hR.at_⟩
structure PatR (w : World) (lo : Nat) (A : Option Addr) (c : Nat) (hs : List HunkC) : Prop where
  rd : Rdl w lo 3 hunkCells A hs
  each : ∀ h ∈ hs, HunkR w lo h
  sb : SB A hs.length c 56
theorem PatR.mono {w : World} {lo lo' : Nat} {A : Option Addr} {c : Nat} {hs : List HunkC} (hR : PatR w lo A c hs) (hl : lo' ≤ lo) : PatR w lo' A c hs := ⟨hR.rd.mono hl, fun h hh => (hR.each h hh).mono hl, hR.sb⟩
abbrev pls (hs : List HunkC) : List Hunk := hs.map HunkC.pl
structure PatC where
  A : Option Addr
  c : Nat
  hs : List HunkC
abbrev patCells (p : PatC) : List Value := [.slice p.A p.hs.length p.c]
abbrev PatC.pl (p : PatC) : List Hunk := pls p.hs
structure PatsR (w : World) (lo : Nat) (A : Option Addr) (ps : List PatC) : Prop where
  rd : Rdl w lo 1 patCells A ps
  each : ∀ p ∈ ps, PatR w lo p.A p.c p.hs
theorem PatsR.mono {w : World} {lo lo' : Nat} {A : Option Addr} {ps : List PatC} (hR : PatsR w lo A ps) (hl : lo' ≤ lo) : PatsR w lo' A ps := ⟨hR.rd.mono hl, fun h hh => (hR.each h hh).mono hl⟩
end Go.Cf
namespace Go.Cf
open Go.RowKit
theorem y_indexByte {P : Program} {w0 : World} {T : List Reg} {ρ : Env} {dst : Option Nat} {x y : Operand} {ty : TypeId} {pos : String} {af : Array Edge} {gd : Option (Nat × Bool)} {ts : Array TypeId} {f : FuncId} {fn : Func}
    (hf : P.funcs[f]? = some fn) (hname : (fn.name == "runtime.NumGoroutine") = false) (hb : fn.body.isNone = true) (hn : Extern.findNext fn = none) (he : Extern.find fn = some Extern.BytealgIndexByte.indexByte) {s : ByteArray} {c : Int}
    (hx : ev ρ x = .string s) (hy : ev ρ y = .int .u8 c) :
    Yield P w0 T ρ ⟨dst, .call { callee := .value (.func f), args := #[x, y], argTypes := ts }, ty, pos, af, gd⟩ (.int .i64 (firstIdx s c.toNat.toUInt8)) := fun w _ => by
  have h := run_callFunc_extern hf hname hb hn he #[.string s, .int .u8 c] w
  rw [run_indexByte_string] at h
  simp only [Result.andThen] at h
  have hef : ev ρ (.func f) = .func (.func f) #[] #[] := rfl
  simp [execOp, resolve, invoke, hx, hy, hef, Deferred.ofValue]
  simpa using h
theorem y_field {P : Program} {w0 : World} {T : List Reg} {ρ : Env} {dst : Option Nat} {x : Operand} {ty t : TypeId} {pos : String} {af : Array Edge} {gd : Option (Nat × Bool)} {i : Nat} {cs : Array Value} {v : Value}
    (hx : ev ρ x = .agg cs) (hf : ∀ w, (Instr.field t (.agg cs) i).run P w = .ok v w) : Yield P w0 T ρ ⟨dst, .field t x i, ty, pos, af, gd⟩ v := fun w _ => by
  simp [execOp, hx, hf]
end Go.Cf
namespace Go.Cf
open Go.RowKit
theorem byteAt_lt (s : ByteArray) (j : Nat) : byteAt s j < 256 := (s.data.toList[j]?.getD 0).toNat_lt
theorem sep_idx (s : ByteArray) (j : Nat) : firstIdx ⟨#[32, 40, 41]⟩ (((byteAt s j : Nat) : Int).toNat.toUInt8) < 0 ↔ woB s j = true := by
  have h1 := firstIdx_nonneg ⟨#[32, 40, 41]⟩ (((byteAt s j : Nat) : Int).toNat.toUInt8)
  obtain ⟨c, hc⟩ : ∃ c, ((byteAt s j : Nat) : Int).toNat.toUInt8 = c := ⟨_, rfl⟩
  have hb : c.toNat = byteAt s j := by
    rw [← hc, Int.toNat_natCast]
    show (UInt8.ofNat (byteAt s j)).toNat = _
    rw [UInt8.toNat_ofNat']
    have := byteAt_lt s j
    omega
  rw [hc] at h1 ⊢
  have e : (([32, 40, 41] : List UInt8).any (· == c)) = !woB s j := by
    have q : ∀ d : UInt8, (d == c) = decide (d.toNat = byteAt s j) := fun d => by
      rw [← hb]
      by_cases h : d = c
      · subst h; simp
      · rw [beq_eq_false_iff_ne.2 h]
        exact (decide_eq_false (fun h2 => h (UInt8.toNat_inj.1 h2))).symm
    simp only [List.any_cons, List.any_nil, q, woB]
    have e1 : (32 : UInt8).toNat = 32 := rfl
    have e2 : (40 : UInt8).toNat = 40 := rfl
    have e3 : (41 : UInt8).toNat = 41 := rfl
    rw [e1, e2, e3]
    by_cases a1 : byteAt s j = 32 <;> by_cases a2 : byteAt s j = 40 <;> by_cases a3 : byteAt s j = 41 <;> simp_all <;> omega
  have h2 : decide (0 ≤ firstIdx ⟨#[32, 40, 41]⟩ c) = !woB s j := h1.trans e
  constructor
  · intro h
    have : decide (0 ≤ firstIdx ⟨#[32, 40, 41]⟩ c) = false := decide_eq_false (by omega)
    rw [this] at h2
    simpa using h2.symm
  · intro h
    rw [h] at h2
    have := of_decide_eq_false h2
    omega
structure RS (s : ByteArray) (at_ : Nat) (ts : List Tk) : Prop where
  ts : ts = tks s at_
  sk : skipW s at_ = at_
  le : at_ ≤ s.size
section
variable {s : ByteArray} {a : Nat} {ts : List Tk}
theorem RS.hd (h : RS s a ts) : s.extract a (nextW s a) = hd ts := by
  rw [h.ts]
  by_cases h1 : a < s.size
  · rw [tks_cons (by rw [h.sk]; exact h1), h.sk]; rfl
  · have : a = s.size := by have := h.le; omega
    rw [tks_nil (by rw [h.sk]; exact h1), this, next_end]
    show s.extract s.size s.size = ⟨#[]⟩
    apply ByteArray.ext
    simp
theorem RS.pos (h : RS s a ts) : pos s.size ts = a := by
  rw [h.ts]
  by_cases h1 : a < s.size
  · rw [tks_cons (by rw [h.sk]; exact h1), h.sk]; rfl
  · have : a = s.size := by have := h.le; omega
    rw [tks_nil (by rw [h.sk]; exact h1), this]; rfl
theorem RS.next (h : RS s a ts) : RS s (skipW s (nextW s a)) ts.tail := by
  refine ⟨?_, skip_skip _ _, skip_le (next_le h.le)⟩
  rw [h.ts, tks_skip]
  by_cases h1 : a < s.size
  · rw [tks_cons (by rw [h.sk]; exact h1), h.sk]; rfl
  · have : a = s.size := by have := h.le; omega
    rw [tks_nil (by rw [h.sk]; exact h1), this, next_end]
    rw [tks_nil (by have := skip_ge s s.size; omega)]; rfl
theorem RS.nil (h : RS s a ts) : ts = [] ↔ ¬ a < s.size := by
  rw [h.ts]
  by_cases h1 : a < s.size
  · rw [tks_cons (by rw [h.sk]; exact h1)]; simp [h1]
  · rw [tks_nil (by rw [h.sk]; exact h1)]; simp [h1]
theorem RS.len (h : RS s a ts) : ts.length ≤ s.size := by rw [h.ts]; exact Nat.le_trans (tks_len s _ a rfl) (by omega)
end
theorem RS.start (s : ByteArray) : RS s (skipW s 0) (tks s 0) := ⟨(tks_skip s 0).symm, skip_skip _ _, skip_le (Nat.zero_le _)⟩
theorem strEq_dec (a b : ByteArray) : (a.toList == b.toList) = decide (a = b) := by
  by_cases h : a = b
  · subst h; simp
  · rw [decide_eq_false h, beq_eq_false_iff_ne]
    intro h2
    apply h
    rw [ByteArray.toList_eq, ByteArray.toList_eq] at h2
    apply ByteArray.ext
    exact Array.toList_inj.1 h2
def POK (s : ByteArray) (R : Res) (o : List PN) (code : Int) (x : Int) (b : Bool) (o' : List PN) (a' : Nat) (code' : Int) : Prop := match R with
  | .bad c p => b = false ∧ a' = p ∧ code' = c ∧ o'.length ≤ 1000
  | .ok t ts => b = true ∧ x = ((o.length + t.size : Nat) : Int) - 1 ∧ o' = o ++ post t o.length ∧ RS s a' ts ∧ code' = code
theorem pok_yes {s : ByteArray} {R : Res} {o o' : List PN} {code code' x : Int} {a' : Nat} {b : Bool} (h : POK s R o code x b o' a' code') (hb : b = true) : ∃ t ts, R = .ok t ts ∧ x = ((o.length + t.size : Nat) : Int) - 1 ∧ o' = o ++ post t o.length ∧ RS s a' ts ∧ code' = code := by
  cases R with
  | bad c p => rw [POK, hb] at h; exact absurd h.1 (by decide)
  | ok t ts => exact ⟨t, ts, rfl, h.2⟩
theorem pok_no {s : ByteArray} {R : Res} {o o' : List PN} {code code' x : Int} {a' : Nat} {b : Bool} (h : POK s R o code x b o' a' code') (hb : b = false) : R = .bad code' a' ∧ o'.length ≤ 1000 := by
  cases R with
  | bad c p => obtain ⟨_, h1, h2, h3⟩ := h; rw [h1, h2]; exact ⟨rfl, h3⟩
  | ok t ts => rw [POK, hb] at h; exact absurd h.1 (by decide)
theorem pok_bad {s : ByteArray} {o o' : List PN} {code x : Int} {R : Res} {c : Int} {a' : Nat} (h : R = .bad c a') (h2 : o'.length ≤ 1000) : POK s R o code x false o' a' c := by
  rw [h]; exact ⟨rfl, rfl, rfl, h2⟩
theorem pok_ok {s : ByteArray} {o o' : List PN} {code x : Int} {R : Res} {t : Tr} {ts : List Tk} {a' : Nat} (h : R = .ok t ts) (h1 : x = ((o.length + t.size : Nat) : Int) - 1) (h2 : o' = o ++ post t o.length) (h3 : RS s a' ts) : POK s R o code x true o' a' code := by
  rw [h]; exact ⟨rfl, h1, h2, h3, rfl⟩
end Go.Cf
namespace Go.Cf
theorem pok_bad2 {s : ByteArray} {o o' : List PN} {code x : Int} {R : Res} {c : Int} {a' : Nat} {b : Bool} (hb : b = false) (h : R = .bad c a') (h2 : o'.length ≤ 1000) : POK s R o code x b o' a' c := by
  subst hb; exact pok_bad h h2
theorem pok_ok2 {s : ByteArray} {o o' : List PN} {code x : Int} {R : Res} {t : Tr} {ts : List Tk} {a' : Nat} {b : Bool} (hb : b = true) (h : R = .ok t ts) (h1 : x = ((o.length + t.size : Nat) : Int) - 1) (h2 : o' = o ++ post t o.length) (h3 : RS s a' ts) : POK s R o code x b o' a' code := by
  subst hb; exact pok_ok h h1 h2 h3
end Go.Cf
namespace Go.Cf
def LI (s : ByteArray) (lv n : Nat) (R : Res) (o : List PN) (code : Int) (m : Nat) (x : Int) (b : Bool) (o1 : List PN) (a1 : Nat) (code1 : Int) : Prop :=
  m ≤ n ∧ ((b = false ∧ R = .bad code1 a1 ∧ o1.length ≤ 1000) ∨ (b = true ∧ ∃ t us, x = ((o.length + t.size : Nat) : Int) - 1 ∧ o1 = o ++ post t o.length ∧ RS s a1 us ∧ code = code1 ∧ R = rd s.size m lv (some t) us ∧ 3 * us.length + 1 ≤ m ∧ o.length + t.size + us.length ≤ 800))
theorem li_start {s : ByteArray} {lv n : Nat} {R : Res} {o o1 : List PN} {code code1 x : Int} {b : Bool} {a1 : Nat} {ts : List Tk} (hR : R = bindR (rd s.size n (lv + 1) none ts) fun t us => rd s.size n lv (some t) us) (hlv : lv < 2) (hfu : 3 * ts.length + 3 ≤ n + 1 + lv) (hol : o.length + ts.length ≤ 800)
    (hp : POK s (rd s.size n (lv + 1) none ts) o code x b o1 a1 code1) : LI s lv n R o code n x b o1 a1 code1 := by
  refine ⟨Nat.le_refl _, ?_⟩
  cases hb : b with
  | false =>
    obtain ⟨h1, h2⟩ := pok_no hp hb
    exact .inl ⟨rfl, by rw [hR, h1]; rfl, h2⟩
  | true =>
    obtain ⟨t, us, h1, h2, h3, h4, h5⟩ := pok_yes hp hb
    obtain ⟨_, h6⟩ := rd_ok s.size n _ none _ _ _ (fun _ h => by cases h) h1
    have := t.pos
    simp only [Option.map, Option.getD] at h6
    exact .inr ⟨rfl, t, us, h2, h3, h4, h5.symm, by rw [hR, h1]; rfl, by omega, by omega⟩
theorem li_bad {s : ByteArray} {lv n m : Nat} {R : Res} {o o1 : List PN} {code code1 x : Int} {b : Bool} {a1 : Nat} (h : LI s lv n R o code m x b o1 a1 code1) (hb : b = false) : R = .bad code1 a1 ∧ o1.length ≤ 1000 := by
  rcases h.2 with h | h
  · exact h.2
  · rw [h.1] at hb; cases hb
theorem li_ok {s : ByteArray} {lv n m : Nat} {R : Res} {o o1 : List PN} {code code1 x : Int} {b : Bool} {a1 : Nat} (h : LI s lv n R o code m x b o1 a1 code1) (hb : b = true) : ∃ t us, x = ((o.length + t.size : Nat) : Int) - 1 ∧ o1 = o ++ post t o.length ∧ RS s a1 us ∧ code = code1 ∧ R = rd s.size m lv (some t) us ∧ 3 * us.length + 1 ≤ m ∧ o.length + t.size + us.length ≤ 800 := by
  rcases h.2 with h | h
  · rw [h.1] at hb; cases hb
  · exact h.2
end Go.Cf
namespace Go.Proofs.YtllblbkbglifjaaDoor
open Go.RowKit Go.Cf
set_option maxRecDepth 10000
theorem fa60_3 (a : Addr) (w : World) : (Instr.fieldAt 60 (.pointer (some a)) 3).run Tryd.prog w = .ok (.pointer (some (a.add 3))) w := by kernel_rfl
theorem fa60_2 (a : Addr) (w : World) : (Instr.fieldAt 60 (.pointer (some a)) 2).run Tryd.prog w = .ok (.pointer (some (a.add 2))) w := by kernel_rfl
theorem fa60_1 (a : Addr) (w : World) : (Instr.fieldAt 60 (.pointer (some a)) 1).run Tryd.prog w = .ok (.pointer (some (a.add 1))) w := by kernel_rfl
set_option maxHeartbeats 1000000 in
theorem slIndexByte_any (w : World) (s : ByteArray) (c : Int) : Calls Tryd.prog 47 #[.string s, .int .u8 c] w fun e w' => e = .returned (.int .i64 (firstIdx s c.toNat.toUInt8)) ∧ Below w.heap.size w w' := by
  refine gcalls Tryd.func47 rfl Tryd.ntmps47 (Nat.le_of_ble_eq_true rfl) ?_
  refine gfrom [(0, .string _), (1, .int _ _)] ⟨rfl, rfl, trivial⟩ fun σ => ?_
  refine gseq fun N1 hN1 => ?_
  refine greg ?_
  refine gop (y_assign (v := .int _ _) rfl) rfl rfl rfl ?_
  refine gops_nil ?_
  refine hN1 _ _ ?_
  refine gfrom [(0, .string _), (1, .int _ _)] ⟨rfl, rfl, trivial⟩ fun σ => ?_
  refine gseq fun N2 hN2 => ?_
  refine greg ?_
  refine gop (y_move (v := .string _) rfl) rfl rfl rfl ?_
  refine gop (y_move (v := .int _ _) rfl) rfl rfl rfl ?_
  refine gop (y_indexByte Tryd.func51 (by kernel_rfl) (by kernel_rfl) (by kernel_rfl) (by kernel_rfl) rfl rfl) rfl rfl rfl ?_
  refine gop (y_assign (v := .int _ _) rfl) rfl rfl rfl ?_
  refine gops_nil ?_
  refine hN2 _ _ ?_
  refine gfrom [(4, .int _ _)] ⟨rfl, trivial⟩ fun σ => ?_
  refine gret fun w1 hM => ?_
  refine ⟨_, res1 rfl (rt (v := .int _ _) rfl), ?_⟩
  exact ⟨rfl, hM.low⟩
set_option maxHeartbeats 1000000 in
theorem indexByte_any (w : World) (s : ByteArray) (c : Int) : Calls Tryd.prog 43 #[.string s, .int .u8 c] w fun e w' => e = .returned (.int .i64 (firstIdx s c.toNat.toUInt8)) ∧ Below w.heap.size w w' := by
  refine gcalls Tryd.func43 rfl Tryd.ntmps43 (Nat.le_of_ble_eq_true rfl) ?_
  refine gfrom [(0, .string _), (1, .int _ _)] ⟨rfl, rfl, trivial⟩ fun σ => ?_
  refine gseq fun N1 hN1 => ?_
  refine greg ?_
  refine gop (y_assign (v := .int _ _) rfl) rfl rfl rfl ?_
  refine gops_nil ?_
  refine hN1 _ _ ?_
  refine gfrom [(0, .string _), (1, .int _ _)] ⟨rfl, rfl, trivial⟩ fun σ => ?_
  refine gseq fun N2 hN2 => ?_
  refine greg ?_
  refine gop (y_move (v := .string _) rfl) rfl rfl rfl ?_
  refine gop (y_move (v := .int _ _) rfl) rfl rfl rfl ?_
  refine gop_pure (e_call (vs := [.string _, .int _ _]) Tryd.func47 rfl (by kernel_rfl) rfl) (fun w hM => slIndexByte_any w _ _) rfl rfl rfl ?_
  refine gop (y_assign (v := .int _ _) rfl) rfl rfl rfl ?_
  refine gops_nil ?_
  refine hN2 _ _ ?_
  refine gfrom [(4, .int _ _)] ⟨rfl, trivial⟩ fun σ => ?_
  refine gret fun w1 hM => ?_
  refine ⟨_, res1 rfl (rt (v := .int _ _) rfl), ?_⟩
  exact ⟨rfl, hM.low⟩
set_option maxHeartbeats 8000000 in
theorem rdScan_any (w0 w : World) (rg n bc : Nat) (B : Option Addr) (s : ByteArray) (code : Int) (fr : Reg) (hs : s.size ≤ 200) (a x : Int) (nx : Nat) (hx : x = (nx : Int)) (hnx : nx ≤ s.size) (hM0 : Mem w0 [box rg (.cells #[.slice B n bc, .string s, .int .i64 (a), .int .i64 (x), .int .i64 code] 60), fr] w) :
    Calls Tryd.prog 30 #[.pointer (some ⟨rg, 0, none⟩)] w fun e w' => e = .returned (.tuple #[]) ∧ Mem w0 [box rg (.cells #[.slice B n bc, .string s, .int .i64 ((skipW s nx : Nat)), .int .i64 ((nextW s (skipW s nx) : Nat)), .int .i64 code] 60), fr] w' := by
  subst hx
  refine gcallsT Tryd.func30 rfl Tryd.ntmps30 (Nat.le_of_ble_eq_true rfl) hM0 ?_
  refine gfrom [(0, .pointer (some ⟨rg, 0, none⟩))] ⟨rfl, trivial⟩ fun σ => ?_
  refine gseq fun N1 hN1 => ?_
  refine greg ?_
  refine gop (y_move (v := .pointer (some ⟨rg, 0, none⟩)) rfl) rfl rfl rfl ?_
  refine gop (y_move (v := .pointer (some ⟨rg, 0, none⟩)) rfl) rfl rfl rfl ?_
  refine gop (y_nilCheck rfl) rfl rfl rfl ?_
  refine gop (y_fieldAddr_box fa60_3 rfl) rfl rfl rfl ?_
  refine gop (y_load Tryd.isAgg3 rfl (cell_box 0 rfl rfl)) rfl rfl rfl ?_
  refine gop (y_nilCheck rfl) rfl rfl rfl ?_
  refine gop (y_fieldAddr_box fa60_2 rfl) rfl rfl rfl ?_
  refine gop_store 0 (v := .int _ _) (cs' := #[_, _, _, _, _]) rfl rfl Tryd.sizeOf3 rfl rfl rfl rfl (Nat.le_of_ble_eq_true rfl) rfl rfl ?_
  refine gops_nil ?_
  refine hN1 _ _ ?_
  refine gT [box rg _, fr] rfl ?_
  refine gfrom [(0, .pointer (some ⟨rg, 0, none⟩))] ⟨rfl, trivial⟩ fun σ => ?_
  refine gseq fun N2 hN2 => ?_
  refine gblock ?_
  refine gfrom2 [] [(0, .pointer (some ⟨rg, 0, none⟩))] trivial ⟨rfl, trivial⟩ fun σ => ?_
  refine gloop2 (G := Nat) (fun j => j ≤ s.size ∧ skipW s j = skipW s nx) (fun j => s.size - j) (fun j => []) (fun j => [(0, box rg (.cells #[.slice B n bc, .string s, .int .i64 ((j : Nat)), .int .i64 ((nx : Nat)), .int .i64 code] 60))]) (nx) ?h0 trivial ⟨rfl, trivial⟩ rfl ?round
  case h0 => exact ⟨hnx, rfl⟩
  case round =>
    intro j hφ σ
    obtain ⟨hj, hjs⟩ := hφ
    refine gT [box rg _, fr] rfl ?_
    refine gseq fun N3 hN3 => ?_
    refine gseq fun N4 hN4 => ?_
    refine greg_q (by kernel_rfl) (by kernel_rfl) ?_
    refine gq (y_move (v := .pointer (some ⟨rg, 0, none⟩)) rfl) rfl rfl rfl ?_
    refine gq (y_nilCheck rfl) rfl rfl rfl ?_
    refine gq (y_fieldAddr_box fa60_2 rfl) rfl rfl rfl ?_
    refine gq (y_load Tryd.isAgg3 rfl (cell_box 0 rfl rfl)) rfl rfl rfl ?_
    refine gq (y_move (v := .pointer (some ⟨rg, 0, none⟩)) rfl) rfl rfl rfl ?_
    refine gq (y_nilCheck rfl) rfl rfl rfl ?_
    refine gq (y_fieldAddr_box fa60_1 rfl) rfl rfl rfl ?_
    refine gq (y_load Tryd.isAgg9 rfl (cell_box 0 rfl rfl)) rfl rfl rfl ?_
    refine gq (y_lens Tryd.underlying9 rfl) rfl rfl rfl ?_
    refine gq (y_lss rfl rfl) rfl rfl rfl ?_
    refine gq (y_move (v := .bool _) rfl) rfl rfl rfl ?_
    refine gq_if (want := true) rfl rfl rfl rfl rfl rfl (fun hg19 => ?_) (fun hg19 => ?_)
    · 
      have hg19d := of_decide_eq_true hg19
      refine gq (y_bare (y_move (v := .pointer (some ⟨rg, 0, none⟩)) rfl)) rfl rfl rfl ?_
      refine gq_on rfl rfl rfl rfl hg19 ?_
      refine gq (y_bare (y_nilCheck rfl)) rfl rfl rfl ?_
      refine gq_on rfl rfl rfl rfl hg19 ?_
      refine gq (y_bare (y_fieldAddr_box fa60_1 rfl)) rfl rfl rfl ?_
      refine gq_on rfl rfl rfl rfl hg19 ?_
      refine gq (y_bare (y_load Tryd.isAgg9 rfl (cell_box 0 rfl rfl))) rfl rfl rfl ?_
      refine gq_on rfl rfl rfl rfl hg19 ?_
      refine gq (y_bare (y_move (v := .pointer (some ⟨rg, 0, none⟩)) rfl)) rfl rfl rfl ?_
      refine gq_on rfl rfl rfl rfl hg19 ?_
      refine gq (y_bare (y_nilCheck rfl)) rfl rfl rfl ?_
      refine gq_on rfl rfl rfl rfl hg19 ?_
      refine gq (y_bare (y_fieldAddr_box fa60_2 rfl)) rfl rfl rfl ?_
      refine gq_on rfl rfl rfl rfl hg19 ?_
      refine gq (y_bare (y_load Tryd.isAgg3 rfl (cell_box 0 rfl rfl))) rfl rfl rfl ?_
      refine gq_on rfl rfl rfl rfl hg19 ?_
      refine gq (y_bare (y_stridx (m := j) Tryd.underlying9 rfl rfl (by omega) (by omega) (by omega))) rfl rfl rfl ?_
      refine gq_on rfl rfl rfl rfl hg19 ?_
      refine gq (y_bare (y_eql rfl rfl)) rfl rfl rfl ?_
      refine gq (y_pick_t (v := .bool _) rfl hg19 rfl) rfl rfl rfl ?_
      refine gqs_nil ?_
      refine hN4 _ _ ?_
      refine gfrom [(0, .pointer (some ⟨rg, 0, none⟩)), (30, .bool _)] ⟨rfl, rfl, trivial⟩ fun σ => ?_
      refine gcond (b := _) rfl (fun hc30 => ?_) (fun hc30 => ?_)
      · 
        replace hc30 := of_decide_eq_true hc30
        have hj1 : j < s.size := by omega
        have hb : spB s j = true := decide_eq_true (by omega)
        refine gskip ?_
        refine hN3 _ _ ?_
        refine gfrom [(0, .pointer (some ⟨rg, 0, none⟩))] ⟨rfl, trivial⟩ fun σ => ?_
        refine gblock ?_
        refine greg ?_
        refine gop (y_move (v := .pointer (some ⟨rg, 0, none⟩)) rfl) rfl rfl rfl ?_
        refine gop (y_nilCheck rfl) rfl rfl rfl ?_
        refine gop (y_fieldAddr_box fa60_2 rfl) rfl rfl rfl ?_
        refine gop (y_load Tryd.isAgg3 rfl (cell_box 0 rfl rfl)) rfl rfl rfl ?_
        refine gop (y_add rfl rfl ⟨by omega, by omega⟩) rfl rfl rfl ?_
        refine gop (y_nilCheck rfl) rfl rfl rfl ?_
        refine gop (y_fieldAddr_box fa60_2 rfl) rfl rfl rfl ?_
        refine gop_store 0 (v := .int _ _) (cs' := #[_, _, _, _, _]) rfl rfl Tryd.sizeOf3 rfl rfl rfl rfl (Nat.le_of_ble_eq_true rfl) rfl rfl ?_
        refine gops_nil ?_
        refine gnext2 (j + 1) (by omega) (⟨by show j + 1 ≤ _; omega, by rw [← hjs]; exact (run_step hj1 hb).symm⟩) trivial ⟨rfl, trivial⟩ ⟨_, rfl⟩
      · 
        replace hc30 := of_decide_eq_false hc30
        have hat : skipW s nx = j := by rw [← hjs]; exact run_stop (fun h => decide_eq_false (by omega))
        refine gexit ?_
        refine hN2 _ _ ?_
        refine gfrom [(0, .pointer (some ⟨rg, 0, none⟩))] ⟨rfl, trivial⟩ fun σ => ?_
        refine gseq fun N5 hN5 => ?_
        refine greg ?_
        refine gop (y_move (v := .pointer (some ⟨rg, 0, none⟩)) rfl) rfl rfl rfl ?_
        refine gop (y_move (v := .pointer (some ⟨rg, 0, none⟩)) rfl) rfl rfl rfl ?_
        refine gop (y_nilCheck rfl) rfl rfl rfl ?_
        refine gop (y_fieldAddr_box fa60_2 rfl) rfl rfl rfl ?_
        refine gop (y_load Tryd.isAgg3 rfl (cell_box 0 rfl rfl)) rfl rfl rfl ?_
        refine gop (y_nilCheck rfl) rfl rfl rfl ?_
        refine gop (y_fieldAddr_box fa60_3 rfl) rfl rfl rfl ?_
        refine gop_store 0 (v := .int _ _) (cs' := #[_, _, _, _, _]) rfl rfl Tryd.sizeOf3 rfl rfl rfl rfl (Nat.le_of_ble_eq_true rfl) rfl rfl ?_
        refine gops_nil ?_
        refine hN5 _ _ ?_
        refine gT [box rg _, fr] rfl ?_
        refine gfrom [(0, .pointer (some ⟨rg, 0, none⟩))] ⟨rfl, trivial⟩ fun σ => ?_
        refine gseq fun N6 hN6 => ?_
        refine gblock ?_
        refine gfrom2 [] [(0, .pointer (some ⟨rg, 0, none⟩))] trivial ⟨rfl, trivial⟩ fun σ => ?_
        refine gloop2 (G := Nat) (fun k => k ≤ s.size ∧ endW s k = endW s j) (fun k => s.size - k) (fun k => []) (fun k => [(0, box rg (.cells #[.slice B n bc, .string s, .int .i64 ((j : Nat)), .int .i64 ((k : Nat)), .int .i64 code] 60))]) (j) ?h0 trivial ⟨rfl, trivial⟩ rfl ?round
        case h0 => exact ⟨hj, rfl⟩
        case round =>
          intro k hφ σ
          obtain ⟨hk, hks⟩ := hφ
          refine gT [box rg _, fr] rfl ?_
          refine gseq fun N7 hN7 => ?_
          refine gseq fun N8 hN8 => ?_
          refine greg_q (by kernel_rfl) (by kernel_rfl) ?_
          refine gq (y_move (v := .pointer (some ⟨rg, 0, none⟩)) rfl) rfl rfl rfl ?_
          refine gq (y_nilCheck rfl) rfl rfl rfl ?_
          refine gq (y_fieldAddr_box fa60_3 rfl) rfl rfl rfl ?_
          refine gq (y_load Tryd.isAgg3 rfl (cell_box 0 rfl rfl)) rfl rfl rfl ?_
          refine gq (y_move (v := .pointer (some ⟨rg, 0, none⟩)) rfl) rfl rfl rfl ?_
          refine gq (y_nilCheck rfl) rfl rfl rfl ?_
          refine gq (y_fieldAddr_box fa60_1 rfl) rfl rfl rfl ?_
          refine gq (y_load Tryd.isAgg9 rfl (cell_box 0 rfl rfl)) rfl rfl rfl ?_
          refine gq (y_lens Tryd.underlying9 rfl) rfl rfl rfl ?_
          refine gq (y_lss rfl rfl) rfl rfl rfl ?_
          refine gq (y_move (v := .bool _) rfl) rfl rfl rfl ?_
          refine gq_if (want := true) rfl rfl rfl rfl rfl rfl (fun hg55 => ?_) (fun hg55 => ?_)
          · 
            have hg55d := of_decide_eq_true hg55
            refine gq (y_bare (y_move (v := .pointer (some ⟨rg, 0, none⟩)) rfl)) rfl rfl rfl ?_
            refine gq_on rfl rfl rfl rfl hg55 ?_
            refine gq (y_bare (y_nilCheck rfl)) rfl rfl rfl ?_
            refine gq_on rfl rfl rfl rfl hg55 ?_
            refine gq (y_bare (y_fieldAddr_box fa60_1 rfl)) rfl rfl rfl ?_
            refine gq_on rfl rfl rfl rfl hg55 ?_
            refine gq (y_bare (y_load Tryd.isAgg9 rfl (cell_box 0 rfl rfl))) rfl rfl rfl ?_
            refine gq_on rfl rfl rfl rfl hg55 ?_
            refine gq (y_bare (y_move (v := .pointer (some ⟨rg, 0, none⟩)) rfl)) rfl rfl rfl ?_
            refine gq_on rfl rfl rfl rfl hg55 ?_
            refine gq (y_bare (y_nilCheck rfl)) rfl rfl rfl ?_
            refine gq_on rfl rfl rfl rfl hg55 ?_
            refine gq (y_bare (y_fieldAddr_box fa60_3 rfl)) rfl rfl rfl ?_
            refine gq_on rfl rfl rfl rfl hg55 ?_
            refine gq (y_bare (y_load Tryd.isAgg3 rfl (cell_box 0 rfl rfl))) rfl rfl rfl ?_
            refine gq_on rfl rfl rfl rfl hg55 ?_
            refine gq (y_bare (y_stridx (m := k) Tryd.underlying9 rfl rfl (by omega) (by omega) (by omega))) rfl rfl rfl ?_
            refine gq_on rfl rfl rfl rfl hg55 ?_
            refine gq_pure (e_call (vs := [_, .int _ _]) Tryd.func43 rfl (by kernel_rfl) rfl) (fun w hM => indexByte_any w _ _) rfl rfl rfl ?_
            refine gq_on rfl rfl rfl rfl hg55 ?_
            refine gq (y_bare (y_lss rfl rfl)) rfl rfl rfl ?_
            refine gq (y_pick_t (v := .bool _) rfl hg55 rfl) rfl rfl rfl ?_
            refine gqs_nil ?_
            refine hN8 _ _ ?_
            refine gfrom [(0, .pointer (some ⟨rg, 0, none⟩)), (67, .bool _)] ⟨rfl, rfl, trivial⟩ fun σ => ?_
            refine gcond (b := _) rfl (fun hc67 => ?_) (fun hc67 => ?_)
            · 
              replace hc67 := of_decide_eq_true hc67
              have hk1 : k < s.size := by omega
              have hw : woB s k = true := (sep_idx s k).1 (by omega)
              refine gskip ?_
              refine hN7 _ _ ?_
              refine gfrom [(0, .pointer (some ⟨rg, 0, none⟩))] ⟨rfl, trivial⟩ fun σ => ?_
              refine gblock ?_
              refine greg ?_
              refine gop (y_move (v := .pointer (some ⟨rg, 0, none⟩)) rfl) rfl rfl rfl ?_
              refine gop (y_nilCheck rfl) rfl rfl rfl ?_
              refine gop (y_fieldAddr_box fa60_3 rfl) rfl rfl rfl ?_
              refine gop (y_load Tryd.isAgg3 rfl (cell_box 0 rfl rfl)) rfl rfl rfl ?_
              refine gop (y_add rfl rfl ⟨by omega, by omega⟩) rfl rfl rfl ?_
              refine gop (y_nilCheck rfl) rfl rfl rfl ?_
              refine gop (y_fieldAddr_box fa60_3 rfl) rfl rfl rfl ?_
              refine gop_store 0 (v := .int _ _) (cs' := #[_, _, _, _, _]) rfl rfl Tryd.sizeOf3 rfl rfl rfl rfl (Nat.le_of_ble_eq_true rfl) rfl rfl ?_
              refine gops_nil ?_
              refine gnext2 (k + 1) (by omega) (⟨by show k + 1 ≤ _; omega, by rw [← hks]; exact (run_step hk1 hw).symm⟩) trivial ⟨rfl, trivial⟩ ⟨_, rfl⟩
            · 
              replace hc67 := of_decide_eq_false hc67
              have hend : endW s j = k := by
                rw [← hks]
                refine run_stop (fun h => ?_)
                by_cases hw : woB s k = true
                · exact absurd ((sep_idx s k).2 hw) (by omega)
                · simpa using hw
              refine gexit ?_
              refine hN6 _ _ ?_
              refine gfrom [(0, .pointer (some ⟨rg, 0, none⟩))] ⟨rfl, trivial⟩ fun σ => ?_
              refine gseq fun N9 hN9 => ?_
              refine greg_q (by kernel_rfl) (by kernel_rfl) ?_
              refine gq (y_move (v := .pointer (some ⟨rg, 0, none⟩)) rfl) rfl rfl rfl ?_
              refine gq (y_nilCheck rfl) rfl rfl rfl ?_
              refine gq (y_fieldAddr_box fa60_3 rfl) rfl rfl rfl ?_
              refine gq (y_load Tryd.isAgg3 rfl (cell_box 0 rfl rfl)) rfl rfl rfl ?_
              refine gq (y_move (v := .pointer (some ⟨rg, 0, none⟩)) rfl) rfl rfl rfl ?_
              refine gq (y_nilCheck rfl) rfl rfl rfl ?_
              refine gq (y_fieldAddr_box fa60_2 rfl) rfl rfl rfl ?_
              refine gq (y_load Tryd.isAgg3 rfl (cell_box 0 rfl rfl)) rfl rfl rfl ?_
              refine gq (y_eql rfl rfl) rfl rfl rfl ?_
              refine gq (y_move (v := .bool _) rfl) rfl rfl rfl ?_
              refine gq_if (want := true) rfl rfl rfl rfl rfl rfl (fun hg84 => ?_) (fun hg84 => ?_)
              · 
                have hg84d := of_decide_eq_true hg84
                refine gq (y_bare (y_move (v := .pointer (some ⟨rg, 0, none⟩)) rfl)) rfl rfl rfl ?_
                refine gq_on rfl rfl rfl rfl hg84 ?_
                refine gq (y_bare (y_nilCheck rfl)) rfl rfl rfl ?_
                refine gq_on rfl rfl rfl rfl hg84 ?_
                refine gq (y_bare (y_fieldAddr_box fa60_2 rfl)) rfl rfl rfl ?_
                refine gq_on rfl rfl rfl rfl hg84 ?_
                refine gq (y_bare (y_load Tryd.isAgg3 rfl (cell_box 0 rfl rfl))) rfl rfl rfl ?_
                refine gq_on rfl rfl rfl rfl hg84 ?_
                refine gq (y_bare (y_move (v := .pointer (some ⟨rg, 0, none⟩)) rfl)) rfl rfl rfl ?_
                refine gq_on rfl rfl rfl rfl hg84 ?_
                refine gq (y_bare (y_nilCheck rfl)) rfl rfl rfl ?_
                refine gq_on rfl rfl rfl rfl hg84 ?_
                refine gq (y_bare (y_fieldAddr_box fa60_1 rfl)) rfl rfl rfl ?_
                refine gq_on rfl rfl rfl rfl hg84 ?_
                refine gq (y_bare (y_load Tryd.isAgg9 rfl (cell_box 0 rfl rfl))) rfl rfl rfl ?_
                refine gq_on rfl rfl rfl rfl hg84 ?_
                refine gq (y_bare (y_lens Tryd.underlying9 rfl)) rfl rfl rfl ?_
                refine gq_on rfl rfl rfl rfl hg84 ?_
                refine gq (y_bare (y_lss rfl rfl)) rfl rfl rfl ?_
                refine gq (y_pick_t (v := .bool _) rfl hg84 rfl) rfl rfl rfl ?_
                refine gqs_nil ?_
                refine hN9 _ _ ?_
                refine gfrom [(0, .pointer (some ⟨rg, 0, none⟩)), (95, .bool _)] ⟨rfl, rfl, trivial⟩ fun σ => ?_
                refine gcond (b := _) rfl (fun hc95 => ?_) (fun hc95 => ?_)
                · 
                  replace hc95 := of_decide_eq_true hc95
                  have hN : nextW s j = k + 1 := by rw [nextW, hend, if_pos (by omega)]; omega
                  refine greg ?_
                  refine gop (y_move (v := .pointer (some ⟨rg, 0, none⟩)) rfl) rfl rfl rfl ?_
                  refine gop (y_nilCheck rfl) rfl rfl rfl ?_
                  refine gop (y_fieldAddr_box fa60_3 rfl) rfl rfl rfl ?_
                  refine gop (y_load Tryd.isAgg3 rfl (cell_box 0 rfl rfl)) rfl rfl rfl ?_
                  refine gop (y_add rfl rfl ⟨by omega, by omega⟩) rfl rfl rfl ?_
                  refine gop (y_nilCheck rfl) rfl rfl rfl ?_
                  refine gop (y_fieldAddr_box fa60_3 rfl) rfl rfl rfl ?_
                  refine gop_store 0 (v := .int _ _) (cs' := #[_, _, _, _, _]) rfl rfl Tryd.sizeOf3 rfl rfl rfl rfl (Nat.le_of_ble_eq_true rfl) rfl rfl ?_
                  refine gops_nil ?_
                  intro w1 hM
                  refine ⟨_, res0 rfl, ?_⟩
                  rw [hat, hN]
                  exact ⟨rfl, weak_take (T' := [_, fr]) rfl _ hM⟩
                · 
                  replace hc95 := of_decide_eq_false hc95
                  have hN : nextW s j = k := by rw [nextW, hend, if_neg (by omega)]
                  refine gskip ?_
                  intro w1 hM
                  refine ⟨_, res0 rfl, ?_⟩
                  rw [hat, hN]
                  exact ⟨rfl, weak_take (T' := [_, fr]) rfl _ hM⟩
              · 
                have hg84d := of_decide_eq_false hg84
                refine gq_off rfl rfl rfl rfl hg84 rfl rfl ?_
                refine gq_off rfl rfl rfl rfl hg84 rfl rfl ?_
                refine gq_off rfl rfl rfl rfl hg84 rfl rfl ?_
                refine gq_off rfl rfl rfl rfl hg84 rfl rfl ?_
                refine gq_off rfl rfl rfl rfl hg84 rfl rfl ?_
                refine gq_off rfl rfl rfl rfl hg84 rfl rfl ?_
                refine gq_off rfl rfl rfl rfl hg84 rfl rfl ?_
                refine gq_off rfl rfl rfl rfl hg84 rfl rfl ?_
                refine gq_off rfl rfl rfl rfl hg84 rfl rfl ?_
                refine gq (y_pick_f (v := .bool _) rfl hg84 rfl) rfl rfl rfl ?_
                refine gqs_nil ?_
                refine hN9 _ _ ?_
                refine gfrom [(0, .pointer (some ⟨rg, 0, none⟩)), (95, .bool _)] ⟨rfl, rfl, trivial⟩ fun σ => ?_
                refine gcond (b := _) rfl (fun hc95 => ?_) (fun hc95 => ?_)
                · 
                  cases hc95
                · 
                  have hN : nextW s j = k := by rw [nextW, hend, if_neg (by omega)]
                  refine gskip ?_
                  intro w1 hM
                  refine ⟨_, res0 rfl, ?_⟩
                  rw [hat, hN]
                  exact ⟨rfl, weak_take (T' := [_, fr]) rfl _ hM⟩
          · 
            have hg55d := of_decide_eq_false hg55
            refine gq_off rfl rfl rfl rfl hg55 rfl rfl ?_
            refine gq_off rfl rfl rfl rfl hg55 rfl rfl ?_
            refine gq_off rfl rfl rfl rfl hg55 rfl rfl ?_
            refine gq_off rfl rfl rfl rfl hg55 rfl rfl ?_
            refine gq_off rfl rfl rfl rfl hg55 rfl rfl ?_
            refine gq_off rfl rfl rfl rfl hg55 rfl rfl ?_
            refine gq_off rfl rfl rfl rfl hg55 rfl rfl ?_
            refine gq_off rfl rfl rfl rfl hg55 rfl rfl ?_
            refine gq_off rfl rfl rfl rfl hg55 rfl rfl ?_
            refine gq_off rfl rfl rfl rfl hg55 rfl rfl ?_
            refine gq (y_pick_f (v := .bool _) rfl hg55 rfl) rfl rfl rfl ?_
            refine gqs_nil ?_
            refine hN8 _ _ ?_
            refine gfrom [(0, .pointer (some ⟨rg, 0, none⟩)), (67, .bool _)] ⟨rfl, rfl, trivial⟩ fun σ => ?_
            refine gcond (b := _) rfl (fun hc67 => ?_) (fun hc67 => ?_)
            · 
              cases hc67
            · 
              have hend : endW s j = k := by
                rw [← hks]
                refine run_stop (fun h => ?_)
                by_cases hw : woB s k = true
                · exact absurd ((sep_idx s k).2 hw) (by omega)
                · simpa using hw
              refine gexit ?_
              refine hN6 _ _ ?_
              refine gfrom [(0, .pointer (some ⟨rg, 0, none⟩))] ⟨rfl, trivial⟩ fun σ => ?_
              refine gseq fun N10 hN10 => ?_
              refine greg_q (by kernel_rfl) (by kernel_rfl) ?_
              refine gq (y_move (v := .pointer (some ⟨rg, 0, none⟩)) rfl) rfl rfl rfl ?_
              refine gq (y_nilCheck rfl) rfl rfl rfl ?_
              refine gq (y_fieldAddr_box fa60_3 rfl) rfl rfl rfl ?_
              refine gq (y_load Tryd.isAgg3 rfl (cell_box 0 rfl rfl)) rfl rfl rfl ?_
              refine gq (y_move (v := .pointer (some ⟨rg, 0, none⟩)) rfl) rfl rfl rfl ?_
              refine gq (y_nilCheck rfl) rfl rfl rfl ?_
              refine gq (y_fieldAddr_box fa60_2 rfl) rfl rfl rfl ?_
              refine gq (y_load Tryd.isAgg3 rfl (cell_box 0 rfl rfl)) rfl rfl rfl ?_
              refine gq (y_eql rfl rfl) rfl rfl rfl ?_
              refine gq (y_move (v := .bool _) rfl) rfl rfl rfl ?_
              refine gq_if (want := true) rfl rfl rfl rfl rfl rfl (fun hg84 => ?_) (fun hg84 => ?_)
              · 
                have hg84d := of_decide_eq_true hg84
                refine gq (y_bare (y_move (v := .pointer (some ⟨rg, 0, none⟩)) rfl)) rfl rfl rfl ?_
                refine gq_on rfl rfl rfl rfl hg84 ?_
                refine gq (y_bare (y_nilCheck rfl)) rfl rfl rfl ?_
                refine gq_on rfl rfl rfl rfl hg84 ?_
                refine gq (y_bare (y_fieldAddr_box fa60_2 rfl)) rfl rfl rfl ?_
                refine gq_on rfl rfl rfl rfl hg84 ?_
                refine gq (y_bare (y_load Tryd.isAgg3 rfl (cell_box 0 rfl rfl))) rfl rfl rfl ?_
                refine gq_on rfl rfl rfl rfl hg84 ?_
                refine gq (y_bare (y_move (v := .pointer (some ⟨rg, 0, none⟩)) rfl)) rfl rfl rfl ?_
                refine gq_on rfl rfl rfl rfl hg84 ?_
                refine gq (y_bare (y_nilCheck rfl)) rfl rfl rfl ?_
                refine gq_on rfl rfl rfl rfl hg84 ?_
                refine gq (y_bare (y_fieldAddr_box fa60_1 rfl)) rfl rfl rfl ?_
                refine gq_on rfl rfl rfl rfl hg84 ?_
                refine gq (y_bare (y_load Tryd.isAgg9 rfl (cell_box 0 rfl rfl))) rfl rfl rfl ?_
                refine gq_on rfl rfl rfl rfl hg84 ?_
                refine gq (y_bare (y_lens Tryd.underlying9 rfl)) rfl rfl rfl ?_
                refine gq_on rfl rfl rfl rfl hg84 ?_
                refine gq (y_bare (y_lss rfl rfl)) rfl rfl rfl ?_
                refine gq (y_pick_t (v := .bool _) rfl hg84 rfl) rfl rfl rfl ?_
                refine gqs_nil ?_
                refine hN10 _ _ ?_
                refine gfrom [(0, .pointer (some ⟨rg, 0, none⟩)), (95, .bool _)] ⟨rfl, rfl, trivial⟩ fun σ => ?_
                refine gcond (b := _) rfl (fun hc95 => ?_) (fun hc95 => ?_)
                · 
                  replace hc95 := of_decide_eq_true hc95
                  have hN : nextW s j = k + 1 := by rw [nextW, hend, if_pos (by omega)]; omega
                  refine greg ?_
                  refine gop (y_move (v := .pointer (some ⟨rg, 0, none⟩)) rfl) rfl rfl rfl ?_
                  refine gop (y_nilCheck rfl) rfl rfl rfl ?_
                  refine gop (y_fieldAddr_box fa60_3 rfl) rfl rfl rfl ?_
                  refine gop (y_load Tryd.isAgg3 rfl (cell_box 0 rfl rfl)) rfl rfl rfl ?_
                  refine gop (y_add rfl rfl ⟨by omega, by omega⟩) rfl rfl rfl ?_
                  refine gop (y_nilCheck rfl) rfl rfl rfl ?_
                  refine gop (y_fieldAddr_box fa60_3 rfl) rfl rfl rfl ?_
                  refine gop_store 0 (v := .int _ _) (cs' := #[_, _, _, _, _]) rfl rfl Tryd.sizeOf3 rfl rfl rfl rfl (Nat.le_of_ble_eq_true rfl) rfl rfl ?_
                  refine gops_nil ?_
                  intro w1 hM
                  refine ⟨_, res0 rfl, ?_⟩
                  rw [hat, hN]
                  exact ⟨rfl, weak_take (T' := [_, fr]) rfl _ hM⟩
                · 
                  replace hc95 := of_decide_eq_false hc95
                  have hN : nextW s j = k := by rw [nextW, hend, if_neg (by omega)]
                  refine gskip ?_
                  intro w1 hM
                  refine ⟨_, res0 rfl, ?_⟩
                  rw [hat, hN]
                  exact ⟨rfl, weak_take (T' := [_, fr]) rfl _ hM⟩
              · 
                have hg84d := of_decide_eq_false hg84
                refine gq_off rfl rfl rfl rfl hg84 rfl rfl ?_
                refine gq_off rfl rfl rfl rfl hg84 rfl rfl ?_
                refine gq_off rfl rfl rfl rfl hg84 rfl rfl ?_
                refine gq_off rfl rfl rfl rfl hg84 rfl rfl ?_
                refine gq_off rfl rfl rfl rfl hg84 rfl rfl ?_
                refine gq_off rfl rfl rfl rfl hg84 rfl rfl ?_
                refine gq_off rfl rfl rfl rfl hg84 rfl rfl ?_
                refine gq_off rfl rfl rfl rfl hg84 rfl rfl ?_
                refine gq_off rfl rfl rfl rfl hg84 rfl rfl ?_
                refine gq (y_pick_f (v := .bool _) rfl hg84 rfl) rfl rfl rfl ?_
                refine gqs_nil ?_
                refine hN10 _ _ ?_
                refine gfrom [(0, .pointer (some ⟨rg, 0, none⟩)), (95, .bool _)] ⟨rfl, rfl, trivial⟩ fun σ => ?_
                refine gcond (b := _) rfl (fun hc95 => ?_) (fun hc95 => ?_)
                · 
                  cases hc95
                · 
                  have hN : nextW s j = k := by rw [nextW, hend, if_neg (by omega)]
                  refine gskip ?_
                  intro w1 hM
                  refine ⟨_, res0 rfl, ?_⟩
                  rw [hat, hN]
                  exact ⟨rfl, weak_take (T' := [_, fr]) rfl _ hM⟩
    · 
      have hg19d := of_decide_eq_false hg19
      refine gq_off rfl rfl rfl rfl hg19 rfl rfl ?_
      refine gq_off rfl rfl rfl rfl hg19 rfl rfl ?_
      refine gq_off rfl rfl rfl rfl hg19 rfl rfl ?_
      refine gq_off rfl rfl rfl rfl hg19 rfl rfl ?_
      refine gq_off rfl rfl rfl rfl hg19 rfl rfl ?_
      refine gq_off rfl rfl rfl rfl hg19 rfl rfl ?_
      refine gq_off rfl rfl rfl rfl hg19 rfl rfl ?_
      refine gq_off rfl rfl rfl rfl hg19 rfl rfl ?_
      refine gq_off rfl rfl rfl rfl hg19 rfl rfl ?_
      refine gq (y_pick_f (v := .bool _) rfl hg19 rfl) rfl rfl rfl ?_
      refine gqs_nil ?_
      refine hN4 _ _ ?_
      refine gfrom [(0, .pointer (some ⟨rg, 0, none⟩)), (30, .bool _)] ⟨rfl, rfl, trivial⟩ fun σ => ?_
      refine gcond (b := _) rfl (fun hc30 => ?_) (fun hc30 => ?_)
      · 
        cases hc30
      · 
        have hat : skipW s nx = j := by rw [← hjs]; exact run_stop (fun h => decide_eq_false (by omega))
        refine gexit ?_
        refine hN2 _ _ ?_
        refine gfrom [(0, .pointer (some ⟨rg, 0, none⟩))] ⟨rfl, trivial⟩ fun σ => ?_
        refine gseq fun N11 hN11 => ?_
        refine greg ?_
        refine gop (y_move (v := .pointer (some ⟨rg, 0, none⟩)) rfl) rfl rfl rfl ?_
        refine gop (y_move (v := .pointer (some ⟨rg, 0, none⟩)) rfl) rfl rfl rfl ?_
        refine gop (y_nilCheck rfl) rfl rfl rfl ?_
        refine gop (y_fieldAddr_box fa60_2 rfl) rfl rfl rfl ?_
        refine gop (y_load Tryd.isAgg3 rfl (cell_box 0 rfl rfl)) rfl rfl rfl ?_
        refine gop (y_nilCheck rfl) rfl rfl rfl ?_
        refine gop (y_fieldAddr_box fa60_3 rfl) rfl rfl rfl ?_
        refine gop_store 0 (v := .int _ _) (cs' := #[_, _, _, _, _]) rfl rfl Tryd.sizeOf3 rfl rfl rfl rfl (Nat.le_of_ble_eq_true rfl) rfl rfl ?_
        refine gops_nil ?_
        refine hN11 _ _ ?_
        refine gT [box rg _, fr] rfl ?_
        refine gfrom [(0, .pointer (some ⟨rg, 0, none⟩))] ⟨rfl, trivial⟩ fun σ => ?_
        refine gseq fun N12 hN12 => ?_
        refine gblock ?_
        refine gfrom2 [] [(0, .pointer (some ⟨rg, 0, none⟩))] trivial ⟨rfl, trivial⟩ fun σ => ?_
        refine gloop2 (G := Nat) (fun k => k ≤ s.size ∧ endW s k = endW s j) (fun k => s.size - k) (fun k => []) (fun k => [(0, box rg (.cells #[.slice B n bc, .string s, .int .i64 ((j : Nat)), .int .i64 ((k : Nat)), .int .i64 code] 60))]) (j) ?h0 trivial ⟨rfl, trivial⟩ rfl ?round
        case h0 => exact ⟨hj, rfl⟩
        case round =>
          intro k hφ σ
          obtain ⟨hk, hks⟩ := hφ
          refine gT [box rg _, fr] rfl ?_
          refine gseq fun N13 hN13 => ?_
          refine gseq fun N14 hN14 => ?_
          refine greg_q (by kernel_rfl) (by kernel_rfl) ?_
          refine gq (y_move (v := .pointer (some ⟨rg, 0, none⟩)) rfl) rfl rfl rfl ?_
          refine gq (y_nilCheck rfl) rfl rfl rfl ?_
          refine gq (y_fieldAddr_box fa60_3 rfl) rfl rfl rfl ?_
          refine gq (y_load Tryd.isAgg3 rfl (cell_box 0 rfl rfl)) rfl rfl rfl ?_
          refine gq (y_move (v := .pointer (some ⟨rg, 0, none⟩)) rfl) rfl rfl rfl ?_
          refine gq (y_nilCheck rfl) rfl rfl rfl ?_
          refine gq (y_fieldAddr_box fa60_1 rfl) rfl rfl rfl ?_
          refine gq (y_load Tryd.isAgg9 rfl (cell_box 0 rfl rfl)) rfl rfl rfl ?_
          refine gq (y_lens Tryd.underlying9 rfl) rfl rfl rfl ?_
          refine gq (y_lss rfl rfl) rfl rfl rfl ?_
          refine gq (y_move (v := .bool _) rfl) rfl rfl rfl ?_
          refine gq_if (want := true) rfl rfl rfl rfl rfl rfl (fun hg55 => ?_) (fun hg55 => ?_)
          · 
            have hg55d := of_decide_eq_true hg55
            refine gq (y_bare (y_move (v := .pointer (some ⟨rg, 0, none⟩)) rfl)) rfl rfl rfl ?_
            refine gq_on rfl rfl rfl rfl hg55 ?_
            refine gq (y_bare (y_nilCheck rfl)) rfl rfl rfl ?_
            refine gq_on rfl rfl rfl rfl hg55 ?_
            refine gq (y_bare (y_fieldAddr_box fa60_1 rfl)) rfl rfl rfl ?_
            refine gq_on rfl rfl rfl rfl hg55 ?_
            refine gq (y_bare (y_load Tryd.isAgg9 rfl (cell_box 0 rfl rfl))) rfl rfl rfl ?_
            refine gq_on rfl rfl rfl rfl hg55 ?_
            refine gq (y_bare (y_move (v := .pointer (some ⟨rg, 0, none⟩)) rfl)) rfl rfl rfl ?_
            refine gq_on rfl rfl rfl rfl hg55 ?_
            refine gq (y_bare (y_nilCheck rfl)) rfl rfl rfl ?_
            refine gq_on rfl rfl rfl rfl hg55 ?_
            refine gq (y_bare (y_fieldAddr_box fa60_3 rfl)) rfl rfl rfl ?_
            refine gq_on rfl rfl rfl rfl hg55 ?_
            refine gq (y_bare (y_load Tryd.isAgg3 rfl (cell_box 0 rfl rfl))) rfl rfl rfl ?_
            refine gq_on rfl rfl rfl rfl hg55 ?_
            refine gq (y_bare (y_stridx (m := k) Tryd.underlying9 rfl rfl (by omega) (by omega) (by omega))) rfl rfl rfl ?_
            refine gq_on rfl rfl rfl rfl hg55 ?_
            refine gq_pure (e_call (vs := [_, .int _ _]) Tryd.func43 rfl (by kernel_rfl) rfl) (fun w hM => indexByte_any w _ _) rfl rfl rfl ?_
            refine gq_on rfl rfl rfl rfl hg55 ?_
            refine gq (y_bare (y_lss rfl rfl)) rfl rfl rfl ?_
            refine gq (y_pick_t (v := .bool _) rfl hg55 rfl) rfl rfl rfl ?_
            refine gqs_nil ?_
            refine hN14 _ _ ?_
            refine gfrom [(0, .pointer (some ⟨rg, 0, none⟩)), (67, .bool _)] ⟨rfl, rfl, trivial⟩ fun σ => ?_
            refine gcond (b := _) rfl (fun hc67 => ?_) (fun hc67 => ?_)
            · 
              replace hc67 := of_decide_eq_true hc67
              have hk1 : k < s.size := by omega
              have hw : woB s k = true := (sep_idx s k).1 (by omega)
              refine gskip ?_
              refine hN13 _ _ ?_
              refine gfrom [(0, .pointer (some ⟨rg, 0, none⟩))] ⟨rfl, trivial⟩ fun σ => ?_
              refine gblock ?_
              refine greg ?_
              refine gop (y_move (v := .pointer (some ⟨rg, 0, none⟩)) rfl) rfl rfl rfl ?_
              refine gop (y_nilCheck rfl) rfl rfl rfl ?_
              refine gop (y_fieldAddr_box fa60_3 rfl) rfl rfl rfl ?_
              refine gop (y_load Tryd.isAgg3 rfl (cell_box 0 rfl rfl)) rfl rfl rfl ?_
              refine gop (y_add rfl rfl ⟨by omega, by omega⟩) rfl rfl rfl ?_
              refine gop (y_nilCheck rfl) rfl rfl rfl ?_
              refine gop (y_fieldAddr_box fa60_3 rfl) rfl rfl rfl ?_
              refine gop_store 0 (v := .int _ _) (cs' := #[_, _, _, _, _]) rfl rfl Tryd.sizeOf3 rfl rfl rfl rfl (Nat.le_of_ble_eq_true rfl) rfl rfl ?_
              refine gops_nil ?_
              refine gnext2 (k + 1) (by omega) (⟨by show k + 1 ≤ _; omega, by rw [← hks]; exact (run_step hk1 hw).symm⟩) trivial ⟨rfl, trivial⟩ ⟨_, rfl⟩
            · 
              replace hc67 := of_decide_eq_false hc67
              have hend : endW s j = k := by
                rw [← hks]
                refine run_stop (fun h => ?_)
                by_cases hw : woB s k = true
                · exact absurd ((sep_idx s k).2 hw) (by omega)
                · simpa using hw
              refine gexit ?_
              refine hN12 _ _ ?_
              refine gfrom [(0, .pointer (some ⟨rg, 0, none⟩))] ⟨rfl, trivial⟩ fun σ => ?_
              refine gseq fun N15 hN15 => ?_
              refine greg_q (by kernel_rfl) (by kernel_rfl) ?_
              refine gq (y_move (v := .pointer (some ⟨rg, 0, none⟩)) rfl) rfl rfl rfl ?_
              refine gq (y_nilCheck rfl) rfl rfl rfl ?_
              refine gq (y_fieldAddr_box fa60_3 rfl) rfl rfl rfl ?_
              refine gq (y_load Tryd.isAgg3 rfl (cell_box 0 rfl rfl)) rfl rfl rfl ?_
              refine gq (y_move (v := .pointer (some ⟨rg, 0, none⟩)) rfl) rfl rfl rfl ?_
              refine gq (y_nilCheck rfl) rfl rfl rfl ?_
              refine gq (y_fieldAddr_box fa60_2 rfl) rfl rfl rfl ?_
              refine gq (y_load Tryd.isAgg3 rfl (cell_box 0 rfl rfl)) rfl rfl rfl ?_
              refine gq (y_eql rfl rfl) rfl rfl rfl ?_
              refine gq (y_move (v := .bool _) rfl) rfl rfl rfl ?_
              refine gq_if (want := true) rfl rfl rfl rfl rfl rfl (fun hg84 => ?_) (fun hg84 => ?_)
              · 
                have hg84d := of_decide_eq_true hg84
                refine gq (y_bare (y_move (v := .pointer (some ⟨rg, 0, none⟩)) rfl)) rfl rfl rfl ?_
                refine gq_on rfl rfl rfl rfl hg84 ?_
                refine gq (y_bare (y_nilCheck rfl)) rfl rfl rfl ?_
                refine gq_on rfl rfl rfl rfl hg84 ?_
                refine gq (y_bare (y_fieldAddr_box fa60_2 rfl)) rfl rfl rfl ?_
                refine gq_on rfl rfl rfl rfl hg84 ?_
                refine gq (y_bare (y_load Tryd.isAgg3 rfl (cell_box 0 rfl rfl))) rfl rfl rfl ?_
                refine gq_on rfl rfl rfl rfl hg84 ?_
                refine gq (y_bare (y_move (v := .pointer (some ⟨rg, 0, none⟩)) rfl)) rfl rfl rfl ?_
                refine gq_on rfl rfl rfl rfl hg84 ?_
                refine gq (y_bare (y_nilCheck rfl)) rfl rfl rfl ?_
                refine gq_on rfl rfl rfl rfl hg84 ?_
                refine gq (y_bare (y_fieldAddr_box fa60_1 rfl)) rfl rfl rfl ?_
                refine gq_on rfl rfl rfl rfl hg84 ?_
                refine gq (y_bare (y_load Tryd.isAgg9 rfl (cell_box 0 rfl rfl))) rfl rfl rfl ?_
                refine gq_on rfl rfl rfl rfl hg84 ?_
                refine gq (y_bare (y_lens Tryd.underlying9 rfl)) rfl rfl rfl ?_
                refine gq_on rfl rfl rfl rfl hg84 ?_
                refine gq (y_bare (y_lss rfl rfl)) rfl rfl rfl ?_
                refine gq (y_pick_t (v := .bool _) rfl hg84 rfl) rfl rfl rfl ?_
                refine gqs_nil ?_
                refine hN15 _ _ ?_
                refine gfrom [(0, .pointer (some ⟨rg, 0, none⟩)), (95, .bool _)] ⟨rfl, rfl, trivial⟩ fun σ => ?_
                refine gcond (b := _) rfl (fun hc95 => ?_) (fun hc95 => ?_)
                · 
                  replace hc95 := of_decide_eq_true hc95
                  have hN : nextW s j = k + 1 := by rw [nextW, hend, if_pos (by omega)]; omega
                  refine greg ?_
                  refine gop (y_move (v := .pointer (some ⟨rg, 0, none⟩)) rfl) rfl rfl rfl ?_
                  refine gop (y_nilCheck rfl) rfl rfl rfl ?_
                  refine gop (y_fieldAddr_box fa60_3 rfl) rfl rfl rfl ?_
                  refine gop (y_load Tryd.isAgg3 rfl (cell_box 0 rfl rfl)) rfl rfl rfl ?_
                  refine gop (y_add rfl rfl ⟨by omega, by omega⟩) rfl rfl rfl ?_
                  refine gop (y_nilCheck rfl) rfl rfl rfl ?_
                  refine gop (y_fieldAddr_box fa60_3 rfl) rfl rfl rfl ?_
                  refine gop_store 0 (v := .int _ _) (cs' := #[_, _, _, _, _]) rfl rfl Tryd.sizeOf3 rfl rfl rfl rfl (Nat.le_of_ble_eq_true rfl) rfl rfl ?_
                  refine gops_nil ?_
                  intro w1 hM
                  refine ⟨_, res0 rfl, ?_⟩
                  rw [hat, hN]
                  exact ⟨rfl, weak_take (T' := [_, fr]) rfl _ hM⟩
                · 
                  replace hc95 := of_decide_eq_false hc95
                  have hN : nextW s j = k := by rw [nextW, hend, if_neg (by omega)]
                  refine gskip ?_
                  intro w1 hM
                  refine ⟨_, res0 rfl, ?_⟩
                  rw [hat, hN]
                  exact ⟨rfl, weak_take (T' := [_, fr]) rfl _ hM⟩
              · 
                have hg84d := of_decide_eq_false hg84
                refine gq_off rfl rfl rfl rfl hg84 rfl rfl ?_
                refine gq_off rfl rfl rfl rfl hg84 rfl rfl ?_
                refine gq_off rfl rfl rfl rfl hg84 rfl rfl ?_
                refine gq_off rfl rfl rfl rfl hg84 rfl rfl ?_
                refine gq_off rfl rfl rfl rfl hg84 rfl rfl ?_
                refine gq_off rfl rfl rfl rfl hg84 rfl rfl ?_
                refine gq_off rfl rfl rfl rfl hg84 rfl rfl ?_
                refine gq_off rfl rfl rfl rfl hg84 rfl rfl ?_
                refine gq_off rfl rfl rfl rfl hg84 rfl rfl ?_
                refine gq (y_pick_f (v := .bool _) rfl hg84 rfl) rfl rfl rfl ?_
                refine gqs_nil ?_
                refine hN15 _ _ ?_
                refine gfrom [(0, .pointer (some ⟨rg, 0, none⟩)), (95, .bool _)] ⟨rfl, rfl, trivial⟩ fun σ => ?_
                refine gcond (b := _) rfl (fun hc95 => ?_) (fun hc95 => ?_)
                · 
                  cases hc95
                · 
                  have hN : nextW s j = k := by rw [nextW, hend, if_neg (by omega)]
                  refine gskip ?_
                  intro w1 hM
                  refine ⟨_, res0 rfl, ?_⟩
                  rw [hat, hN]
                  exact ⟨rfl, weak_take (T' := [_, fr]) rfl _ hM⟩
          · 
            have hg55d := of_decide_eq_false hg55
            refine gq_off rfl rfl rfl rfl hg55 rfl rfl ?_
            refine gq_off rfl rfl rfl rfl hg55 rfl rfl ?_
            refine gq_off rfl rfl rfl rfl hg55 rfl rfl ?_
            refine gq_off rfl rfl rfl rfl hg55 rfl rfl ?_
            refine gq_off rfl rfl rfl rfl hg55 rfl rfl ?_
            refine gq_off rfl rfl rfl rfl hg55 rfl rfl ?_
            refine gq_off rfl rfl rfl rfl hg55 rfl rfl ?_
            refine gq_off rfl rfl rfl rfl hg55 rfl rfl ?_
            refine gq_off rfl rfl rfl rfl hg55 rfl rfl ?_
            refine gq_off rfl rfl rfl rfl hg55 rfl rfl ?_
            refine gq (y_pick_f (v := .bool _) rfl hg55 rfl) rfl rfl rfl ?_
            refine gqs_nil ?_
            refine hN14 _ _ ?_
            refine gfrom [(0, .pointer (some ⟨rg, 0, none⟩)), (67, .bool _)] ⟨rfl, rfl, trivial⟩ fun σ => ?_
            refine gcond (b := _) rfl (fun hc67 => ?_) (fun hc67 => ?_)
            · 
              cases hc67
            · 
              have hend : endW s j = k := by
                rw [← hks]
                refine run_stop (fun h => ?_)
                by_cases hw : woB s k = true
                · exact absurd ((sep_idx s k).2 hw) (by omega)
                · simpa using hw
              refine gexit ?_
              refine hN12 _ _ ?_
              refine gfrom [(0, .pointer (some ⟨rg, 0, none⟩))] ⟨rfl, trivial⟩ fun σ => ?_
              refine gseq fun N16 hN16 => ?_
              refine greg_q (by kernel_rfl) (by kernel_rfl) ?_
              refine gq (y_move (v := .pointer (some ⟨rg, 0, none⟩)) rfl) rfl rfl rfl ?_
              refine gq (y_nilCheck rfl) rfl rfl rfl ?_
              refine gq (y_fieldAddr_box fa60_3 rfl) rfl rfl rfl ?_
              refine gq (y_load Tryd.isAgg3 rfl (cell_box 0 rfl rfl)) rfl rfl rfl ?_
              refine gq (y_move (v := .pointer (some ⟨rg, 0, none⟩)) rfl) rfl rfl rfl ?_
              refine gq (y_nilCheck rfl) rfl rfl rfl ?_
              refine gq (y_fieldAddr_box fa60_2 rfl) rfl rfl rfl ?_
              refine gq (y_load Tryd.isAgg3 rfl (cell_box 0 rfl rfl)) rfl rfl rfl ?_
              refine gq (y_eql rfl rfl) rfl rfl rfl ?_
              refine gq (y_move (v := .bool _) rfl) rfl rfl rfl ?_
              refine gq_if (want := true) rfl rfl rfl rfl rfl rfl (fun hg84 => ?_) (fun hg84 => ?_)
              · 
                have hg84d := of_decide_eq_true hg84
                refine gq (y_bare (y_move (v := .pointer (some ⟨rg, 0, none⟩)) rfl)) rfl rfl rfl ?_
                refine gq_on rfl rfl rfl rfl hg84 ?_
                refine gq (y_bare (y_nilCheck rfl)) rfl rfl rfl ?_
                refine gq_on rfl rfl rfl rfl hg84 ?_
                refine gq (y_bare (y_fieldAddr_box fa60_2 rfl)) rfl rfl rfl ?_
                refine gq_on rfl rfl rfl rfl hg84 ?_
                refine gq (y_bare (y_load Tryd.isAgg3 rfl (cell_box 0 rfl rfl))) rfl rfl rfl ?_
                refine gq_on rfl rfl rfl rfl hg84 ?_
                refine gq (y_bare (y_move (v := .pointer (some ⟨rg, 0, none⟩)) rfl)) rfl rfl rfl ?_
                refine gq_on rfl rfl rfl rfl hg84 ?_
                refine gq (y_bare (y_nilCheck rfl)) rfl rfl rfl ?_
                refine gq_on rfl rfl rfl rfl hg84 ?_
                refine gq (y_bare (y_fieldAddr_box fa60_1 rfl)) rfl rfl rfl ?_
                refine gq_on rfl rfl rfl rfl hg84 ?_
                refine gq (y_bare (y_load Tryd.isAgg9 rfl (cell_box 0 rfl rfl))) rfl rfl rfl ?_
                refine gq_on rfl rfl rfl rfl hg84 ?_
                refine gq (y_bare (y_lens Tryd.underlying9 rfl)) rfl rfl rfl ?_
                refine gq_on rfl rfl rfl rfl hg84 ?_
                refine gq (y_bare (y_lss rfl rfl)) rfl rfl rfl ?_
                refine gq (y_pick_t (v := .bool _) rfl hg84 rfl) rfl rfl rfl ?_
                refine gqs_nil ?_
                refine hN16 _ _ ?_
                refine gfrom [(0, .pointer (some ⟨rg, 0, none⟩)), (95, .bool _)] ⟨rfl, rfl, trivial⟩ fun σ => ?_
                refine gcond (b := _) rfl (fun hc95 => ?_) (fun hc95 => ?_)
                · 
                  replace hc95 := of_decide_eq_true hc95
                  have hN : nextW s j = k + 1 := by rw [nextW, hend, if_pos (by omega)]; omega
                  refine greg ?_
                  refine gop (y_move (v := .pointer (some ⟨rg, 0, none⟩)) rfl) rfl rfl rfl ?_
                  refine gop (y_nilCheck rfl) rfl rfl rfl ?_
                  refine gop (y_fieldAddr_box fa60_3 rfl) rfl rfl rfl ?_
                  refine gop (y_load Tryd.isAgg3 rfl (cell_box 0 rfl rfl)) rfl rfl rfl ?_
                  refine gop (y_add rfl rfl ⟨by omega, by omega⟩) rfl rfl rfl ?_
                  refine gop (y_nilCheck rfl) rfl rfl rfl ?_
                  refine gop (y_fieldAddr_box fa60_3 rfl) rfl rfl rfl ?_
                  refine gop_store 0 (v := .int _ _) (cs' := #[_, _, _, _, _]) rfl rfl Tryd.sizeOf3 rfl rfl rfl rfl (Nat.le_of_ble_eq_true rfl) rfl rfl ?_
                  refine gops_nil ?_
                  intro w1 hM
                  refine ⟨_, res0 rfl, ?_⟩
                  rw [hat, hN]
                  exact ⟨rfl, weak_take (T' := [_, fr]) rfl _ hM⟩
                · 
                  replace hc95 := of_decide_eq_false hc95
                  have hN : nextW s j = k := by rw [nextW, hend, if_neg (by omega)]
                  refine gskip ?_
                  intro w1 hM
                  refine ⟨_, res0 rfl, ?_⟩
                  rw [hat, hN]
                  exact ⟨rfl, weak_take (T' := [_, fr]) rfl _ hM⟩
              · 
                have hg84d := of_decide_eq_false hg84
                refine gq_off rfl rfl rfl rfl hg84 rfl rfl ?_
                refine gq_off rfl rfl rfl rfl hg84 rfl rfl ?_
                refine gq_off rfl rfl rfl rfl hg84 rfl rfl ?_
                refine gq_off rfl rfl rfl rfl hg84 rfl rfl ?_
                refine gq_off rfl rfl rfl rfl hg84 rfl rfl ?_
                refine gq_off rfl rfl rfl rfl hg84 rfl rfl ?_
                refine gq_off rfl rfl rfl rfl hg84 rfl rfl ?_
                refine gq_off rfl rfl rfl rfl hg84 rfl rfl ?_
                refine gq_off rfl rfl rfl rfl hg84 rfl rfl ?_
                refine gq (y_pick_f (v := .bool _) rfl hg84 rfl) rfl rfl rfl ?_
                refine gqs_nil ?_
                refine hN16 _ _ ?_
                refine gfrom [(0, .pointer (some ⟨rg, 0, none⟩)), (95, .bool _)] ⟨rfl, rfl, trivial⟩ fun σ => ?_
                refine gcond (b := _) rfl (fun hc95 => ?_) (fun hc95 => ?_)
                · 
                  cases hc95
                · 
                  have hN : nextW s j = k := by rw [nextW, hend, if_neg (by omega)]
                  refine gskip ?_
                  intro w1 hM
                  refine ⟨_, res0 rfl, ?_⟩
                  rw [hat, hN]
                  exact ⟨rfl, weak_take (T' := [_, fr]) rfl _ hM⟩
end Go.Proofs.YtllblbkbglifjaaDoor
namespace Go.Proofs.YtllblbkbglifjaaDoor
open Go.RowKit Go.Cf
set_option maxRecDepth 10000
theorem fa60_4 (a : Addr) (w : World) : (Instr.fieldAt 60 (.pointer (some a)) 4).run Tryd.prog w = .ok (.pointer (some (a.add 4))) w := by kernel_rfl
set_option maxHeartbeats 1000000 in
theorem rdWord_any (w : World) (rg : Nat) (s : ByteArray) (a x : Nat) (hax : a ≤ x) (hxs : x ≤ s.size) (h1 : w.cell? ⟨rg, 1, none⟩ = some (.string s)) (h2 : w.cell? ⟨rg, 2, none⟩ = some (.int .i64 (a : Int))) (h3 : w.cell? ⟨rg, 3, none⟩ = some (.int .i64 (x : Int))) : Calls Tryd.prog 49 #[.pointer (some ⟨rg, 0, none⟩)] w fun e w' => e = .returned (.string (s.extract a x)) ∧ Below w.heap.size w w' := by
  refine gcalls Tryd.func49 rfl Tryd.ntmps49 (Nat.le_of_ble_eq_true rfl) ?_
  refine gfrom [(0, .pointer (some ⟨rg, 0, none⟩))] ⟨rfl, trivial⟩ fun σ => ?_
  refine gseq fun N1 hN1 => ?_
  refine greg ?_
  refine gop (y_assign (v := .string _) rfl) rfl rfl rfl ?_
  refine gops_nil ?_
  refine hN1 _ _ ?_
  refine gfrom [(0, .pointer (some ⟨rg, 0, none⟩))] ⟨rfl, trivial⟩ fun σ => ?_
  refine gseq fun N2 hN2 => ?_
  refine greg_q (by kernel_rfl) (by kernel_rfl) ?_
  refine gq (y_move (v := .pointer (some ⟨rg, 0, none⟩)) rfl) rfl rfl rfl ?_
  refine gq (y_nilCheck rfl) rfl rfl rfl ?_
  refine gq (y_fieldAddr_box fa60_1 rfl) rfl rfl rfl ?_
  refine gq (y_load Tryd.isAgg9 rfl (cell_base h1)) rfl rfl rfl ?_
  refine gq (y_move (v := .pointer (some ⟨rg, 0, none⟩)) rfl) rfl rfl rfl ?_
  refine gq (y_nilCheck rfl) rfl rfl rfl ?_
  refine gq (y_fieldAddr_box fa60_2 rfl) rfl rfl rfl ?_
  refine gq (y_load Tryd.isAgg3 rfl (cell_base h2)) rfl rfl rfl ?_
  refine gq (y_move (v := .pointer (some ⟨rg, 0, none⟩)) rfl) rfl rfl rfl ?_
  refine gq (y_nilCheck rfl) rfl rfl rfl ?_
  refine gq (y_fieldAddr_box fa60_3 rfl) rfl rfl rfl ?_
  refine gq (y_load Tryd.isAgg3 rfl (cell_base h3)) rfl rfl rfl ?_
  refine gq (y_strslice Tryd.underlying9 rfl rfl rfl (by omega) (by omega) (by omega)) rfl rfl rfl ?_
  refine gq (y_assign (v := .string _) rfl) rfl rfl rfl ?_
  refine gqs_nil ?_
  refine hN2 _ _ ?_
  refine gfrom [(2, .string _)] ⟨rfl, trivial⟩ fun σ => ?_
  refine gret fun w1 hM => ?_
  refine ⟨_, res1 rfl (rt (v := .string _) rfl), ?_⟩
  exact ⟨by simp, hM.low⟩
set_option maxHeartbeats 4000000 in
theorem rdTake_any (w0 w : World) (rg n bc : Nat) (B : Option Addr) (s : ByteArray) (code : Int) (fr : Reg) (hs : s.size ≤ 200) (a : Nat) (ts : List Tk) (hrs : RS s a ts) (x : ByteArray) (hM0 : Mem w0 [box rg (.cells #[.slice B n bc, .string s, .int .i64 ((a : Nat)), .int .i64 ((nextW s (a) : Nat)), .int .i64 code] 60), fr] w) :
    Calls Tryd.prog 45 #[.pointer (some ⟨rg, 0, none⟩), .string x] w fun e w' => ∃ a' ts', e = .returned (.bool (decide (hd ts = x))) ∧ RS s a' ts' ∧ ts' = (if hd ts = x then ts.tail else ts) ∧ Mem w0 [box rg (.cells #[.slice B n bc, .string s, .int .i64 ((a' : Nat)), .int .i64 ((nextW s (a') : Nat)), .int .i64 code] 60), fr] w' := by
  refine gcallsT Tryd.func45 rfl Tryd.ntmps45 (Nat.le_of_ble_eq_true rfl) hM0 ?_
  refine gfrom [(0, .pointer (some ⟨rg, 0, none⟩)), (1, .string x)] ⟨rfl, rfl, trivial⟩ fun σ => ?_
  refine gseq fun N1 hN1 => ?_
  refine greg ?_
  refine gop (y_assign (v := .bool _) rfl) rfl rfl rfl ?_
  refine gops_nil ?_
  refine hN1 _ _ ?_
  refine gfrom [(0, .pointer (some ⟨rg, 0, none⟩)), (1, .string x)] ⟨rfl, rfl, trivial⟩ fun σ => ?_
  refine gseq fun N2 hN2 => ?_
  refine greg ?_
  refine gop (y_move (v := .pointer (some ⟨rg, 0, none⟩)) rfl) rfl rfl rfl ?_
  refine gop_pure (e_call (vs := [.pointer (some ⟨rg, 0, none⟩)]) Tryd.func49 rfl (by kernel_rfl) rfl) (fun w hM => rdWord_any w rg s _ _ (next_ge _ _) (next_le hrs.le) (cell_box (w0 := w0) 0 (off := 1) rfl rfl w hM) (cell_box (w0 := w0) 0 (off := 2) rfl rfl w hM) (cell_box (w0 := w0) 0 (off := 3) rfl rfl w hM)) rfl rfl rfl ?_
  refine gop (y_move (v := .string x) rfl) rfl rfl rfl ?_
  refine gop (y_eqls rfl rfl) rfl rfl rfl ?_
  refine gop (y_assign (v := .bool _) rfl) rfl rfl rfl ?_
  refine gops_nil ?_
  refine hN2 _ _ ?_
  refine gfrom [(0, .pointer (some ⟨rg, 0, none⟩)), (5, .bool _)] ⟨rfl, rfl, trivial⟩ fun σ => ?_
  refine gseq fun N3 hN3 => ?_
  refine gseq fun N4 hN4 => ?_
  refine greg ?_
  refine gop (y_move (v := .bool _) rfl) rfl rfl rfl ?_
  refine gops_nil ?_
  refine hN4 _ _ ?_
  refine gfrom [(0, .pointer (some ⟨rg, 0, none⟩)), (5, .bool _), (10, .bool _)] ⟨rfl, rfl, rfl, trivial⟩ fun σ => ?_
  refine gcond (b := _) rfl (fun hc10 => ?_) (fun hc10 => ?_)
  · 
    rw [strEq_dec, hrs.hd] at hc10
    have hx := of_decide_eq_true hc10
    refine greg ?_
    refine gop (y_move (v := .pointer (some ⟨rg, 0, none⟩)) rfl) rfl rfl rfl ?_
    refine gop_does1 0 (fun v r G => v = .tuple #[] ∧ r = box rg (.cells #[.slice B n bc, .string s, .int .i64 ((skipW s (nextW s a) : Nat)), .int .i64 ((nextW s (skipW s (nextW s a)) : Nat)), .int .i64 code] 60) ∧ G = []) (e_call (vs := [.pointer (some ⟨rg, 0, none⟩)]) Tryd.func30 rfl (by kernel_rfl) rfl) rfl (fun w fr1 hfr hM => (rdScan_any _ w rg _ _ _ s _ fr1 hs _ _ _ rfl (next_le hrs.le) hM).mono fun _ _ ⟨h1, h2⟩ => ⟨_, _, [], h1, ⟨rfl, rfl, rfl⟩, h2⟩) rfl rfl rfl ?_
    rintro _ _ _ ⟨rfl, rfl, rfl⟩
    refine gops_nil ?_
    refine hN3 _ _ ?_
    refine gT [box rg _, fr] rfl ?_
    refine gfrom [(5, .bool _)] ⟨rfl, trivial⟩ fun σ => ?_
    refine gseq fun N5 hN5 => ?_
    refine greg ?_
    refine gop (y_move (v := .bool _) rfl) rfl rfl rfl ?_
    refine gop (y_assign (v := .bool _) rfl) rfl rfl rfl ?_
    refine gops_nil ?_
    refine hN5 _ _ ?_
    refine gfrom [(4, .bool _)] ⟨rfl, trivial⟩ fun σ => ?_
    refine gret fun w1 hM => ?_
    refine ⟨_, res1 rfl (rt (v := .bool _) rfl), ?_⟩
    rw [strEq_dec, hrs.hd]
    first
    | exact ⟨_, _, rfl, hrs.next, by rw [if_pos hx], weak_take (T' := [_, fr]) rfl _ hM⟩
    | exact ⟨_, _, rfl, hrs, by rw [if_neg hx], weak_take (T' := [_, fr]) rfl _ hM⟩
  · 
    rw [strEq_dec, hrs.hd] at hc10
    have hx := of_decide_eq_false hc10
    refine gskip ?_
    refine hN3 _ _ ?_
    refine gfrom [(5, .bool _)] ⟨rfl, trivial⟩ fun σ => ?_
    refine gseq fun N6 hN6 => ?_
    refine greg ?_
    refine gop (y_move (v := .bool _) rfl) rfl rfl rfl ?_
    refine gop (y_assign (v := .bool _) rfl) rfl rfl rfl ?_
    refine gops_nil ?_
    refine hN6 _ _ ?_
    refine gfrom [(4, .bool _)] ⟨rfl, trivial⟩ fun σ => ?_
    refine gret fun w1 hM => ?_
    refine ⟨_, res1 rfl (rt (v := .bool _) rfl), ?_⟩
    rw [strEq_dec, hrs.hd]
    first
    | exact ⟨_, _, rfl, hrs.next, by rw [if_pos hx], weak_take (T' := [_, fr]) rfl _ hM⟩
    | exact ⟨_, _, rfl, hrs, by rw [if_neg hx], weak_take (T' := [_, fr]) rfl _ hM⟩
set_option maxHeartbeats 4000000 in
theorem rdFail_any (w0 w : World) (rg n bc : Nat) (B : Option Addr) (s : ByteArray) (code a x : Int) (fr : Reg) (c : Int) (hM0 : Mem w0 [box rg (.cells #[.slice B n bc, .string s, .int .i64 (a), .int .i64 (x), .int .i64 code] 60), fr] w) :
    Calls Tryd.prog 32 #[.pointer (some ⟨rg, 0, none⟩), .int .i64 c] w fun e w' => e = .returned (.tuple #[.int .i64 0, .bool false]) ∧ Mem w0 [box rg (.cells #[.slice B n bc, .string s, .int .i64 (a), .int .i64 (x), .int .i64 c] 60), fr] w' := by
  refine gcallsT Tryd.func32 rfl Tryd.ntmps32 (Nat.le_of_ble_eq_true rfl) hM0 ?_
  refine gfrom [(0, .pointer (some ⟨rg, 0, none⟩)), (1, .int _ _)] ⟨rfl, rfl, trivial⟩ fun σ => ?_
  refine gseq fun N1 hN1 => ?_
  refine greg ?_
  refine gop (y_assign (v := .int _ _) rfl) rfl rfl rfl ?_
  refine gop (y_assign (v := .bool _) rfl) rfl rfl rfl ?_
  refine gops_nil ?_
  refine hN1 _ _ ?_
  refine gfrom [(0, .pointer (some ⟨rg, 0, none⟩)), (1, .int _ _)] ⟨rfl, rfl, trivial⟩ fun σ => ?_
  refine gseq fun N2 hN2 => ?_
  refine greg ?_
  refine gop (y_move (v := .pointer (some ⟨rg, 0, none⟩)) rfl) rfl rfl rfl ?_
  refine gop (y_move (v := .int _ _) rfl) rfl rfl rfl ?_
  refine gop (y_nilCheck rfl) rfl rfl rfl ?_
  refine gop (y_fieldAddr_box fa60_4 rfl) rfl rfl rfl ?_
  refine gop_store 0 (v := .int _ _) (cs' := #[_, _, _, _, _]) rfl rfl Tryd.sizeOf3 rfl rfl rfl rfl (Nat.le_of_ble_eq_true rfl) rfl rfl ?_
  refine gops_nil ?_
  refine hN2 _ _ ?_
  refine gT [box rg _, fr] rfl ?_
  refine gfrom [] trivial fun σ => ?_
  refine gseq fun N3 hN3 => ?_
  refine greg ?_
  refine gop (y_assign (v := .int _ _) rfl) rfl rfl rfl ?_
  refine gop (y_assign (v := .bool _) rfl) rfl rfl rfl ?_
  refine gops_nil ?_
  refine hN3 _ _ ?_
  refine gfrom [(4, .int _ _), (5, .bool _)] ⟨rfl, rfl, trivial⟩ fun σ => ?_
  refine gret fun w1 hM => ?_
  refine ⟨_, res2 rfl (rt (v := .int _ _) rfl) (rt (v := .bool _) rfl), ?_⟩
  exact ⟨rfl, weak_take (T' := [_, fr]) rfl _ hM⟩
set_option maxHeartbeats 4000000 in
theorem polAdd5_any (w0 w : World) (rg bc : Nat) (B : Option Addr) (s : ByteArray) (code a x : Int) (o : List PN) (fr : Reg) (hM0 : Mem w0 [box rg (.cells #[.slice B o.length bc, .string s, .int .i64 (a), .int .i64 (x), .int .i64 code] 60), rowl pnCells w0.heap.size 47 4 (.slice B (o).length bc) (o), fr] w) (hol : o.length ≤ 1000) (n : PN) :
    Calls Tryd.prog 41 #[.pointer (some ⟨rg, 0, none⟩), pnV n] w fun e w' => ∃ B' bc', e = .returned (.int .i64 (o.length : Nat)) ∧ Mem w0 [box rg (.cells #[.slice B' (o ++ [n]).length bc', .string s, .int .i64 (a), .int .i64 (x), .int .i64 code] 60), rowl pnCells w0.heap.size 47 4 (.slice B' (o ++ [n]).length bc') (o ++ [n]), fr] w' := by
  refine gcallsT Tryd.func41 rfl Tryd.ntmps41 (Nat.le_of_ble_eq_true rfl) hM0 ?_
  refine gfrom [(0, .pointer (some ⟨rg, 0, none⟩)), (1, .agg #[_, _, _, _])] ⟨rfl, rfl, trivial⟩ fun σ => ?_
  refine gseq fun N1 hN1 => ?_
  refine greg ?_
  refine gop_box (v := .agg #[_, _, _, _]) (cs := #[_, _, _, _]) rfl rfl rfl (fun b3 hb3 => ?_)
  refine gop (y_assign (v := .int _ _) rfl) rfl rfl rfl ?_
  refine gops_nil ?_
  refine hN1 _ _ ?_
  refine gT [box rg _, rowl _ _ _ _ _ _, fr, box b3 _] rfl ?_
  refine gfrom [(0, .pointer (some ⟨rg, 0, none⟩)), (3, .pointer _)] ⟨rfl, rfl, trivial⟩ fun σ => ?_
  refine gseq fun N2 hN2 => ?_
  refine greg_e1 [10] [(1, emp)] (by kernel_rfl) ?_
  refine ge_take 0 (TK := [box rg _, emp, fr, box b3 _]) rfl (by kernel_rfl) (by kernel_rfl) (by kernel_rfl) #[false, true, true, true, true, true, true, true, false, false, false] (by kernel_rfl) rfl (y_move (v := .pointer (some ⟨rg, 0, none⟩)) rfl) rfl rfl rfl (weak_emp 1 rfl) (listed' := #[true, false, false, false, false, false, false, false, false, false, false]) rfl ?_
  refine ge_take 1 (TK := [box rg _, emp, fr, box b3 _]) rfl (by kernel_rfl) (by kernel_rfl) (by kernel_rfl) #[true, false, false, false, false, true, true, false, false, false, false] (by kernel_rfl) rfl (y_move (v := .pointer (some ⟨rg, 0, none⟩)) rfl) rfl rfl rfl (weak_emp 1 rfl) (listed' := #[true, true, false, false, false, false, false, false, false, false, false]) rfl ?_
  refine ge_take 2 (TK := [box rg _, emp, fr, box b3 _]) rfl (by kernel_rfl) (by kernel_rfl) (by kernel_rfl) #[true, true, false, false, false, true, true, false, false, false, false] (by kernel_rfl) rfl (y_nilCheck rfl) rfl rfl rfl (weak_emp 1 rfl) (listed' := #[true, true, true, false, false, false, false, false, false, false, false]) rfl ?_
  refine ge_take 3 (TK := [box rg _, emp, fr, box b3 _]) rfl (by kernel_rfl) (by kernel_rfl) (by kernel_rfl) #[true, true, true, false, false, true, true, false, false, false, false] (by kernel_rfl) rfl (y_fieldAddr_box fa52_0 rfl) rfl rfl rfl (weak_emp 1 rfl) (listed' := #[true, true, true, true, false, false, false, false, false, false, false]) rfl ?_
  refine ge_take 4 (TK := [box rg _, emp, fr, box b3 _]) rfl (by kernel_rfl) (by kernel_rfl) (by kernel_rfl) #[true, true, true, true, false, true, true, false, false, false, false] (by kernel_rfl) rfl (y_load Tryd.isAgg22 rfl (cell_box 0 rfl rfl)) rfl rfl rfl (weak_emp 1 rfl) (listed' := #[true, true, true, true, true, false, false, false, false, false, false]) rfl ?_
  refine ge_take 5 (TK := [box rg _, emp, fr, box b3 _]) rfl (by kernel_rfl) (by kernel_rfl) (by kernel_rfl) #[true, true, true, true, true, false, false, false, false, false, false] (by kernel_rfl) rfl (y_loads (cs := [_, _, _, _]) Tryd.isAgg47 Tryd.sizeOf47 rfl rfl (cells_box 3 rfl)) rfl rfl rfl (weak_emp 1 rfl) (listed' := #[true, true, true, true, true, true, false, false, false, false, false]) rfl ?_
  refine ge_one 6 (k' := 0) (listed' := #[true, true, true, true, true, true, true, false, false, false, false]) (by kernel_rfl) rfl rfl rfl ?_
  refine gop_lit (vs := [.agg #[_, _, _, _]]) (cells := #[_, _, _, _]) Tryd.underlying22 Tryd.sizeOf47 Tryd.zeroValue47 rfl (by decide) (by decide) rfl rfl rfl rfl (fun b11 hb11 => ?_)
  refine gops_nil ?_
  refine ge_fin (TK := [box rg _, emp, fr, box b3 _]) rfl (weak_trans (weak_take (T' := [box rg _, rowl _ _ _ _ _ _, fr, box b3 _]) rfl) (weak_emp 1 rfl)) ?_
  refine ge_one 7 (k' := 0) (listed' := #[true, true, true, true, true, true, true, true, false, false, false]) (by kernel_rfl) rfl rfl rfl ?_
  refine gop_append 1 (f := pnCells) (l2 := [n]) Tryd.underlying22 el47 wide_pn (v := .slice _ _ _) rfl rfl rfl rfl (fun h => by cases h) (by simp [maxLen]; omega) (by simp; omega) (src_box 4 rfl rfl) rfl (fun v12 => ?_)
  refine gops_fact (fun w hM => own_form (hM.own 1 rfl)) ?_
  rintro ⟨A12, c12, rfl, hc12, hm12⟩
  refine gops_nil ?_
  refine ge_fin (TK := [box rg _, emp, fr, box b3 _]) rfl (weak_trans (weak_take (T' := [box rg _, rowl _ _ _ _ _ _, fr, box b3 _]) rfl) (weak_emp 1 rfl)) ?_
  refine ge_take 8 (TK := [box rg _, emp, fr, box b3 _]) rfl (by kernel_rfl) (by kernel_rfl) (by kernel_rfl) #[true, true, true, true, true, true, true, true, false, false, false] (by kernel_rfl) rfl (y_nilCheck rfl) rfl rfl rfl (weak_trans (weak_take (T' := [box rg _, rowl _ _ _ _ _ _, fr, box b3 _]) rfl) (weak_emp 1 rfl)) (listed' := #[true, true, true, true, true, true, true, true, true, false, false]) rfl ?_
  refine ge_take 9 (TK := [box rg _, emp, fr, box b3 _]) rfl (by kernel_rfl) (by kernel_rfl) (by kernel_rfl) #[true, true, true, true, true, true, true, true, true, false, false] (by kernel_rfl) rfl (y_fieldAddr_box fa52_0 rfl) rfl rfl rfl (weak_trans (weak_take (T' := [box rg _, rowl _ _ _ _ _ _, fr, box b3 _]) rfl) (weak_emp 1 rfl)) (listed' := #[true, true, true, true, true, true, true, true, true, true, false]) rfl ?_
  refine ge_one 10 (k' := 1) (listed' := #[true, true, true, true, true, true, true, true, true, true, true]) (by kernel_rfl) rfl rfl rfl ?_
  refine gop_store 0 (v := .slice A12 _ c12) (cs' := #[_, _, _, _, _]) rfl rfl Tryd.sizeOf22 rfl rfl rfl rfl (Nat.le_of_ble_eq_true rfl) rfl rfl ?_
  refine gops_nil ?_
  refine ge_fin (TK := []) rfl (weak_nil) ?_
  refine ge_done (by kernel_rfl) ?_
  refine hN2 _ _ ?_
  refine gT [box rg _, rowl _ _ _ _ _ _, fr, box b3 _, box b11 _] rfl ?_
  refine gfrom [(0, .pointer (some ⟨rg, 0, none⟩))] ⟨rfl, trivial⟩ fun σ => ?_
  refine gseq fun N3 hN3 => ?_
  refine greg ?_
  refine gop (y_move (v := .pointer (some ⟨rg, 0, none⟩)) rfl) rfl rfl rfl ?_
  refine gop (y_nilCheck rfl) rfl rfl rfl ?_
  refine gop (y_fieldAddr_box fa52_0 rfl) rfl rfl rfl ?_
  refine gop (y_load Tryd.isAgg22 rfl (cell_box 0 rfl rfl)) rfl rfl rfl ?_
  refine gop (y_len Tryd.underlying22 rfl) rfl rfl rfl ?_
  refine gop (y_sub rfl rfl ⟨by first | omega | (simp; done) | (simp; omega), by first | omega | (simp; done) | (simp; omega)⟩) rfl rfl rfl ?_
  refine gop (y_assign (v := .int _ _) rfl) rfl rfl rfl ?_
  refine gops_nil ?_
  refine hN3 _ _ ?_
  refine gfrom [(4, .int _ _)] ⟨rfl, trivial⟩ fun σ => ?_
  refine gret fun w1 hM => ?_
  refine ⟨_, res1 rfl (rt (v := .int _ _) rfl), ?_⟩
  exact ⟨A12, c12, by simp, weak_take (T' := [_, _, fr]) rfl _ hM⟩
end Go.Proofs.YtllblbkbglifjaaDoor
namespace Go.Proofs.YtllblbkbglifjaaDoor
open Go.RowKit Go.Cf
set_option maxRecDepth 10000
theorem fa60_0 (a : Addr) (w : World) : (Instr.fieldAt 60 (.pointer (some a)) 0).run Tryd.prog w = .ok (.pointer (some (a.add 0))) w := by kernel_rfl
theorem bd47_0_1 (x1 : Int) (x2 : Int) : Tryd.prog.built 47 [(0, .int .i64 x1), (1, .int .i64 x2)] = some #[.int .i64 x1, .int .i64 x2, .int .i64 0, .int .i64 0] := by kernel_rfl
set_option maxHeartbeats 8000000 in
theorem rdNumber_any (w0 w : World) (rg bc : Nat) (B : Option Addr) (s : ByteArray) (code : Int) (o : List PN) (fr : Reg) (hs : s.size ≤ 200) (a : Nat) (ts : List Tk) (hrs : RS s a ts) (kd : Int) (hol : o.length ≤ 900) (hL : LaidP w0) (hM0 : Mem w0 [box rg (.cells #[.slice B o.length bc, .string s, .int .i64 ((a : Nat)), .int .i64 ((nextW s (a) : Nat)), .int .i64 code] 60), rowl pnCells w0.heap.size 47 4 (.slice B (o).length bc) (o), fr] w) :
    Calls Tryd.prog 48 #[.pointer (some ⟨rg, 0, none⟩), .int .i64 kd] w fun e w' => ∃ x b B' bc' o' a' code', e = .returned (.tuple #[.int .i64 x, .bool b]) ∧ POK s (numR s.size kd ts) o code x b o' a' code' ∧ Mem w0 [box rg (.cells #[.slice B' o'.length bc', .string s, .int .i64 ((a' : Nat)), .int .i64 ((nextW s (a') : Nat)), .int .i64 code'] 60), rowl pnCells w0.heap.size 47 4 (.slice B' (o').length bc') (o'), fr] w' := by
  have hhd : (hd ts).size ≤ 200 := by rw [← hrs.hd, ByteArray.size_extract]; omega
  refine gcallsT Tryd.func48 rfl Tryd.ntmps48 (Nat.le_of_ble_eq_true rfl) hM0 ?_
  refine gfrom [(0, .pointer (some ⟨rg, 0, none⟩)), (1, .int _ _)] ⟨rfl, rfl, trivial⟩ fun σ => ?_
  refine gseq fun N1 hN1 => ?_
  refine greg ?_
  refine gop (y_assign (v := .int _ _) rfl) rfl rfl rfl ?_
  refine gop (y_assign (v := .bool _) rfl) rfl rfl rfl ?_
  refine gops_nil ?_
  refine hN1 _ _ ?_
  refine gfrom [(0, .pointer (some ⟨rg, 0, none⟩)), (1, .int _ _)] ⟨rfl, rfl, trivial⟩ fun σ => ?_
  refine gseq fun N2 hN2 => ?_
  refine greg ?_
  refine gop (y_move (v := .pointer (some ⟨rg, 0, none⟩)) rfl) rfl rfl rfl ?_
  refine gop_pure (e_call (vs := [.pointer (some ⟨rg, 0, none⟩)]) Tryd.func49 rfl (by kernel_rfl) rfl) (fun w hM => (by have h9 := rdWord_any w rg s _ _ (next_ge _ _) (next_le hrs.le) (cell_box (w0 := w0) 0 (off := 1) rfl rfl w hM) (cell_box (w0 := w0) 0 (off := 2) rfl rfl w hM) (cell_box (w0 := w0) 0 (off := 3) rfl rfl w hM); rw [hrs.hd] at h9; exact h9)) rfl rfl rfl ?_
  refine gop (y_assign (v := .string _) rfl) rfl rfl rfl ?_
  refine gops_nil ?_
  refine hN2 _ _ ?_
  refine gfrom [(0, .pointer (some ⟨rg, 0, none⟩)), (1, .int _ _), (6, .string _)] ⟨rfl, rfl, rfl, trivial⟩ fun σ => ?_
  refine gseq fun N3 hN3 => ?_
  refine greg ?_
  refine gop (y_move (v := .string _) rfl) rfl rfl rfl ?_
  refine gop_got (fun v T' => ∃ n er b, v = .tuple #[.int .i64 n, er] ∧ AtoiEnd (hd ts) n er b ∧ T' = []) (e_call (vs := [.string _]) Tryd.func52 rfl (by kernel_rfl) rfl) (fun w hM => (atoi_any w (hd ts) (by omega) (hL.base hM)).mono fun _ _ ⟨n, er, b, h1, h2, h3⟩ => ⟨_, [], h1, ⟨n, er, b, rfl, h2, rfl⟩, mem_nil h3⟩) rfl rfl rfl ?_
  rintro _ _ ⟨n, er, b, rfl, hAE, rfl⟩
  refine gop (y_move (v := .tuple #[.int _ _, er]) rfl) rfl rfl rfl ?_
  refine gop (y_extract (v := .int _ _) rfl rfl) rfl rfl rfl ?_
  refine gop (y_extract (v := _) rfl rfl) rfl rfl rfl ?_
  refine gop (y_assign (v := .int _ _) rfl) rfl rfl rfl ?_
  refine gop (y_assign (v := _) rfl) rfl rfl rfl ?_
  refine gops_nil ?_
  refine hN3 _ _ ?_
  refine gfrom [(0, .pointer (some ⟨rg, 0, none⟩)), (1, .int _ _), (6, .string _), (7, .int _ _), (8, _)] ⟨rfl, rfl, rfl, rfl, rfl, trivial⟩ fun σ => ?_
  refine gseq fun N4 hN4 => ?_
  refine gseq fun N5 hN5 => ?_
  refine greg ?_
  refine gop (y_move (v := _) rfl) rfl rfl rfl ?_
  refine gop (y_errne (by kernel_rfl) hAE rfl rfl) rfl rfl rfl ?_
  refine gop (y_move (v := .bool _) rfl) rfl rfl rfl ?_
  refine gop_if (want := false) rfl rfl rfl rfl rfl rfl (fun hg18 => ?_) (fun hg18 => ?_)
  · 
    have hg18d := hg18
    refine gop (y_bare (y_move (v := .int _ _) rfl)) rfl rfl rfl ?_
    refine gop_on rfl rfl rfl rfl hg18 ?_
    refine gop_pure (e_call (vs := [.int _ _]) Tryd.func40 rfl (by kernel_rfl) rfl) (fun w hM => itoa_any w n (Lib.atoiAll_bounds (hAE.ok (by assumption))).1 (Lib.atoiAll_bounds (hAE.ok (by assumption))).2 (hL.base hM)) rfl rfl rfl ?_
    refine gop_on rfl rfl rfl rfl hg18 ?_
    refine gop (y_bare (y_move (v := .string _) rfl)) rfl rfl rfl ?_
    refine gop_on rfl rfl rfl rfl hg18 ?_
    refine gop (y_bare (y_neqs rfl rfl)) rfl rfl rfl ?_
    refine gop (y_pick_f (v := .bool _) rfl hg18 rfl) rfl rfl rfl ?_
    refine gops_nil ?_
    refine hN5 _ _ ?_
    refine gfrom [(0, .pointer (some ⟨rg, 0, none⟩)), (1, .int _ _), (7, .int _ _), (23, .bool _)] ⟨rfl, rfl, rfl, rfl, trivial⟩ fun σ => ?_
    refine gcond (b := _) rfl (fun hc23 => ?_) (fun hc23 => ?_)
    · 
      have hV : numV (hd ts) = none := by first | exact num_bad hAE (.inl (by assumption)) | exact num_bad hAE (.inr (fun h9 => by rw [h9] at hc23; simp at hc23))
      have hR : numR s.size kd ts = .bad 1 a := by
        rw [numR, hV]
        show Res.bad 1 (pos s.size ts) = _
        rw [hrs.pos]
      refine gseq fun N6 hN6 => ?_
      refine greg ?_
      refine gop (y_move (v := .pointer (some ⟨rg, 0, none⟩)) rfl) rfl rfl rfl ?_
      refine gop_does1 0 (fun v r G => v = .tuple #[.int .i64 0, .bool false] ∧ r = box rg (.cells #[.slice B o.length bc, .string s, .int .i64 ((a : Nat)), .int .i64 ((nextW s (a) : Nat)), .int .i64 1] 60) ∧ G = []) (e_call (vs := [.pointer (some ⟨rg, 0, none⟩), _]) Tryd.func32 rfl (by kernel_rfl) rfl) rfl (fun w fr1 hfr hM => (rdFail_any _ w rg _ _ _ s _ _ _ fr1 1 hM).mono fun _ _ ⟨h1, h2⟩ => ⟨_, _, [], h1, ⟨rfl, rfl, rfl⟩, h2⟩) rfl rfl rfl ?_
      rintro _ _ _ ⟨rfl, rfl, rfl⟩
      refine gop (y_extract (v := .int _ _) rfl rfl) rfl rfl rfl ?_
      refine gop (y_extract (v := .bool _) rfl rfl) rfl rfl rfl ?_
      refine gop (y_assign (v := .int _ _) rfl) rfl rfl rfl ?_
      refine gop (y_assign (v := .bool _) rfl) rfl rfl rfl ?_
      refine gops_nil ?_
      refine hN6 _ _ ?_
      refine gT [box rg _, rowl _ _ _ _ _ _, fr] rfl ?_
      refine gfrom [(4, .int _ _), (5, .bool _)] ⟨rfl, rfl, trivial⟩ fun σ => ?_
      refine gret fun w1 hM => ?_
      refine ⟨_, res2 rfl (rt (v := .int _ _) rfl) (rt (v := .bool _) rfl), ?_⟩
      exact ⟨_, _, B, bc, o, _, _, rfl, pok_bad hR (by omega), weak_take (T' := [_, _, fr]) rfl _ hM⟩
    · 
      have hV : numV (hd ts) = some n := num_good hAE (by assumption) (by rw [strEq_dec] at hc23; simpa using hc23)
      refine gskip ?_
      refine hN4 _ _ ?_
      refine gfrom [(0, .pointer (some ⟨rg, 0, none⟩)), (1, .int _ _), (7, .int _ _)] ⟨rfl, rfl, rfl, trivial⟩ fun σ => ?_
      refine gseq fun N7 hN7 => ?_
      refine gseq fun N8 hN8 => ?_
      refine greg ?_
      refine gop (y_move (v := .int _ _) rfl) rfl rfl rfl ?_
      refine gop (y_lss rfl rfl) rfl rfl rfl ?_
      refine gop (y_move (v := .bool _) rfl) rfl rfl rfl ?_
      refine gop_if (want := false) rfl rfl rfl rfl rfl rfl (fun hg30 => ?_) (fun hg30 => ?_)
      · 
        have hg30d := of_decide_eq_false hg30
        refine gop (y_bare (y_move (v := .int _ _) rfl)) rfl rfl rfl ?_
        refine gop_on rfl rfl rfl rfl hg30 ?_
        refine gop (y_bare (y_move (v := .int _ _) rfl)) rfl rfl rfl ?_
        refine gop_on rfl rfl rfl rfl hg30 ?_
        refine gop_pure (e_call (vs := [.int _ _]) Tryd.func42 rfl (by kernel_rfl) rfl) (fun w hM => polMost_any w _) rfl rfl rfl ?_
        refine gop_on rfl rfl rfl rfl hg30 ?_
        refine gop (y_bare (y_gtr rfl rfl)) rfl rfl rfl ?_
        refine gop (y_pick_f (v := .bool _) rfl hg30 rfl) rfl rfl rfl ?_
        refine gops_nil ?_
        refine hN8 _ _ ?_
        refine gfrom [(0, .pointer (some ⟨rg, 0, none⟩)), (1, .int _ _), (7, .int _ _), (35, .bool _)] ⟨rfl, rfl, rfl, rfl, trivial⟩ fun σ => ?_
        refine gcond (b := _) rfl (fun hc35 => ?_) (fun hc35 => ?_)
        · 
          replace hc35 := of_decide_eq_true hc35
          have hR : numR s.size kd ts = .bad 3 a := by
            rw [numR, hV]
            show (if n < 0 ∨ mostN kd < n then Res.bad 3 (pos s.size ts) else _) = _
            rw [if_pos (by omega), hrs.pos]
          refine gseq fun N9 hN9 => ?_
          refine greg ?_
          refine gop (y_move (v := .pointer (some ⟨rg, 0, none⟩)) rfl) rfl rfl rfl ?_
          refine gop_does1 0 (fun v r G => v = .tuple #[.int .i64 0, .bool false] ∧ r = box rg (.cells #[.slice B o.length bc, .string s, .int .i64 ((a : Nat)), .int .i64 ((nextW s (a) : Nat)), .int .i64 3] 60) ∧ G = []) (e_call (vs := [.pointer (some ⟨rg, 0, none⟩), _]) Tryd.func32 rfl (by kernel_rfl) rfl) rfl (fun w fr1 hfr hM => (rdFail_any _ w rg _ _ _ s _ _ _ fr1 3 hM).mono fun _ _ ⟨h1, h2⟩ => ⟨_, _, [], h1, ⟨rfl, rfl, rfl⟩, h2⟩) rfl rfl rfl ?_
          rintro _ _ _ ⟨rfl, rfl, rfl⟩
          refine gop (y_extract (v := .int _ _) rfl rfl) rfl rfl rfl ?_
          refine gop (y_extract (v := .bool _) rfl rfl) rfl rfl rfl ?_
          refine gop (y_assign (v := .int _ _) rfl) rfl rfl rfl ?_
          refine gop (y_assign (v := .bool _) rfl) rfl rfl rfl ?_
          refine gops_nil ?_
          refine hN9 _ _ ?_
          refine gT [box rg _, rowl _ _ _ _ _ _, fr] rfl ?_
          refine gfrom [(4, .int _ _), (5, .bool _)] ⟨rfl, rfl, trivial⟩ fun σ => ?_
          refine gret fun w1 hM => ?_
          refine ⟨_, res2 rfl (rt (v := .int _ _) rfl) (rt (v := .bool _) rfl), ?_⟩
          exact ⟨_, _, B, bc, o, _, _, rfl, pok_bad hR (by omega), weak_take (T' := [_, _, fr]) rfl _ hM⟩
        · 
          replace hc35 := of_decide_eq_false hc35
          have hR : numR s.size kd ts = .ok (.leaf kd n) ts.tail := by
            rw [numR, hV]
            show (if n < 0 ∨ mostN kd < n then Res.bad 3 (pos s.size ts) else _) = _
            rw [if_neg (by omega)]
          refine gskip ?_
          refine hN7 _ _ ?_
          refine gfrom [(0, .pointer (some ⟨rg, 0, none⟩)), (1, .int _ _), (7, .int _ _)] ⟨rfl, rfl, rfl, trivial⟩ fun σ => ?_
          refine gseq fun N10 hN10 => ?_
          refine greg ?_
          refine gop (y_move (v := .pointer (some ⟨rg, 0, none⟩)) rfl) rfl rfl rfl ?_
          refine gop_does1 0 (fun v r G => v = .tuple #[] ∧ r = box rg (.cells #[.slice B o.length bc, .string s, .int .i64 ((skipW s (nextW s a) : Nat)), .int .i64 ((nextW s (skipW s (nextW s a)) : Nat)), .int .i64 code] 60) ∧ G = []) (e_call (vs := [.pointer (some ⟨rg, 0, none⟩)]) Tryd.func30 rfl (by kernel_rfl) rfl) rfl (fun w fr1 hfr hM => (rdScan_any _ w rg _ _ _ s _ fr1 hs _ _ _ rfl (next_le hrs.le) hM).mono fun _ _ ⟨h1, h2⟩ => ⟨_, _, [], h1, ⟨rfl, rfl, rfl⟩, h2⟩) rfl rfl rfl ?_
          rintro _ _ _ ⟨rfl, rfl, rfl⟩
          refine gops_nil ?_
          refine hN10 _ _ ?_
          refine gT [box rg _, rowl _ _ _ _ _ _, fr] rfl ?_
          refine gfrom [(0, .pointer (some ⟨rg, 0, none⟩)), (1, .int _ _), (7, .int _ _)] ⟨rfl, rfl, rfl, trivial⟩ fun σ => ?_
          refine gseq fun N11 hN11 => ?_
          refine greg ?_
          refine gop (y_move (v := .pointer (some ⟨rg, 0, none⟩)) rfl) rfl rfl rfl ?_
          refine gop (y_nilCheck rfl) rfl rfl rfl ?_
          refine gop (y_fieldAddr_box fa60_0 rfl) rfl rfl rfl ?_
          refine gop (y_move (v := .int _ _) rfl) rfl rfl rfl ?_
          refine gop (y_move (v := .int _ _) rfl) rfl rfl rfl ?_
          refine gop (y_build (vs := [(0, .int _ _), (1, .int _ _)]) (cells := #[_, _, .int .i64 0, .int .i64 0]) rfl (bd47_0_1 _ _)) rfl rfl rfl ?_
          refine gop_does2 0 1 (fun v r s1 G => ∃ B' bc', v = .int .i64 ((o).length : Nat) ∧ r = box rg (.cells #[.slice B' (o ++ [(⟨kd, n, 0, 0⟩ : PN)]).length bc', .string s, .int .i64 ((skipW s (nextW s a) : Nat)), .int .i64 ((nextW s (skipW s (nextW s a)) : Nat)), .int .i64 code] 60) ∧ s1 = rowl pnCells w0.heap.size 47 4 (.slice B' (o ++ [(⟨kd, n, 0, 0⟩ : PN)]).length bc') (o ++ [(⟨kd, n, 0, 0⟩ : PN)]) ∧ G = []) (e_call (vs := [.pointer _, .agg #[_, _, _, _]]) Tryd.func41 rfl (by kernel_rfl) rfl) rfl rfl rfl (fun w fr1 hfr hM => (polAdd5_any _ w rg _ _ s _ _ _ (o) fr1 hM (by omega) ((⟨kd, n, 0, 0⟩ : PN))).mono fun _ _ ⟨B', bc', h1, h2⟩ => ⟨_, _, _, [], h1, ⟨B', bc', rfl, rfl, rfl, rfl⟩, h2⟩) rfl rfl rfl ?_
          rintro _ _ _ _ ⟨B48, bc48, rfl, rfl, rfl, rfl⟩
          refine gop (y_assign (v := .int _ _) rfl) rfl rfl rfl ?_
          refine gop (y_assign (v := .bool _) rfl) rfl rfl rfl ?_
          refine gops_nil ?_
          refine hN11 _ _ ?_
          refine gT [box rg _, rowl _ _ _ _ _ _, fr] rfl ?_
          refine gfrom [(4, .int _ _), (5, .bool _)] ⟨rfl, rfl, trivial⟩ fun σ => ?_
          refine gret fun w1 hM => ?_
          refine ⟨_, res2 rfl (rt (v := .int _ _) rfl) (rt (v := .bool _) rfl), ?_⟩
          exact ⟨_, _, B48, bc48, _, _, _, rfl, pok_ok hR (by simp only [Tr.size]; omega) rfl hrs.next, weak_take (T' := [_, _, fr]) rfl _ hM⟩
      · 
        have hg30d := of_decide_eq_true hg30
        refine gop_off rfl rfl rfl rfl hg30 rfl rfl ?_
        refine gop_off rfl rfl rfl rfl hg30 rfl rfl ?_
        refine gop_off rfl rfl rfl rfl hg30 rfl rfl ?_
        refine gop (y_pick_t (v := .bool _) rfl hg30 rfl) rfl rfl rfl ?_
        refine gops_nil ?_
        refine hN8 _ _ ?_
        refine gfrom [(0, .pointer (some ⟨rg, 0, none⟩)), (1, .int _ _), (7, .int _ _), (35, .bool _)] ⟨rfl, rfl, rfl, rfl, trivial⟩ fun σ => ?_
        refine gcond (b := _) rfl (fun hc35 => ?_) (fun hc35 => ?_)
        · 
          have hR : numR s.size kd ts = .bad 3 a := by
            rw [numR, hV]
            show (if n < 0 ∨ mostN kd < n then Res.bad 3 (pos s.size ts) else _) = _
            rw [if_pos (by omega), hrs.pos]
          refine gseq fun N12 hN12 => ?_
          refine greg ?_
          refine gop (y_move (v := .pointer (some ⟨rg, 0, none⟩)) rfl) rfl rfl rfl ?_
          refine gop_does1 0 (fun v r G => v = .tuple #[.int .i64 0, .bool false] ∧ r = box rg (.cells #[.slice B o.length bc, .string s, .int .i64 ((a : Nat)), .int .i64 ((nextW s (a) : Nat)), .int .i64 3] 60) ∧ G = []) (e_call (vs := [.pointer (some ⟨rg, 0, none⟩), _]) Tryd.func32 rfl (by kernel_rfl) rfl) rfl (fun w fr1 hfr hM => (rdFail_any _ w rg _ _ _ s _ _ _ fr1 3 hM).mono fun _ _ ⟨h1, h2⟩ => ⟨_, _, [], h1, ⟨rfl, rfl, rfl⟩, h2⟩) rfl rfl rfl ?_
          rintro _ _ _ ⟨rfl, rfl, rfl⟩
          refine gop (y_extract (v := .int _ _) rfl rfl) rfl rfl rfl ?_
          refine gop (y_extract (v := .bool _) rfl rfl) rfl rfl rfl ?_
          refine gop (y_assign (v := .int _ _) rfl) rfl rfl rfl ?_
          refine gop (y_assign (v := .bool _) rfl) rfl rfl rfl ?_
          refine gops_nil ?_
          refine hN12 _ _ ?_
          refine gT [box rg _, rowl _ _ _ _ _ _, fr] rfl ?_
          refine gfrom [(4, .int _ _), (5, .bool _)] ⟨rfl, rfl, trivial⟩ fun σ => ?_
          refine gret fun w1 hM => ?_
          refine ⟨_, res2 rfl (rt (v := .int _ _) rfl) (rt (v := .bool _) rfl), ?_⟩
          exact ⟨_, _, B, bc, o, _, _, rfl, pok_bad hR (by omega), weak_take (T' := [_, _, fr]) rfl _ hM⟩
        · 
          cases hc35
  · 
    have hg18d := hg18
    refine gop_off rfl rfl rfl rfl hg18 rfl rfl ?_
    refine gop_off rfl rfl rfl rfl hg18 rfl rfl ?_
    refine gop_off rfl rfl rfl rfl hg18 rfl rfl ?_
    refine gop (y_pick_t (v := .bool _) rfl hg18 rfl) rfl rfl rfl ?_
    refine gops_nil ?_
    refine hN5 _ _ ?_
    refine gfrom [(0, .pointer (some ⟨rg, 0, none⟩)), (1, .int _ _), (7, .int _ _), (23, .bool _)] ⟨rfl, rfl, rfl, rfl, trivial⟩ fun σ => ?_
    refine gcond (b := _) rfl (fun hc23 => ?_) (fun hc23 => ?_)
    · 
      have hV : numV (hd ts) = none := by first | exact num_bad hAE (.inl (by assumption)) | exact num_bad hAE (.inr (fun h9 => by rw [h9] at hc23; simp at hc23))
      have hR : numR s.size kd ts = .bad 1 a := by
        rw [numR, hV]
        show Res.bad 1 (pos s.size ts) = _
        rw [hrs.pos]
      refine gseq fun N13 hN13 => ?_
      refine greg ?_
      refine gop (y_move (v := .pointer (some ⟨rg, 0, none⟩)) rfl) rfl rfl rfl ?_
      refine gop_does1 0 (fun v r G => v = .tuple #[.int .i64 0, .bool false] ∧ r = box rg (.cells #[.slice B o.length bc, .string s, .int .i64 ((a : Nat)), .int .i64 ((nextW s (a) : Nat)), .int .i64 1] 60) ∧ G = []) (e_call (vs := [.pointer (some ⟨rg, 0, none⟩), _]) Tryd.func32 rfl (by kernel_rfl) rfl) rfl (fun w fr1 hfr hM => (rdFail_any _ w rg _ _ _ s _ _ _ fr1 1 hM).mono fun _ _ ⟨h1, h2⟩ => ⟨_, _, [], h1, ⟨rfl, rfl, rfl⟩, h2⟩) rfl rfl rfl ?_
      rintro _ _ _ ⟨rfl, rfl, rfl⟩
      refine gop (y_extract (v := .int _ _) rfl rfl) rfl rfl rfl ?_
      refine gop (y_extract (v := .bool _) rfl rfl) rfl rfl rfl ?_
      refine gop (y_assign (v := .int _ _) rfl) rfl rfl rfl ?_
      refine gop (y_assign (v := .bool _) rfl) rfl rfl rfl ?_
      refine gops_nil ?_
      refine hN13 _ _ ?_
      refine gT [box rg _, rowl _ _ _ _ _ _, fr] rfl ?_
      refine gfrom [(4, .int _ _), (5, .bool _)] ⟨rfl, rfl, trivial⟩ fun σ => ?_
      refine gret fun w1 hM => ?_
      refine ⟨_, res2 rfl (rt (v := .int _ _) rfl) (rt (v := .bool _) rfl), ?_⟩
      exact ⟨_, _, B, bc, o, _, _, rfl, pok_bad hR (by omega), weak_take (T' := [_, _, fr]) rfl _ hM⟩
    · 
      cases hc23
end Go.Proofs.YtllblbkbglifjaaDoor
namespace Go.Proofs.YtllblbkbglifjaaDoor
open Go.RowKit Go.Cf
def ListH (w0 : World) (s : ByteArray) (rg n : Nat) : Prop := ∀ (lv : Nat) (vi : Int) (w : World) (B : Option Addr) (bc : Nat) (code : Int) (o : List PN) (fr : Reg) (a : Nat) (ts : List Tk), lv ≤ 2 → vi = (lv : Int) → 3 * ts.length + 3 ≤ n + lv → RS s a ts → o.length + ts.length ≤ 800 → Mem w0 [box rg (.cells #[.slice B o.length bc, .string s, .int .i64 ((a : Nat)), .int .i64 ((nextW s (a) : Nat)), .int .i64 code] 60), rowl pnCells w0.heap.size 47 4 (.slice B (o).length bc) (o), fr] w →
    Calls Tryd.prog 31 #[.pointer (some ⟨rg, 0, none⟩), .int .i64 vi] w fun e w' => ∃ x b B' bc' o' a' code', e = .returned (.tuple #[.int .i64 x, .bool b]) ∧ POK s (rd s.size n lv none ts) o code x b o' a' code' ∧ Mem w0 [box rg (.cells #[.slice B' o'.length bc', .string s, .int .i64 ((a' : Nat)), .int .i64 ((nextW s (a') : Nat)), .int .i64 code'] 60), rowl pnCells w0.heap.size 47 4 (.slice B' (o').length bc') (o'), fr] w'
def FacH (w0 : World) (s : ByteArray) (rg n : Nat) : Prop := ∀ (w : World) (B : Option Addr) (bc : Nat) (code : Int) (o : List PN) (fr : Reg) (a : Nat) (ts : List Tk), 3 * ts.length + 1 ≤ n → RS s a ts → o.length + ts.length ≤ 800 → Mem w0 [box rg (.cells #[.slice B o.length bc, .string s, .int .i64 ((a : Nat)), .int .i64 ((nextW s (a) : Nat)), .int .i64 code] 60), rowl pnCells w0.heap.size 47 4 (.slice B (o).length bc) (o), fr] w →
    Calls Tryd.prog 44 #[.pointer (some ⟨rg, 0, none⟩)] w fun e w' => ∃ x b B' bc' o' a' code', e = .returned (.tuple #[.int .i64 x, .bool b]) ∧ POK s (rd s.size n 2 none ts) o code x b o' a' code' ∧ Mem w0 [box rg (.cells #[.slice B' o'.length bc', .string s, .int .i64 ((a' : Nat)), .int .i64 ((nextW s (a') : Nat)), .int .i64 code'] 60), rowl pnCells w0.heap.size 47 4 (.slice B' (o').length bc') (o'), fr] w'
end Go.Proofs.YtllblbkbglifjaaDoor
namespace Go.Proofs.YtllblbkbglifjaaDoor
open Go.RowKit Go.Cf
set_option maxRecDepth 10000
theorem bd47_0 (x1 : Int) : Tryd.prog.built 47 [(0, .int .i64 x1)] = some #[.int .i64 x1, .int .i64 0, .int .i64 0, .int .i64 0] := by kernel_rfl
set_option maxHeartbeats 16000000 in
theorem rdFactor_step (w0 : World) (s : ByteArray) (hs : s.size ≤ 200) (hL : LaidP w0) (rg n : Nat) (hF : FacH w0 s rg n) (hLi : ListH w0 s rg n) : FacH w0 s rg (n + 1) := by
  intro w B bc code o fr a ts hfu hrs hol hM0
  have hrd : rd s.size (n + 1) 2 none ts = fac s.size (rd s.size n 2 none) (rd s.size n 0 none) ts := by rw [rd, if_pos rfl]
  refine gcallsT Tryd.func44 rfl Tryd.ntmps44 (Nat.le_of_ble_eq_true rfl) hM0 ?_
  refine gfrom [(0, .pointer (some ⟨rg, 0, none⟩))] ⟨rfl, trivial⟩ fun σ => ?_
  refine gseq fun N1 hN1 => ?_
  refine greg ?_
  refine gop (y_assign (v := .int _ _) rfl) rfl rfl rfl ?_
  refine gop (y_assign (v := .bool _) rfl) rfl rfl rfl ?_
  refine gops_nil ?_
  refine hN1 _ _ ?_
  refine gfrom [(0, .pointer (some ⟨rg, 0, none⟩))] ⟨rfl, trivial⟩ fun σ => ?_
  refine gseq fun N2 hN2 => ?_
  refine gblock ?_
  refine gseq fun N3 hN3 => ?_
  refine greg ?_
  refine gop (y_move (v := .pointer (some ⟨rg, 0, none⟩)) rfl) rfl rfl rfl ?_
  refine gop_does1 0 (fun v r G => ∃ a' ts', v = .bool (decide (hd ts = wNot)) ∧ r = box rg (.cells #[.slice B (o).length bc, .string s, .int .i64 ((a' : Nat)), .int .i64 ((nextW s (a') : Nat)), .int .i64 code] 60) ∧ RS s a' ts' ∧ ts' = (if hd ts = wNot then ts.tail else ts) ∧ G = []) (e_call (vs := [.pointer (some ⟨rg, 0, none⟩), _]) Tryd.func45 rfl (by kernel_rfl) rfl) rfl (fun w fr1 hfr hM => (rdTake_any _ w rg _ _ _ s _ fr1 hs _ ts hrs _ hM).mono fun _ _ ⟨a', ts', h1, h2, h3, h4⟩ => ⟨_, _, [], h1, ⟨a', ts', rfl, rfl, h2, h3, rfl⟩, h4⟩) rfl rfl rfl ?_
  rintro _ _ _ ⟨a10, ts10, rfl, rfl, hrs10, hts10, rfl⟩
  refine gop (y_assign (v := .bool _) rfl) rfl rfl rfl ?_
  refine gops_nil ?_
  refine hN3 _ _ ?_
  refine gT [box rg _, rowl _ _ _ _ _ _, fr] rfl ?_
  refine gfrom [(0, .pointer (some ⟨rg, 0, none⟩)), (8, .bool _)] ⟨rfl, rfl, trivial⟩ fun σ => ?_
  refine gcond (b := _) rfl (fun hc8 => ?_) (fun hc8 => ?_)
  · 
    replace hc8 := of_decide_eq_true hc8
    have ht10 : ts10 = ts.tail := by rw [hts10, if_pos hc8]
    have hpl := hd_pos (ts := ts) (by rw [hc8]; decide)
    have htl10 : ts10.length + 1 = ts.length := by rw [ht10]; exact hpl
    refine gseq fun N4 hN4 => ?_
    refine greg ?_
    refine gop (y_move (v := .pointer (some ⟨rg, 0, none⟩)) rfl) rfl rfl rfl ?_
    refine gop_does2 0 1 (fun v r s1 G => ∃ x b B' bc' o' a' code', v = .tuple #[.int .i64 x, .bool b] ∧ r = box rg (.cells #[.slice B' o'.length bc', .string s, .int .i64 ((a' : Nat)), .int .i64 ((nextW s (a') : Nat)), .int .i64 code'] 60) ∧ s1 = rowl pnCells w0.heap.size 47 4 (.slice B' (o').length bc') (o') ∧ G = [] ∧ POK s (rd s.size n 2 none ts10) (o) code x b o' a' code') (e_call (vs := [.pointer (some ⟨rg, 0, none⟩)]) Tryd.func44 rfl (by kernel_rfl) rfl) rfl rfl rfl (fun w fr1 hfr hM => (hF w _ _ _ o fr1 _ ts10 (by omega) hrs10 (by omega) hM).mono fun _ _ ⟨x, b, B', bc', o', a', code', h1, h2, h3⟩ => ⟨_, _, _, [], h1, ⟨x, b, B', bc', o', a', code', rfl, rfl, rfl, rfl, h2⟩, h3⟩) rfl rfl rfl ?_
    rintro _ _ _ _ ⟨x13, b13, B13, bc13, o13, a13, code13, rfl, rfl, rfl, rfl, hp13⟩
    refine gop (y_move (v := .tuple #[.int _ _, .bool _]) rfl) rfl rfl rfl ?_
    refine gop (y_extract (v := .int _ _) rfl rfl) rfl rfl rfl ?_
    refine gop (y_extract (v := .bool _) rfl rfl) rfl rfl rfl ?_
    refine gop (y_assign (v := .int _ _) rfl) rfl rfl rfl ?_
    refine gop (y_assign (v := .bool _) rfl) rfl rfl rfl ?_
    refine gops_nil ?_
    refine hN4 _ _ ?_
    refine gT [box rg _, rowl _ _ _ _ _ _, fr] rfl ?_
    refine gfrom [(0, .pointer (some ⟨rg, 0, none⟩)), (4, .int _ _), (5, .bool _)] ⟨rfl, rfl, rfl, trivial⟩ fun σ => ?_
    refine gseq fun N5 hN5 => ?_
    refine gseq fun N6 hN6 => ?_
    refine greg ?_
    refine gop (y_move (v := .bool _) rfl) rfl rfl rfl ?_
    refine gop (y_not rfl) rfl rfl rfl ?_
    refine gops_nil ?_
    refine hN6 _ _ ?_
    refine gfrom [(0, .pointer (some ⟨rg, 0, none⟩)), (4, .int _ _), (17, .bool _)] ⟨rfl, rfl, rfl, trivial⟩ fun σ => ?_
    refine gcond (b := _) rfl (fun hc17 => ?_) (fun hc17 => ?_)
    · 
      replace hc17 := not_t hc17
      have hb13 : b13 = false := by simpa using hc17
      obtain ⟨hR13, ho13⟩ := pok_no hp13 hb13
      refine gseq fun N7 hN7 => ?_
      refine greg ?_
      refine gop (y_assign (v := .int _ _) rfl) rfl rfl rfl ?_
      refine gop (y_assign (v := .bool _) rfl) rfl rfl rfl ?_
      refine gops_nil ?_
      refine hN7 _ _ ?_
      refine gfrom [(2, .int _ _), (3, .bool _)] ⟨rfl, rfl, trivial⟩ fun σ => ?_
      refine gret fun w1 hM => ?_
      refine ⟨_, res2 rfl (rt (v := .int _ _) rfl) (rt (v := .bool _) rfl), ?_⟩
      have hR : rd s.size (n + 1) 2 none ts = .bad code13 a13 := by rw [hrd, fac, if_pos hc8, ← ht10, hR13]; rfl
      exact ⟨_, _, _, _, _, _, _, rfl, pok_bad hR ho13, weak_take (T' := [_, _, fr]) rfl _ hM⟩
    · 
      replace hc17 := not_f hc17
      obtain ⟨t13, us13, hR13, hx13, ho13, hrt13, hcd13⟩ := pok_yes hp13 (by first | assumption | simpa using hc17)
      have hsz13 : t13.size + us13.length ≤ ts10.length := (rd_ok s.size n 2 none ts10 t13 us13 (fun _ h => by cases h) hR13).2
      subst hx13
      subst ho13
      obtain rfl : code = code13 := hcd13.symm
      refine gskip ?_
      refine hN5 _ _ ?_
      refine gfrom [(0, .pointer (some ⟨rg, 0, none⟩)), (4, .int _ _)] ⟨rfl, rfl, trivial⟩ fun σ => ?_
      refine gseq fun N8 hN8 => ?_
      refine greg ?_
      refine gop (y_move (v := .pointer (some ⟨rg, 0, none⟩)) rfl) rfl rfl rfl ?_
      refine gop (y_nilCheck rfl) rfl rfl rfl ?_
      refine gop (y_fieldAddr_box fa60_0 rfl) rfl rfl rfl ?_
      refine gop (y_move (v := .int _ _) rfl) rfl rfl rfl ?_
      refine gop (y_build (vs := [(0, _), (2, .int _ _)]) (cells := #[_, .int .i64 0, _, .int .i64 0]) rfl (bd47_0_2 _ _)) rfl rfl rfl ?_
      refine gop_does2 0 1 (fun v r s1 G => ∃ B' bc', v = .int .i64 ((o ++ post t13 o.length).length : Nat) ∧ r = box rg (.cells #[.slice B' (o ++ post t13 o.length ++ [(⟨5, 0, ((o.length + t13.size : Nat) : Int) - 1, 0⟩ : PN)]).length bc', .string s, .int .i64 ((a13 : Nat)), .int .i64 ((nextW s (a13) : Nat)), .int .i64 code] 60) ∧ s1 = rowl pnCells w0.heap.size 47 4 (.slice B' (o ++ post t13 o.length ++ [(⟨5, 0, ((o.length + t13.size : Nat) : Int) - 1, 0⟩ : PN)]).length bc') (o ++ post t13 o.length ++ [(⟨5, 0, ((o.length + t13.size : Nat) : Int) - 1, 0⟩ : PN)]) ∧ G = []) (e_call (vs := [.pointer _, .agg #[_, _, _, _]]) Tryd.func41 rfl (by kernel_rfl) rfl) rfl rfl rfl (fun w fr1 hfr hM => (polAdd5_any _ w rg _ _ s _ _ _ (o ++ post t13 o.length) fr1 hM (by rw [app_len]; omega) ((⟨5, 0, ((o.length + t13.size : Nat) : Int) - 1, 0⟩ : PN))).mono fun _ _ ⟨B', bc', h1, h2⟩ => ⟨_, _, _, [], h1, ⟨B', bc', rfl, rfl, rfl, rfl⟩, h2⟩) rfl rfl rfl ?_
      rintro _ _ _ _ ⟨B23, bc23, rfl, rfl, rfl, rfl⟩
      refine gop (y_assign (v := .int _ _) rfl) rfl rfl rfl ?_
      refine gop (y_assign (v := .bool _) rfl) rfl rfl rfl ?_
      refine gops_nil ?_
      refine hN8 _ _ ?_
      refine gT [box rg _, rowl _ _ _ _ _ _, fr] rfl ?_
      refine gfrom [(2, .int _ _), (3, .bool _)] ⟨rfl, rfl, trivial⟩ fun σ => ?_
      refine gret fun w1 hM => ?_
      refine ⟨_, res2 rfl (rt (v := .int _ _) rfl) (rt (v := .bool _) rfl), ?_⟩
      have hR : rd s.size (n + 1) 2 none ts = .ok (.neg t13) us13 := by rw [hrd, fac, if_pos hc8, ← ht10, hR13]; rfl
      exact ⟨_, _, B23, bc23, _, _, _, rfl, pok_ok hR (by rw [app_len, size_neg]; omega) (post_neg_app o t13) hrt13, weak_take (T' := [_, _, fr]) rfl _ hM⟩
  · 
    replace hc8 := of_decide_eq_false hc8
    obtain rfl : ts = ts10 := by rw [hts10, if_neg hc8]
    obtain rfl : a = a10 := by rw [← hrs.pos, ← hrs10.pos]
    refine gseq fun N9 hN9 => ?_
    refine greg ?_
    refine gop (y_move (v := .pointer (some ⟨rg, 0, none⟩)) rfl) rfl rfl rfl ?_
    refine gop_does1 0 (fun v r G => ∃ a' ts', v = .bool (decide (hd ts = wL)) ∧ r = box rg (.cells #[.slice B (o).length bc, .string s, .int .i64 ((a' : Nat)), .int .i64 ((nextW s (a') : Nat)), .int .i64 code] 60) ∧ RS s a' ts' ∧ ts' = (if hd ts = wL then ts.tail else ts) ∧ G = []) (e_call (vs := [.pointer (some ⟨rg, 0, none⟩), _]) Tryd.func45 rfl (by kernel_rfl) rfl) rfl (fun w fr1 hfr hM => (rdTake_any _ w rg _ _ _ s _ fr1 hs _ ts hrs _ hM).mono fun _ _ ⟨a', ts', h1, h2, h3, h4⟩ => ⟨_, _, [], h1, ⟨a', ts', rfl, rfl, h2, h3, rfl⟩, h4⟩) rfl rfl rfl ?_
    rintro _ _ _ ⟨a26, ts26, rfl, rfl, hrs26, hts26, rfl⟩
    refine gop (y_assign (v := .bool _) rfl) rfl rfl rfl ?_
    refine gops_nil ?_
    refine hN9 _ _ ?_
    refine gT [box rg _, rowl _ _ _ _ _ _, fr] rfl ?_
    refine gfrom [(0, .pointer (some ⟨rg, 0, none⟩)), (24, .bool _)] ⟨rfl, rfl, trivial⟩ fun σ => ?_
    refine gcond (b := _) rfl (fun hc24 => ?_) (fun hc24 => ?_)
    · 
      replace hc24 := of_decide_eq_true hc24
      have ht26 : ts26 = ts.tail := by rw [hts26, if_pos hc24]
      have hpl := hd_pos (ts := ts) (by rw [hc24]; decide)
      have htl26 : ts26.length + 1 = ts.length := by rw [ht26]; exact hpl
      refine gseq fun N10 hN10 => ?_
      refine greg ?_
      refine gop (y_move (v := .pointer (some ⟨rg, 0, none⟩)) rfl) rfl rfl rfl ?_
      refine gop_does2 0 1 (fun v r s1 G => ∃ x b B' bc' o' a' code', v = .tuple #[.int .i64 x, .bool b] ∧ r = box rg (.cells #[.slice B' o'.length bc', .string s, .int .i64 ((a' : Nat)), .int .i64 ((nextW s (a') : Nat)), .int .i64 code'] 60) ∧ s1 = rowl pnCells w0.heap.size 47 4 (.slice B' (o').length bc') (o') ∧ G = [] ∧ POK s (rd s.size n 0 none ts26) (o) code x b o' a' code') (e_call (vs := [.pointer (some ⟨rg, 0, none⟩), _]) Tryd.func31 rfl (by kernel_rfl) rfl) rfl rfl rfl (fun w fr1 hfr hM => (hLi 0 _ w _ _ _ o fr1 _ ts26 (by omega) rfl (by omega) hrs26 (by omega) hM).mono fun _ _ ⟨x, b, B', bc', o', a', code', h1, h2, h3⟩ => ⟨_, _, _, [], h1, ⟨x, b, B', bc', o', a', code', rfl, rfl, rfl, rfl, h2⟩, h3⟩) rfl rfl rfl ?_
      rintro _ _ _ _ ⟨x29, b29, B29, bc29, o29, a29, code29, rfl, rfl, rfl, rfl, hp29⟩
      refine gop (y_move (v := .tuple #[.int _ _, .bool _]) rfl) rfl rfl rfl ?_
      refine gop (y_extract (v := .int _ _) rfl rfl) rfl rfl rfl ?_
      refine gop (y_extract (v := .bool _) rfl rfl) rfl rfl rfl ?_
      refine gop (y_assign (v := .int _ _) rfl) rfl rfl rfl ?_
      refine gop (y_assign (v := .bool _) rfl) rfl rfl rfl ?_
      refine gops_nil ?_
      refine hN10 _ _ ?_
      refine gT [box rg _, rowl _ _ _ _ _ _, fr] rfl ?_
      refine gfrom [(0, .pointer (some ⟨rg, 0, none⟩)), (6, .int _ _), (7, .bool _)] ⟨rfl, rfl, rfl, trivial⟩ fun σ => ?_
      refine gseq fun N11 hN11 => ?_
      refine gseq fun N12 hN12 => ?_
      refine greg ?_
      refine gop (y_move (v := .bool _) rfl) rfl rfl rfl ?_
      refine gop (y_move (v := .bool _) rfl) rfl rfl rfl ?_
      refine gop_if (want := true) rfl rfl rfl rfl rfl rfl (fun hg33 => ?_) (fun hg33 => ?_)
      · 
        have hg33d := hg33
        obtain ⟨t29, us29, hR29, hx29, ho29, hrt29, hcd29⟩ := pok_yes hp29 (by first | assumption | simpa using hg33d)
        have hsz29 : t29.size + us29.length ≤ ts26.length := (rd_ok s.size n 0 none ts26 t29 us29 (fun _ h => by cases h) hR29).2
        subst hx29
        subst ho29
        obtain rfl : code = code29 := hcd29.symm
        refine gop (y_bare (y_move (v := .pointer (some ⟨rg, 0, none⟩)) rfl)) rfl rfl rfl ?_
        refine gop_on rfl rfl rfl rfl hg33 ?_
        refine gop_does1 0 (fun v r G => ∃ a' ts', v = .bool (decide (hd us29 = wR)) ∧ r = box rg (.cells #[.slice B29 (o ++ post t29 o.length).length bc29, .string s, .int .i64 ((a' : Nat)), .int .i64 ((nextW s (a') : Nat)), .int .i64 code] 60) ∧ RS s a' ts' ∧ ts' = (if hd us29 = wR then us29.tail else us29) ∧ G = []) (e_call (vs := [.pointer (some ⟨rg, 0, none⟩), _]) Tryd.func45 rfl (by kernel_rfl) rfl) rfl (fun w fr1 hfr hM => (rdTake_any _ w rg _ _ _ s _ fr1 hs _ us29 hrt29 _ hM).mono fun _ _ ⟨a', ts', h1, h2, h3, h4⟩ => ⟨_, _, [], h1, ⟨a', ts', rfl, rfl, h2, h3, rfl⟩, h4⟩) rfl rfl rfl ?_
        rintro _ _ _ ⟨a35, ts35, rfl, rfl, hrs35, hts35, rfl⟩
        refine gop_on rfl rfl rfl rfl hg33 ?_
        refine gop (y_bare (y_not rfl)) rfl rfl rfl ?_
        refine gop (y_pick_t (v := .bool _) rfl hg33 rfl) rfl rfl rfl ?_
        refine gops_nil ?_
        refine hN12 _ _ ?_
        refine gT [box rg _, rowl _ _ _ _ _ _, fr] rfl ?_
        refine gfrom [(0, .pointer (some ⟨rg, 0, none⟩)), (6, .int _ _), (7, .bool _), (37, .bool _)] ⟨rfl, rfl, rfl, rfl, trivial⟩ fun σ => ?_
        refine gcond (b := _) rfl (fun hc37 => ?_) (fun hc37 => ?_)
        · 
          replace hc37 := not_t hc37
          have hw : ¬ hd us29 = wR := by simpa using hc37
          obtain rfl : us29 = ts35 := by rw [hts35, if_neg hw]
          obtain rfl : a29 = a35 := by rw [← hrt29.pos, ← hrs35.pos]
          refine gseq fun N13 hN13 => ?_
          refine greg ?_
          refine gop (y_move (v := .pointer (some ⟨rg, 0, none⟩)) rfl) rfl rfl rfl ?_
          refine gop_does1 0 (fun v r G => v = .tuple #[.int .i64 0, .bool false] ∧ r = box rg (.cells #[.slice B29 (o ++ post t29 o.length).length bc29, .string s, .int .i64 ((a29 : Nat)), .int .i64 ((nextW s (a29) : Nat)), .int .i64 1] 60) ∧ G = []) (e_call (vs := [.pointer (some ⟨rg, 0, none⟩), _]) Tryd.func32 rfl (by kernel_rfl) rfl) rfl (fun w fr1 hfr hM => (rdFail_any _ w rg _ _ _ s _ _ _ fr1 1 hM).mono fun _ _ ⟨h1, h2⟩ => ⟨_, _, [], h1, ⟨rfl, rfl, rfl⟩, h2⟩) rfl rfl rfl ?_
          rintro _ _ _ ⟨rfl, rfl, rfl⟩
          refine gop (y_extract (v := .int _ _) rfl rfl) rfl rfl rfl ?_
          refine gop (y_extract (v := .bool _) rfl rfl) rfl rfl rfl ?_
          refine gop (y_assign (v := .int _ _) rfl) rfl rfl rfl ?_
          refine gop (y_assign (v := .bool _) rfl) rfl rfl rfl ?_
          refine gops_nil ?_
          refine hN13 _ _ ?_
          refine gT [box rg _, rowl _ _ _ _ _ _, fr] rfl ?_
          refine gfrom [(2, .int _ _), (3, .bool _)] ⟨rfl, rfl, trivial⟩ fun σ => ?_
          refine gret fun w1 hM => ?_
          refine ⟨_, res2 rfl (rt (v := .int _ _) rfl) (rt (v := .bool _) rfl), ?_⟩
          have hR : rd s.size (n + 1) 2 none ts = .bad 1 a29 := by
            rw [hrd, fac, if_neg hc8, if_pos hc24, ← ht26, hR29]
            show (if hd us29 = wR then _ else Res.bad 1 (pos s.size us29)) = _
            rw [if_neg hw, hrt29.pos]
          exact ⟨_, _, _, _, _, _, _, rfl, pok_bad hR (by rw [app_len]; omega), weak_take (T' := [_, _, fr]) rfl _ hM⟩
        · 
          replace hc37 := not_f hc37
          refine gskip ?_
          refine hN11 _ _ ?_
          refine gfrom [(6, .int _ _), (7, .bool _)] ⟨rfl, rfl, trivial⟩ fun σ => ?_
          refine gseq fun N14 hN14 => ?_
          refine greg ?_
          refine gop (y_move (v := .int _ _) rfl) rfl rfl rfl ?_
          refine gop (y_move (v := .bool _) rfl) rfl rfl rfl ?_
          refine gop (y_assign (v := .int _ _) rfl) rfl rfl rfl ?_
          refine gop (y_assign (v := .bool _) rfl) rfl rfl rfl ?_
          refine gops_nil ?_
          refine hN14 _ _ ?_
          refine gfrom [(2, .int _ _), (3, .bool _)] ⟨rfl, rfl, trivial⟩ fun σ => ?_
          refine gret fun w1 hM => ?_
          refine ⟨_, res2 rfl (rt (v := .int _ _) rfl) (rt (v := .bool _) rfl), ?_⟩
          first
          | (have hw : hd us29 = wR := by simpa using hc37
             have hR : rd s.size (n + 1) 2 none ts = .ok t29 ts35 := by
               rw [hrd, fac, if_neg hc8, if_pos hc24, ← ht26, hR29]
               show (if hd us29 = wR then Res.ok t29 us29.tail else _) = _
               rw [if_pos hw, hts35, if_pos hw]
             exact ⟨_, _, B29, bc29, _, _, _, rfl, pok_ok2 (by assumption) hR rfl rfl hrs35, weak_take (T' := [_, _, fr]) rfl _ hM⟩)
          | (obtain ⟨hR29, ho29⟩ := pok_no hp29 (by assumption)
             have hR : rd s.size (n + 1) 2 none ts = .bad code29 a29 := by rw [hrd, fac, if_neg hc8, if_pos hc24, ← ht26, hR29]; rfl
             exact ⟨_, _, _, _, _, _, _, rfl, pok_bad2 (by assumption) hR ho29, weak_take (T' := [_, _, fr]) rfl _ hM⟩)
      · 
        have hg33d := hg33
        refine gop_off rfl rfl rfl rfl hg33 rfl rfl ?_
        refine gop_off rfl rfl rfl rfl hg33 rfl rfl ?_
        refine gop (y_pick_f (v := .bool _) rfl hg33 rfl) rfl rfl rfl ?_
        refine gops_nil ?_
        refine hN12 _ _ ?_
        refine gfrom [(0, .pointer (some ⟨rg, 0, none⟩)), (6, .int _ _), (7, .bool _), (37, .bool _)] ⟨rfl, rfl, rfl, rfl, trivial⟩ fun σ => ?_
        refine gcond (b := _) rfl (fun hc37 => ?_) (fun hc37 => ?_)
        · 
          cases hc37
        · 
          refine gskip ?_
          refine hN11 _ _ ?_
          refine gfrom [(6, .int _ _), (7, .bool _)] ⟨rfl, rfl, trivial⟩ fun σ => ?_
          refine gseq fun N15 hN15 => ?_
          refine greg ?_
          refine gop (y_move (v := .int _ _) rfl) rfl rfl rfl ?_
          refine gop (y_move (v := .bool _) rfl) rfl rfl rfl ?_
          refine gop (y_assign (v := .int _ _) rfl) rfl rfl rfl ?_
          refine gop (y_assign (v := .bool _) rfl) rfl rfl rfl ?_
          refine gops_nil ?_
          refine hN15 _ _ ?_
          refine gfrom [(2, .int _ _), (3, .bool _)] ⟨rfl, rfl, trivial⟩ fun σ => ?_
          refine gret fun w1 hM => ?_
          refine ⟨_, res2 rfl (rt (v := .int _ _) rfl) (rt (v := .bool _) rfl), ?_⟩
          first
          | (have hw : hd us29 = wR := by simpa using hc37
             have hR : rd s.size (n + 1) 2 none ts = .ok t29 ts35 := by
               rw [hrd, fac, if_neg hc8, if_pos hc24, ← ht26, hR29]
               show (if hd us29 = wR then Res.ok t29 us29.tail else _) = _
               rw [if_pos hw, hts35, if_pos hw]
             exact ⟨_, _, B29, bc29, _, _, _, rfl, pok_ok2 (by assumption) hR rfl rfl hrs35, weak_take (T' := [_, _, fr]) rfl _ hM⟩)
          | (obtain ⟨hR29, ho29⟩ := pok_no hp29 (by assumption)
             have hR : rd s.size (n + 1) 2 none ts = .bad code29 a29 := by rw [hrd, fac, if_neg hc8, if_pos hc24, ← ht26, hR29]; rfl
             exact ⟨_, _, _, _, _, _, _, rfl, pok_bad2 (by assumption) hR ho29, weak_take (T' := [_, _, fr]) rfl _ hM⟩)
    · 
      replace hc24 := of_decide_eq_false hc24
      obtain rfl : ts = ts26 := by rw [hts26, if_neg hc24]
      obtain rfl : a = a26 := by rw [← hrs.pos, ← hrs26.pos]
      refine gseq fun N16 hN16 => ?_
      refine greg ?_
      refine gop (y_move (v := .pointer (some ⟨rg, 0, none⟩)) rfl) rfl rfl rfl ?_
      refine gop_does1 0 (fun v r G => ∃ a' ts', v = .bool (decide (hd ts = wScore)) ∧ r = box rg (.cells #[.slice B (o).length bc, .string s, .int .i64 ((a' : Nat)), .int .i64 ((nextW s (a') : Nat)), .int .i64 code] 60) ∧ RS s a' ts' ∧ ts' = (if hd ts = wScore then ts.tail else ts) ∧ G = []) (e_call (vs := [.pointer (some ⟨rg, 0, none⟩), _]) Tryd.func45 rfl (by kernel_rfl) rfl) rfl (fun w fr1 hfr hM => (rdTake_any _ w rg _ _ _ s _ fr1 hs _ ts hrs _ hM).mono fun _ _ ⟨a', ts', h1, h2, h3, h4⟩ => ⟨_, _, [], h1, ⟨a', ts', rfl, rfl, h2, h3, rfl⟩, h4⟩) rfl rfl rfl ?_
      rintro _ _ _ ⟨a46, ts46, rfl, rfl, hrs46, hts46, rfl⟩
      refine gop (y_assign (v := .bool _) rfl) rfl rfl rfl ?_
      refine gops_nil ?_
      refine hN16 _ _ ?_
      refine gT [box rg _, rowl _ _ _ _ _ _, fr] rfl ?_
      refine gfrom [(0, .pointer (some ⟨rg, 0, none⟩)), (44, .bool _)] ⟨rfl, rfl, trivial⟩ fun σ => ?_
      refine gcond (b := _) rfl (fun hc44 => ?_) (fun hc44 => ?_)
      · 
        replace hc44 := of_decide_eq_true hc44
        have ht46 : ts46 = ts.tail := by rw [hts46, if_pos hc44]
        have hpl := hd_pos (ts := ts) (by rw [hc44]; decide)
        have htl46 : ts46.length + 1 = ts.length := by rw [ht46]; exact hpl
        refine gseq fun N17 hN17 => ?_
        refine greg ?_
        refine gop (y_move (v := .pointer (some ⟨rg, 0, none⟩)) rfl) rfl rfl rfl ?_
        refine gop_does2 0 1 (fun v r s1 G => ∃ x b B' bc' o' a' code', v = .tuple #[.int .i64 x, .bool b] ∧ r = box rg (.cells #[.slice B' o'.length bc', .string s, .int .i64 ((a' : Nat)), .int .i64 ((nextW s (a') : Nat)), .int .i64 code'] 60) ∧ s1 = rowl pnCells w0.heap.size 47 4 (.slice B' (o').length bc') (o') ∧ G = [] ∧ POK s (numR s.size 1 ts46) (o) code x b o' a' code') (e_call (vs := [.pointer (some ⟨rg, 0, none⟩), _]) Tryd.func48 rfl (by kernel_rfl) rfl) rfl rfl rfl (fun w fr1 hfr hM => (rdNumber_any _ w rg _ _ s _ o fr1 hs _ ts46 hrs46 _ (by omega) hL hM).mono fun _ _ ⟨x, b, B', bc', o', a', code', h1, h2, h3⟩ => ⟨_, _, _, [], h1, ⟨x, b, B', bc', o', a', code', rfl, rfl, rfl, rfl, h2⟩, h3⟩) rfl rfl rfl ?_
        rintro _ _ _ _ ⟨x48, b48, B48, bc48, o48, a48, code48, rfl, rfl, rfl, rfl, hp48⟩
        refine gop (y_extract (v := .int _ _) rfl rfl) rfl rfl rfl ?_
        refine gop (y_extract (v := .bool _) rfl rfl) rfl rfl rfl ?_
        refine gop (y_assign (v := .int _ _) rfl) rfl rfl rfl ?_
        refine gop (y_assign (v := .bool _) rfl) rfl rfl rfl ?_
        refine gops_nil ?_
        refine hN17 _ _ ?_
        refine gT [box rg _, rowl _ _ _ _ _ _, fr] rfl ?_
        refine gfrom [(2, .int _ _), (3, .bool _)] ⟨rfl, rfl, trivial⟩ fun σ => ?_
        refine gret fun w1 hM => ?_
        refine ⟨_, res2 rfl (rt (v := .int _ _) rfl) (rt (v := .bool _) rfl), ?_⟩
        have hR : rd s.size (n + 1) 2 none ts = numR s.size 1 ts46 := by rw [hrd, fac, if_neg hc8, if_neg hc24, if_pos hc44, ht46]
        exact ⟨x48, b48, B48, bc48, o48, a48, code48, rfl, by rw [hR]; exact hp48, weak_take (T' := [_, _, fr]) rfl _ hM⟩
      · 
        replace hc44 := of_decide_eq_false hc44
        obtain rfl : ts = ts46 := by rw [hts46, if_neg hc44]
        obtain rfl : a = a46 := by rw [← hrs.pos, ← hrs46.pos]
        refine gseq fun N18 hN18 => ?_
        refine greg ?_
        refine gop (y_move (v := .pointer (some ⟨rg, 0, none⟩)) rfl) rfl rfl rfl ?_
        refine gop_does1 0 (fun v r G => ∃ a' ts', v = .bool (decide (hd ts = wUser)) ∧ r = box rg (.cells #[.slice B (o).length bc, .string s, .int .i64 ((a' : Nat)), .int .i64 ((nextW s (a') : Nat)), .int .i64 code] 60) ∧ RS s a' ts' ∧ ts' = (if hd ts = wUser then ts.tail else ts) ∧ G = []) (e_call (vs := [.pointer (some ⟨rg, 0, none⟩), _]) Tryd.func45 rfl (by kernel_rfl) rfl) rfl (fun w fr1 hfr hM => (rdTake_any _ w rg _ _ _ s _ fr1 hs _ ts hrs _ hM).mono fun _ _ ⟨a', ts', h1, h2, h3, h4⟩ => ⟨_, _, [], h1, ⟨a', ts', rfl, rfl, h2, h3, rfl⟩, h4⟩) rfl rfl rfl ?_
        rintro _ _ _ ⟨a53, ts53, rfl, rfl, hrs53, hts53, rfl⟩
        refine gop (y_assign (v := .bool _) rfl) rfl rfl rfl ?_
        refine gops_nil ?_
        refine hN18 _ _ ?_
        refine gT [box rg _, rowl _ _ _ _ _ _, fr] rfl ?_
        refine gfrom [(0, .pointer (some ⟨rg, 0, none⟩)), (51, .bool _)] ⟨rfl, rfl, trivial⟩ fun σ => ?_
        refine gcond (b := _) rfl (fun hc51 => ?_) (fun hc51 => ?_)
        · 
          replace hc51 := of_decide_eq_true hc51
          have ht53 : ts53 = ts.tail := by rw [hts53, if_pos hc51]
          have hpl := hd_pos (ts := ts) (by rw [hc51]; decide)
          have htl53 : ts53.length + 1 = ts.length := by rw [ht53]; exact hpl
          refine gseq fun N19 hN19 => ?_
          refine greg ?_
          refine gop (y_move (v := .pointer (some ⟨rg, 0, none⟩)) rfl) rfl rfl rfl ?_
          refine gop_does2 0 1 (fun v r s1 G => ∃ x b B' bc' o' a' code', v = .tuple #[.int .i64 x, .bool b] ∧ r = box rg (.cells #[.slice B' o'.length bc', .string s, .int .i64 ((a' : Nat)), .int .i64 ((nextW s (a') : Nat)), .int .i64 code'] 60) ∧ s1 = rowl pnCells w0.heap.size 47 4 (.slice B' (o').length bc') (o') ∧ G = [] ∧ POK s (numR s.size 4 ts53) (o) code x b o' a' code') (e_call (vs := [.pointer (some ⟨rg, 0, none⟩), _]) Tryd.func48 rfl (by kernel_rfl) rfl) rfl rfl rfl (fun w fr1 hfr hM => (rdNumber_any _ w rg _ _ s _ o fr1 hs _ ts53 hrs53 _ (by omega) hL hM).mono fun _ _ ⟨x, b, B', bc', o', a', code', h1, h2, h3⟩ => ⟨_, _, _, [], h1, ⟨x, b, B', bc', o', a', code', rfl, rfl, rfl, rfl, h2⟩, h3⟩) rfl rfl rfl ?_
          rintro _ _ _ _ ⟨x55, b55, B55, bc55, o55, a55, code55, rfl, rfl, rfl, rfl, hp55⟩
          refine gop (y_extract (v := .int _ _) rfl rfl) rfl rfl rfl ?_
          refine gop (y_extract (v := .bool _) rfl rfl) rfl rfl rfl ?_
          refine gop (y_assign (v := .int _ _) rfl) rfl rfl rfl ?_
          refine gop (y_assign (v := .bool _) rfl) rfl rfl rfl ?_
          refine gops_nil ?_
          refine hN19 _ _ ?_
          refine gT [box rg _, rowl _ _ _ _ _ _, fr] rfl ?_
          refine gfrom [(2, .int _ _), (3, .bool _)] ⟨rfl, rfl, trivial⟩ fun σ => ?_
          refine gret fun w1 hM => ?_
          refine ⟨_, res2 rfl (rt (v := .int _ _) rfl) (rt (v := .bool _) rfl), ?_⟩
          have hR : rd s.size (n + 1) 2 none ts = numR s.size 4 ts53 := by rw [hrd, fac, if_neg hc8, if_neg hc24, if_neg hc44, if_pos hc51, ht53]
          exact ⟨x55, b55, B55, bc55, o55, a55, code55, rfl, by rw [hR]; exact hp55, weak_take (T' := [_, _, fr]) rfl _ hM⟩
        · 
          replace hc51 := of_decide_eq_false hc51
          obtain rfl : ts = ts53 := by rw [hts53, if_neg hc51]
          obtain rfl : a = a53 := by rw [← hrs.pos, ← hrs53.pos]
          refine gseq fun N20 hN20 => ?_
          refine greg ?_
          refine gop (y_move (v := .pointer (some ⟨rg, 0, none⟩)) rfl) rfl rfl rfl ?_
          refine gop_does1 0 (fun v r G => ∃ a' ts', v = .bool (decide (hd ts = wOwners)) ∧ r = box rg (.cells #[.slice B (o).length bc, .string s, .int .i64 ((a' : Nat)), .int .i64 ((nextW s (a') : Nat)), .int .i64 code] 60) ∧ RS s a' ts' ∧ ts' = (if hd ts = wOwners then ts.tail else ts) ∧ G = []) (e_call (vs := [.pointer (some ⟨rg, 0, none⟩), _]) Tryd.func45 rfl (by kernel_rfl) rfl) rfl (fun w fr1 hfr hM => (rdTake_any _ w rg _ _ _ s _ fr1 hs _ ts hrs _ hM).mono fun _ _ ⟨a', ts', h1, h2, h3, h4⟩ => ⟨_, _, [], h1, ⟨a', ts', rfl, rfl, h2, h3, rfl⟩, h4⟩) rfl rfl rfl ?_
          rintro _ _ _ ⟨a60, ts60, rfl, rfl, hrs60, hts60, rfl⟩
          refine gop (y_assign (v := .bool _) rfl) rfl rfl rfl ?_
          refine gops_nil ?_
          refine hN20 _ _ ?_
          refine gT [box rg _, rowl _ _ _ _ _ _, fr] rfl ?_
          refine gfrom [(0, .pointer (some ⟨rg, 0, none⟩)), (58, .bool _)] ⟨rfl, rfl, trivial⟩ fun σ => ?_
          refine gcond (b := _) rfl (fun hc58 => ?_) (fun hc58 => ?_)
          · 
            replace hc58 := of_decide_eq_true hc58
            have ht60 : ts60 = ts.tail := by rw [hts60, if_pos hc58]
            have hpl := hd_pos (ts := ts) (by rw [hc58]; decide)
            have htl60 : ts60.length + 1 = ts.length := by rw [ht60]; exact hpl
            refine gseq fun N21 hN21 => ?_
            refine greg ?_
            refine gop (y_move (v := .pointer (some ⟨rg, 0, none⟩)) rfl) rfl rfl rfl ?_
            refine gop (y_nilCheck rfl) rfl rfl rfl ?_
            refine gop (y_fieldAddr_box fa60_0 rfl) rfl rfl rfl ?_
            refine gop (y_build (vs := [(0, _)]) (cells := #[_, .int .i64 0, .int .i64 0, .int .i64 0]) rfl (bd47_0 _)) rfl rfl rfl ?_
            refine gop_does2 0 1 (fun v r s1 G => ∃ B' bc', v = .int .i64 ((o).length : Nat) ∧ r = box rg (.cells #[.slice B' (o ++ [(⟨2, 0, 0, 0⟩ : PN)]).length bc', .string s, .int .i64 ((a60 : Nat)), .int .i64 ((nextW s (a60) : Nat)), .int .i64 code] 60) ∧ s1 = rowl pnCells w0.heap.size 47 4 (.slice B' (o ++ [(⟨2, 0, 0, 0⟩ : PN)]).length bc') (o ++ [(⟨2, 0, 0, 0⟩ : PN)]) ∧ G = []) (e_call (vs := [.pointer _, .agg #[_, _, _, _]]) Tryd.func41 rfl (by kernel_rfl) rfl) rfl rfl rfl (fun w fr1 hfr hM => (polAdd5_any _ w rg _ _ s _ _ _ (o) fr1 hM (by omega) ((⟨2, 0, 0, 0⟩ : PN))).mono fun _ _ ⟨B', bc', h1, h2⟩ => ⟨_, _, _, [], h1, ⟨B', bc', rfl, rfl, rfl, rfl⟩, h2⟩) rfl rfl rfl ?_
            rintro _ _ _ _ ⟨B65, bc65, rfl, rfl, rfl, rfl⟩
            refine gop (y_assign (v := .int _ _) rfl) rfl rfl rfl ?_
            refine gop (y_assign (v := .bool _) rfl) rfl rfl rfl ?_
            refine gops_nil ?_
            refine hN21 _ _ ?_
            refine gT [box rg _, rowl _ _ _ _ _ _, fr] rfl ?_
            refine gfrom [(2, .int _ _), (3, .bool _)] ⟨rfl, rfl, trivial⟩ fun σ => ?_
            refine gret fun w1 hM => ?_
            refine ⟨_, res2 rfl (rt (v := .int _ _) rfl) (rt (v := .bool _) rfl), ?_⟩
            have hR : rd s.size (n + 1) 2 none ts = .ok (.leaf 2 0) ts60 := by rw [hrd, fac, if_neg hc8, if_neg hc24, if_neg hc44, if_neg hc51, if_pos hc58, ht60]
            exact ⟨_, _, B65, bc65, _, _, _, rfl, pok_ok hR (by simp only [Tr.size]; omega) rfl hrs60, weak_take (T' := [_, _, fr]) rfl _ hM⟩
          · 
            replace hc58 := of_decide_eq_false hc58
            obtain rfl : ts = ts60 := by rw [hts60, if_neg hc58]
            obtain rfl : a = a60 := by rw [← hrs.pos, ← hrs60.pos]
            refine gseq fun N22 hN22 => ?_
            refine greg ?_
            refine gop (y_move (v := .pointer (some ⟨rg, 0, none⟩)) rfl) rfl rfl rfl ?_
            refine gop_does1 0 (fun v r G => ∃ a' ts', v = .bool (decide (hd ts = wTests)) ∧ r = box rg (.cells #[.slice B (o).length bc, .string s, .int .i64 ((a' : Nat)), .int .i64 ((nextW s (a') : Nat)), .int .i64 code] 60) ∧ RS s a' ts' ∧ ts' = (if hd ts = wTests then ts.tail else ts) ∧ G = []) (e_call (vs := [.pointer (some ⟨rg, 0, none⟩), _]) Tryd.func45 rfl (by kernel_rfl) rfl) rfl (fun w fr1 hfr hM => (rdTake_any _ w rg _ _ _ s _ fr1 hs _ ts hrs _ hM).mono fun _ _ ⟨a', ts', h1, h2, h3, h4⟩ => ⟨_, _, [], h1, ⟨a', ts', rfl, rfl, h2, h3, rfl⟩, h4⟩) rfl rfl rfl ?_
            rintro _ _ _ ⟨a68, ts68, rfl, rfl, hrs68, hts68, rfl⟩
            refine gop (y_assign (v := .bool _) rfl) rfl rfl rfl ?_
            refine gops_nil ?_
            refine hN22 _ _ ?_
            refine gT [box rg _, rowl _ _ _ _ _ _, fr] rfl ?_
            refine gfrom [(0, .pointer (some ⟨rg, 0, none⟩)), (66, .bool _)] ⟨rfl, rfl, trivial⟩ fun σ => ?_
            refine gcond (b := _) rfl (fun hc66 => ?_) (fun hc66 => ?_)
            · 
              replace hc66 := of_decide_eq_true hc66
              have ht68 : ts68 = ts.tail := by rw [hts68, if_pos hc66]
              have hpl := hd_pos (ts := ts) (by rw [hc66]; decide)
              have htl68 : ts68.length + 1 = ts.length := by rw [ht68]; exact hpl
              refine gseq fun N23 hN23 => ?_
              refine greg ?_
              refine gop (y_move (v := .pointer (some ⟨rg, 0, none⟩)) rfl) rfl rfl rfl ?_
              refine gop (y_nilCheck rfl) rfl rfl rfl ?_
              refine gop (y_fieldAddr_box fa60_0 rfl) rfl rfl rfl ?_
              refine gop (y_build (vs := [(0, _)]) (cells := #[_, .int .i64 0, .int .i64 0, .int .i64 0]) rfl (bd47_0 _)) rfl rfl rfl ?_
              refine gop_does2 0 1 (fun v r s1 G => ∃ B' bc', v = .int .i64 ((o).length : Nat) ∧ r = box rg (.cells #[.slice B' (o ++ [(⟨3, 0, 0, 0⟩ : PN)]).length bc', .string s, .int .i64 ((a68 : Nat)), .int .i64 ((nextW s (a68) : Nat)), .int .i64 code] 60) ∧ s1 = rowl pnCells w0.heap.size 47 4 (.slice B' (o ++ [(⟨3, 0, 0, 0⟩ : PN)]).length bc') (o ++ [(⟨3, 0, 0, 0⟩ : PN)]) ∧ G = []) (e_call (vs := [.pointer _, .agg #[_, _, _, _]]) Tryd.func41 rfl (by kernel_rfl) rfl) rfl rfl rfl (fun w fr1 hfr hM => (polAdd5_any _ w rg _ _ s _ _ _ (o) fr1 hM (by omega) ((⟨3, 0, 0, 0⟩ : PN))).mono fun _ _ ⟨B', bc', h1, h2⟩ => ⟨_, _, _, [], h1, ⟨B', bc', rfl, rfl, rfl, rfl⟩, h2⟩) rfl rfl rfl ?_
              rintro _ _ _ _ ⟨B73, bc73, rfl, rfl, rfl, rfl⟩
              refine gop (y_assign (v := .int _ _) rfl) rfl rfl rfl ?_
              refine gop (y_assign (v := .bool _) rfl) rfl rfl rfl ?_
              refine gops_nil ?_
              refine hN23 _ _ ?_
              refine gT [box rg _, rowl _ _ _ _ _ _, fr] rfl ?_
              refine gfrom [(2, .int _ _), (3, .bool _)] ⟨rfl, rfl, trivial⟩ fun σ => ?_
              refine gret fun w1 hM => ?_
              refine ⟨_, res2 rfl (rt (v := .int _ _) rfl) (rt (v := .bool _) rfl), ?_⟩
              have hR : rd s.size (n + 1) 2 none ts = .ok (.leaf 3 0) ts68 := by rw [hrd, fac, if_neg hc8, if_neg hc24, if_neg hc44, if_neg hc51, if_neg hc58, if_pos hc66, ht68]
              exact ⟨_, _, B73, bc73, _, _, _, rfl, pok_ok hR (by simp only [Tr.size]; omega) rfl hrs68, weak_take (T' := [_, _, fr]) rfl _ hM⟩
            · 
              replace hc66 := of_decide_eq_false hc66
              obtain rfl : ts = ts68 := by rw [hts68, if_neg hc66]
              obtain rfl : a = a68 := by rw [← hrs.pos, ← hrs68.pos]
              refine gskip ?_
              refine hN2 _ _ ?_
              refine gfrom [(0, .pointer (some ⟨rg, 0, none⟩))] ⟨rfl, trivial⟩ fun σ => ?_
              refine gseq fun N24 hN24 => ?_
              refine greg ?_
              refine gop (y_move (v := .pointer (some ⟨rg, 0, none⟩)) rfl) rfl rfl rfl ?_
              refine gop_does1 0 (fun v r G => v = .tuple #[.int .i64 0, .bool false] ∧ r = box rg (.cells #[.slice B o.length bc, .string s, .int .i64 ((a : Nat)), .int .i64 ((nextW s (a) : Nat)), .int .i64 1] 60) ∧ G = []) (e_call (vs := [.pointer (some ⟨rg, 0, none⟩), _]) Tryd.func32 rfl (by kernel_rfl) rfl) rfl (fun w fr1 hfr hM => (rdFail_any _ w rg _ _ _ s _ _ _ fr1 1 hM).mono fun _ _ ⟨h1, h2⟩ => ⟨_, _, [], h1, ⟨rfl, rfl, rfl⟩, h2⟩) rfl rfl rfl ?_
              rintro _ _ _ ⟨rfl, rfl, rfl⟩
              refine gop (y_extract (v := .int _ _) rfl rfl) rfl rfl rfl ?_
              refine gop (y_extract (v := .bool _) rfl rfl) rfl rfl rfl ?_
              refine gop (y_assign (v := .int _ _) rfl) rfl rfl rfl ?_
              refine gop (y_assign (v := .bool _) rfl) rfl rfl rfl ?_
              refine gops_nil ?_
              refine hN24 _ _ ?_
              refine gT [box rg _, rowl _ _ _ _ _ _, fr] rfl ?_
              refine gfrom [(2, .int _ _), (3, .bool _)] ⟨rfl, rfl, trivial⟩ fun σ => ?_
              refine gret fun w1 hM => ?_
              refine ⟨_, res2 rfl (rt (v := .int _ _) rfl) (rt (v := .bool _) rfl), ?_⟩
              have hR : rd s.size (n + 1) 2 none ts = .bad 1 a := by rw [hrd, fac, if_neg hc8, if_neg hc24, if_neg hc44, if_neg hc51, if_neg hc58, if_neg hc66, hrs.pos]
              exact ⟨_, _, B, bc, o, _, _, rfl, pok_bad hR (by omega), weak_take (T' := [_, _, fr]) rfl _ hM⟩
end Go.Proofs.YtllblbkbglifjaaDoor
namespace Go.Proofs.YtllblbkbglifjaaDoor
open Go.RowKit Go.Cf
set_option maxRecDepth 10000
set_option maxHeartbeats 16000000 in
theorem rdList_step (w0 : World) (s : ByteArray) (hs : s.size ≤ 200) (rg n : Nat) (hFac : FacH w0 s rg (n + 1)) (hLi : ∀ m, m ≤ n → ListH w0 s rg m) : ListH w0 s rg (n + 1) := by
  intro lv vi w B bc code o fr a ts hlv hvi hfu hrs hol hM0
  refine gcallsT Tryd.func31 rfl Tryd.ntmps31 (Nat.le_of_ble_eq_true rfl) hM0 ?_
  refine gfrom [(0, .pointer (some ⟨rg, 0, none⟩)), (1, .int _ _)] ⟨rfl, rfl, trivial⟩ fun σ => ?_
  refine gseq fun N1 hN1 => ?_
  refine greg ?_
  refine gop (y_assign (v := .int _ _) rfl) rfl rfl rfl ?_
  refine gop (y_assign (v := .bool _) rfl) rfl rfl rfl ?_
  refine gops_nil ?_
  refine hN1 _ _ ?_
  refine gfrom [(0, .pointer (some ⟨rg, 0, none⟩)), (1, .int _ _)] ⟨rfl, rfl, trivial⟩ fun σ => ?_
  refine gseq fun N2 hN2 => ?_
  refine gseq fun N3 hN3 => ?_
  refine greg ?_
  refine gop (y_move (v := .int _ _) rfl) rfl rfl rfl ?_
  refine gop (y_eql rfl rfl) rfl rfl rfl ?_
  refine gops_nil ?_
  refine hN3 _ _ ?_
  refine gfrom [(0, .pointer (some ⟨rg, 0, none⟩)), (1, .int _ _), (12, .bool _)] ⟨rfl, rfl, rfl, trivial⟩ fun σ => ?_
  refine gcond (b := _) rfl (fun hc12 => ?_) (fun hc12 => ?_)
  · 
    replace hc12 := of_decide_eq_true hc12
    obtain rfl : lv = 2 := by omega
    refine gseq fun N4 hN4 => ?_
    refine greg ?_
    refine gop (y_move (v := .pointer (some ⟨rg, 0, none⟩)) rfl) rfl rfl rfl ?_
    refine gop_does2 0 1 (fun v r s1 G => ∃ x b B' bc' o' a' code', v = .tuple #[.int .i64 x, .bool b] ∧ r = box rg (.cells #[.slice B' o'.length bc', .string s, .int .i64 ((a' : Nat)), .int .i64 ((nextW s (a') : Nat)), .int .i64 code'] 60) ∧ s1 = rowl pnCells w0.heap.size 47 4 (.slice B' (o').length bc') (o') ∧ G = [] ∧ POK s (rd s.size (n + 1) 2 none ts) (o) code x b o' a' code') (e_call (vs := [.pointer (some ⟨rg, 0, none⟩)]) Tryd.func44 rfl (by kernel_rfl) rfl) rfl rfl rfl (fun w fr1 hfr hM => (hFac w _ _ _ o fr1 _ ts (by omega) hrs (by omega) hM).mono fun _ _ ⟨x, b, B', bc', o', a', code', h1, h2, h3⟩ => ⟨_, _, _, [], h1, ⟨x, b, B', bc', o', a', code', rfl, rfl, rfl, rfl, h2⟩, h3⟩) rfl rfl rfl ?_
    rintro _ _ _ _ ⟨x14, b14, B14, bc14, o14, a14, code14, rfl, rfl, rfl, rfl, hp14⟩
    refine gop (y_extract (v := .int _ _) rfl rfl) rfl rfl rfl ?_
    refine gop (y_extract (v := .bool _) rfl rfl) rfl rfl rfl ?_
    refine gop (y_assign (v := .int _ _) rfl) rfl rfl rfl ?_
    refine gop (y_assign (v := .bool _) rfl) rfl rfl rfl ?_
    refine gops_nil ?_
    refine hN4 _ _ ?_
    refine gT [box rg _, rowl _ _ _ _ _ _, fr] rfl ?_
    refine gfrom [(4, .int _ _), (5, .bool _)] ⟨rfl, rfl, trivial⟩ fun σ => ?_
    refine gret fun w1 hM => ?_
    refine ⟨_, res2 rfl (rt (v := .int _ _) rfl) (rt (v := .bool _) rfl), ?_⟩
    exact ⟨x14, b14, B14, bc14, o14, a14, code14, rfl, hp14, weak_take (T' := [_, _, fr]) rfl _ hM⟩
  · 
    replace hc12 := of_decide_eq_false hc12
    have hlv2 : lv < 2 := by omega
    have hR0 : (rd s.size (n + 1) lv none ts) = bindR (rd s.size n (lv + 1) none ts) fun t us => rd s.size n lv (some t) us := by rw [rd, if_neg (by omega)]
    refine gskip ?_
    refine hN2 _ _ ?_
    refine gfrom [(0, .pointer (some ⟨rg, 0, none⟩)), (1, .int _ _)] ⟨rfl, rfl, trivial⟩ fun σ => ?_
    refine gseq fun N5 hN5 => ?_
    refine greg ?_
    refine gop (y_assign (v := .string _) rfl) rfl rfl rfl ?_
    refine gop (y_assign (v := .int _ _) rfl) rfl rfl rfl ?_
    refine gops_nil ?_
    refine hN5 _ _ ?_
    refine gfrom [(0, .pointer (some ⟨rg, 0, none⟩)), (1, .int _ _), (6, .string _), (7, .int _ _)] ⟨rfl, rfl, rfl, rfl, trivial⟩ fun σ => ?_
    refine gseq fun N6 hN6 => ?_
    refine gfrom [(0, .pointer (some ⟨rg, 0, none⟩)), (1, .int _ _), (6, .string _), (7, .int _ _)] ⟨rfl, rfl, rfl, rfl, trivial⟩ fun σ => ?_
    refine gcut3 (Lf := [(0, .pointer (some ⟨rg, 0, none⟩)), (1, .int _ _)]) (G := Unit) (fun g => True) (fun g => [(6, .string (signL lv)), (7, .int .i64 (kindL lv))]) (fun g => []) ⟨rfl, rfl, trivial⟩ ?_ ?_
    ·
      refine gseq fun N7 hN7 => ?_
      refine greg ?_
      refine gop (y_move (v := .int _ _) rfl) rfl rfl rfl ?_
      refine gop (y_eql rfl rfl) rfl rfl rfl ?_
      refine gops_nil ?_
      refine hN7 _ _ ?_
      refine gfrom [(0, .pointer (some ⟨rg, 0, none⟩)), (1, .int _ _), (6, .string _), (7, .int _ _), (18, .bool _)] ⟨rfl, rfl, rfl, rfl, rfl, trivial⟩ fun σ => ?_
      refine gcond (b := _) rfl (fun hc18 => ?_) (fun hc18 => ?_)
      · 
        replace hc18 := of_decide_eq_true hc18
        refine greg ?_
        refine gop (y_assign (v := .string _) rfl) rfl rfl rfl ?_
        refine gop (y_assign (v := .int _ _) rfl) rfl rfl rfl ?_
        refine gops_nil ?_
        refine gcut3_end (()) (trivial) ⟨(congrArg Value.string (by first | (obtain rfl : lv = 1 := (by omega); rfl) | (obtain rfl : lv = 0 := (by omega); rfl))), (congrArg (Value.int .i64) (by first | (obtain rfl : lv = 1 := (by omega); rfl) | (obtain rfl : lv = 0 := (by omega); rfl))), trivial⟩ ⟨rfl, rfl, trivial⟩ ⟨_, rfl⟩
      · 
        replace hc18 := of_decide_eq_false hc18
        refine gskip ?_
        refine gcut3_end (()) (trivial) ⟨(congrArg Value.string (by first | (obtain rfl : lv = 1 := (by omega); rfl) | (obtain rfl : lv = 0 := (by omega); rfl))), (congrArg (Value.int .i64) (by first | (obtain rfl : lv = 1 := (by omega); rfl) | (obtain rfl : lv = 0 := (by omega); rfl))), trivial⟩ ⟨rfl, rfl, trivial⟩ ⟨_, rfl⟩
    ·
      intro g hcut σ
      refine hN6 _ _ ?_
      refine gseq fun N8 hN8 => ?_
      refine greg ?_
      refine gop (y_move (v := .pointer (some ⟨rg, 0, none⟩)) rfl) rfl rfl rfl ?_
      refine gop (y_move (v := .int _ _) rfl) rfl rfl rfl ?_
      refine gop (y_add rfl rfl ⟨by omega, by omega⟩) rfl rfl rfl ?_
      refine gop_does2 0 1 (fun v r s1 G => ∃ x b B' bc' o' a' code', v = .tuple #[.int .i64 x, .bool b] ∧ r = box rg (.cells #[.slice B' o'.length bc', .string s, .int .i64 ((a' : Nat)), .int .i64 ((nextW s (a') : Nat)), .int .i64 code'] 60) ∧ s1 = rowl pnCells w0.heap.size 47 4 (.slice B' (o').length bc') (o') ∧ G = [] ∧ POK s (rd s.size n (lv + 1) none ts) (o) code x b o' a' code') (e_call (vs := [.pointer (some ⟨rg, 0, none⟩), .int _ _]) Tryd.func31 rfl (by kernel_rfl) rfl) rfl rfl rfl (fun w fr1 hfr hM => (hLi n (Nat.le_refl _) (lv + 1) _ w _ _ _ o fr1 _ ts (by omega) (by omega) (by omega) hrs (by omega) hM).mono fun _ _ ⟨x, b, B', bc', o', a', code', h1, h2, h3⟩ => ⟨_, _, _, [], h1, ⟨x, b, B', bc', o', a', code', rfl, rfl, rfl, rfl, h2⟩, h3⟩) rfl rfl rfl ?_
      rintro _ _ _ _ ⟨x23, b23, B23, bc23, o23, a23, code23, rfl, rfl, rfl, rfl, hp23⟩
      refine gop (y_move (v := .tuple #[.int _ _, .bool _]) rfl) rfl rfl rfl ?_
      refine gop (y_extract (v := .int _ _) rfl rfl) rfl rfl rfl ?_
      refine gop (y_extract (v := .bool _) rfl rfl) rfl rfl rfl ?_
      refine gop (y_assign (v := .int _ _) rfl) rfl rfl rfl ?_
      refine gop (y_assign (v := .bool _) rfl) rfl rfl rfl ?_
      refine gops_nil ?_
      refine hN8 _ _ ?_
      refine gT [box rg _, rowl _ _ _ _ _ _, fr] rfl ?_
      refine gfrom [(0, .pointer (some ⟨rg, 0, none⟩)), (1, .int _ _), (6, .string _), (7, .int _ _), (8, .int _ _), (9, .bool _)] ⟨rfl, rfl, rfl, rfl, rfl, rfl, trivial⟩ fun σ => ?_
      refine gseq fun N9 hN9 => ?_
      refine gblock ?_
      refine gfrom2 [(8, .int _ _), (9, .bool _)] [(0, .pointer (some ⟨rg, 0, none⟩)), (1, .int _ _), (6, .string _), (7, .int _ _)] ⟨rfl, rfl, trivial⟩ ⟨rfl, rfl, rfl, rfl, trivial⟩ fun σ => ?_
      refine gloop2 (G := Nat × Int × Bool × Option Addr × Nat × List PN × Nat × Int) (fun (m, x, b, B, bc, o1, a1, code1) => LI s lv n (rd s.size (n + 1) lv none ts) o code m x b o1 a1 code1) (fun (m, x, b, B, bc, o1, a1, code1) => m) (fun (m, x, b, B, bc, o1, a1, code1) => [(8, .int .i64 x), (9, .bool b)]) (fun (m, x, b, B, bc, o1, a1, code1) => [(0, box rg (.cells #[.slice B o1.length bc, .string s, .int .i64 ((a1 : Nat)), .int .i64 ((nextW s (a1) : Nat)), .int .i64 code1] 60)), (1, rowl pnCells w0.heap.size 47 4 (.slice B (o1).length bc) (o1))]) ((n, x23, b23, B23, bc23, o23, a23, code23)) ?h0 ⟨rfl, rfl, trivial⟩ ⟨rfl, rfl, rfl, rfl, trivial⟩ rfl ?round
      case h0 => exact li_start hR0 hlv2 (by omega) hol hp23
      case round =>
        rintro ⟨m, x, b, B, bc, o1, a1, code1⟩ hli σ
        replace hli : LI s lv n (rd s.size (n + 1) lv none ts) o code m x b o1 a1 code1 := hli
        refine gT [box rg _, rowl _ _ _ _ _ _, fr] rfl ?_
        refine gseq fun N10 hN10 => ?_
        refine gseq fun N11 hN11 => ?_
        refine greg ?_
        refine gop (y_move (v := .bool _) rfl) rfl rfl rfl ?_
        refine gop (y_move (v := .bool _) rfl) rfl rfl rfl ?_
        refine gop_if (want := true) rfl rfl rfl rfl rfl rfl (fun hg27 => ?_) (fun hg27 => ?_)
        · 
          have hg27d := hg27
          obtain ⟨t, us, rfl, rfl, hru, rfl, hRm, hfm, hlen⟩ := li_ok hli (by assumption)
          refine gop (y_bare (y_move (v := .pointer (some ⟨rg, 0, none⟩)) rfl)) rfl rfl rfl ?_
          refine gop_on rfl rfl rfl rfl hg27 ?_
          refine gop (y_bare (y_move (v := .string _) rfl)) rfl rfl rfl ?_
          refine gop_on rfl rfl rfl rfl hg27 ?_
          refine gop_does1 0 (fun v r G => ∃ a' ts', v = .bool (decide (hd us = signL lv)) ∧ r = box rg (.cells #[.slice B (o ++ post t o.length).length bc, .string s, .int .i64 ((a' : Nat)), .int .i64 ((nextW s (a') : Nat)), .int .i64 code] 60) ∧ RS s a' ts' ∧ ts' = (if hd us = signL lv then us.tail else us) ∧ G = []) (e_call (vs := [.pointer (some ⟨rg, 0, none⟩), .string _]) Tryd.func45 rfl (by kernel_rfl) rfl) rfl (fun w fr1 hfr hM => (rdTake_any _ w rg _ _ _ s _ fr1 hs _ us hru _ hM).mono fun _ _ ⟨a', ts', h1, h2, h3, h4⟩ => ⟨_, _, [], h1, ⟨a', ts', rfl, rfl, h2, h3, rfl⟩, h4⟩) rfl rfl rfl ?_
          rintro _ _ _ ⟨a30, ts30, rfl, rfl, hrs30, hts30, rfl⟩
          refine gop (y_pick_t (v := .bool _) rfl hg27 rfl) rfl rfl rfl ?_
          refine gops_nil ?_
          refine hN11 _ _ ?_
          refine gT [box rg _, rowl _ _ _ _ _ _, fr] rfl ?_
          refine gfrom [(0, .pointer (some ⟨rg, 0, none⟩)), (1, .int _ _), (6, .string _), (7, .int _ _), (8, .int _ _), (9, .bool _), (31, .bool _)] ⟨rfl, rfl, rfl, rfl, rfl, rfl, rfl, trivial⟩ fun σ => ?_
          refine gcond (b := _) rfl (fun hc31 => ?_) (fun hc31 => ?_)
          · 
            have hsg : hd us = signL lv := by simpa using hc31
            obtain ⟨mm, rfl⟩ : ∃ k, m = k + 1 := ⟨m - 1, by omega⟩
            have ht30 : ts30 = us.tail := by rw [hts30, if_pos hsg]
            have hpl := hd_pos (ts := us) (by rw [hsg]; exact sign_ne lv)
            have htl30 : ts30.length + 1 = us.length := by rw [ht30]; exact hpl
            have hmn := hli.1
            have htp := t.pos
            have hRm1 : (rd s.size (n + 1) lv none ts) = bindR (rd s.size mm (lv + 1) none ts30) fun t2 ts' => rd s.size mm lv (some (.bin (kindL lv) t t2)) ts' := by rw [hRm, rd, if_pos hsg, ht30]
            refine gskip ?_
            refine hN10 _ _ ?_
            refine gfrom [(0, .pointer (some ⟨rg, 0, none⟩)), (1, .int _ _), (6, .string _), (7, .int _ _), (8, .int _ _)] ⟨rfl, rfl, rfl, rfl, rfl, trivial⟩ fun σ => ?_
            refine gblock ?_
            refine gseq fun N12 hN12 => ?_
            refine greg ?_
            refine gop (y_assign (v := .int _ _) rfl) rfl rfl rfl ?_
            refine gops_nil ?_
            refine hN12 _ _ ?_
            refine gfrom [(0, .pointer (some ⟨rg, 0, none⟩)), (1, .int _ _), (6, .string _), (7, .int _ _), (8, .int _ _)] ⟨rfl, rfl, rfl, rfl, rfl, trivial⟩ fun σ => ?_
            refine gseq fun N13 hN13 => ?_
            refine greg ?_
            refine gop (y_move (v := .pointer (some ⟨rg, 0, none⟩)) rfl) rfl rfl rfl ?_
            refine gop (y_move (v := .int _ _) rfl) rfl rfl rfl ?_
            refine gop (y_add rfl rfl ⟨by omega, by omega⟩) rfl rfl rfl ?_
            refine gop_does2 0 1 (fun v r s1 G => ∃ x b B' bc' o' a' code', v = .tuple #[.int .i64 x, .bool b] ∧ r = box rg (.cells #[.slice B' o'.length bc', .string s, .int .i64 ((a' : Nat)), .int .i64 ((nextW s (a') : Nat)), .int .i64 code'] 60) ∧ s1 = rowl pnCells w0.heap.size 47 4 (.slice B' (o').length bc') (o') ∧ G = [] ∧ POK s (rd s.size mm (lv + 1) none ts30) (o ++ post t o.length) code x b o' a' code') (e_call (vs := [.pointer (some ⟨rg, 0, none⟩), .int _ _]) Tryd.func31 rfl (by kernel_rfl) rfl) rfl rfl rfl (fun w fr1 hfr hM => (hLi mm (by omega) (lv + 1) _ w _ _ _ (o ++ post t o.length) fr1 _ ts30 (by omega) (by omega) (by omega) hrs30 (by rw [app_len]; omega) hM).mono fun _ _ ⟨x, b, B', bc', o', a', code', h1, h2, h3⟩ => ⟨_, _, _, [], h1, ⟨x, b, B', bc', o', a', code', rfl, rfl, rfl, rfl, h2⟩, h3⟩) rfl rfl rfl ?_
            rintro _ _ _ _ ⟨x36, b36, B36, bc36, o36, a36, code36, rfl, rfl, rfl, rfl, hp36⟩
            refine gop (y_move (v := .tuple #[.int _ _, .bool _]) rfl) rfl rfl rfl ?_
            refine gop (y_extract (v := .int _ _) rfl rfl) rfl rfl rfl ?_
            refine gop (y_extract (v := .bool _) rfl rfl) rfl rfl rfl ?_
            refine gop (y_assign (v := .int _ _) rfl) rfl rfl rfl ?_
            refine gop (y_assign (v := .bool _) rfl) rfl rfl rfl ?_
            refine gops_nil ?_
            refine hN13 _ _ ?_
            refine gT [box rg _, rowl _ _ _ _ _ _, fr] rfl ?_
            refine gfrom [(0, .pointer (some ⟨rg, 0, none⟩)), (1, .int _ _), (6, .string _), (7, .int _ _), (8, .int _ _), (9, .bool _), (10, .int _ _)] ⟨rfl, rfl, rfl, rfl, rfl, rfl, rfl, trivial⟩ fun σ => ?_
            refine gseq fun N14 hN14 => ?_
            refine greg ?_
            refine gop (y_move (v := .bool _) rfl) rfl rfl rfl ?_
            refine gops_nil ?_
            refine hN14 _ _ ?_
            refine gfrom [(0, .pointer (some ⟨rg, 0, none⟩)), (1, .int _ _), (6, .string _), (7, .int _ _), (8, .int _ _), (9, .bool _), (10, .int _ _), (39, .bool _)] ⟨rfl, rfl, rfl, rfl, rfl, rfl, rfl, rfl, trivial⟩ fun σ => ?_
            refine gcond (b := _) rfl (fun hc39 => ?_) (fun hc39 => ?_)
            · 
              have hb36 : b36 = true := hc39
              obtain ⟨t36, us36, hR36, hx36, ho36, hrt36, hcd36⟩ := pok_yes hp36 (by first | assumption | simpa using hc39)
              have hsz36 : t36.size + us36.length ≤ ts30.length := (rd_ok s.size mm (lv + 1) none ts30 t36 us36 (fun _ h => by cases h) hR36).2
              subst hx36
              subst ho36
              obtain rfl : code = code36 := hcd36.symm
              have hR2 : (rd s.size (n + 1) lv none ts) = rd s.size mm lv (some (.bin (kindL lv) t t36)) us36 := by rw [hRm1, hR36]; rfl
              have htp36 := t36.pos
              have hal := app_len o t
              refine greg ?_
              refine gop (y_move (v := .pointer (some ⟨rg, 0, none⟩)) rfl) rfl rfl rfl ?_
              refine gop (y_nilCheck rfl) rfl rfl rfl ?_
              refine gop (y_fieldAddr_box fa60_0 rfl) rfl rfl rfl ?_
              refine gop (y_move (v := .int _ _) rfl) rfl rfl rfl ?_
              refine gop (y_move (v := .int _ _) rfl) rfl rfl rfl ?_
              refine gop (y_move (v := .int _ _) rfl) rfl rfl rfl ?_
              refine gop (y_build (vs := [(0, .int _ _), (2, .int _ _), (3, .int _ _)]) (cells := #[_, .int .i64 0, _, _]) rfl (bd47_0_2_3 _ _ _)) rfl rfl rfl ?_
              refine gop_does2 0 1 (fun v r s1 G => ∃ B' bc', v = .int .i64 (((o ++ post t o.length) ++ post t36 (o ++ post t o.length).length).length : Nat) ∧ r = box rg (.cells #[.slice B' ((o ++ post t o.length) ++ post t36 (o ++ post t o.length).length ++ [(⟨kindL lv, 0, ((o.length + t.size : Nat) : Int) - 1, (((o ++ post t o.length).length + t36.size : Nat) : Int) - 1⟩ : PN)]).length bc', .string s, .int .i64 ((a36 : Nat)), .int .i64 ((nextW s (a36) : Nat)), .int .i64 code] 60) ∧ s1 = rowl pnCells w0.heap.size 47 4 (.slice B' ((o ++ post t o.length) ++ post t36 (o ++ post t o.length).length ++ [(⟨kindL lv, 0, ((o.length + t.size : Nat) : Int) - 1, (((o ++ post t o.length).length + t36.size : Nat) : Int) - 1⟩ : PN)]).length bc') ((o ++ post t o.length) ++ post t36 (o ++ post t o.length).length ++ [(⟨kindL lv, 0, ((o.length + t.size : Nat) : Int) - 1, (((o ++ post t o.length).length + t36.size : Nat) : Int) - 1⟩ : PN)]) ∧ G = []) (e_call (vs := [.pointer _, .agg #[_, _, _, _]]) Tryd.func41 rfl (by kernel_rfl) rfl) rfl rfl rfl (fun w fr1 hfr hM => (polAdd5_any _ w rg _ _ s _ _ _ ((o ++ post t o.length) ++ post t36 (o ++ post t o.length).length) fr1 hM (by rw [app_len, app_len]; omega) ((⟨kindL lv, 0, ((o.length + t.size : Nat) : Int) - 1, (((o ++ post t o.length).length + t36.size : Nat) : Int) - 1⟩ : PN))).mono fun _ _ ⟨B', bc', h1, h2⟩ => ⟨_, _, _, [], h1, ⟨B', bc', rfl, rfl, rfl, rfl⟩, h2⟩) rfl rfl rfl ?_
              rintro _ _ _ _ ⟨B47, bc47, rfl, rfl, rfl, rfl⟩
              refine gop (y_assign (v := .int _ _) rfl) rfl rfl rfl ?_
              refine gops_nil ?_
              refine gnext2 ((mm, (((o ++ post t o.length) ++ post t36 (o ++ post t o.length).length).length : Nat), b36, B47, bc47, (o ++ post t o.length) ++ post t36 (o ++ post t o.length).length ++ [(⟨kindL lv, 0, ((o.length + t.size : Nat) : Int) - 1, (((o ++ post t o.length).length + t36.size : Nat) : Int) - 1⟩ : PN)], a36, code)) (by show mm < mm + 1; omega) (⟨by omega, .inr ⟨hb36, .bin (kindL lv) t t36, us36, by rw [app_len, app_len, size_bin]; omega, post_bin_app o (kindL lv) t t36, hrt36, rfl, hR2, by omega, by rw [size_bin]; omega⟩⟩) ⟨rfl, rfl, trivial⟩ ⟨rfl, rfl, rfl, rfl, trivial⟩ ⟨_, rfl⟩
            · 
              have hb36 : b36 = false := by simpa using hc39
              obtain ⟨hR36, ho36⟩ := pok_no hp36 hb36
              have hR2 : (rd s.size (n + 1) lv none ts) = .bad code36 a36 := by rw [hRm1, hR36]; rfl
              refine gskip ?_
              refine gnext2 ((mm, _, b36, B36, bc36, o36, a36, code36)) (by show mm < mm + 1; omega) (⟨by omega, .inl ⟨hb36, hR2, ho36⟩⟩) ⟨rfl, rfl, trivial⟩ ⟨rfl, rfl, rfl, rfl, trivial⟩ ⟨_, rfl⟩
          · 
            refine gexit ?_
            refine hN9 _ _ ?_
            refine gfrom [(8, .int _ _), (9, .bool _)] ⟨rfl, rfl, trivial⟩ fun σ => ?_
            refine gseq fun N15 hN15 => ?_
            refine greg ?_
            refine gop (y_move (v := .int _ _) rfl) rfl rfl rfl ?_
            refine gop (y_move (v := .bool _) rfl) rfl rfl rfl ?_
            refine gop (y_assign (v := .int _ _) rfl) rfl rfl rfl ?_
            refine gop (y_assign (v := .bool _) rfl) rfl rfl rfl ?_
            refine gops_nil ?_
            refine hN15 _ _ ?_
            refine gfrom [(4, .int _ _), (5, .bool _)] ⟨rfl, rfl, trivial⟩ fun σ => ?_
            refine gret fun w1 hM => ?_
            refine ⟨_, res2 rfl (rt (v := .int _ _) rfl) (rt (v := .bool _) rfl), ?_⟩
            first
            | (have hne : ¬ hd us = signL lv := by simpa using hc31
               have hRx : (rd s.size (n + 1) lv none ts) = .ok t us := by
                 obtain ⟨mm, rfl⟩ : ∃ k, m = k + 1 := ⟨m - 1, by omega⟩
                 rw [hRm, rd, if_neg hne]
               obtain rfl : us = ts30 := by rw [hts30, if_neg hne]
               exact ⟨_, _, B, bc, _, _, _, rfl, pok_ok2 (by assumption) hRx rfl rfl hrs30, weak_take (T' := [_, _, fr]) rfl _ hM⟩)
            | (obtain ⟨hRb, hob⟩ := li_bad hli (by assumption)
               exact ⟨_, _, _, _, _, _, _, rfl, pok_bad2 (by assumption) hRb hob, weak_take (T' := [_, _, fr]) rfl _ hM⟩)
        · 
          have hg27d := hg27
          refine gop_off rfl rfl rfl rfl hg27 rfl rfl ?_
          refine gop_off rfl rfl rfl rfl hg27 rfl rfl ?_
          refine gop (y_pick_f (v := .bool _) rfl hg27 rfl) rfl rfl rfl ?_
          refine gops_nil ?_
          refine hN11 _ _ ?_
          refine gfrom [(0, .pointer (some ⟨rg, 0, none⟩)), (1, .int _ _), (6, .string _), (7, .int _ _), (8, .int _ _), (9, .bool _), (31, .bool _)] ⟨rfl, rfl, rfl, rfl, rfl, rfl, rfl, trivial⟩ fun σ => ?_
          refine gcond (b := _) rfl (fun hc31 => ?_) (fun hc31 => ?_)
          · 
            cases hc31
          · 
            refine gexit ?_
            refine hN9 _ _ ?_
            refine gfrom [(8, .int _ _), (9, .bool _)] ⟨rfl, rfl, trivial⟩ fun σ => ?_
            refine gseq fun N16 hN16 => ?_
            refine greg ?_
            refine gop (y_move (v := .int _ _) rfl) rfl rfl rfl ?_
            refine gop (y_move (v := .bool _) rfl) rfl rfl rfl ?_
            refine gop (y_assign (v := .int _ _) rfl) rfl rfl rfl ?_
            refine gop (y_assign (v := .bool _) rfl) rfl rfl rfl ?_
            refine gops_nil ?_
            refine hN16 _ _ ?_
            refine gfrom [(4, .int _ _), (5, .bool _)] ⟨rfl, rfl, trivial⟩ fun σ => ?_
            refine gret fun w1 hM => ?_
            refine ⟨_, res2 rfl (rt (v := .int _ _) rfl) (rt (v := .bool _) rfl), ?_⟩
            first
            | (have hne : ¬ hd us = signL lv := by simpa using hc31
               have hRx : (rd s.size (n + 1) lv none ts) = .ok t us := by
                 obtain ⟨mm, rfl⟩ : ∃ k, m = k + 1 := ⟨m - 1, by omega⟩
                 rw [hRm, rd, if_neg hne]
               obtain rfl : us = ts30 := by rw [hts30, if_neg hne]
               exact ⟨_, _, B, bc, _, _, _, rfl, pok_ok2 (by assumption) hRx rfl rfl hrs30, weak_take (T' := [_, _, fr]) rfl _ hM⟩)
            | (obtain ⟨hRb, hob⟩ := li_bad hli (by assumption)
               exact ⟨_, _, _, _, _, _, _, rfl, pok_bad2 (by assumption) hRb hob, weak_take (T' := [_, _, fr]) rfl _ hM⟩)
end Go.Proofs.YtllblbkbglifjaaDoor
namespace Go.Proofs.YtllblbkbglifjaaDoor
open Go.RowKit Go.Cf
theorem rd_both (w0 : World) (s : ByteArray) (hs : s.size ≤ 200) (hL : LaidP w0) (rg : Nat) : ∀ n, (∀ m, m ≤ n → ListH w0 s rg m) ∧ FacH w0 s rg n
  | 0 => ⟨fun m hm lv vi w B bc code o fr a ts hlv hvi hfu => by omega, fun w B bc code o fr a ts hfu => by omega⟩
  | n + 1 => by
    obtain ⟨h1, h2⟩ := rd_both w0 s hs hL rg n
    have h3 := rdFactor_step w0 s hs hL rg n h2 (h1 n (Nat.le_refl _))
    refine ⟨fun m hm => ?_, h3⟩
    rcases Nat.lt_or_ge n m with h | h
    · obtain rfl : m = n + 1 := by omega
      exact rdList_step w0 s hs rg n h3 h1
    · exact h1 m h
end Go.Proofs.YtllblbkbglifjaaDoor
namespace Go.Proofs.YtllblbkbglifjaaDoor
open Go.RowKit Go.Cf
set_option maxRecDepth 10000
theorem bd60_1 (x1 : ByteArray) : Tryd.prog.built 60 [(1, .string x1)] = some #[.slice none 0 0, .string x1, .int .i64 0, .int .i64 0, .int .i64 0] := by kernel_rfl
set_option maxHeartbeats 8000000 in
theorem polParse_any (w : World) (s : ByteArray) (hL : LaidP w) (hs0 : s.size ≤ 9223372036854775807) :
    Calls Tryd.prog 19 #[.string s] w fun e w' => ∃ pv, e = .returned (.tuple #[.agg #[pv], fv (parR s).1]) ∧ Below w.heap.size w w' ∧ NewL 4 pnCells (parR s).2 w.heap.size w' pv := by
  refine gcalls Tryd.func19 rfl Tryd.ntmps19 (Nat.le_of_ble_eq_true rfl) ?_
  refine gfrom [(0, .string s)] ⟨rfl, trivial⟩ fun σ => ?_
  refine gseq fun N1 hN1 => ?_
  refine greg ?_
  refine gop_alloc (cs := #[.slice none 0 0]) Tryd.zeroValue24 rfl rfl (fun b2 hb2 => ?_)
  refine gop_alloc (cs := #[.int .i64 0, .int .i64 0]) Tryd.zeroValue28 rfl rfl (fun b3 hb3 => ?_)
  refine gops_nil ?_
  refine hN1 _ _ ?_
  refine gT [box b2 _, box b3 _] rfl ?_
  refine gfrom [(0, .string s), (2, .pointer _), (3, .pointer _)] ⟨rfl, rfl, rfl, trivial⟩ fun σ => ?_
  refine gseq fun N2 hN2 => ?_
  refine gseq fun N3 hN3 => ?_
  refine greg ?_
  refine gop (y_move (v := .string s) rfl) rfl rfl rfl ?_
  refine gop (y_lens Tryd.underlying9 rfl) rfl rfl rfl ?_
  refine gop (y_gtr rfl rfl) rfl rfl rfl ?_
  refine gops_nil ?_
  refine hN3 _ _ ?_
  refine gfrom [(0, .string s), (2, .pointer _), (3, .pointer _), (9, .bool _)] ⟨rfl, rfl, rfl, rfl, trivial⟩ fun σ => ?_
  refine gcond (b := _) rfl (fun hc9 => ?_) (fun hc9 => ?_)
  · 
    replace hc9 := of_decide_eq_true hc9
    have hP : parR s = (⟨2, -1⟩, []) := by rw [parR, if_pos (by omega)]
    refine gseq fun N4 hN4 => ?_
    refine greg ?_
    refine gop (y_build (vs := []) (cells := #[.slice none 0 0]) rfl bd24_) rfl rfl rfl ?_
    refine gop (y_build (vs := [(0, _), (1, _)]) (cells := #[_, _]) rfl (bd28_0_1 _ _)) rfl rfl rfl ?_
    refine gop_store 0 (v := .agg #[_]) (cs' := #[_]) rfl rfl Tryd.sizeOf24 rfl rfl rfl rfl (Nat.le_of_ble_eq_true rfl) rfl rfl ?_
    refine gop_store 1 (v := .agg #[_, _]) (cs' := #[_, _]) rfl rfl Tryd.sizeOf28 rfl rfl rfl rfl (Nat.le_of_ble_eq_true rfl) rfl rfl ?_
    refine gops_nil ?_
    refine hN4 _ _ ?_
    refine gT [box b2 _, box b3 _] rfl ?_
    refine gfrom [(2, .pointer _), (3, .pointer _)] ⟨rfl, rfl, trivial⟩ fun σ => ?_
    refine gret fun w1 hM => ?_
    refine ⟨_, res2 rfl (rc 0 (cs := [_]) hM rfl rfl Tryd.isAgg24 Tryd.sizeOf24 rfl) (rc 1 (cs := [_, _]) hM rfl rfl Tryd.isAgg28 Tryd.sizeOf28 rfl), ?_⟩
    rw [hP]
    exact ⟨_, rfl, hM.low, newL_nil⟩
  · 
    replace hc9 := of_decide_eq_false hc9
    have hs : s.size ≤ 200 := by omega
    refine gskip ?_
    refine hN2 _ _ ?_
    refine gfrom [(0, .string s), (2, .pointer _), (3, .pointer _)] ⟨rfl, rfl, rfl, trivial⟩ fun σ => ?_
    refine gseq fun N5 hN5 => ?_
    refine greg ?_
    refine gop (y_move (v := .string s) rfl) rfl rfl rfl ?_
    refine gop (y_build (vs := [(1, .string s)]) (cells := #[.slice none 0 0, _, .int .i64 0, .int .i64 0, .int .i64 0]) rfl (bd60_1 _)) rfl rfl rfl ?_
    refine gop_alloc (cs := #[.slice none 0 0, .string .empty, .int .i64 0, .int .i64 0, .int .i64 0]) Tryd.zeroValue60 rfl rfl (fun b4 hb4 => ?_)
    refine gop_store 2 (v := .agg #[_, _, _, _, _]) (cs' := #[_, _, _, _, _]) rfl rfl Tryd.sizeOf60 rfl rfl rfl rfl (Nat.le_of_ble_eq_true rfl) rfl rfl ?_
    refine gops_nil ?_
    refine hN5 _ _ ?_
    refine gT [box b2 _, box b3 _, box b4 _] rfl ?_
    refine gfrom [(0, .string s), (2, .pointer _), (3, .pointer _), (4, .pointer _)] ⟨rfl, rfl, rfl, rfl, trivial⟩ fun σ => ?_
    refine gseq fun N6 hN6 => ?_
    refine greg ?_
    refine gop_does1 2 (fun v r G => v = .tuple #[] ∧ r = box b4 (.cells #[.slice none 0 0, .string s, .int .i64 ((skipW s 0 : Nat)), .int .i64 ((nextW s (skipW s 0) : Nat)), .int .i64 0] 60) ∧ G = []) (e_call (vs := [.pointer _]) Tryd.func30 rfl (by kernel_rfl) rfl) rfl (fun w fr1 hfr hM => (rdScan_any _ w b4 _ _ _ s _ fr1 hs _ _ 0 rfl (Nat.zero_le _) hM).mono fun _ _ ⟨h1, h2⟩ => ⟨_, _, [], h1, ⟨rfl, rfl, rfl⟩, h2⟩) rfl rfl rfl ?_
    rintro _ _ _ ⟨rfl, rfl, rfl⟩
    refine gops_nil ?_
    refine hN6 _ _ ?_
    refine gT [box b2 _, box b3 _, box b4 _] rfl ?_
    refine gfrom [(0, .string s), (2, .pointer _), (3, .pointer _), (4, .pointer _)] ⟨rfl, rfl, rfl, rfl, trivial⟩ fun σ => ?_
    refine gseq fun N7 hN7 => ?_
    refine greg ?_
    refine gops_nilrow pnCells 47 4 ?_
    refine gop_does2 2 3 (fun v r s1 G => ∃ x b B' bc' o' a' code', v = .tuple #[.int .i64 x, .bool b] ∧ r = box b4 (.cells #[.slice B' o'.length bc', .string s, .int .i64 ((a' : Nat)), .int .i64 ((nextW s (a') : Nat)), .int .i64 code'] 60) ∧ s1 = rowl pnCells w.heap.size 47 4 (.slice B' (o').length bc') (o') ∧ G = [] ∧ POK s (rd s.size (fuelOf s) 0 none (tks s 0)) ([]) 0 x b o' a' code') (e_call (vs := [.pointer _, _]) Tryd.func31 rfl (by kernel_rfl) rfl) rfl rfl rfl (fun w fr1 hfr hM => ((rd_both _ s hs hL b4 (fuelOf s)).1 _ (Nat.le_refl _) 0 _ w _ _ _ [] fr1 _ (tks s 0) (by omega) rfl (by unfold fuelOf; omega) (RS.start s) (by have h9 := tks_len s _ 0 rfl; simp; omega) hM).mono fun _ _ ⟨x, b, B', bc', o', a', code', h1, h2, h3⟩ => ⟨_, _, _, [], h1, ⟨x, b, B', bc', o', a', code', rfl, rfl, rfl, rfl, h2⟩, h3⟩) rfl rfl rfl ?_
    rintro _ _ _ _ ⟨x16, b16, B16, bc16, o16, a16, code16, rfl, rfl, rfl, rfl, hp16⟩
    refine gops_fact (fun w hM => row_form (hM.ok _ (List.mem_of_getElem? (i := 3) rfl))) ?_
    rintro ⟨A16, c16, hv16, hc16, hm16, hn16⟩
    simp only [Value.slice.injEq] at hv16
    obtain ⟨rfl, -, rfl⟩ := hv16
    refine gop (y_move (v := .tuple #[.int _ _, .bool _]) rfl) rfl rfl rfl ?_
    refine gop (y_extract (v := .int _ _) rfl rfl) rfl rfl rfl ?_
    refine gop (y_extract (v := .bool _) rfl rfl) rfl rfl rfl ?_
    refine gop (y_assign (v := .int _ _) rfl) rfl rfl rfl ?_
    refine gop (y_assign (v := .bool _) rfl) rfl rfl rfl ?_
    refine gops_nil ?_
    refine hN7 _ _ ?_
    refine gT [box b2 _, box b3 _, box b4 _, rowl _ _ _ _ _ _] rfl ?_
    refine gfrom [(0, .string s), (2, .pointer _), (3, .pointer _), (4, .pointer _), (6, .bool _)] ⟨rfl, rfl, rfl, rfl, rfl, trivial⟩ fun σ => ?_
    refine gseq fun N8 hN8 => ?_
    refine gfrom [(0, .string s), (2, .pointer _), (3, .pointer _), (4, .pointer _), (6, .bool _)] ⟨rfl, rfl, rfl, rfl, rfl, trivial⟩ fun σ => ?_
    refine gcut3 (Lf := [(2, .pointer _), (3, .pointer _), (4, .pointer _)]) (G := Bool × Int × Nat) (fun (b, cd, ac) => (b = false ∧ parR s = (⟨cd, ac⟩, [])) ∨ (b = true ∧ ∃ t : Tr, t.ok ∧ t.size ≤ 1000 ∧ o16 = post t 0 ∧ parR s = madeR t)) (fun (b, cd, ac) => [(6, .bool b)]) (fun (b, cd, ac) => [(2, box b4 (.cells #[.slice B16 o16.length bc16, .string s, .int .i64 ((ac : Nat)), .int .i64 ((nextW s (ac) : Nat)), .int .i64 cd] 60))]) ⟨rfl, rfl, rfl, trivial⟩ ?_ ?_
    ·
      refine gseq fun N9 hN9 => ?_
      refine greg ?_
      refine gop (y_move (v := .bool _) rfl) rfl rfl rfl ?_
      refine gop (y_move (v := .bool _) rfl) rfl rfl rfl ?_
      refine gop_if (want := true) rfl rfl rfl rfl rfl rfl (fun hg20 => ?_) (fun hg20 => ?_)
      · 
        have hg20d := hg20
        have hb16 : b16 = true := by assumption
        obtain ⟨t, us, hR, hx, ho, hrt, -⟩ := pok_yes hp16 hb16
        obtain ⟨hto, hts⟩ := rd_ok s.size _ _ none _ _ _ (fun _ h => by cases h) hR
        have htl := tks_len s _ 0 rfl
        simp only [Option.map, Option.getD] at hts
        refine gop (y_bare (y_fieldAddr_box fa60_2 rfl)) rfl rfl rfl ?_
        refine gop_on rfl rfl rfl rfl hg20 ?_
        refine gop (y_bare (y_load Tryd.isAgg3 rfl (cell_box 2 rfl rfl))) rfl rfl rfl ?_
        refine gop_on rfl rfl rfl rfl hg20 ?_
        refine gop (y_bare (y_move (v := .string s) rfl)) rfl rfl rfl ?_
        refine gop_on rfl rfl rfl rfl hg20 ?_
        refine gop (y_bare (y_lens Tryd.underlying9 rfl)) rfl rfl rfl ?_
        refine gop_on rfl rfl rfl rfl hg20 ?_
        refine gop (y_bare (y_lss rfl rfl)) rfl rfl rfl ?_
        refine gop (y_pick_t (v := .bool _) rfl hg20 rfl) rfl rfl rfl ?_
        refine gops_nil ?_
        refine hN9 _ _ ?_
        refine gfrom [(2, .pointer _), (3, .pointer _), (4, .pointer _), (6, .bool _), (26, .bool _)] ⟨rfl, rfl, rfl, rfl, rfl, trivial⟩ fun σ => ?_
        refine gcond (b := _) rfl (fun hc26 => ?_) (fun hc26 => ?_)
        · 
          replace hc26 := of_decide_eq_true hc26
          have hus : us ≠ [] := fun h => hrt.nil.1 h (by omega)
          have hP : parR s = (⟨1, a16⟩, []) := by
            rw [parR, if_neg (by omega), hR]
            show (if us = [] then madeR t else (⟨1, pos s.size us⟩, [])) = _
            rw [if_neg hus, hrt.pos]
          refine greg ?_
          refine gop_does1 2 (fun v r G => v = .tuple #[.int .i64 0, .bool false] ∧ r = box b4 (.cells #[.slice B16 o16.length bc16, .string s, .int .i64 ((a16 : Nat)), .int .i64 ((nextW s (a16) : Nat)), .int .i64 1] 60) ∧ G = []) (e_call (vs := [.pointer _, _]) Tryd.func32 rfl (by kernel_rfl) rfl) rfl (fun w fr1 hfr hM => (rdFail_any _ w b4 _ _ _ s _ _ _ fr1 1 hM).mono fun _ _ ⟨h1, h2⟩ => ⟨_, _, [], h1, ⟨rfl, rfl, rfl⟩, h2⟩) rfl rfl rfl ?_
          rintro _ _ _ ⟨rfl, rfl, rfl⟩
          refine gop (y_move (v := .tuple #[.int _ _, .bool _]) rfl) rfl rfl rfl ?_
          refine gop (y_extract (v := .int _ _) rfl rfl) rfl rfl rfl ?_
          refine gop (y_extract (v := .bool _) rfl rfl) rfl rfl rfl ?_
          refine gop (y_assign (v := .bool _) rfl) rfl rfl rfl ?_
          refine gops_nil ?_
          refine gcut3_end ((false, 1, a16)) (.inl ⟨rfl, hP⟩) ⟨rfl, trivial⟩ ⟨rfl, rfl, rfl, trivial⟩ ⟨_, rfl⟩
        · 
          replace hc26 := of_decide_eq_false hc26
          first
          | (have hP : parR s = madeR t := by
               rw [parR, if_neg (by omega), hR]
               show (if us = [] then madeR t else (⟨1, pos s.size us⟩, [])) = _
               rw [if_pos (hrt.nil.2 (by omega))])
          | skip
          refine gskip ?_
          refine gcut3_end ((b16, code16, a16)) (.inr ⟨hb16, t, hto, by omega, ho, hP⟩) ⟨rfl, trivial⟩ ⟨rfl, rfl, rfl, trivial⟩ ⟨_, rfl⟩
      · 
        have hg20d := hg20
        have hb16 : b16 = false := by assumption
        obtain ⟨hR, -⟩ := pok_no hp16 hb16
        have hP : parR s = (⟨code16, a16⟩, []) := by rw [parR, if_neg (by omega), hR]
        refine gop_off rfl rfl rfl rfl hg20 rfl rfl ?_
        refine gop_off rfl rfl rfl rfl hg20 rfl rfl ?_
        refine gop_off rfl rfl rfl rfl hg20 rfl rfl ?_
        refine gop_off rfl rfl rfl rfl hg20 rfl rfl ?_
        refine gop (y_pick_f (v := .bool _) rfl hg20 rfl) rfl rfl rfl ?_
        refine gops_nil ?_
        refine hN9 _ _ ?_
        refine gfrom [(2, .pointer _), (3, .pointer _), (4, .pointer _), (6, .bool _), (26, .bool _)] ⟨rfl, rfl, rfl, rfl, rfl, trivial⟩ fun σ => ?_
        refine gcond (b := _) rfl (fun hc26 => ?_) (fun hc26 => ?_)
        · 
          cases hc26
        · 
          first
          | (have hP : parR s = madeR t := by
               rw [parR, if_neg (by omega), hR]
               show (if us = [] then madeR t else (⟨1, pos s.size us⟩, [])) = _
               rw [if_pos (hrt.nil.2 (by omega))])
          | skip
          refine gskip ?_
          refine gcut3_end ((b16, code16, a16)) (.inl ⟨hb16, hP⟩) ⟨rfl, trivial⟩ ⟨rfl, rfl, rfl, trivial⟩ ⟨_, rfl⟩
    ·
      rintro ⟨b, cd, ac⟩ hcut σ
      refine hN8 _ _ ?_
      refine gseq fun N10 hN10 => ?_
      refine gseq fun N11 hN11 => ?_
      refine greg ?_
      refine gop (y_move (v := .bool _) rfl) rfl rfl rfl ?_
      refine gop (y_not rfl) rfl rfl rfl ?_
      refine gops_nil ?_
      refine hN11 _ _ ?_
      refine gT [box b2 _, box b3 _, box b4 _, rowl _ _ _ _ _ _] rfl ?_
      refine gfrom [(2, .pointer _), (3, .pointer _), (4, .pointer _), (32, .bool _)] ⟨rfl, rfl, rfl, rfl, trivial⟩ fun σ => ?_
      refine gcond (b := _) rfl (fun hc32 => ?_) (fun hc32 => ?_)
      · 
        replace hc32 := not_t hc32
        have hb : b = false := by simpa using hc32
        have hP : parR s = (⟨cd, ac⟩, []) := by
          rcases hcut with h9 | h9
          · exact h9.2
          · rw [hb] at h9; exact absurd h9.1 (by decide)
        refine gseq fun N12 hN12 => ?_
        refine greg_e1 [] [(0, room b2 24 1), (1, room b3 28 2)] (by kernel_rfl) ?_
        refine ge_take 0 (TK := [room b2 24 1, room b3 28 2, box b4 _, rowl _ _ _ _ _ _]) rfl (by kernel_rfl) (by kernel_rfl) (by kernel_rfl) #[false, true, true, true, true, true, false, false] (by kernel_rfl) rfl (y_build (vs := []) (cells := #[.slice none 0 0]) rfl bd24_) rfl rfl rfl (weak_trans (weak_room 0 rfl rfl) (weak_room 1 rfl rfl)) (listed' := #[true, false, false, false, false, false, false, false]) rfl ?_
        refine ge_take 1 (TK := [room b2 24 1, room b3 28 2, box b4 _, rowl _ _ _ _ _ _]) rfl (by kernel_rfl) (by kernel_rfl) (by kernel_rfl) #[true, false, false, true, true, false, true, false] (by kernel_rfl) rfl (y_fieldAddr_box fa60_4 rfl) rfl rfl rfl (weak_trans (weak_room 0 rfl rfl) (weak_room 1 rfl rfl)) (listed' := #[true, true, false, false, false, false, false, false]) rfl ?_
        refine ge_take 2 (TK := [room b2 24 1, room b3 28 2, box b4 _, rowl _ _ _ _ _ _]) rfl (by kernel_rfl) (by kernel_rfl) (by kernel_rfl) #[true, true, false, true, true, false, true, false] (by kernel_rfl) rfl (y_load Tryd.isAgg3 rfl (cell_box 2 rfl rfl)) rfl rfl rfl (weak_trans (weak_room 0 rfl rfl) (weak_room 1 rfl rfl)) (listed' := #[true, true, true, false, false, false, false, false]) rfl ?_
        refine ge_take 3 (TK := [room b2 24 1, room b3 28 2, box b4 _, rowl _ _ _ _ _ _]) rfl (by kernel_rfl) (by kernel_rfl) (by kernel_rfl) #[true, true, true, false, false, false, true, false] (by kernel_rfl) rfl (y_fieldAddr_box fa60_2 rfl) rfl rfl rfl (weak_trans (weak_room 0 rfl rfl) (weak_room 1 rfl rfl)) (listed' := #[true, true, true, true, false, false, false, false]) rfl ?_
        refine ge_take 4 (TK := [room b2 24 1, room b3 28 2, box b4 _, rowl _ _ _ _ _ _]) rfl (by kernel_rfl) (by kernel_rfl) (by kernel_rfl) #[true, true, true, true, false, false, true, false] (by kernel_rfl) rfl (y_load Tryd.isAgg3 rfl (cell_box 2 rfl rfl)) rfl rfl rfl (weak_trans (weak_room 0 rfl rfl) (weak_room 1 rfl rfl)) (listed' := #[true, true, true, true, true, false, false, false]) rfl ?_
        refine ge_take 5 (TK := [room b2 24 1, room b3 28 2, box b4 _, rowl _ _ _ _ _ _]) rfl (by kernel_rfl) (by kernel_rfl) (by kernel_rfl) #[true, true, true, true, true, false, true, false] (by kernel_rfl) rfl (y_build (vs := [(0, .int _ _), (1, .int _ _)]) (cells := #[_, _]) rfl (bd28_0_1 _ _)) rfl rfl rfl (weak_trans (weak_room 0 rfl rfl) (weak_room 1 rfl rfl)) (listed' := #[true, true, true, true, true, true, false, false]) rfl ?_
        refine ge_one 6 (k' := 0) (listed' := #[true, true, true, true, true, true, true, false]) (by kernel_rfl) rfl rfl rfl ?_
        refine gop_store 0 (v := .agg #[_]) (cs' := #[_]) rfl rfl Tryd.sizeOf24 rfl rfl rfl rfl (Nat.le_of_ble_eq_true rfl) rfl rfl ?_
        refine gops_nil ?_
        refine ge_fin (TK := [room b2 24 1, room b3 28 2, box b4 _, rowl _ _ _ _ _ _]) rfl (weak_trans (weak_room 0 rfl rfl) (weak_room 1 rfl rfl)) ?_
        refine ge_one 7 (k' := 0) (listed' := #[true, true, true, true, true, true, true, true]) (by kernel_rfl) rfl rfl rfl ?_
        refine gop_store 1 (v := .agg #[_, _]) (cs' := #[_, _]) rfl rfl Tryd.sizeOf28 rfl rfl rfl rfl (Nat.le_of_ble_eq_true rfl) rfl rfl ?_
        refine gops_nil ?_
        refine ge_fin (TK := [room b2 24 1, room b3 28 2, box b4 _, rowl _ _ _ _ _ _]) rfl (weak_trans (weak_room 0 rfl rfl) (weak_room 1 rfl rfl)) ?_
        refine ge_done (by kernel_rfl) ?_
        refine hN12 _ _ ?_
        refine gT [box b2 _, box b3 _, box b4 _, rowl _ _ _ _ _ _] rfl ?_
        refine gfrom [(2, .pointer _), (3, .pointer _)] ⟨rfl, rfl, trivial⟩ fun σ => ?_
        refine gret fun w1 hM => ?_
        refine ⟨_, res2 rfl (rc 0 (cs := [_]) hM rfl rfl Tryd.isAgg24 Tryd.sizeOf24 rfl) (rc 1 (cs := [_, _]) hM rfl rfl Tryd.isAgg28 Tryd.sizeOf28 rfl), ?_⟩
        rw [hP]
        exact ⟨_, rfl, hM.low, newL_nil⟩
      · 
        replace hc32 := not_f hc32
        have hb : b = true := by simpa using hc32
        obtain ⟨t, hto, hts, rfl, hP⟩ : ∃ t : Tr, t.ok ∧ t.size ≤ 1000 ∧ o16 = post t 0 ∧ parR s = madeR t := by
          rcases hcut with h9 | h9
          · rw [hb] at h9; exact absurd h9.1 (by decide)
          · exact h9.2
        refine gskip ?_
        refine hN10 _ _ ?_
        refine gfrom [(2, .pointer _), (3, .pointer _), (4, .pointer _)] ⟨rfl, rfl, rfl, trivial⟩ fun σ => ?_
        refine gseq fun N13 hN13 => ?_
        refine greg ?_
        refine gop (y_fieldAddr_box fa60_0 rfl) rfl rfl rfl ?_
        refine gop_pure (e_call (vs := [.pointer _]) Tryd.func26 rfl (by kernel_rfl) rfl) (fun w hM => polMade1_any w b4 _ _ t hto (by omega) (cell_box 2 (off := 0) rfl rfl w hM) ((row_rdl (f := pnCells) (fun _ => rfl) (hM.ok _ (List.mem_of_getElem? (i := 3) rfl))).mono (Nat.zero_le _)) hc16 hm16) rfl rfl rfl ?_
        refine gop (y_extract (v := .agg #[_]) rfl rfl) rfl rfl rfl ?_
        refine gop (y_extract (v := .agg #[_, _]) rfl rfl) rfl rfl rfl ?_
        refine gop_store 0 (v := .agg #[_]) (cs' := #[_]) rfl rfl Tryd.sizeOf24 rfl rfl rfl rfl (Nat.le_of_ble_eq_true rfl) rfl rfl ?_
        refine gop_store 1 (v := .agg #[_, _]) (cs' := #[_, _]) rfl rfl Tryd.sizeOf28 rfl rfl rfl rfl (Nat.le_of_ble_eq_true rfl) rfl rfl ?_
        refine gops_nil ?_
        refine hN13 _ _ ?_
        refine gT [box b2 _, box b3 _, box b4 _, rowl _ _ _ _ _ _] rfl ?_
        refine gfrom [(2, .pointer _), (3, .pointer _)] ⟨rfl, rfl, trivial⟩ fun σ => ?_
        refine gret fun w1 hM => ?_
        refine ⟨_, res2 rfl (rc 0 (cs := [_]) hM rfl rfl Tryd.isAgg24 Tryd.sizeOf24 rfl) (rc 1 (cs := [_, _]) hM rfl rfl Tryd.isAgg28 Tryd.sizeOf28 rfl), ?_⟩
        rw [hP]
        by_cases hB : 24 < t.size ∨ 12 < t.depth
        · have hm : (madeR t).2 = [] := by rw [madeR, if_pos hB]
          refine ⟨_, rfl, hM.low, ?_⟩
          rw [hm]
          simp only [if_pos hB]
          exact newL_nil
        · have hm : (madeR t).2 = post t 0 := by rw [madeR, if_neg hB]
          refine ⟨_, rfl, hM.low, ?_⟩
          rw [hm]
          simp only [if_neg hB]
          exact hM.newL 3 rfl (fun _ => rfl)
end Go.Proofs.YtllblbkbglifjaaDoor
