/- walks, printed by program -/
import Derived.Test.YtbaojdiccikbiaaInvB
import Derived.Test.YtbaojdiccikbiaaPatchD
namespace Go.Proofs.Ytbaojdiccikbiaa
open Go.RowKit Go.Cf
set_option maxRecDepth 10000

theorem eq27 (a0 b0 : Int) (a1 b1 : Int) (w : World) : (binOp .eql 27 (.agg #[.int .i64 a0, .int .i64 a1]) (.agg #[.int .i64 b0, .int .i64 b1])).run Try.prog w = .ok (.bool ((decide (a0 = b0) && decide (a1 = b1)))) w := by
  simp [run_eql_struct, run_equalIn_agg, Try.underlying27, Try.stoodInHeld27, Program.fieldsOf, go_sem]
  (repeat' split) <;> simp_all

set_option maxHeartbeats 8000000 in
theorem law8_any (w : World) (A : Option Addr) (c : Nat) (hs : List HunkC) (hp : PatR w 0 A c hs) (line : Int) :
    Calls Try.prog 5 #[.agg #[.slice A hs.length c], .int .i64 line] w fun e w' => e = .returned (.bool true) ∧ Below w.heap.size w w' := by
  have hmm := Nat.le_trans hp.sb.len hp.sb.max
  refine gcalls Try.func5 rfl Try.ntmps5 (Nat.le_of_ble_eq_true rfl) ?_
  refine gfrom [(0, .agg #[_]), (1, .int _ _)] ⟨rfl, rfl, trivial⟩ fun σ => ?_
  refine gseq fun N1 hN1 => ?_
  refine greg ?_
  refine gop_box (v := .agg #[_]) (cs := #[_]) rfl rfl rfl (fun b2 hb2 => ?_)
  refine gop (y_assign (v := .bool _) rfl) rfl rfl rfl ?_
  refine gops_nil ?_
  refine hN1 _ _ ?_
  refine gT [box b2 _] rfl ?_
  refine gfrom [(1, .int _ _), (2, .pointer _)] ⟨rfl, rfl, trivial⟩ fun σ => ?_
  refine gseq fun N2 hN2 => ?_
  refine greg ?_
  refine gop (y_loads (cs := [_]) Try.isAgg25 Try.sizeOf25 rfl rfl (cells_box 0 rfl)) rfl rfl rfl ?_
  refine gop (y_move (v := .int _ _) rfl) rfl rfl rfl ?_
  refine gop_pure (e_call (vs := [.agg #[_], .int _ _]) Try.func20 rfl (by kernel_rfl) rfl) (fun w hM => map_any w _ _ hs (PatR.lasts.base hp hM) line) rfl rfl rfl ?_
  refine gop (y_move (v := .tuple #[.int _ _, .bool _, .agg #[_, _]]) rfl) rfl rfl rfl ?_
  refine gop (y_extract (v := .int _ _) rfl rfl) rfl rfl rfl ?_
  refine gop (y_extract (v := .bool _) rfl rfl) rfl rfl rfl ?_
  refine gop (y_extract (v := .agg #[_, _]) rfl rfl) rfl rfl rfl ?_
  refine gop_alloc (cs := #[.int .i64 0, .int .i64 0]) Try.zeroValue27 rfl rfl (fun b7 hb7 => ?_)
  refine gop (y_assign (v := .int _ _) rfl) rfl rfl rfl ?_
  refine gop (y_assign (v := .bool _) rfl) rfl rfl rfl ?_
  refine gop_store 1 (v := .agg #[_, _]) (cs' := #[_, _]) rfl rfl Try.sizeOf27 rfl rfl rfl rfl (Nat.le_of_ble_eq_true rfl) rfl rfl ?_
  refine gops_nil ?_
  refine hN2 _ _ ?_
  refine gT [box b2 _, box b7 _] rfl ?_
  refine gfrom [(1, .int _ _), (2, .pointer _), (5, .int _ _), (6, .bool _), (7, .pointer _)] ⟨rfl, rfl, rfl, rfl, rfl, trivial⟩ fun σ => ?_
  refine gseq fun N3 hN3 => ?_
  refine greg ?_
  refine gop (y_loads (cs := [_]) Try.isAgg25 Try.sizeOf25 rfl rfl (cells_box 0 rfl)) rfl rfl rfl ?_
  refine gop (y_move (v := .int _ _) rfl) rfl rfl rfl ?_
  refine gop_pure (e_call (vs := [.agg #[_], .int _ _]) Try.func21 rfl (by kernel_rfl) rfl) (fun w hM => mapBack_any w _ _ hs (PatR.lasts.base hp hM) line) rfl rfl rfl ?_
  refine gop (y_move (v := .tuple #[.int _ _, .bool _, .agg #[_, _]]) rfl) rfl rfl rfl ?_
  refine gop (y_extract (v := .int _ _) rfl rfl) rfl rfl rfl ?_
  refine gop (y_extract (v := .bool _) rfl rfl) rfl rfl rfl ?_
  refine gop (y_extract (v := .agg #[_, _]) rfl rfl) rfl rfl rfl ?_
  refine gop_alloc (cs := #[.int .i64 0, .int .i64 0]) Try.zeroValue27 rfl rfl (fun b10 hb10 => ?_)
  refine gop (y_assign (v := .int _ _) rfl) rfl rfl rfl ?_
  refine gop (y_assign (v := .bool _) rfl) rfl rfl rfl ?_
  refine gop_store 2 (v := .agg #[_, _]) (cs' := #[_, _]) rfl rfl Try.sizeOf27 rfl rfl rfl rfl (Nat.le_of_ble_eq_true rfl) rfl rfl ?_
  refine gops_nil ?_
  refine hN3 _ _ ?_
  refine gT [box b2 _, box b7 _, box b10 _] rfl ?_
  refine gfrom [(1, .int _ _), (2, .pointer _), (5, .int _ _), (6, .bool _), (7, .pointer _), (8, .int _ _), (9, .bool _), (10, .pointer _)] ⟨rfl, rfl, rfl, rfl, rfl, rfl, rfl, rfl, trivial⟩ fun σ => ?_
  refine gseq fun N4 hN4 => ?_
  refine gseq fun N5 hN5 => ?_
  refine greg ?_
  refine gop_pure (e_call (vs := []) Try.func15 rfl (by kernel_rfl) rfl) (fun w hM => anchorExample_any w) rfl rfl rfl ?_
  refine gop (y_not rfl) rfl rfl rfl ?_
  refine gops_nil ?_
  refine hN5 _ _ ?_
  refine gfrom [(1, .int _ _), (2, .pointer _), (5, .int _ _), (6, .bool _), (7, .pointer _), (8, .int _ _), (9, .bool _), (10, .pointer _), (34, .bool _)] ⟨rfl, rfl, rfl, rfl, rfl, rfl, rfl, rfl, rfl, trivial⟩ fun σ => ?_
  refine gcond (b := _) rfl (fun hc34 => ?_) (fun hc34 => ?_)
  · -- slot 34 t
    simp at hc34
  · -- slot 34 f
    replace hc34 := not_f hc34
    refine gskip ?_
    refine hN4 _ _ ?_
    refine gfrom [(1, .int _ _), (2, .pointer _), (5, .int _ _), (6, .bool _), (7, .pointer _), (8, .int _ _), (9, .bool _), (10, .pointer _)] ⟨rfl, rfl, rfl, rfl, rfl, rfl, rfl, rfl, trivial⟩ fun σ => ?_
    refine gseq fun N6 hN6 => ?_
    refine greg ?_
    refine gop (y_loads (cs := [_]) Try.isAgg25 Try.sizeOf25 rfl rfl (cells_box 0 rfl)) rfl rfl rfl ?_
    refine gop_pure (e_call (vs := [.agg #[_]]) Try.func18 rfl (by kernel_rfl) rfl) (fun w hM => patchValidate_any w _ _ _ (PatR.lasts.base hp hM)) rfl rfl rfl ?_
    refine gop_alloc (cs := #[.int .i64 0, .int .i64 0]) Try.zeroValue27 rfl rfl (fun b11 hb11 => ?_)
    refine gop_store 3 (v := .agg #[_, _]) (cs' := #[_, _]) rfl rfl Try.sizeOf27 rfl rfl rfl rfl (Nat.le_of_ble_eq_true rfl) rfl rfl ?_
    refine gops_nil ?_
    refine hN6 _ _ ?_
    refine gT [box b2 _, box b7 _, box b10 _, box b11 _] rfl ?_
    refine gfrom [(1, .int _ _), (2, .pointer _), (5, .int _ _), (6, .bool _), (7, .pointer _), (8, .int _ _), (9, .bool _), (10, .pointer _), (11, .pointer _)] ⟨rfl, rfl, rfl, rfl, rfl, rfl, rfl, rfl, rfl, trivial⟩ fun σ => ?_
    refine gseq fun N7 hN7 => ?_
    refine greg ?_
    refine gop (y_loads (cs := [_, _]) Try.isAgg27 Try.sizeOf27 rfl rfl (cells_box 3 rfl)) rfl rfl rfl ?_
    refine gop_alloc (cs := #[.int .i64 0, .int .i64 0]) Try.zeroValue27 rfl rfl (fun b12 hb12 => ?_)
    refine gop_store 4 (v := .agg #[_, _]) (cs' := #[_, _]) rfl rfl Try.sizeOf27 rfl rfl rfl rfl (Nat.le_of_ble_eq_true rfl) rfl rfl ?_
    refine gops_nil ?_
    refine hN7 _ _ ?_
    refine gT [box b2 _, box b7 _, box b10 _, box b11 _, box b12 _] rfl ?_
    refine gfrom [(1, .int _ _), (2, .pointer _), (5, .int _ _), (6, .bool _), (7, .pointer _), (8, .int _ _), (9, .bool _), (10, .pointer _), (11, .pointer _), (12, .pointer _)] ⟨rfl, rfl, rfl, rfl, rfl, rfl, rfl, rfl, rfl, rfl, trivial⟩ fun σ => ?_
    refine gseq fun N8 hN8 => ?_
    refine gfrom [(1, .int _ _), (2, .pointer _), (5, .int _ _), (6, .bool _), (7, .pointer _), (8, .int _ _), (9, .bool _), (10, .pointer _), (11, .pointer _), (12, .pointer _)] ⟨rfl, rfl, rfl, rfl, rfl, rfl, rfl, rfl, rfl, rfl, trivial⟩ fun σ => ?_
    refine gcut3 (Lf := [(1, .int _ _), (2, .pointer _), (5, .int _ _), (6, .bool _), (7, .pointer _), (8, .int _ _), (9, .bool _), (10, .pointer _), (11, .pointer _), (12, .pointer _)]) (G := Unit) (fun g => True) (fun g => []) (fun g => [(3, box b11 (.cells #[.int .i64 (mapF (pls hs) line).code, .int .i64 (mapF (pls hs) line).index] 27)), (4, box b12 (.cells #[.int .i64 (backF (pls hs) line).code, .int .i64 (backF (pls hs) line).index] 27))]) ⟨rfl, rfl, rfl, rfl, rfl, rfl, rfl, rfl, rfl, rfl, trivial⟩ ?_ ?_
    ·
      refine gseq fun N9 hN9 => ?_
      refine greg ?_
      refine gop (y_fieldAddr_box fa27_0 rfl) rfl rfl rfl ?_
      refine gop (y_load Try.isAgg3 rfl (cell_box 3 rfl rfl)) rfl rfl rfl ?_
      refine gop (y_eql rfl rfl) rfl rfl rfl ?_
      refine gops_nil ?_
      refine hN9 _ _ ?_
      refine gfrom [(1, .int _ _), (2, .pointer _), (5, .int _ _), (6, .bool _), (7, .pointer _), (8, .int _ _), (9, .bool _), (10, .pointer _), (11, .pointer _), (12, .pointer _), (40, .bool _)] ⟨rfl, rfl, rfl, rfl, rfl, rfl, rfl, rfl, rfl, rfl, rfl, trivial⟩ fun σ => ?_
      refine gcond (b := _) rfl (fun hc40 => ?_) (fun hc40 => ?_)
      · -- slot 40 t
        replace hc40 := of_decide_eq_true hc40
        have hP0 := patchF_code hc40
        have hv := patchF_ok.1 hP0
        refine gseq fun N10 hN10 => ?_
        refine greg ?_
        refine gop (y_move (v := .int _ _) rfl) rfl rfl rfl ?_
        refine gop_pure (e_call (vs := [.int _ _]) Try.func17 rfl (by kernel_rfl) rfl) (fun w hM => rangeFault_any w _) rfl rfl rfl ?_
        refine gop_store 3 (v := .agg #[_, _]) (cs' := #[_, _]) rfl rfl Try.sizeOf27 rfl rfl rfl rfl (Nat.le_of_ble_eq_true rfl) rfl rfl ?_
        refine gops_nil ?_
        refine hN10 _ _ ?_
        refine gT [box b2 _, box b7 _, box b10 _, box b11 _, box b12 _] rfl ?_
        refine gfrom [(1, .int _ _), (2, .pointer _), (5, .int _ _), (6, .bool _), (7, .pointer _), (8, .int _ _), (9, .bool _), (10, .pointer _), (11, .pointer _), (12, .pointer _)] ⟨rfl, rfl, rfl, rfl, rfl, rfl, rfl, rfl, rfl, rfl, trivial⟩ fun σ => ?_
        refine gseq fun N11 hN11 => ?_
        refine greg ?_
        refine gop (y_loads (cs := [_]) Try.isAgg25 Try.sizeOf25 rfl rfl (cells_box 0 rfl)) rfl rfl rfl ?_
        refine gop_got (fun v T' => ∃ lo v1, w.heap.size ≤ lo ∧ v = .tuple #[.agg #[v1], .bool (invOk (pls hs))] ∧ T' = [rowl hunkCells lo 43 3 v1 (invC hs)]) (e_call (vs := [.agg #[_]]) Try.func22 rfl (by kernel_rfl) rfl) (fun w hM => (reversed_any w _ _ hs (PatR.lasts.base hp hM) hv).mono fun _ _ ⟨v1, T1, e1, e2, e3⟩ => ⟨_, T1, e1, ⟨_, v1, hM.low.size, rfl, e2⟩, e3⟩) rfl rfl rfl ?_
        rintro _ _ ⟨lo45, v45, hlo45, rfl, rfl⟩
        refine gops_fact (fun w hM => row_form (hM.ok _ (List.mem_of_getElem? (i := 5) rfl))) ?_
        rintro ⟨A45, c45, rfl, hc45, hm45, hn45⟩
        refine gop (y_move (v := .tuple #[.agg #[.slice A45 _ c45], .bool _]) rfl) rfl rfl rfl ?_
        refine gop (y_extract (v := .agg #[_]) rfl rfl) rfl rfl rfl ?_
        refine gop (y_extract (v := .bool _) rfl rfl) rfl rfl rfl ?_
        refine gop_alloc (cs := #[.slice none 0 0]) Try.zeroValue25 rfl rfl (fun b13 hb13 => ?_)
        refine gop_store 6 (v := .agg #[_]) (cs' := #[_]) rfl rfl Try.sizeOf25 rfl rfl rfl rfl (Nat.le_of_ble_eq_true rfl) rfl rfl ?_
        refine gop (y_assign (v := .bool _) rfl) rfl rfl rfl ?_
        refine gops_nil ?_
        refine hN11 _ _ ?_
        refine gT [box b2 _, box b7 _, box b10 _, box b11 _, box b12 _, rowl _ _ _ _ _ _, box b13 _] rfl ?_
        refine gfrom [(1, .int _ _), (2, .pointer _), (5, .int _ _), (6, .bool _), (7, .pointer _), (8, .int _ _), (9, .bool _), (10, .pointer _), (11, .pointer _), (12, .pointer _), (13, .pointer _), (14, .bool _)] ⟨rfl, rfl, rfl, rfl, rfl, rfl, rfl, rfl, rfl, rfl, rfl, rfl, trivial⟩ fun σ => ?_
        refine gseq fun N12 hN12 => ?_
        refine gfrom [(1, .int _ _), (2, .pointer _), (5, .int _ _), (6, .bool _), (7, .pointer _), (8, .int _ _), (9, .bool _), (10, .pointer _), (11, .pointer _), (12, .pointer _), (13, .pointer _), (14, .bool _)] ⟨rfl, rfl, rfl, rfl, rfl, rfl, rfl, rfl, rfl, rfl, rfl, rfl, trivial⟩ fun σ => ?_
        refine gcut3 (Lf := [(1, .int _ _), (2, .pointer _), (5, .int _ _), (6, .bool _), (7, .pointer _), (8, .int _ _), (9, .bool _), (10, .pointer _), (11, .pointer _), (12, .pointer _), (13, .pointer _)]) (G := Unit) (fun g => True) (fun g => []) (fun g => [(4, box b12 (.cells #[.int .i64 (backF (pls hs) line).code, .int .i64 (backF (pls hs) line).index] 27))]) ⟨rfl, rfl, rfl, rfl, rfl, rfl, rfl, rfl, rfl, rfl, rfl, trivial⟩ ?_ ?_
        ·
          refine gseq fun N13 hN13 => ?_
          refine greg ?_
          refine gop (y_move (v := .bool _) rfl) rfl rfl rfl ?_
          refine gop (y_not rfl) rfl rfl rfl ?_
          refine gops_nil ?_
          refine hN13 _ _ ?_
          refine gfrom [(1, .int _ _), (2, .pointer _), (5, .int _ _), (6, .bool _), (7, .pointer _), (8, .int _ _), (9, .bool _), (10, .pointer _), (11, .pointer _), (12, .pointer _), (13, .pointer _), (49, .bool _)] ⟨rfl, rfl, rfl, rfl, rfl, rfl, rfl, rfl, rfl, rfl, rfl, rfl, trivial⟩ fun σ => ?_
          refine gcond (b := _) rfl (fun hc49 => ?_) (fun hc49 => ?_)
          · -- slot 49 t
            replace hc49 := not_t hc49
            refine greg ?_
            refine gop_pure (e_call (vs := [_, _]) Try.func16 rfl (by kernel_rfl) rfl) (fun w hM => fault_any w _ _) rfl rfl rfl ?_
            refine gop_store 4 (v := .agg #[_, _]) (cs' := #[_, _]) rfl rfl Try.sizeOf27 rfl rfl rfl rfl (Nat.le_of_ble_eq_true rfl) rfl rfl ?_
            refine gops_nil ?_
            rw [backF_no hP0 hc49]
            refine gcut3_end (()) (trivial) trivial ⟨rfl, rfl, rfl, rfl, rfl, rfl, rfl, rfl, rfl, rfl, rfl, trivial⟩ ⟨_, rfl⟩
          · -- slot 49 f
            replace hc49 := not_f hc49
            refine greg ?_
            refine gop (y_loads (cs := [_, _]) Try.isAgg27 Try.sizeOf27 rfl rfl (cells_box 3 rfl)) rfl rfl rfl ?_
            refine gop_store 4 (v := .agg #[_, _]) (cs' := #[_, _]) rfl rfl Try.sizeOf27 rfl rfl rfl rfl (Nat.le_of_ble_eq_true rfl) rfl rfl ?_
            refine gops_nil ?_
            rw [backF_yes hP0 hc49]
            refine gcut3_end (()) (trivial) trivial ⟨rfl, rfl, rfl, rfl, rfl, rfl, rfl, rfl, rfl, rfl, rfl, trivial⟩ ⟨_, rfl⟩
        ·
          intro g hcut σ
          refine hN12 _ _ ?_
          refine gseq fun N14 hN14 => ?_
          refine greg ?_
          refine gop (y_fieldAddr_box fa27_0 rfl) rfl rfl rfl ?_
          refine gop (y_load Try.isAgg3 rfl (cell_box 4 rfl rfl)) rfl rfl rfl ?_
          refine gop (y_eql rfl rfl) rfl rfl rfl ?_
          refine gops_nil ?_
          refine hN14 _ _ ?_
          refine gT [box b2 _, box b7 _, box b10 _, box b11 _, box b12 _, rowl _ _ _ _ _ _, box b13 _] rfl ?_
          refine gfrom [(1, .int _ _), (2, .pointer _), (5, .int _ _), (6, .bool _), (7, .pointer _), (8, .int _ _), (9, .bool _), (10, .pointer _), (11, .pointer _), (12, .pointer _), (13, .pointer _), (54, .bool _)] ⟨rfl, rfl, rfl, rfl, rfl, rfl, rfl, rfl, rfl, rfl, rfl, rfl, trivial⟩ fun σ => ?_
          refine gcond (b := _) rfl (fun hc54 => ?_) (fun hc54 => ?_)
          · -- slot 54 t
            replace hc54 := of_decide_eq_true hc54
            obtain ⟨_, hvi, hil, hbk⟩ := backF_zero hc54
            rw [← pls_invC] at hvi hbk
            have hln := isLine_t hil
            obtain ⟨u, rfl⟩ := Int.eq_ofNat_of_zero_le hln.1
            refine gseq fun N15 hN15 => ?_
            refine greg ?_
            refine gop (y_loads (cs := [_]) Try.isAgg25 Try.sizeOf25 rfl rfl (cells_box 6 rfl)) rfl rfl rfl ?_
            refine gop_pure (e_call (vs := [.agg #[_]]) Try.func19 rfl (by kernel_rfl) rfl) (fun w hM => trace_any w _ _ (invC hs) (PatR.mono (patR_inv (lo0 := 0) (hM.ok _ (List.mem_of_getElem? (i := 5) rfl)) (fun h hh => HunkR.lasts.base (hp.each h hh) hM) (Nat.zero_le _) hv (by rw [invC_len] at hc45; exact hc45) hm45 hn45) (Nat.zero_le _)) hvi) rfl rfl rfl ?_
            refine gop (y_move (v := .tuple #[.agg _, .agg _]) rfl) rfl rfl rfl ?_
            refine gop (y_extract (v := .agg _) rfl rfl) rfl rfl rfl ?_
            refine gop (y_extract (v := .agg _) rfl rfl) rfl rfl rfl ?_
            refine gop_alloc (cs := ((List.replicate 130 (0 : Int)).flatMap intCells).toArray) zvInts rfl rfl (fun b15 hb15 => ?_)
            refine gop_alloc (cs := ((List.replicate 130 false).flatMap boolCells).toArray) zvBools rfl rfl (fun b16 hb16 => ?_)
            refine gop_store_flat 7 (f := intCells) wide_int rfl rfl szInts (by rw [traceP_len]) rfl (by rw [traceP_len]; rfl) rfl ?_
            refine gop_store_flat 8 (f := boolCells) wide_bool rfl rfl szBools (by rw [traceK_len]) rfl (by rw [traceK_len]; rfl) rfl ?_
            refine gops_nil ?_
            refine hN15 _ _ ?_
            refine gT [box b2 _, box b7 _, box b10 _, box b11 _, box b12 _, rowl _ _ _ _ _ _, box b13 _, box b15 _, box b16 _] rfl ?_
            refine gfrom [(1, .int _ _), (2, .pointer _), (5, .int _ _), (6, .bool _), (7, .pointer _), (8, .int _ _), (9, .bool _), (10, .pointer _), (11, .pointer _), (12, .pointer _), (15, .pointer _), (16, .pointer _)] ⟨rfl, rfl, rfl, rfl, rfl, rfl, rfl, rfl, rfl, rfl, rfl, rfl, trivial⟩ fun σ => ?_
            refine gseq fun N16 hN16 => ?_
            refine greg ?_
            refine gop (y_fieldAddr_box fa27_0 rfl) rfl rfl rfl ?_
            refine gop (y_load Try.isAgg3 rfl (cell_box 2 rfl rfl)) rfl rfl rfl ?_
            refine gop (y_neq rfl rfl) rfl rfl rfl ?_
            refine gop (y_move (v := .bool _) rfl) rfl rfl rfl ?_
            refine gop_if (want := false) rfl rfl rfl rfl rfl rfl (fun hg63 => ?_) (fun hg63 => ?_)
            · -- guard 63 on
              have hg63d := Decidable.not_not.1 (of_decide_eq_false hg63)
              refine gop (y_bare (y_move (v := .int _ _) rfl)) rfl rfl rfl ?_
              refine gop_on rfl rfl rfl rfl hg63 ?_
              refine gop (y_bare (y_move (v := .int _ _) rfl)) rfl rfl rfl ?_
              refine gop_on rfl rfl rfl rfl hg63 ?_
              refine gop (y_bare (y_indexAddr_arr (m := u) Try.underlying37 Try.sizeOf3 rfl rfl rfl (by omega) (by omega))) rfl rfl rfl ?_
              refine gop_on rfl rfl rfl rfl hg63 ?_
              refine gop (y_bare (y_load Try.isAgg3 rfl (cell_box 7 rfl (traceP_cell (by omega))))) rfl rfl rfl ?_
              refine gop_on rfl rfl rfl rfl hg63 ?_
              refine gop (y_bare (y_neq rfl rfl)) rfl rfl rfl ?_
              refine gop (y_pick_f (v := .bool _) rfl hg63 rfl) rfl rfl rfl ?_
              refine gop (y_move (v := .bool _) rfl) rfl rfl rfl ?_
              refine gop_if (want := false) rfl rfl rfl rfl rfl rfl (fun hg70 => ?_) (fun hg70 => ?_)
              · -- guard 70 on
                have hg70d := Decidable.not_not.1 (of_decide_eq_false hg70)
                refine gop (y_bare (y_move (v := .bool _) rfl)) rfl rfl rfl ?_
                refine gop_on rfl rfl rfl rfl hg70 ?_
                refine gop (y_bare (y_move (v := .int _ _) rfl)) rfl rfl rfl ?_
                refine gop_on rfl rfl rfl rfl hg70 ?_
                refine gop (y_bare (y_indexAddr_arr (m := u) Try.underlying38 Try.sizeOf4 rfl rfl rfl (by omega) (by omega))) rfl rfl rfl ?_
                refine gop_on rfl rfl rfl rfl hg70 ?_
                refine gop (y_bare (y_load Try.isAgg4 rfl (cell_box 8 rfl (traceK_cell (by omega))))) rfl rfl rfl ?_
                refine gop_on rfl rfl rfl rfl hg70 ?_
                refine gop (y_bare (y_neqb rfl rfl Try.underlying4)) rfl rfl rfl ?_
                refine gop (y_pick_f (v := .bool _) rfl hg70 rfl) rfl rfl rfl ?_
                refine gops_nil ?_
                refine hN16 _ _ ?_
                refine gfrom [(1, .int _ _), (2, .pointer _), (5, .int _ _), (6, .bool _), (7, .pointer _), (8, .int _ _), (9, .bool _), (10, .pointer _), (11, .pointer _), (12, .pointer _), (76, .bool _)] ⟨rfl, rfl, rfl, rfl, rfl, rfl, rfl, rfl, rfl, rfl, rfl, trivial⟩ fun σ => ?_
                refine gcond (b := _) rfl (fun hc76 => ?_) (fun hc76 => ?_)
                · -- slot 76 t
                  simp [hbk] at hc76
                · -- slot 76 f
                  refine gskip ?_
                  rw [← mapF_range hP0]
                  refine gcut3_end (()) (trivial) trivial ⟨rfl, rfl, rfl, rfl, rfl, rfl, rfl, rfl, rfl, rfl, trivial⟩ ⟨_, rfl⟩
              · -- guard 70 off
                exact (of_decide_eq_true hg70 (by rw [hbk])).elim
            · -- guard 63 off
              exact (of_decide_eq_true hg63 hc54).elim
          · -- slot 54 f
            replace hc54 := of_decide_eq_false hc54
            refine gskip ?_
            rw [← mapF_range hP0]
            refine gcut3_end (()) (trivial) trivial ⟨rfl, rfl, rfl, rfl, rfl, rfl, rfl, rfl, rfl, rfl, trivial⟩ ⟨_, rfl⟩
      · -- slot 40 f
        replace hc40 := of_decide_eq_false hc40
        refine gskip ?_
        rw [mapF_patch (line := line) hc40, backF_patch (line := line) hc40]
        refine gcut3_end (()) (trivial) trivial ⟨rfl, rfl, rfl, rfl, rfl, rfl, rfl, rfl, rfl, rfl, trivial⟩ ⟨_, rfl⟩
    ·
      intro g hcut σ
      refine hN8 _ _ ?_
      refine gseq fun N17 hN17 => ?_
      refine gseq fun N18 hN18 => ?_
      refine greg ?_
      refine gop (y_fieldAddr_box fa27_0 rfl) rfl rfl rfl ?_
      refine gop (y_load Try.isAgg3 rfl (cell_box 4 rfl rfl)) rfl rfl rfl ?_
      refine gop (y_neq rfl rfl) rfl rfl rfl ?_
      refine gop (y_move (v := .bool _) rfl) rfl rfl rfl ?_
      refine gop_if (want := true) rfl rfl rfl rfl rfl rfl (fun hg80 => ?_) (fun hg80 => ?_)
      · -- guard 80 on
        have hg80d := of_decide_eq_true hg80
        have hV0 := backV_ne hg80d
        refine gop (y_bare (y_loads (cs := [_, _]) Try.isAgg27 Try.sizeOf27 rfl rfl (cells_box 2 rfl))) rfl rfl rfl ?_
        refine gop_on rfl rfl rfl rfl hg80 ?_
        refine gop (y_bare (y_loads (cs := [_, _]) Try.isAgg27 Try.sizeOf27 rfl rfl (cells_box 4 rfl))) rfl rfl rfl ?_
        refine gop_on rfl rfl rfl rfl hg80 ?_
        refine gop (y_bare (y_bin (vx := .agg #[_, _]) (vy := .agg #[_, _]) rfl rfl (fun w => eg27 _ _ _ _ _ w) (fun w => ne27 _ _ _ _ w))) rfl rfl rfl ?_
        refine gop_on rfl rfl rfl rfl hg80 ?_
        refine gop (y_bare (y_move (v := .bool _) rfl)) rfl rfl rfl ?_
        refine gop_if (want := false) rfl rfl rfl rfl rfl rfl (fun hg84 => ?_) (fun hg84 => ?_)
        · -- guard 84 on
          have hg84d := hg84
          refine gop (y_bare (y_move (v := .int _ _) rfl)) rfl rfl rfl ?_
          refine gop_on rfl rfl rfl rfl hg84 ?_
          refine gop (y_bare (y_neq rfl rfl)) rfl rfl rfl ?_
          refine gop_on rfl rfl rfl rfl hg80 ?_
          refine gop (y_bare (y_pick_f (v := .bool _) rfl hg84 rfl)) rfl rfl rfl ?_
          refine gop_on rfl rfl rfl rfl hg80 ?_
          refine gop (y_bare (y_move (v := .bool _) rfl)) rfl rfl rfl ?_
          refine gop_if (want := false) rfl rfl rfl rfl rfl rfl (fun hg88 => ?_) (fun hg88 => ?_)
          · -- guard 88 on
            have hg88d := Decidable.not_not.1 (of_decide_eq_false hg88)
            refine gop (y_bare (y_move (v := .bool _) rfl)) rfl rfl rfl ?_
            refine gop_on rfl rfl rfl rfl hg80 ?_
            refine gop (y_bare (y_pick_f (v := .bool _) rfl hg88 rfl)) rfl rfl rfl ?_
            refine gop (y_pick_t (v := .bool _) rfl hg80 rfl) rfl rfl rfl ?_
            refine gops_nil ?_
            refine hN18 _ _ ?_
            refine gT [box b2 _, box b7 _, box b10 _, box b11 _, box b12 _] rfl ?_
            refine gfrom [(1, .int _ _), (2, .pointer _), (5, .int _ _), (6, .bool _), (7, .pointer _), (11, .pointer _), (91, .bool _)] ⟨rfl, rfl, rfl, rfl, rfl, rfl, rfl, trivial⟩ fun σ => ?_
            refine gcond (b := _) rfl (fun hc91 => ?_) (fun hc91 => ?_)
            · -- slot 91 t
              first | (simp [hV0] at hc91; done) | (cases hc91)
            · -- slot 91 f
              refine gskip ?_
              refine hN17 _ _ ?_
              refine gfrom [(1, .int _ _), (2, .pointer _), (5, .int _ _), (6, .bool _), (7, .pointer _), (11, .pointer _)] ⟨rfl, rfl, rfl, rfl, rfl, rfl, trivial⟩ fun σ => ?_
              refine gseq fun N19 hN19 => ?_
              refine gseq fun N20 hN20 => ?_
              refine greg ?_
              refine gop (y_fieldAddr_box fa27_0 rfl) rfl rfl rfl ?_
              refine gop (y_load Try.isAgg3 rfl (cell_box 3 rfl rfl)) rfl rfl rfl ?_
              refine gop (y_neq rfl rfl) rfl rfl rfl ?_
              refine gops_nil ?_
              refine hN20 _ _ ?_
              refine gfrom [(1, .int _ _), (2, .pointer _), (5, .int _ _), (6, .bool _), (7, .pointer _), (11, .pointer _), (94, .bool _)] ⟨rfl, rfl, rfl, rfl, rfl, rfl, rfl, trivial⟩ fun σ => ?_
              refine gcond (b := _) rfl (fun hc94 => ?_) (fun hc94 => ?_)
              · -- slot 94 t
                replace hc94 := of_decide_eq_true hc94
                have hV1 := mapV_ne hc94
                refine gseq fun N21 hN21 => ?_
                refine greg ?_
                refine gop (y_loads (cs := [_, _]) Try.isAgg27 Try.sizeOf27 rfl rfl (cells_box 1 rfl)) rfl rfl rfl ?_
                refine gop (y_loads (cs := [_, _]) Try.isAgg27 Try.sizeOf27 rfl rfl (cells_box 3 rfl)) rfl rfl rfl ?_
                refine gop (y_bin (vx := .agg #[_, _]) (vy := .agg #[_, _]) rfl rfl (fun w => eg27 _ _ _ _ _ w) (fun w => eq27 _ _ _ _ w)) rfl rfl rfl ?_
                refine gop (y_move (v := .bool _) rfl) rfl rfl rfl ?_
                refine gop_if (want := true) rfl rfl rfl rfl rfl rfl (fun hg98 => ?_) (fun hg98 => ?_)
                · -- guard 98 on
                  have hg98d := hg98
                  refine gop (y_bare (y_move (v := .int _ _) rfl)) rfl rfl rfl ?_
                  refine gop_on rfl rfl rfl rfl hg98 ?_
                  refine gop (y_bare (y_eql rfl rfl)) rfl rfl rfl ?_
                  refine gop (y_pick_t (v := .bool _) rfl hg98 rfl) rfl rfl rfl ?_
                  refine gop (y_move (v := .bool _) rfl) rfl rfl rfl ?_
                  refine gop_if (want := true) rfl rfl rfl rfl rfl rfl (fun hg102 => ?_) (fun hg102 => ?_)
                  · -- guard 102 on
                    have hg102d := of_decide_eq_true hg102
                    refine gop (y_bare (y_move (v := .bool _) rfl)) rfl rfl rfl ?_
                    refine gop_on rfl rfl rfl rfl hg102 ?_
                    refine gop (y_bare (y_not rfl)) rfl rfl rfl ?_
                    refine gop (y_pick_t (v := .bool _) rfl hg102 rfl) rfl rfl rfl ?_
                    refine gop (y_assign (v := .bool _) rfl) rfl rfl rfl ?_
                    refine gops_nil ?_
                    refine hN21 _ _ ?_
                    refine gfrom [(4, .bool _)] ⟨rfl, trivial⟩ fun σ => ?_
                    refine gret fun w1 hM => ?_
                    refine ⟨_, res1 rfl (rt (v := .bool _) rfl), ?_⟩
                    exact ⟨by simp [hV1], hM.low⟩
                  · -- guard 102 off
                    simp [hV1] at hg102
                · -- guard 98 off
                  simp at hg98
              · -- slot 94 f
                replace hc94 := Decidable.not_not.1 (of_decide_eq_false hc94)
                obtain ⟨hv, hil, hm0, hmv⟩ := mapF_zero hc94
                have hln := isLine_t hil
                obtain ⟨u, rfl⟩ := Int.eq_ofNat_of_zero_le hln.1
                refine gskip ?_
                refine hN19 _ _ ?_
                refine gfrom [(1, .int _ _), (2, .pointer _), (5, .int _ _), (6, .bool _), (7, .pointer _)] ⟨rfl, rfl, rfl, rfl, rfl, trivial⟩ fun σ => ?_
                refine gseq fun N22 hN22 => ?_
                refine greg ?_
                refine gop (y_loads (cs := [_]) Try.isAgg25 Try.sizeOf25 rfl rfl (cells_box 0 rfl)) rfl rfl rfl ?_
                refine gop_pure (e_call (vs := [.agg #[_]]) Try.func19 rfl (by kernel_rfl) rfl) (fun w hM => trace_any w _ _ hs (PatR.lasts.base hp hM) hv) rfl rfl rfl ?_
                refine gop (y_move (v := .tuple #[.agg _, .agg _]) rfl) rfl rfl rfl ?_
                refine gop (y_extract (v := .agg _) rfl rfl) rfl rfl rfl ?_
                refine gop (y_extract (v := .agg _) rfl rfl) rfl rfl rfl ?_
                refine gop_alloc (cs := ((List.replicate 130 (0 : Int)).flatMap intCells).toArray) zvInts rfl rfl (fun b17 hb17 => ?_)
                refine gop_alloc (cs := ((List.replicate 130 false).flatMap boolCells).toArray) zvBools rfl rfl (fun b18 hb18 => ?_)
                refine gop_store_flat 5 (f := intCells) wide_int rfl rfl szInts (by rw [traceP_len]) rfl (by rw [traceP_len]; rfl) rfl ?_
                refine gop_store_flat 6 (f := boolCells) wide_bool rfl rfl szBools (by rw [traceK_len]) rfl (by rw [traceK_len]; rfl) rfl ?_
                refine gops_nil ?_
                refine hN22 _ _ ?_
                refine gT [box b2 _, box b7 _, box b10 _, box b11 _, box b12 _, box b17 _, box b18 _] rfl ?_
                refine gfrom [(1, .int _ _), (5, .int _ _), (6, .bool _), (7, .pointer _), (17, .pointer _), (18, .pointer _)] ⟨rfl, rfl, rfl, rfl, rfl, rfl, trivial⟩ fun σ => ?_
                refine gseq fun N23 hN23 => ?_
                refine greg ?_
                refine gop (y_fieldAddr_box fa27_0 rfl) rfl rfl rfl ?_
                refine gop (y_load Try.isAgg3 rfl (cell_box 1 rfl rfl)) rfl rfl rfl ?_
                refine gop (y_eql rfl rfl) rfl rfl rfl ?_
                refine gop (y_move (v := .bool _) rfl) rfl rfl rfl ?_
                refine gop_if (want := true) rfl rfl rfl rfl rfl rfl (fun hg114 => ?_) (fun hg114 => ?_)
                · -- guard 114 on
                  have hg114d := of_decide_eq_true hg114
                  refine gop (y_bare (y_move (v := .int _ _) rfl)) rfl rfl rfl ?_
                  refine gop_on rfl rfl rfl rfl hg114 ?_
                  refine gop (y_bare (y_move (v := .int _ _) rfl)) rfl rfl rfl ?_
                  refine gop_on rfl rfl rfl rfl hg114 ?_
                  refine gop (y_bare (y_indexAddr_arr (m := u) Try.underlying37 Try.sizeOf3 rfl rfl rfl (by omega) (by omega))) rfl rfl rfl ?_
                  refine gop_on rfl rfl rfl rfl hg114 ?_
                  refine gop (y_bare (y_load Try.isAgg3 rfl (cell_box 5 rfl (traceP_cell (by omega))))) rfl rfl rfl ?_
                  refine gop_on rfl rfl rfl rfl hg114 ?_
                  refine gop (y_bare (y_eql rfl rfl)) rfl rfl rfl ?_
                  refine gop (y_pick_t (v := .bool _) rfl hg114 rfl) rfl rfl rfl ?_
                  refine gop (y_move (v := .bool _) rfl) rfl rfl rfl ?_
                  refine gop_if (want := true) rfl rfl rfl rfl rfl rfl (fun hg121 => ?_) (fun hg121 => ?_)
                  · -- guard 121 on
                    have hg121d := of_decide_eq_true hg121
                    refine gop (y_bare (y_move (v := .bool _) rfl)) rfl rfl rfl ?_
                    refine gop_on rfl rfl rfl rfl hg121 ?_
                    refine gop (y_bare (y_move (v := .int _ _) rfl)) rfl rfl rfl ?_
                    refine gop_on rfl rfl rfl rfl hg121 ?_
                    refine gop (y_bare (y_indexAddr_arr (m := u) Try.underlying38 Try.sizeOf4 rfl rfl rfl (by omega) (by omega))) rfl rfl rfl ?_
                    refine gop_on rfl rfl rfl rfl hg121 ?_
                    refine gop (y_bare (y_load Try.isAgg4 rfl (cell_box 6 rfl (traceK_cell (by omega))))) rfl rfl rfl ?_
                    refine gop_on rfl rfl rfl rfl hg121 ?_
                    refine gop (y_bare (y_eqlb rfl rfl Try.underlying4)) rfl rfl rfl ?_
                    refine gop (y_pick_t (v := .bool _) rfl hg121 rfl) rfl rfl rfl ?_
                    refine gop (y_assign (v := .bool _) rfl) rfl rfl rfl ?_
                    refine gops_nil ?_
                    refine hN23 _ _ ?_
                    refine gfrom [(4, .bool _)] ⟨rfl, trivial⟩ fun σ => ?_
                    refine gret fun w1 hM => ?_
                    refine ⟨_, res1 rfl (rt (v := .bool _) rfl), ?_⟩
                    exact ⟨by rw [hmv]; simp, hM.low⟩
                  · -- guard 121 off
                    exact (of_decide_eq_false hg121 (by rw [hmv])).elim
                · -- guard 114 off
                  exact (of_decide_eq_false hg114 hc94).elim
          · -- guard 88 off
            simp [hV0] at hg88
        · -- guard 84 off
          simp at hg84
      · -- guard 80 off
        have hg80d := Decidable.not_not.1 (of_decide_eq_false hg80)
        refine gop_off rfl rfl rfl rfl hg80 rfl rfl ?_
        refine gop_off rfl rfl rfl rfl hg80 rfl rfl ?_
        refine gop_off rfl rfl rfl rfl hg80 rfl rfl ?_
        refine gop_offu rfl rfl rfl rfl rfl rfl ?_
        refine gop_offu rfl rfl rfl rfl rfl rfl ?_
        refine gop_off rfl rfl rfl rfl hg80 rfl rfl ?_
        refine gop_off rfl rfl rfl rfl hg80 rfl rfl ?_
        refine gop_offu rfl rfl rfl rfl rfl rfl ?_
        refine gop_off rfl rfl rfl rfl hg80 rfl rfl ?_
        refine gop (y_pick_f (v := .bool _) rfl hg80 rfl) rfl rfl rfl ?_
        refine gops_nil ?_
        refine hN18 _ _ ?_
        refine gT [box b2 _, box b7 _, box b10 _, box b11 _, box b12 _] rfl ?_
        refine gfrom [(1, .int _ _), (2, .pointer _), (5, .int _ _), (6, .bool _), (7, .pointer _), (11, .pointer _), (91, .bool _)] ⟨rfl, rfl, rfl, rfl, rfl, rfl, rfl, trivial⟩ fun σ => ?_
        refine gcond (b := _) rfl (fun hc91 => ?_) (fun hc91 => ?_)
        · -- slot 91 t
          cases hc91
        · -- slot 91 f
          refine gskip ?_
          refine hN17 _ _ ?_
          refine gfrom [(1, .int _ _), (2, .pointer _), (5, .int _ _), (6, .bool _), (7, .pointer _), (11, .pointer _)] ⟨rfl, rfl, rfl, rfl, rfl, rfl, trivial⟩ fun σ => ?_
          refine gseq fun N24 hN24 => ?_
          refine gseq fun N25 hN25 => ?_
          refine greg ?_
          refine gop (y_fieldAddr_box fa27_0 rfl) rfl rfl rfl ?_
          refine gop (y_load Try.isAgg3 rfl (cell_box 3 rfl rfl)) rfl rfl rfl ?_
          refine gop (y_neq rfl rfl) rfl rfl rfl ?_
          refine gops_nil ?_
          refine hN25 _ _ ?_
          refine gfrom [(1, .int _ _), (2, .pointer _), (5, .int _ _), (6, .bool _), (7, .pointer _), (11, .pointer _), (94, .bool _)] ⟨rfl, rfl, rfl, rfl, rfl, rfl, rfl, trivial⟩ fun σ => ?_
          refine gcond (b := _) rfl (fun hc94 => ?_) (fun hc94 => ?_)
          · -- slot 94 t
            replace hc94 := of_decide_eq_true hc94
            have hV1 := mapV_ne hc94
            refine gseq fun N26 hN26 => ?_
            refine greg ?_
            refine gop (y_loads (cs := [_, _]) Try.isAgg27 Try.sizeOf27 rfl rfl (cells_box 1 rfl)) rfl rfl rfl ?_
            refine gop (y_loads (cs := [_, _]) Try.isAgg27 Try.sizeOf27 rfl rfl (cells_box 3 rfl)) rfl rfl rfl ?_
            refine gop (y_bin (vx := .agg #[_, _]) (vy := .agg #[_, _]) rfl rfl (fun w => eg27 _ _ _ _ _ w) (fun w => eq27 _ _ _ _ w)) rfl rfl rfl ?_
            refine gop (y_move (v := .bool _) rfl) rfl rfl rfl ?_
            refine gop_if (want := true) rfl rfl rfl rfl rfl rfl (fun hg98 => ?_) (fun hg98 => ?_)
            · -- guard 98 on
              have hg98d := hg98
              refine gop (y_bare (y_move (v := .int _ _) rfl)) rfl rfl rfl ?_
              refine gop_on rfl rfl rfl rfl hg98 ?_
              refine gop (y_bare (y_eql rfl rfl)) rfl rfl rfl ?_
              refine gop (y_pick_t (v := .bool _) rfl hg98 rfl) rfl rfl rfl ?_
              refine gop (y_move (v := .bool _) rfl) rfl rfl rfl ?_
              refine gop_if (want := true) rfl rfl rfl rfl rfl rfl (fun hg102 => ?_) (fun hg102 => ?_)
              · -- guard 102 on
                have hg102d := of_decide_eq_true hg102
                refine gop (y_bare (y_move (v := .bool _) rfl)) rfl rfl rfl ?_
                refine gop_on rfl rfl rfl rfl hg102 ?_
                refine gop (y_bare (y_not rfl)) rfl rfl rfl ?_
                refine gop (y_pick_t (v := .bool _) rfl hg102 rfl) rfl rfl rfl ?_
                refine gop (y_assign (v := .bool _) rfl) rfl rfl rfl ?_
                refine gops_nil ?_
                refine hN26 _ _ ?_
                refine gfrom [(4, .bool _)] ⟨rfl, trivial⟩ fun σ => ?_
                refine gret fun w1 hM => ?_
                refine ⟨_, res1 rfl (rt (v := .bool _) rfl), ?_⟩
                exact ⟨by simp [hV1], hM.low⟩
              · -- guard 102 off
                simp [hV1] at hg102
            · -- guard 98 off
              simp at hg98
          · -- slot 94 f
            replace hc94 := Decidable.not_not.1 (of_decide_eq_false hc94)
            obtain ⟨hv, hil, hm0, hmv⟩ := mapF_zero hc94
            have hln := isLine_t hil
            obtain ⟨u, rfl⟩ := Int.eq_ofNat_of_zero_le hln.1
            refine gskip ?_
            refine hN24 _ _ ?_
            refine gfrom [(1, .int _ _), (2, .pointer _), (5, .int _ _), (6, .bool _), (7, .pointer _)] ⟨rfl, rfl, rfl, rfl, rfl, trivial⟩ fun σ => ?_
            refine gseq fun N27 hN27 => ?_
            refine greg ?_
            refine gop (y_loads (cs := [_]) Try.isAgg25 Try.sizeOf25 rfl rfl (cells_box 0 rfl)) rfl rfl rfl ?_
            refine gop_pure (e_call (vs := [.agg #[_]]) Try.func19 rfl (by kernel_rfl) rfl) (fun w hM => trace_any w _ _ hs (PatR.lasts.base hp hM) hv) rfl rfl rfl ?_
            refine gop (y_move (v := .tuple #[.agg _, .agg _]) rfl) rfl rfl rfl ?_
            refine gop (y_extract (v := .agg _) rfl rfl) rfl rfl rfl ?_
            refine gop (y_extract (v := .agg _) rfl rfl) rfl rfl rfl ?_
            refine gop_alloc (cs := ((List.replicate 130 (0 : Int)).flatMap intCells).toArray) zvInts rfl rfl (fun b17 hb17 => ?_)
            refine gop_alloc (cs := ((List.replicate 130 false).flatMap boolCells).toArray) zvBools rfl rfl (fun b18 hb18 => ?_)
            refine gop_store_flat 5 (f := intCells) wide_int rfl rfl szInts (by rw [traceP_len]) rfl (by rw [traceP_len]; rfl) rfl ?_
            refine gop_store_flat 6 (f := boolCells) wide_bool rfl rfl szBools (by rw [traceK_len]) rfl (by rw [traceK_len]; rfl) rfl ?_
            refine gops_nil ?_
            refine hN27 _ _ ?_
            refine gT [box b2 _, box b7 _, box b10 _, box b11 _, box b12 _, box b17 _, box b18 _] rfl ?_
            refine gfrom [(1, .int _ _), (5, .int _ _), (6, .bool _), (7, .pointer _), (17, .pointer _), (18, .pointer _)] ⟨rfl, rfl, rfl, rfl, rfl, rfl, trivial⟩ fun σ => ?_
            refine gseq fun N28 hN28 => ?_
            refine greg ?_
            refine gop (y_fieldAddr_box fa27_0 rfl) rfl rfl rfl ?_
            refine gop (y_load Try.isAgg3 rfl (cell_box 1 rfl rfl)) rfl rfl rfl ?_
            refine gop (y_eql rfl rfl) rfl rfl rfl ?_
            refine gop (y_move (v := .bool _) rfl) rfl rfl rfl ?_
            refine gop_if (want := true) rfl rfl rfl rfl rfl rfl (fun hg114 => ?_) (fun hg114 => ?_)
            · -- guard 114 on
              have hg114d := of_decide_eq_true hg114
              refine gop (y_bare (y_move (v := .int _ _) rfl)) rfl rfl rfl ?_
              refine gop_on rfl rfl rfl rfl hg114 ?_
              refine gop (y_bare (y_move (v := .int _ _) rfl)) rfl rfl rfl ?_
              refine gop_on rfl rfl rfl rfl hg114 ?_
              refine gop (y_bare (y_indexAddr_arr (m := u) Try.underlying37 Try.sizeOf3 rfl rfl rfl (by omega) (by omega))) rfl rfl rfl ?_
              refine gop_on rfl rfl rfl rfl hg114 ?_
              refine gop (y_bare (y_load Try.isAgg3 rfl (cell_box 5 rfl (traceP_cell (by omega))))) rfl rfl rfl ?_
              refine gop_on rfl rfl rfl rfl hg114 ?_
              refine gop (y_bare (y_eql rfl rfl)) rfl rfl rfl ?_
              refine gop (y_pick_t (v := .bool _) rfl hg114 rfl) rfl rfl rfl ?_
              refine gop (y_move (v := .bool _) rfl) rfl rfl rfl ?_
              refine gop_if (want := true) rfl rfl rfl rfl rfl rfl (fun hg121 => ?_) (fun hg121 => ?_)
              · -- guard 121 on
                have hg121d := of_decide_eq_true hg121
                refine gop (y_bare (y_move (v := .bool _) rfl)) rfl rfl rfl ?_
                refine gop_on rfl rfl rfl rfl hg121 ?_
                refine gop (y_bare (y_move (v := .int _ _) rfl)) rfl rfl rfl ?_
                refine gop_on rfl rfl rfl rfl hg121 ?_
                refine gop (y_bare (y_indexAddr_arr (m := u) Try.underlying38 Try.sizeOf4 rfl rfl rfl (by omega) (by omega))) rfl rfl rfl ?_
                refine gop_on rfl rfl rfl rfl hg121 ?_
                refine gop (y_bare (y_load Try.isAgg4 rfl (cell_box 6 rfl (traceK_cell (by omega))))) rfl rfl rfl ?_
                refine gop_on rfl rfl rfl rfl hg121 ?_
                refine gop (y_bare (y_eqlb rfl rfl Try.underlying4)) rfl rfl rfl ?_
                refine gop (y_pick_t (v := .bool _) rfl hg121 rfl) rfl rfl rfl ?_
                refine gop (y_assign (v := .bool _) rfl) rfl rfl rfl ?_
                refine gops_nil ?_
                refine hN28 _ _ ?_
                refine gfrom [(4, .bool _)] ⟨rfl, trivial⟩ fun σ => ?_
                refine gret fun w1 hM => ?_
                refine ⟨_, res1 rfl (rt (v := .bool _) rfl), ?_⟩
                exact ⟨by rw [hmv]; simp, hM.low⟩
              · -- guard 121 off
                exact (of_decide_eq_false hg121 (by rw [hmv])).elim
            · -- guard 114 off
              exact (of_decide_eq_false hg114 hc94).elim
end Go.Proofs.Ytbaojdiccikbiaa
