/- walks, printed by program -/
import Derived.Test.YtbaojdiccikbiaaStr
import Derived.Test.YtbaojdiccikbiaaProg
namespace Go.Proofs.Ytbaojdiccikbiaa
open Go.RowKit Go.Cf
set_option maxRecDepth 10000

theorem bd27_0_1 (x1 : Int) (x2 : Int) : Try.prog.built 27 [(0, .int .i64 x1), (1, .int .i64 x2)] = some #[.int .i64 x1, .int .i64 x2] := by kernel_rfl
theorem bd27_  : Try.prog.built 27 [] = some #[.int .i64 0, .int .i64 0] := by kernel_rfl
theorem fa43_0 (a : Addr) (w : World) : (Instr.fieldAt 43 (.pointer (some a)) 0).run Try.prog w = .ok (.pointer (some (a.add 0))) w := by kernel_rfl
theorem fa43_1 (a : Addr) (w : World) : (Instr.fieldAt 43 (.pointer (some a)) 1).run Try.prog w = .ok (.pointer (some (a.add 1))) w := by kernel_rfl
theorem fa43_2 (a : Addr) (w : World) : (Instr.fieldAt 43 (.pointer (some a)) 2).run Try.prog w = .ok (.pointer (some (a.add 2))) w := by kernel_rfl
theorem bd88_0_1 (x1 : Option Addr) (x1l x1c : Nat) (x2 : Option Addr) (x2l x2c : Nat) : Try.prog.built 88 [(0, .slice x1 x1l x1c), (1, .slice x2 x2l x2c)] = some #[.slice x1 x1l x1c, .slice x2 x2l x2c] := by kernel_rfl
theorem eg27 (op : BinOp) (x y : Operand) (xs ys : Array Value) (w : World) : (eqGuard op 27 x y (.agg xs) (.agg ys)).run Try.prog w = .ok () w := run_eqGuard_agg w op 27 x y xs ys (by kernel_rfl)
theorem ne27 (a0 b0 : Int) (a1 b1 : Int) (w : World) : (binOp .neq 27 (.agg #[.int .i64 a0, .int .i64 a1]) (.agg #[.int .i64 b0, .int .i64 b1])).run Try.prog w = .ok (.bool (!(decide (a0 = b0) && decide (a1 = b1)))) w := by
  simp [run_neq_struct, run_equalIn_agg, Try.underlying27, Try.stoodInHeld27, Program.fieldsOf, go_sem]
  (repeat' split) <;> simp_all
theorem fa27_0 (a : Addr) (w : World) : (Instr.fieldAt 27 (.pointer (some a)) 0).run Try.prog w = .ok (.pointer (some (a.add 0))) w := by kernel_rfl
theorem fa25_0 (a : Addr) (w : World) : (Instr.fieldAt 25 (.pointer (some a)) 0).run Try.prog w = .ok (.pointer (some (a.add 0))) w := by kernel_rfl

set_option maxHeartbeats 1000000 in
theorem fault_any (w : World) (c i : Int) : Calls Try.prog 16 #[.int .i64 c, .int .i64 i] w fun e w' => e = .returned (fv ⟨c, i⟩) ∧ Below w.heap.size w w' := by
  refine gcalls Try.func16 rfl Try.ntmps16 (Nat.le_of_ble_eq_true rfl) ?_
  refine gfrom [(0, .int _ _), (1, .int _ _)] ⟨rfl, rfl, trivial⟩ fun σ => ?_
  refine gseq fun N1 hN1 => ?_
  refine greg ?_
  refine gop_alloc (cs := #[.int .i64 0, .int .i64 0]) Try.zeroValue27 rfl rfl (fun b4 hb4 => ?_)
  refine gops_nil ?_
  refine hN1 _ _ ?_
  refine gT [box b4 _] rfl ?_
  refine gfrom [(0, .int _ _), (1, .int _ _), (4, .pointer _)] ⟨rfl, rfl, rfl, trivial⟩ fun σ => ?_
  refine gseq fun N2 hN2 => ?_
  refine greg ?_
  refine gop (y_move (v := .int _ _) rfl) rfl rfl rfl ?_
  refine gop (y_move (v := .int _ _) rfl) rfl rfl rfl ?_
  refine gop (y_build (vs := [(0, .int _ _), (1, .int _ _)]) (cells := #[_, _]) rfl (bd27_0_1 _ _)) rfl rfl rfl ?_
  refine gop_store 0 (v := .agg #[_, _]) (cs' := #[_, _]) rfl rfl Try.sizeOf27 rfl rfl rfl rfl (Nat.le_of_ble_eq_true rfl) rfl rfl ?_
  refine gops_nil ?_
  refine hN2 _ _ ?_
  refine gT [box b4 _] rfl ?_
  refine gfrom [(4, .pointer _)] ⟨rfl, trivial⟩ fun σ => ?_
  refine gret fun w1 hM => ?_
  refine ⟨_, res1 rfl (rc 0 (cs := [_, _]) hM rfl rfl Try.isAgg27 Try.sizeOf27 rfl), ?_⟩
  exact ⟨rfl, hM.low⟩

set_option maxHeartbeats 1000000 in
theorem slIndexByte_any (w : World) (s : ByteArray) (c : Int) : Calls Try.prog 57 #[.string s, .int .u8 c] w fun e w' => e = .returned (.int .i64 (firstIdx s c.toNat.toUInt8)) ∧ Below w.heap.size w w' := by
  refine gcalls Try.func57 rfl Try.ntmps57 (Nat.le_of_ble_eq_true rfl) ?_
  refine gfrom [(0, .string _), (1, .int _ _)] ⟨rfl, rfl, trivial⟩ fun σ => ?_
  refine gseq fun N1 hN1 => ?_
  refine greg ?_
  refine gop (y_assign (v := .int _ _) rfl) rfl rfl rfl ?_
  refine gops_nil ?_
  refine hN1 _ _ ?_
  refine gfrom [(0, .string _), (1, .int _ _)] ⟨rfl, rfl, trivial⟩ fun σ => ?_
  refine gseq fun N2 hN2 => ?_
  refine greg ?_
  refine gop (y_move (v := .string _) rfl) rfl rfl rfl ?_
  refine gop (y_move (v := .int _ _) rfl) rfl rfl rfl ?_
  refine gop (y_indexByte Try.func58 (by kernel_rfl) (by kernel_rfl) (by kernel_rfl) (by kernel_rfl) rfl rfl) rfl rfl rfl ?_
  refine gop (y_assign (v := .int _ _) rfl) rfl rfl rfl ?_
  refine gops_nil ?_
  refine hN2 _ _ ?_
  refine gfrom [(4, .int _ _)] ⟨rfl, trivial⟩ fun σ => ?_
  refine gret fun w1 hM => ?_
  refine ⟨_, res1 rfl (rt (v := .int _ _) rfl), ?_⟩
  exact ⟨rfl, hM.low⟩

set_option maxHeartbeats 1000000 in
theorem indexByte_any (w : World) (s : ByteArray) (c : Int) : Calls Try.prog 55 #[.string s, .int .u8 c] w fun e w' => e = .returned (.int .i64 (firstIdx s c.toNat.toUInt8)) ∧ Below w.heap.size w w' := by
  refine gcalls Try.func55 rfl Try.ntmps55 (Nat.le_of_ble_eq_true rfl) ?_
  refine gfrom [(0, .string _), (1, .int _ _)] ⟨rfl, rfl, trivial⟩ fun σ => ?_
  refine gseq fun N1 hN1 => ?_
  refine greg ?_
  refine gop (y_assign (v := .int _ _) rfl) rfl rfl rfl ?_
  refine gops_nil ?_
  refine hN1 _ _ ?_
  refine gfrom [(0, .string _), (1, .int _ _)] ⟨rfl, rfl, trivial⟩ fun σ => ?_
  refine gseq fun N2 hN2 => ?_
  refine greg ?_
  refine gop (y_move (v := .string _) rfl) rfl rfl rfl ?_
  refine gop (y_move (v := .int _ _) rfl) rfl rfl rfl ?_
  refine gop_pure (e_call (vs := [.string _, .int _ _]) Try.func57 rfl (by kernel_rfl) rfl) (fun w hM => slIndexByte_any w _ _) rfl rfl rfl ?_
  refine gop (y_assign (v := .int _ _) rfl) rfl rfl rfl ?_
  refine gops_nil ?_
  refine hN2 _ _ ?_
  refine gfrom [(4, .int _ _)] ⟨rfl, trivial⟩ fun σ => ?_
  refine gret fun w1 hM => ?_
  refine ⟨_, res1 rfl (rt (v := .int _ _) rfl), ?_⟩
  exact ⟨rfl, hM.low⟩

set_option maxHeartbeats 1000000 in
theorem linesValidate_any (w : World) (A : Option Addr) (c : Nat) (l : List ByteArray) (hl : Rdl w 0 1 strCells A l) (hm : l.length ≤ maxLen) : Calls Try.prog 43 #[.slice A l.length c] w fun e w' => e = .returned (fv (linesF l)) ∧ Below w.heap.size w w' := by
  unfold maxLen at hm
  refine gcalls Try.func43 rfl Try.ntmps43 (Nat.le_of_ble_eq_true rfl) ?_
  refine gfrom [(0, .slice _ _ _)] ⟨rfl, trivial⟩ fun σ => ?_
  refine gseq fun N1 hN1 => ?_
  refine greg ?_
  refine gop_alloc (cs := #[.int .i64 0, .int .i64 0]) Try.zeroValue27 rfl rfl (fun b2 hb2 => ?_)
  refine gops_nil ?_
  refine hN1 _ _ ?_
  refine gT [box b2 _] rfl ?_
  refine gfrom [(0, .slice _ _ _), (2, .pointer _)] ⟨rfl, rfl, trivial⟩ fun σ => ?_
  refine gseq fun N2 hN2 => ?_
  refine gseq fun N3 hN3 => ?_
  refine greg ?_
  refine gop (y_move (v := .slice _ _ _) rfl) rfl rfl rfl ?_
  refine gop (y_len Try.underlying41 rfl) rfl rfl rfl ?_
  refine gop (y_gtr rfl rfl) rfl rfl rfl ?_
  refine gops_nil ?_
  refine hN3 _ _ ?_
  refine gfrom [(0, .slice _ _ _), (2, .pointer _), (7, .bool _)] ⟨rfl, rfl, rfl, trivial⟩ fun σ => ?_
  refine gcond (b := _) rfl (fun hc7 => ?_) (fun hc7 => ?_)
  · -- slot 7 t
    replace hc7 := of_decide_eq_true hc7
    have hF : linesF l = ⟨2, -1⟩ := by rw [linesF, if_pos (by omega)]
    refine gseq fun N4 hN4 => ?_
    refine greg ?_
    refine gop (y_build (vs := [(0, _), (1, _)]) (cells := #[_, _]) rfl (bd27_0_1 _ _)) rfl rfl rfl ?_
    refine gop_store 0 (v := .agg #[_, _]) (cs' := #[_, _]) rfl rfl Try.sizeOf27 rfl rfl rfl rfl (Nat.le_of_ble_eq_true rfl) rfl rfl ?_
    refine gops_nil ?_
    refine hN4 _ _ ?_
    refine gT [box b2 _] rfl ?_
    refine gfrom [(2, .pointer _)] ⟨rfl, trivial⟩ fun σ => ?_
    refine gret fun w1 hM => ?_
    refine ⟨_, res1 rfl (rc 0 (cs := [_, _]) hM rfl rfl Try.isAgg27 Try.sizeOf27 rfl), ?_⟩
    exact ⟨by rw [hF], hM.low⟩
  · -- slot 7 f
    replace hc7 := of_decide_eq_false hc7
    have hF : linesF l = scan (fun _ s => lineCode s) l := by rw [linesF, if_neg (by omega)]
    refine gskip ?_
    refine hN2 _ _ ?_
    refine gfrom [(0, .slice _ _ _), (2, .pointer _)] ⟨rfl, rfl, trivial⟩ fun σ => ?_
    refine gseq fun N5 hN5 => ?_
    refine gseq fun N6 hN6 => ?_
    refine greg ?_
    refine gop (y_move (v := .slice _ _ _) rfl) rfl rfl rfl ?_
    refine gop (y_len Try.underlying41 rfl) rfl rfl rfl ?_
    refine gop (y_move (v := .int _ _) rfl) rfl rfl rfl ?_
    refine gops_nil ?_
    refine hN6 _ _ ?_
    refine gfrom [(2, .pointer _), (9, .slice _ _ _), (10, .int _ _), (11, .int _ _)] ⟨rfl, rfl, rfl, rfl, trivial⟩ fun σ => ?_
    refine gblock ?_
    refine gfrom2 [(11, .int _ _)] [(2, .pointer _), (9, .slice _ _ _), (10, .int _ _)] ⟨rfl, trivial⟩ ⟨rfl, rfl, rfl, trivial⟩ fun σ => ?_
    refine gloop2 (G := Nat) (fun k => k ≤ l.length ∧ ∀ j (h : j < l.length), j < k → lineCode l[j] = 0) (fun k => l.length - k) (fun k => [(11, .int .i64 (k : Int))]) (fun k => []) (0) ?h0 ⟨rfl, trivial⟩ ⟨rfl, rfl, rfl, trivial⟩ rfl ?round
    case h0 => exact ⟨Nat.zero_le _, fun _ _ h => absurd h (by omega)⟩
    case round =>
      intro k hφ σ
      obtain ⟨hk, hz⟩ := hφ
      refine gseq fun N7 hN7 => ?_
      refine greg ?_
      refine gop (y_lss rfl rfl) rfl rfl rfl ?_
      refine gops_nil ?_
      refine hN7 _ _ ?_
      refine gfrom [(2, .pointer _), (9, .slice _ _ _), (10, .int _ _), (11, .int _ _), (12, .bool _)] ⟨rfl, rfl, rfl, rfl, rfl, trivial⟩ fun σ => ?_
      refine gseq fun N8 hN8 => ?_
      refine gcond (b := _) rfl (fun hc12 => ?_) (fun hc12 => ?_)
      · -- slot 12 t
        replace hc12 := of_decide_eq_true hc12
        have hk1 : k < l.length := by omega
        obtain ⟨ad, rfl, -, hca⟩ := hl.at_ hk1
        refine gskip ?_
        refine hN8 _ _ ?_
        refine gfrom [(2, .pointer _), (9, .slice _ _ _), (10, .int _ _), (11, .int _ _)] ⟨rfl, rfl, rfl, rfl, trivial⟩ fun σ => ?_
        refine gseq fun N9 hN9 => ?_
        refine gblock ?_
        refine gseq fun N10 hN10 => ?_
        refine greg ?_
        refine gop (y_move (v := .int _ _) rfl) rfl rfl rfl ?_
        refine gop (y_indexAddr Try.underlying41 Try.sizeOf9 rfl rfl rfl (by omega) (by omega)) rfl rfl rfl ?_
        refine gop (y_load Try.isAgg9 rfl (cell_base (hca 0 _ rfl))) rfl rfl rfl ?_
        refine gop (y_assign (v := .int _ _) rfl) rfl rfl rfl ?_
        refine gop (y_assign (v := .string _) rfl) rfl rfl rfl ?_
        refine gops_nil ?_
        refine hN10 _ _ ?_
        refine gfrom [(2, .pointer _), (3, .int _ _), (4, .string _), (9, .slice _ _ _), (10, .int _ _), (11, .int _ _)] ⟨rfl, rfl, rfl, rfl, rfl, rfl, trivial⟩ fun σ => ?_
        refine gseq fun N11 hN11 => ?_
        refine gseq fun N12 hN12 => ?_
        refine greg ?_
        refine gop (y_move (v := .string _) rfl) rfl rfl rfl ?_
        refine gop (y_lens Try.underlying9 rfl) rfl rfl rfl ?_
        refine gop (y_gtr rfl rfl) rfl rfl rfl ?_
        refine gops_nil ?_
        refine hN12 _ _ ?_
        refine gfrom [(2, .pointer _), (3, .int _ _), (4, .string _), (9, .slice _ _ _), (10, .int _ _), (11, .int _ _), (18, .bool _)] ⟨rfl, rfl, rfl, rfl, rfl, rfl, rfl, trivial⟩ fun σ => ?_
        refine gcond (b := _) rfl (fun hc18 => ?_) (fun hc18 => ?_)
        · -- slot 18 t
          replace hc18 := of_decide_eq_true hc18
          have hcd : lineCode l[k] = 2 := by rw [lineCode, if_pos (by omega)]
          refine gseq fun N13 hN13 => ?_
          refine greg ?_
          refine gop (y_move (v := .int _ _) rfl) rfl rfl rfl ?_
          refine gop (y_build (vs := [(0, _), (1, .int _ _)]) (cells := #[_, _]) rfl (bd27_0_1 _ _)) rfl rfl rfl ?_
          refine gop_store 0 (v := .agg #[_, _]) (cs' := #[_, _]) rfl rfl Try.sizeOf27 rfl rfl rfl rfl (Nat.le_of_ble_eq_true rfl) rfl rfl ?_
          refine gops_nil ?_
          refine hN13 _ _ ?_
          refine gT [box b2 _] rfl ?_
          refine gfrom [(2, .pointer _)] ⟨rfl, trivial⟩ fun σ => ?_
          refine gret fun w1 hM => ?_
          refine ⟨_, res1 rfl (rc 0 (cs := [_, _]) hM rfl rfl Try.isAgg27 Try.sizeOf27 rfl), ?_⟩
          exact ⟨by rw [hF, scan_at hk1 hz (by rw [hcd]; decide), hcd], hM.low⟩
        · -- slot 18 f
          replace hc18 := of_decide_eq_false hc18
          refine gskip ?_
          refine hN11 _ _ ?_
          refine gfrom [(2, .pointer _), (3, .int _ _), (4, .string _), (9, .slice _ _ _), (10, .int _ _), (11, .int _ _)] ⟨rfl, rfl, rfl, rfl, rfl, rfl, trivial⟩ fun σ => ?_
          refine gseq fun N14 hN14 => ?_
          refine greg ?_
          refine gop (y_move (v := .string _) rfl) rfl rfl rfl ?_
          refine gop_pure (e_call (vs := [.string _, _]) Try.func55 rfl (by kernel_rfl) rfl) (fun w hM => indexByte_any w _ _) rfl rfl rfl ?_
          refine gop (y_geq rfl rfl) rfl rfl rfl ?_
          refine gops_nil ?_
          refine hN14 _ _ ?_
          refine gfrom [(2, .pointer _), (3, .int _ _), (9, .slice _ _ _), (10, .int _ _), (11, .int _ _), (23, .bool _)] ⟨rfl, rfl, rfl, rfl, rfl, rfl, trivial⟩ fun σ => ?_
          refine gcond (b := _) rfl (fun hc23 => ?_) (fun hc23 => ?_)
          · -- slot 23 t
            replace hc23 := of_decide_eq_true hc23
            have hcd : lineCode l[k] = 5 := by rw [lineCode, if_neg (by omega), if_pos (show 0 ≤ firstIdx l[k] 10 from hc23)]
            refine gseq fun N15 hN15 => ?_
            refine greg ?_
            refine gop (y_move (v := .int _ _) rfl) rfl rfl rfl ?_
            refine gop (y_build (vs := [(0, _), (1, .int _ _)]) (cells := #[_, _]) rfl (bd27_0_1 _ _)) rfl rfl rfl ?_
            refine gop_store 0 (v := .agg #[_, _]) (cs' := #[_, _]) rfl rfl Try.sizeOf27 rfl rfl rfl rfl (Nat.le_of_ble_eq_true rfl) rfl rfl ?_
            refine gops_nil ?_
            refine hN15 _ _ ?_
            refine gT [box b2 _] rfl ?_
            refine gfrom [(2, .pointer _)] ⟨rfl, trivial⟩ fun σ => ?_
            refine gret fun w1 hM => ?_
            refine ⟨_, res1 rfl (rc 0 (cs := [_, _]) hM rfl rfl Try.isAgg27 Try.sizeOf27 rfl), ?_⟩
            exact ⟨by rw [hF, scan_at hk1 hz (by rw [hcd]; decide), hcd], hM.low⟩
          · -- slot 23 f
            replace hc23 := of_decide_eq_false hc23
            refine gskip ?_
            refine hN9 _ _ ?_
            refine gfrom [(2, .pointer _), (9, .slice _ _ _), (10, .int _ _), (11, .int _ _)] ⟨rfl, rfl, rfl, rfl, trivial⟩ fun σ => ?_
            refine greg ?_
            refine gop (y_add rfl rfl ⟨by omega, by omega⟩) rfl rfl rfl ?_
            refine gop (y_move (v := .int _ _) rfl) rfl rfl rfl ?_
            refine gops_nil ?_
            refine gnext2 (k + 1) (by omega) (⟨by omega, fun j h hj => by rcases Nat.lt_succ_iff_lt_or_eq.1 hj with h1 | rfl; exact hz j h h1; unfold lineCode; rw [if_neg (by omega), if_neg (show ¬ 0 ≤ firstIdx l[j] 10 from hc23)]⟩) ⟨rfl, trivial⟩ ⟨rfl, rfl, rfl, trivial⟩ ⟨_, rfl⟩
      · -- slot 12 f
        replace hc12 := of_decide_eq_false hc12
        have hF2 : linesF l = ⟨0, 0⟩ := by rw [hF]; exact scan_ok fun j hj => hz j hj (by omega)
        refine gexit ?_
        refine hN5 _ _ ?_
        refine gfrom [(2, .pointer _)] ⟨rfl, trivial⟩ fun σ => ?_
        refine gseq fun N16 hN16 => ?_
        refine greg ?_
        refine gop (y_build (vs := []) (cells := #[.int .i64 0, .int .i64 0]) rfl bd27_) rfl rfl rfl ?_
        refine gop_store 0 (v := .agg #[_, _]) (cs' := #[_, _]) rfl rfl Try.sizeOf27 rfl rfl rfl rfl (Nat.le_of_ble_eq_true rfl) rfl rfl ?_
        refine gops_nil ?_
        refine hN16 _ _ ?_
        refine gT [box b2 _] rfl ?_
        refine gfrom [(2, .pointer _)] ⟨rfl, trivial⟩ fun σ => ?_
        refine gret fun w1 hM => ?_
        refine ⟨_, res1 rfl (rc 0 (cs := [_, _]) hM rfl rfl Try.isAgg27 Try.sizeOf27 rfl), ?_⟩
        exact ⟨by rw [hF2], hM.low⟩

set_option maxHeartbeats 1000000 in
theorem end_any (w : World) (h : HunkC) (hb : In64 h.pl.end_) : Calls Try.prog 35 #[hunkV h] w fun e w' => e = .returned (.int .i64 h.pl.end_) ∧ Below w.heap.size w w' := by
  unfold In64 Hunk.end_ at hb
  refine gcalls Try.func35 rfl Try.ntmps35 (Nat.le_of_ble_eq_true rfl) ?_
  refine gfrom [(0, .agg #[_, _, _])] ⟨rfl, trivial⟩ fun σ => ?_
  refine gseq fun N1 hN1 => ?_
  refine greg ?_
  refine gop_box (v := .agg #[_, _, _]) (cs := #[_, _, _]) rfl rfl rfl (fun b1 hb1 => ?_)
  refine gop (y_assign (v := .int _ _) rfl) rfl rfl rfl ?_
  refine gops_nil ?_
  refine hN1 _ _ ?_
  refine gT [box b1 _] rfl ?_
  refine gfrom [(1, .pointer _)] ⟨rfl, trivial⟩ fun σ => ?_
  refine gseq fun N2 hN2 => ?_
  refine greg ?_
  refine gop (y_fieldAddr_box fa43_0 rfl) rfl rfl rfl ?_
  refine gop (y_load Try.isAgg3 rfl (cell_box 0 rfl rfl)) rfl rfl rfl ?_
  refine gop (y_fieldAddr_box fa43_1 rfl) rfl rfl rfl ?_
  refine gop (y_load Try.isAgg41 rfl (cell_box 0 rfl rfl)) rfl rfl rfl ?_
  refine gop (y_len Try.underlying41 rfl) rfl rfl rfl ?_
  refine gop (y_add rfl rfl ⟨by omega, by omega⟩) rfl rfl rfl ?_
  refine gop (y_assign (v := .int _ _) rfl) rfl rfl rfl ?_
  refine gops_nil ?_
  refine hN2 _ _ ?_
  refine gfrom [(2, .int _ _)] ⟨rfl, trivial⟩ fun σ => ?_
  refine gret fun w1 hM => ?_
  refine ⟨_, res1 rfl (rt (v := .int _ _) rfl), ?_⟩
  exact ⟨rfl, hM.low⟩

set_option maxHeartbeats 1000000 in
theorem growth_any (w : World) (h : HunkC) (hb : In64 h.pl.growth) : Calls Try.prog 47 #[hunkV h] w fun e w' => e = .returned (.int .i64 h.pl.growth) ∧ Below w.heap.size w w' := by
  unfold In64 Hunk.growth at hb
  refine gcalls Try.func47 rfl Try.ntmps47 (Nat.le_of_ble_eq_true rfl) ?_
  refine gfrom [(0, .agg #[_, _, _])] ⟨rfl, trivial⟩ fun σ => ?_
  refine gseq fun N1 hN1 => ?_
  refine greg ?_
  refine gop_box (v := .agg #[_, _, _]) (cs := #[_, _, _]) rfl rfl rfl (fun b1 hb1 => ?_)
  refine gop (y_assign (v := .int _ _) rfl) rfl rfl rfl ?_
  refine gops_nil ?_
  refine hN1 _ _ ?_
  refine gT [box b1 _] rfl ?_
  refine gfrom [(1, .pointer _)] ⟨rfl, trivial⟩ fun σ => ?_
  refine gseq fun N2 hN2 => ?_
  refine greg ?_
  refine gop (y_fieldAddr_box fa43_2 rfl) rfl rfl rfl ?_
  refine gop (y_load Try.isAgg41 rfl (cell_box 0 rfl rfl)) rfl rfl rfl ?_
  refine gop (y_len Try.underlying41 rfl) rfl rfl rfl ?_
  refine gop (y_fieldAddr_box fa43_1 rfl) rfl rfl rfl ?_
  refine gop (y_load Try.isAgg41 rfl (cell_box 0 rfl rfl)) rfl rfl rfl ?_
  refine gop (y_len Try.underlying41 rfl) rfl rfl rfl ?_
  refine gop (y_sub rfl rfl ⟨by omega, by omega⟩) rfl rfl rfl ?_
  refine gop (y_assign (v := .int _ _) rfl) rfl rfl rfl ?_
  refine gops_nil ?_
  refine hN2 _ _ ?_
  refine gfrom [(2, .int _ _)] ⟨rfl, trivial⟩ fun σ => ?_
  refine gret fun w1 hM => ?_
  refine ⟨_, res1 rfl (rt (v := .int _ _) rfl), ?_⟩
  exact ⟨rfl, hM.low⟩

set_option maxHeartbeats 1000000 in
theorem hunk_any (w : World) (h : HunkC) (hR : HunkR w 0 h) (en : Int) : Calls Try.prog 36 #[hunkV h, .int .i64 en] w fun e w' => e = .returned (.int .i64 (hunkC h.pl en)) ∧ Below w.heap.size w w' := by
  refine gcalls Try.func36 rfl Try.ntmps36 (Nat.le_of_ble_eq_true rfl) ?_
  refine gfrom [(0, .agg #[_, _, _]), (1, .int _ _)] ⟨rfl, rfl, trivial⟩ fun σ => ?_
  refine gseq fun N1 hN1 => ?_
  refine greg ?_
  refine gop_box (v := .agg #[_, _, _]) (cs := #[_, _, _]) rfl rfl rfl (fun b2 hb2 => ?_)
  refine gop (y_assign (v := .int _ _) rfl) rfl rfl rfl ?_
  refine gops_nil ?_
  refine hN1 _ _ ?_
  refine gT [box b2 _] rfl ?_
  refine gfrom [(1, .int _ _), (2, .pointer _)] ⟨rfl, rfl, trivial⟩ fun σ => ?_
  refine gseq fun N2 hN2 => ?_
  refine gseq fun N3 hN3 => ?_
  refine greg ?_
  refine gop (y_fieldAddr_box fa43_0 rfl) rfl rfl rfl ?_
  refine gop (y_load Try.isAgg3 rfl (cell_box 0 rfl rfl)) rfl rfl rfl ?_
  refine gop (y_lss rfl rfl) rfl rfl rfl ?_
  refine gop (y_move (v := .bool _) rfl) rfl rfl rfl ?_
  refine gop_if (want := false) rfl rfl rfl rfl rfl rfl (fun hg11 => ?_) (fun hg11 => ?_)
  · -- guard 11 on
    have hg11d := of_decide_eq_false hg11
    refine gop (y_bare (y_fieldAddr_box fa43_0 rfl)) rfl rfl rfl ?_
    refine gop_on rfl rfl rfl rfl hg11 ?_
    refine gop (y_bare (y_load Try.isAgg3 rfl (cell_box 0 rfl rfl))) rfl rfl rfl ?_
    refine gop_on rfl rfl rfl rfl hg11 ?_
    refine gop (y_bare (y_gtr rfl rfl)) rfl rfl rfl ?_
    refine gop (y_pick_f (v := .bool _) rfl hg11 rfl) rfl rfl rfl ?_
    refine gops_nil ?_
    refine hN3 _ _ ?_
    refine gfrom [(1, .int _ _), (2, .pointer _), (15, .bool _)] ⟨rfl, rfl, rfl, trivial⟩ fun σ => ?_
    refine gcond (b := _) rfl (fun hc15 => ?_) (fun hc15 => ?_)
    · -- slot 15 t
      replace hc15 := of_decide_eq_true hc15
      refine gseq fun N4 hN4 => ?_
      refine greg ?_
      refine gop (y_assign (v := .int _ _) rfl) rfl rfl rfl ?_
      refine gops_nil ?_
      refine hN4 _ _ ?_
      refine gfrom [(4, .int _ _)] ⟨rfl, trivial⟩ fun σ => ?_
      refine gret fun w1 hM => ?_
      refine ⟨_, res1 rfl (rt (v := .int _ _) rfl), ?_⟩
      exact ⟨by rw [hunkC, if_pos (by omega)], hM.low⟩
    · -- slot 15 f
      replace hc15 := of_decide_eq_false hc15
      have h15 : ¬ (h.pl.at_ < 0 ∨ 120 < h.pl.at_) := by omega
      refine gskip ?_
      refine hN2 _ _ ?_
      refine gfrom [(1, .int _ _), (2, .pointer _)] ⟨rfl, rfl, trivial⟩ fun σ => ?_
      refine gseq fun N5 hN5 => ?_
      refine gseq fun N6 hN6 => ?_
      refine greg ?_
      refine gop (y_fieldAddr_box fa43_1 rfl) rfl rfl rfl ?_
      refine gop (y_load Try.isAgg41 rfl (cell_box 0 rfl rfl)) rfl rfl rfl ?_
      refine gop (y_fieldAddr_box fa43_2 rfl) rfl rfl rfl ?_
      refine gop (y_load Try.isAgg41 rfl (cell_box 0 rfl rfl)) rfl rfl rfl ?_
      refine gop (y_build (vs := [(0, .slice _ _ _), (1, .slice _ _ _)]) (cells := #[_, _]) rfl (bd88_0_1 _ _ _ _ _ _)) rfl rfl rfl ?_
      refine gop (y_move (v := .int _ _) rfl) rfl rfl rfl ?_
      refine gops_nil ?_
      refine hN6 _ _ ?_
      refine gfrom [(1, .int _ _), (2, .pointer _), (20, .agg #[_, _]), (21, .int _ _)] ⟨rfl, rfl, rfl, rfl, trivial⟩ fun σ => ?_
      refine gblock ?_
      refine gfrom2 [(21, .int _ _)] [(1, .int _ _), (2, .pointer _), (20, .agg #[_, _])] ⟨rfl, trivial⟩ ⟨rfl, rfl, rfl, trivial⟩ fun σ => ?_
      refine gloop2 (G := Nat) (fun k => k ≤ 2 ∧ (0 < k → linesF h.pl.old = ⟨0, 0⟩) ∧ (1 < k → linesF h.pl.new = ⟨0, 0⟩)) (fun k => 2 - k) (fun k => [(21, .int .i64 (k : Int))]) (fun k => []) (0) ?h0 ⟨rfl, trivial⟩ ⟨rfl, rfl, rfl, trivial⟩ rfl ?round
      case h0 => exact ⟨by omega, by omega, by omega⟩
      case round =>
        intro k hφ σ
        obtain ⟨hk, hz0, hz1⟩ := hφ
        refine gseq fun N7 hN7 => ?_
        refine greg ?_
        refine gop (y_lss rfl rfl) rfl rfl rfl ?_
        refine gops_nil ?_
        refine hN7 _ _ ?_
        refine gfrom [(1, .int _ _), (2, .pointer _), (20, .agg #[_, _]), (21, .int _ _), (22, .bool _)] ⟨rfl, rfl, rfl, rfl, rfl, trivial⟩ fun σ => ?_
        refine gseq fun N8 hN8 => ?_
        refine gcond (b := _) rfl (fun hc22 => ?_) (fun hc22 => ?_)
        · -- slot 22 t
          replace hc22 := of_decide_eq_true hc22
          have hk01 : k = 0 ∨ k = 1 := by omega
          obtain ⟨A', c', m, hidx, hrd, hml, hres⟩ : ∃ A' c' m, ([.slice h.oA h.pl.old.length h.oc, .slice h.nA h.pl.new.length h.nc] : List Value)[k]? = some (.slice A' m.length c') ∧ Rdl w 0 1 strCells A' m ∧ m.length ≤ maxLen ∧ (k = 0 → m = h.pl.old) ∧ (k = 1 → m = h.pl.new) := by
            rcases hk01 with rfl | rfl
            · exact ⟨h.oA, h.oc, h.pl.old, rfl, hR.old, Nat.le_trans hR.ob.len hR.ob.max, fun _ => rfl, fun h => absurd h (by decide)⟩
            · exact ⟨h.nA, h.nc, h.pl.new, rfl, hR.new, Nat.le_trans hR.nb.len hR.nb.max, fun h => absurd h (by decide), fun _ => rfl⟩
          refine gskip ?_
          refine hN8 _ _ ?_
          refine gfrom [(1, .int _ _), (2, .pointer _), (20, .agg #[_, _]), (21, .int _ _)] ⟨rfl, rfl, rfl, rfl, trivial⟩ fun σ => ?_
          refine gseq fun N9 hN9 => ?_
          refine gblock ?_
          refine gseq fun N10 hN10 => ?_
          refine greg ?_
          refine gop (y_arridx1 (f := fun v : Value => v) (m := k) (l := [.slice h.oA h.pl.old.length h.oc, .slice h.nA h.pl.new.length h.nc]) (a := .slice A' m.length c') Try.underlying88 Try.sizeOf41 Try.isAgg41 rfl rfl rfl (by omega) (by omega) hidx) rfl rfl rfl ?_
          refine gop (y_assign (v := .slice _ _ _) rfl) rfl rfl rfl ?_
          refine gops_nil ?_
          refine hN10 _ _ ?_
          refine gfrom [(1, .int _ _), (2, .pointer _), (6, .slice _ _ _), (20, .agg #[_, _]), (21, .int _ _)] ⟨rfl, rfl, rfl, rfl, rfl, trivial⟩ fun σ => ?_
          refine gseq fun N11 hN11 => ?_
          refine greg ?_
          refine gop (y_move (v := .slice _ _ _) rfl) rfl rfl rfl ?_
          refine gop_pure (e_call (vs := [.slice _ _ _]) Try.func43 rfl (by kernel_rfl) rfl) (fun w hM => linesValidate_any w A' c' m (hrd.base hM) hml) rfl rfl rfl ?_
          refine gop_alloc (cs := #[.int .i64 0, .int .i64 0]) Try.zeroValue27 rfl rfl (fun b7 hb7 => ?_)
          refine gop_store 1 (v := .agg #[_, _]) (cs' := #[_, _]) rfl rfl Try.sizeOf27 rfl rfl rfl rfl (Nat.le_of_ble_eq_true rfl) rfl rfl ?_
          refine gops_nil ?_
          refine hN11 _ _ ?_
          refine gT [box b2 _, box b7 _] rfl ?_
          refine gfrom [(1, .int _ _), (2, .pointer _), (7, .pointer _), (20, .agg #[_, _]), (21, .int _ _)] ⟨rfl, rfl, rfl, rfl, rfl, trivial⟩ fun σ => ?_
          refine gseq fun N12 hN12 => ?_
          refine greg ?_
          refine gop (y_loads (cs := [_, _]) Try.isAgg27 Try.sizeOf27 rfl rfl (cells_box 1 rfl)) rfl rfl rfl ?_
          refine gop (y_build (vs := []) (cells := #[.int .i64 0, .int .i64 0]) rfl bd27_) rfl rfl rfl ?_
          refine gop (y_bin (vx := .agg #[_, _]) (vy := .agg #[_, _]) rfl rfl (fun w => eg27 _ _ _ _ _ w) (fun w => ne27 _ _ _ _ w)) rfl rfl rfl ?_
          refine gops_nil ?_
          refine hN12 _ _ ?_
          refine gfrom [(1, .int _ _), (2, .pointer _), (7, .pointer _), (20, .agg #[_, _]), (21, .int _ _), (28, .bool _)] ⟨rfl, rfl, rfl, rfl, rfl, rfl, trivial⟩ fun σ => ?_
          refine gcond (b := _) rfl (fun hc28 => ?_) (fun hc28 => ?_)
          · -- slot 28 t
            replace hc28 := fault_ne.1 hc28
            have hC : hunkC h.pl en = (linesF m).code := by
              rcases hk01 with rfl | rfl
              · rw [hres.1 rfl] at hc28 ⊢; rw [hunkC, if_neg h15, if_pos hc28]
              · rw [hres.2 rfl] at hc28 ⊢; rw [hunkC, if_neg h15, if_neg (by simp [hz0 (by omega)]), if_pos hc28]
            refine gseq fun N13 hN13 => ?_
            refine greg ?_
            refine gop (y_fieldAddr_box fa27_0 rfl) rfl rfl rfl ?_
            refine gop (y_load Try.isAgg3 rfl (cell_box 1 rfl rfl)) rfl rfl rfl ?_
            refine gop (y_assign (v := .int _ _) rfl) rfl rfl rfl ?_
            refine gops_nil ?_
            refine hN13 _ _ ?_
            refine gfrom [(4, .int _ _)] ⟨rfl, trivial⟩ fun σ => ?_
            refine gret fun w1 hM => ?_
            refine ⟨_, res1 rfl (rt (v := .int _ _) rfl), ?_⟩
            exact ⟨by rw [hC], hM.low⟩
          · -- slot 28 f
            replace hc28 := fault_eq.1 hc28
            refine gskip ?_
            refine hN9 _ _ ?_
            refine gfrom [(1, .int _ _), (2, .pointer _), (20, .agg #[_, _]), (21, .int _ _)] ⟨rfl, rfl, rfl, rfl, trivial⟩ fun σ => ?_
            refine greg ?_
            refine gop (y_add rfl rfl ⟨by omega, by omega⟩) rfl rfl rfl ?_
            refine gop (y_move (v := .int _ _) rfl) rfl rfl rfl ?_
            refine gops_nil ?_
            refine gnext2 (k + 1) (by omega) (⟨by omega, fun _ => by rcases hk01 with rfl | rfl; exact hres.1 rfl ▸ hc28; exact hz0 (by omega), fun _ => by rcases hk01 with rfl | rfl; omega; exact hres.2 rfl ▸ hc28⟩) ⟨rfl, trivial⟩ ⟨rfl, rfl, rfl, trivial⟩ ⟨_, rfl⟩
        · -- slot 22 f
          replace hc22 := of_decide_eq_false hc22
          have hO := hz0 (by omega)
          have hN := hz1 (by omega)
          have hOl := linesF_len hO
          have hNl := linesF_len hN
          have hC : hunkC h.pl en = if h.pl.old.length + h.pl.new.length = 0 ∨ h.pl.at_ ≤ en then 5 else if 120 < h.pl.end_ then 3 else 0 := by rw [hunkC, if_neg h15, if_neg (by simp [hO]), if_neg (by simp [hN])]
          refine gexit ?_
          refine hN5 _ _ ?_
          refine gfrom [(1, .int _ _), (2, .pointer _)] ⟨rfl, rfl, trivial⟩ fun σ => ?_
          refine gseq fun N14 hN14 => ?_
          refine gseq fun N15 hN15 => ?_
          refine greg ?_
          refine gop (y_fieldAddr_box fa43_1 rfl) rfl rfl rfl ?_
          refine gop (y_load Try.isAgg41 rfl (cell_box 0 rfl rfl)) rfl rfl rfl ?_
          refine gop (y_len Try.underlying41 rfl) rfl rfl rfl ?_
          refine gop (y_fieldAddr_box fa43_2 rfl) rfl rfl rfl ?_
          refine gop (y_load Try.isAgg41 rfl (cell_box 0 rfl rfl)) rfl rfl rfl ?_
          refine gop (y_len Try.underlying41 rfl) rfl rfl rfl ?_
          refine gop (y_add rfl rfl ⟨by omega, by omega⟩) rfl rfl rfl ?_
          refine gop (y_eql rfl rfl) rfl rfl rfl ?_
          refine gop (y_move (v := .bool _) rfl) rfl rfl rfl ?_
          refine gop_if (want := false) rfl rfl rfl rfl rfl rfl (fun hg40 => ?_) (fun hg40 => ?_)
          · -- guard 40 on
            have hg40d := of_decide_eq_false hg40
            refine gop (y_bare (y_fieldAddr_box fa43_0 rfl)) rfl rfl rfl ?_
            refine gop_on rfl rfl rfl rfl hg40 ?_
            refine gop (y_bare (y_load Try.isAgg3 rfl (cell_box 0 rfl rfl))) rfl rfl rfl ?_
            refine gop_on rfl rfl rfl rfl hg40 ?_
            refine gop (y_bare (y_move (v := .int _ _) rfl)) rfl rfl rfl ?_
            refine gop_on rfl rfl rfl rfl hg40 ?_
            refine gop (y_bare (y_leq rfl rfl)) rfl rfl rfl ?_
            refine gop (y_pick_f (v := .bool _) rfl hg40 rfl) rfl rfl rfl ?_
            refine gops_nil ?_
            refine hN15 _ _ ?_
            refine gfrom [(2, .pointer _), (45, .bool _)] ⟨rfl, rfl, trivial⟩ fun σ => ?_
            refine gcond (b := _) rfl (fun hc45 => ?_) (fun hc45 => ?_)
            · -- slot 45 t
              replace hc45 := of_decide_eq_true hc45
              refine gseq fun N16 hN16 => ?_
              refine greg ?_
              refine gop (y_assign (v := .int _ _) rfl) rfl rfl rfl ?_
              refine gops_nil ?_
              refine hN16 _ _ ?_
              refine gfrom [(4, .int _ _)] ⟨rfl, trivial⟩ fun σ => ?_
              refine gret fun w1 hM => ?_
              refine ⟨_, res1 rfl (rt (v := .int _ _) rfl), ?_⟩
              exact ⟨by rw [hC, if_pos (by omega)], hM.low⟩
            · -- slot 45 f
              replace hc45 := of_decide_eq_false hc45
              refine gskip ?_
              refine hN14 _ _ ?_
              refine gfrom [(2, .pointer _)] ⟨rfl, trivial⟩ fun σ => ?_
              refine gseq fun N17 hN17 => ?_
              refine gseq fun N18 hN18 => ?_
              refine greg ?_
              refine gop (y_loads (cs := [_, _, _]) Try.isAgg43 Try.sizeOf43 rfl rfl (cells_box 0 rfl)) rfl rfl rfl ?_
              refine gop_pure (e_call (vs := [.agg #[_, _, _]]) Try.func35 rfl (by kernel_rfl) rfl) (fun w hM => end_any w h (by unfold In64 Hunk.end_; omega)) rfl rfl rfl ?_
              refine gop (y_gtr rfl rfl) rfl rfl rfl ?_
              refine gops_nil ?_
              refine hN18 _ _ ?_
              refine gfrom [(48, .bool _)] ⟨rfl, trivial⟩ fun σ => ?_
              refine gcond (b := _) rfl (fun hc48 => ?_) (fun hc48 => ?_)
              · -- slot 48 t
                replace hc48 := of_decide_eq_true hc48
                refine gseq fun N19 hN19 => ?_
                refine greg ?_
                refine gop (y_assign (v := .int _ _) rfl) rfl rfl rfl ?_
                refine gops_nil ?_
                refine hN19 _ _ ?_
                refine gfrom [(4, .int _ _)] ⟨rfl, trivial⟩ fun σ => ?_
                refine gret fun w1 hM => ?_
                refine ⟨_, res1 rfl (rt (v := .int _ _) rfl), ?_⟩
                exact ⟨by rw [hC, if_neg (by omega), if_pos (by omega)], hM.low⟩
              · -- slot 48 f
                replace hc48 := of_decide_eq_false hc48
                refine gskip ?_
                refine hN17 _ _ ?_
                refine gfrom [] trivial fun σ => ?_
                refine gseq fun N20 hN20 => ?_
                refine greg ?_
                refine gop (y_assign (v := .int _ _) rfl) rfl rfl rfl ?_
                refine gops_nil ?_
                refine hN20 _ _ ?_
                refine gfrom [(4, .int _ _)] ⟨rfl, trivial⟩ fun σ => ?_
                refine gret fun w1 hM => ?_
                refine ⟨_, res1 rfl (rt (v := .int _ _) rfl), ?_⟩
                exact ⟨by rw [hC, if_neg (by omega), if_neg (by omega)], hM.low⟩
          · -- guard 40 off
            have hg40d := of_decide_eq_true hg40
            refine gop_off rfl rfl rfl rfl hg40 rfl rfl ?_
            refine gop_off rfl rfl rfl rfl hg40 rfl rfl ?_
            refine gop_off rfl rfl rfl rfl hg40 rfl rfl ?_
            refine gop (y_pick_t (v := .bool _) rfl hg40 rfl) rfl rfl rfl ?_
            refine gops_nil ?_
            refine hN15 _ _ ?_
            refine gfrom [(2, .pointer _), (45, .bool _)] ⟨rfl, rfl, trivial⟩ fun σ => ?_
            refine gcond (b := _) rfl (fun hc45 => ?_) (fun hc45 => ?_)
            · -- slot 45 t
              refine gseq fun N21 hN21 => ?_
              refine greg ?_
              refine gop (y_assign (v := .int _ _) rfl) rfl rfl rfl ?_
              refine gops_nil ?_
              refine hN21 _ _ ?_
              refine gfrom [(4, .int _ _)] ⟨rfl, trivial⟩ fun σ => ?_
              refine gret fun w1 hM => ?_
              refine ⟨_, res1 rfl (rt (v := .int _ _) rfl), ?_⟩
              exact ⟨by rw [hC, if_pos (by omega)], hM.low⟩
            · -- slot 45 f
              cases hc45
  · -- guard 11 off
    have hg11d := of_decide_eq_true hg11
    refine gop_off rfl rfl rfl rfl hg11 rfl rfl ?_
    refine gop_off rfl rfl rfl rfl hg11 rfl rfl ?_
    refine gop (y_pick_t (v := .bool _) rfl hg11 rfl) rfl rfl rfl ?_
    refine gops_nil ?_
    refine hN3 _ _ ?_
    refine gfrom [(1, .int _ _), (2, .pointer _), (15, .bool _)] ⟨rfl, rfl, rfl, trivial⟩ fun σ => ?_
    refine gcond (b := _) rfl (fun hc15 => ?_) (fun hc15 => ?_)
    · -- slot 15 t
      refine gseq fun N22 hN22 => ?_
      refine greg ?_
      refine gop (y_assign (v := .int _ _) rfl) rfl rfl rfl ?_
      refine gops_nil ?_
      refine hN22 _ _ ?_
      refine gfrom [(4, .int _ _)] ⟨rfl, trivial⟩ fun σ => ?_
      refine gret fun w1 hM => ?_
      refine ⟨_, res1 rfl (rt (v := .int _ _) rfl), ?_⟩
      exact ⟨by rw [hunkC, if_pos (by omega)], hM.low⟩
    · -- slot 15 f
      cases hc15

set_option maxHeartbeats 1000000 in
theorem patchValidate_any (w : World) (A : Option Addr) (c : Nat) (hs : List HunkC) (hp : PatR w 0 A c hs) : Calls Try.prog 18 #[.agg #[.slice A hs.length c]] w fun e w' => e = .returned (fv (patchF (pls hs))) ∧ Below w.heap.size w w' := by
  have hm := Nat.le_trans hp.sb.len hp.sb.max
  unfold maxLen at hm
  refine gcalls Try.func18 rfl Try.ntmps18 (Nat.le_of_ble_eq_true rfl) ?_
  refine gfrom [(0, .agg #[_])] ⟨rfl, trivial⟩ fun σ => ?_
  refine gseq fun N1 hN1 => ?_
  refine greg ?_
  refine gop_box (v := .agg #[_]) (cs := #[_]) rfl rfl rfl (fun b1 hb1 => ?_)
  refine gop_alloc (cs := #[.int .i64 0, .int .i64 0]) Try.zeroValue27 rfl rfl (fun b2 hb2 => ?_)
  refine gops_nil ?_
  refine hN1 _ _ ?_
  refine gT [box b1 _, box b2 _] rfl ?_
  refine gfrom [(1, .pointer _), (2, .pointer _)] ⟨rfl, rfl, trivial⟩ fun σ => ?_
  refine gseq fun N2 hN2 => ?_
  refine gseq fun N3 hN3 => ?_
  refine greg ?_
  refine gop (y_fieldAddr_box fa25_0 rfl) rfl rfl rfl ?_
  refine gop (y_load Try.isAgg23 rfl (cell_box 0 rfl rfl)) rfl rfl rfl ?_
  refine gop (y_len Try.underlying23 rfl) rfl rfl rfl ?_
  refine gop (y_gtr rfl rfl) rfl rfl rfl ?_
  refine gops_nil ?_
  refine hN3 _ _ ?_
  refine gfrom [(1, .pointer _), (2, .pointer _), (10, .bool _)] ⟨rfl, rfl, rfl, trivial⟩ fun σ => ?_
  refine gcond (b := _) rfl (fun hc10 => ?_) (fun hc10 => ?_)
  · -- slot 10 t
    replace hc10 := of_decide_eq_true hc10
    have hF : patchF (pls hs) = ⟨2, -1⟩ := by rw [patchF, if_pos (by simp; omega)]
    refine gseq fun N4 hN4 => ?_
    refine greg ?_
    refine gop (y_build (vs := [(0, _), (1, _)]) (cells := #[_, _]) rfl (bd27_0_1 _ _)) rfl rfl rfl ?_
    refine gop_store 1 (v := .agg #[_, _]) (cs' := #[_, _]) rfl rfl Try.sizeOf27 rfl rfl rfl rfl (Nat.le_of_ble_eq_true rfl) rfl rfl ?_
    refine gops_nil ?_
    refine hN4 _ _ ?_
    refine gT [box b1 _, box b2 _] rfl ?_
    refine gfrom [(2, .pointer _)] ⟨rfl, trivial⟩ fun σ => ?_
    refine gret fun w1 hM => ?_
    refine ⟨_, res1 rfl (rc 1 (cs := [_, _]) hM rfl rfl Try.isAgg27 Try.sizeOf27 rfl), ?_⟩
    exact ⟨by rw [hF], hM.low⟩
  · -- slot 10 f
    replace hc10 := of_decide_eq_false hc10
    have hF : patchF (pls hs) = scan (fun k h => hunkC h (prevEnd (pls hs) k)) (pls hs) := by rw [patchF, if_neg (by simp; omega)]
    refine gskip ?_
    refine hN2 _ _ ?_
    refine gfrom [(1, .pointer _), (2, .pointer _)] ⟨rfl, rfl, trivial⟩ fun σ => ?_
    refine gseq fun N5 hN5 => ?_
    refine greg ?_
    refine gop (y_assign (v := .int _ _) rfl) rfl rfl rfl ?_
    refine gops_nil ?_
    refine hN5 _ _ ?_
    refine gfrom [(1, .pointer _), (2, .pointer _), (3, .int _ _)] ⟨rfl, rfl, rfl, trivial⟩ fun σ => ?_
    refine gseq fun N6 hN6 => ?_
    refine gseq fun N7 hN7 => ?_
    refine greg ?_
    refine gop (y_fieldAddr_box fa25_0 rfl) rfl rfl rfl ?_
    refine gop (y_load Try.isAgg23 rfl (cell_box 0 rfl rfl)) rfl rfl rfl ?_
    refine gop (y_len Try.underlying23 rfl) rfl rfl rfl ?_
    refine gop (y_move (v := .int _ _) rfl) rfl rfl rfl ?_
    refine gops_nil ?_
    refine hN7 _ _ ?_
    refine gfrom [(2, .pointer _), (3, .int _ _), (13, .slice _ _ _), (14, .int _ _), (15, .int _ _)] ⟨rfl, rfl, rfl, rfl, rfl, trivial⟩ fun σ => ?_
    refine gblock ?_
    refine gfrom2 [(3, .int _ _), (15, .int _ _)] [(2, .pointer _), (13, .slice _ _ _), (14, .int _ _)] ⟨rfl, rfl, trivial⟩ ⟨rfl, rfl, rfl, trivial⟩ fun σ => ?_
    refine gloop2 (G := Nat) (fun k => k ≤ hs.length ∧ ∀ j (h : j < (pls hs).length), j < k → hunkC (pls hs)[j] (prevEnd (pls hs) j) = 0) (fun k => hs.length - k) (fun k => [(3, .int .i64 (prevEnd (pls hs) k)), (15, .int .i64 (k : Int))]) (fun k => []) (0) ?h0 ⟨rfl, rfl, trivial⟩ ⟨rfl, rfl, rfl, trivial⟩ rfl ?round
    case h0 => exact ⟨Nat.zero_le _, fun _ _ h => absurd h (by omega)⟩
    case round =>
      intro k hφ σ
      obtain ⟨hk, hz⟩ := hφ
      refine gseq fun N8 hN8 => ?_
      refine greg ?_
      refine gop (y_lss rfl rfl) rfl rfl rfl ?_
      refine gops_nil ?_
      refine hN8 _ _ ?_
      refine gfrom [(2, .pointer _), (3, .int _ _), (13, .slice _ _ _), (14, .int _ _), (15, .int _ _), (16, .bool _)] ⟨rfl, rfl, rfl, rfl, rfl, rfl, trivial⟩ fun σ => ?_
      refine gseq fun N9 hN9 => ?_
      refine gcond (b := _) rfl (fun hc16 => ?_) (fun hc16 => ?_)
      · -- slot 16 t
        replace hc16 := of_decide_eq_true hc16
        have hk1 : k < hs.length := by omega
        have hk2 : k < (pls hs).length := by simpa using hk1
        obtain ⟨ad, rfl, -, hcv⟩ := hp.rd.at_ hk1
        have hR := hp.each _ (List.getElem_mem hk1)
        refine gskip ?_
        refine hN9 _ _ ?_
        refine gfrom [(2, .pointer _), (3, .int _ _), (13, .slice _ _ _), (14, .int _ _), (15, .int _ _)] ⟨rfl, rfl, rfl, rfl, rfl, trivial⟩ fun σ => ?_
        refine gseq fun N10 hN10 => ?_
        refine gblock ?_
        refine gseq fun N11 hN11 => ?_
        refine greg ?_
        refine gop (y_move (v := .int _ _) rfl) rfl rfl rfl ?_
        refine gop (y_indexAddr Try.underlying23 Try.sizeOf43 rfl rfl rfl (by omega) (by omega)) rfl rfl rfl ?_
        refine gop (y_loads (cs := [_, _, _]) Try.isAgg43 Try.sizeOf43 rfl rfl (cells_base hcv)) rfl rfl rfl ?_
        refine gop_alloc (cs := #[.int .i64 0, .slice none 0 0, .slice none 0 0]) Try.zeroValue43 rfl rfl (fun b5 hb5 => ?_)
        refine gop (y_assign (v := .int _ _) rfl) rfl rfl rfl ?_
        refine gop_store 2 (v := .agg #[_, _, _]) (cs' := #[_, _, _]) rfl rfl Try.sizeOf43 rfl rfl rfl rfl (Nat.le_of_ble_eq_true rfl) rfl rfl ?_
        refine gops_nil ?_
        refine hN11 _ _ ?_
        refine gT [box b1 _, box b2 _, box b5 _] rfl ?_
        refine gfrom [(2, .pointer _), (3, .int _ _), (4, .int _ _), (5, .pointer _), (13, .slice _ _ _), (14, .int _ _), (15, .int _ _)] ⟨rfl, rfl, rfl, rfl, rfl, rfl, rfl, trivial⟩ fun σ => ?_
        refine gseq fun N12 hN12 => ?_
        refine gseq fun N13 hN13 => ?_
        refine greg ?_
        refine gop (y_loads (cs := [_, _, _]) Try.isAgg43 Try.sizeOf43 rfl rfl (cells_box 2 rfl)) rfl rfl rfl ?_
        refine gop (y_move (v := .int _ _) rfl) rfl rfl rfl ?_
        refine gop_pure (e_call (vs := [.agg #[_, _, _], .int _ _]) Try.func36 rfl (by kernel_rfl) rfl) (fun w hM => hunk_any w hs[k] (HunkR.lasts.base hR hM) _) rfl rfl rfl ?_
        refine gop (y_assign (v := .int _ _) rfl) rfl rfl rfl ?_
        refine gops_nil ?_
        refine hN13 _ _ ?_
        refine gfrom [(2, .pointer _), (4, .int _ _), (5, .pointer _), (6, .int _ _), (13, .slice _ _ _), (14, .int _ _), (15, .int _ _)] ⟨rfl, rfl, rfl, rfl, rfl, rfl, rfl, trivial⟩ fun σ => ?_
        refine gseq fun N14 hN14 => ?_
        refine greg ?_
        refine gop (y_move (v := .int _ _) rfl) rfl rfl rfl ?_
        refine gop (y_neq rfl rfl) rfl rfl rfl ?_
        refine gops_nil ?_
        refine hN14 _ _ ?_
        refine gfrom [(2, .pointer _), (4, .int _ _), (5, .pointer _), (6, .int _ _), (13, .slice _ _ _), (14, .int _ _), (15, .int _ _), (24, .bool _)] ⟨rfl, rfl, rfl, rfl, rfl, rfl, rfl, rfl, trivial⟩ fun σ => ?_
        refine gcond (b := _) rfl (fun hc24 => ?_) (fun hc24 => ?_)
        · -- slot 24 t
          replace hc24 := of_decide_eq_true hc24
          refine gseq fun N15 hN15 => ?_
          refine greg ?_
          refine gop (y_move (v := .int _ _) rfl) rfl rfl rfl ?_
          refine gop (y_move (v := .int _ _) rfl) rfl rfl rfl ?_
          refine gop (y_build (vs := [(0, .int _ _), (1, .int _ _)]) (cells := #[_, _]) rfl (bd27_0_1 _ _)) rfl rfl rfl ?_
          refine gop_store 1 (v := .agg #[_, _]) (cs' := #[_, _]) rfl rfl Try.sizeOf27 rfl rfl rfl rfl (Nat.le_of_ble_eq_true rfl) rfl rfl ?_
          refine gops_nil ?_
          refine hN15 _ _ ?_
          refine gT [box b1 _, box b2 _, box b5 _] rfl ?_
          refine gfrom [(2, .pointer _)] ⟨rfl, trivial⟩ fun σ => ?_
          refine gret fun w1 hM => ?_
          refine ⟨_, res1 rfl (rc 1 (cs := [_, _]) hM rfl rfl Try.isAgg27 Try.sizeOf27 rfl), ?_⟩
          exact ⟨by rw [hF, scan_at hk2 hz (by simpa using hc24)]; simp, hM.low⟩
        · -- slot 24 f
          replace hc24 := Decidable.not_not.1 (of_decide_eq_false hc24)
          have hv := hunkC_zero.1 hc24
          refine gskip ?_
          refine hN12 _ _ ?_
          refine gfrom [(2, .pointer _), (5, .pointer _), (13, .slice _ _ _), (14, .int _ _), (15, .int _ _)] ⟨rfl, rfl, rfl, rfl, rfl, trivial⟩ fun σ => ?_
          refine greg ?_
          refine gop (y_loads (cs := [_, _, _]) Try.isAgg43 Try.sizeOf43 rfl rfl (cells_box 2 rfl)) rfl rfl rfl ?_
          refine gop_pure (e_call (vs := [.agg #[_, _, _]]) Try.func35 rfl (by kernel_rfl) rfl) (fun w hM => end_any w hs[k] (by have := hv.lo; have := hv.hi; have := hv.oldLen; unfold In64 Hunk.end_; omega)) rfl rfl rfl ?_
          refine gop (y_assign (v := .int _ _) rfl) rfl rfl rfl ?_
          refine gops_nil ?_
          refine hN10 _ _ ?_
          refine gfrom [(2, .pointer _), (3, .int _ _), (13, .slice _ _ _), (14, .int _ _), (15, .int _ _)] ⟨rfl, rfl, rfl, rfl, rfl, trivial⟩ fun σ => ?_
          refine greg ?_
          refine gop (y_add rfl rfl ⟨by omega, by omega⟩) rfl rfl rfl ?_
          refine gop (y_move (v := .int _ _) rfl) rfl rfl rfl ?_
          refine gops_nil ?_
          refine gnext2 (k + 1) (by omega) (⟨by omega, fun j h hj => by rcases Nat.lt_succ_iff_lt_or_eq.1 hj with h1 | rfl; exact hz j h h1; simpa using hc24⟩) ⟨(congrArg (Value.int .i64) (by rw [PV.prev hk2]; simp)), rfl, trivial⟩ ⟨rfl, rfl, rfl, trivial⟩ ⟨_, rfl⟩
      · -- slot 16 f
        replace hc16 := of_decide_eq_false hc16
        have hF2 : patchF (pls hs) = ⟨0, 0⟩ := by rw [hF]; exact scan_ok fun j hj => hz j hj (by simp at hj; omega)
        refine gexit ?_
        refine hN6 _ _ ?_
        refine gfrom [(2, .pointer _)] ⟨rfl, trivial⟩ fun σ => ?_
        refine gseq fun N16 hN16 => ?_
        refine greg ?_
        refine gop (y_build (vs := []) (cells := #[.int .i64 0, .int .i64 0]) rfl bd27_) rfl rfl rfl ?_
        refine gop_store 1 (v := .agg #[_, _]) (cs' := #[_, _]) rfl rfl Try.sizeOf27 rfl rfl rfl rfl (Nat.le_of_ble_eq_true rfl) rfl rfl ?_
        refine gops_nil ?_
        refine hN16 _ _ ?_
        refine gT [box b1 _, box b2 _] rfl ?_
        refine gfrom [(2, .pointer _)] ⟨rfl, trivial⟩ fun σ => ?_
        refine gret fun w1 hM => ?_
        refine ⟨_, res1 rfl (rc 1 (cs := [_, _]) hM rfl rfl Try.isAgg27 Try.sizeOf27 rfl), ?_⟩
        exact ⟨by rw [hF2], hM.low⟩

set_option maxHeartbeats 1000000 in
theorem patchSecond_any (w : World) (A : Option Addr) (c : Nat) (hs : List HunkC) (hp : PatR w 0 A c hs) (i : Int) : Calls Try.prog 33 #[.agg #[.slice A hs.length c], .int .i64 i] w fun e w' => e = .returned (fv (secondF (patchF (pls hs)) i)) ∧ Below w.heap.size w w' := by
  refine gcalls Try.func33 rfl Try.ntmps33 (Nat.le_of_ble_eq_true rfl) ?_
  refine gfrom [(0, .agg #[_]), (1, .int _ _)] ⟨rfl, rfl, trivial⟩ fun σ => ?_
  refine gseq fun N1 hN1 => ?_
  refine greg ?_
  refine gop_box (v := .agg #[_]) (cs := #[_]) rfl rfl rfl (fun b2 hb2 => ?_)
  refine gop_alloc (cs := #[.int .i64 0, .int .i64 0]) Try.zeroValue27 rfl rfl (fun b4 hb4 => ?_)
  refine gops_nil ?_
  refine hN1 _ _ ?_
  refine gT [box b2 _, box b4 _] rfl ?_
  refine gfrom [(1, .int _ _), (2, .pointer _), (4, .pointer _)] ⟨rfl, rfl, rfl, trivial⟩ fun σ => ?_
  refine gseq fun N2 hN2 => ?_
  refine gseq fun N3 hN3 => ?_
  refine greg ?_
  refine gop (y_loads (cs := [_]) Try.isAgg25 Try.sizeOf25 rfl rfl (cells_box 0 rfl)) rfl rfl rfl ?_
  refine gop_pure (e_call (vs := [.agg #[_]]) Try.func18 rfl (by kernel_rfl) rfl) (fun w hM => patchValidate_any w _ _ _ (PatR.lasts.base hp hM)) rfl rfl rfl ?_
  refine gop_alloc (cs := #[.int .i64 0, .int .i64 0]) Try.zeroValue27 rfl rfl (fun b5 hb5 => ?_)
  refine gop_store 2 (v := .agg #[_, _]) (cs' := #[_, _]) rfl rfl Try.sizeOf27 rfl rfl rfl rfl (Nat.le_of_ble_eq_true rfl) rfl rfl ?_
  refine gops_nil ?_
  refine hN3 _ _ ?_
  refine gT [box b2 _, box b4 _, box b5 _] rfl ?_
  refine gfrom [(1, .int _ _), (4, .pointer _), (5, .pointer _)] ⟨rfl, rfl, rfl, trivial⟩ fun σ => ?_
  refine gseq fun N4 hN4 => ?_
  refine greg ?_
  refine gop (y_loads (cs := [_, _]) Try.isAgg27 Try.sizeOf27 rfl rfl (cells_box 2 rfl)) rfl rfl rfl ?_
  refine gop (y_build (vs := []) (cells := #[.int .i64 0, .int .i64 0]) rfl bd27_) rfl rfl rfl ?_
  refine gop (y_bin (vx := .agg #[_, _]) (vy := .agg #[_, _]) rfl rfl (fun w => eg27 _ _ _ _ _ w) (fun w => ne27 _ _ _ _ w)) rfl rfl rfl ?_
  refine gops_nil ?_
  refine hN4 _ _ ?_
  refine gfrom [(1, .int _ _), (4, .pointer _), (5, .pointer _), (10, .bool _)] ⟨rfl, rfl, rfl, rfl, trivial⟩ fun σ => ?_
  refine gcond (b := _) rfl (fun hc10 => ?_) (fun hc10 => ?_)
  · -- slot 10 t
    replace hc10 := fault_ne.1 hc10
    refine gseq fun N5 hN5 => ?_
    refine greg ?_
    refine gop (y_fieldAddr_box fa27_0 rfl) rfl rfl rfl ?_
    refine gop (y_load Try.isAgg3 rfl (cell_box 2 rfl rfl)) rfl rfl rfl ?_
    refine gop (y_move (v := .int _ _) rfl) rfl rfl rfl ?_
    refine gop (y_build (vs := [(0, .int _ _), (1, .int _ _)]) (cells := #[_, _]) rfl (bd27_0_1 _ _)) rfl rfl rfl ?_
    refine gop_store 1 (v := .agg #[_, _]) (cs' := #[_, _]) rfl rfl Try.sizeOf27 rfl rfl rfl rfl (Nat.le_of_ble_eq_true rfl) rfl rfl ?_
    refine gops_nil ?_
    refine hN5 _ _ ?_
    refine gT [box b2 _, box b4 _, box b5 _] rfl ?_
    refine gfrom [(4, .pointer _)] ⟨rfl, trivial⟩ fun σ => ?_
    refine gret fun w1 hM => ?_
    refine ⟨_, res1 rfl (rc 1 (cs := [_, _]) hM rfl rfl Try.isAgg27 Try.sizeOf27 rfl), ?_⟩
    exact ⟨by rw [secondF, if_pos hc10], hM.low⟩
  · -- slot 10 f
    replace hc10 := fault_eq.1 hc10
    refine gskip ?_
    refine hN2 _ _ ?_
    refine gfrom [(4, .pointer _)] ⟨rfl, trivial⟩ fun σ => ?_
    refine gseq fun N6 hN6 => ?_
    refine greg ?_
    refine gop (y_build (vs := []) (cells := #[.int .i64 0, .int .i64 0]) rfl bd27_) rfl rfl rfl ?_
    refine gop_store 1 (v := .agg #[_, _]) (cs' := #[_, _]) rfl rfl Try.sizeOf27 rfl rfl rfl rfl (Nat.le_of_ble_eq_true rfl) rfl rfl ?_
    refine gops_nil ?_
    refine hN6 _ _ ?_
    refine gT [box b2 _, box b4 _, box b5 _] rfl ?_
    refine gfrom [(4, .pointer _)] ⟨rfl, trivial⟩ fun σ => ?_
    refine gret fun w1 hM => ?_
    refine ⟨_, res1 rfl (rc 1 (cs := [_, _]) hM rfl rfl Try.isAgg27 Try.sizeOf27 rfl), ?_⟩
    exact ⟨by rw [secondF, if_neg (by simp [hc10])], hM.low⟩

set_option maxHeartbeats 1000000 in
theorem linesSecond_any (w : World) (A : Option Addr) (c : Nat) (l : List ByteArray) (hl : Rdl w 0 1 strCells A l) (hm : l.length ≤ maxLen) (i : Int) : Calls Try.prog 38 #[.slice A l.length c, .int .i64 i] w fun e w' => e = .returned (fv (secondF (linesF l) i)) ∧ Below w.heap.size w w' := by
  refine gcalls Try.func38 rfl Try.ntmps38 (Nat.le_of_ble_eq_true rfl) ?_
  refine gfrom [(0, .slice _ _ _), (1, .int _ _)] ⟨rfl, rfl, trivial⟩ fun σ => ?_
  refine gseq fun N1 hN1 => ?_
  refine greg ?_
  refine gop_alloc (cs := #[.int .i64 0, .int .i64 0]) Try.zeroValue27 rfl rfl (fun b4 hb4 => ?_)
  refine gops_nil ?_
  refine hN1 _ _ ?_
  refine gT [box b4 _] rfl ?_
  refine gfrom [(0, .slice _ _ _), (1, .int _ _), (4, .pointer _)] ⟨rfl, rfl, rfl, trivial⟩ fun σ => ?_
  refine gseq fun N2 hN2 => ?_
  refine gseq fun N3 hN3 => ?_
  refine greg ?_
  refine gop (y_move (v := .slice _ _ _) rfl) rfl rfl rfl ?_
  refine gop_pure (e_call (vs := [.slice _ _ _]) Try.func43 rfl (by kernel_rfl) rfl) (fun w hM => linesValidate_any w _ _ _ (hl.base hM) hm) rfl rfl rfl ?_
  refine gop_alloc (cs := #[.int .i64 0, .int .i64 0]) Try.zeroValue27 rfl rfl (fun b5 hb5 => ?_)
  refine gop_store 1 (v := .agg #[_, _]) (cs' := #[_, _]) rfl rfl Try.sizeOf27 rfl rfl rfl rfl (Nat.le_of_ble_eq_true rfl) rfl rfl ?_
  refine gops_nil ?_
  refine hN3 _ _ ?_
  refine gT [box b4 _, box b5 _] rfl ?_
  refine gfrom [(1, .int _ _), (4, .pointer _), (5, .pointer _)] ⟨rfl, rfl, rfl, trivial⟩ fun σ => ?_
  refine gseq fun N4 hN4 => ?_
  refine greg ?_
  refine gop (y_loads (cs := [_, _]) Try.isAgg27 Try.sizeOf27 rfl rfl (cells_box 1 rfl)) rfl rfl rfl ?_
  refine gop (y_build (vs := []) (cells := #[.int .i64 0, .int .i64 0]) rfl bd27_) rfl rfl rfl ?_
  refine gop (y_bin (vx := .agg #[_, _]) (vy := .agg #[_, _]) rfl rfl (fun w => eg27 _ _ _ _ _ w) (fun w => ne27 _ _ _ _ w)) rfl rfl rfl ?_
  refine gops_nil ?_
  refine hN4 _ _ ?_
  refine gfrom [(1, .int _ _), (4, .pointer _), (5, .pointer _), (10, .bool _)] ⟨rfl, rfl, rfl, rfl, trivial⟩ fun σ => ?_
  refine gcond (b := _) rfl (fun hc10 => ?_) (fun hc10 => ?_)
  · -- slot 10 t
    replace hc10 := fault_ne.1 hc10
    refine gseq fun N5 hN5 => ?_
    refine greg ?_
    refine gop (y_fieldAddr_box fa27_0 rfl) rfl rfl rfl ?_
    refine gop (y_load Try.isAgg3 rfl (cell_box 1 rfl rfl)) rfl rfl rfl ?_
    refine gop (y_move (v := .int _ _) rfl) rfl rfl rfl ?_
    refine gop (y_build (vs := [(0, .int _ _), (1, .int _ _)]) (cells := #[_, _]) rfl (bd27_0_1 _ _)) rfl rfl rfl ?_
    refine gop_store 0 (v := .agg #[_, _]) (cs' := #[_, _]) rfl rfl Try.sizeOf27 rfl rfl rfl rfl (Nat.le_of_ble_eq_true rfl) rfl rfl ?_
    refine gops_nil ?_
    refine hN5 _ _ ?_
    refine gT [box b4 _, box b5 _] rfl ?_
    refine gfrom [(4, .pointer _)] ⟨rfl, trivial⟩ fun σ => ?_
    refine gret fun w1 hM => ?_
    refine ⟨_, res1 rfl (rc 0 (cs := [_, _]) hM rfl rfl Try.isAgg27 Try.sizeOf27 rfl), ?_⟩
    exact ⟨by rw [secondF, if_pos hc10], hM.low⟩
  · -- slot 10 f
    replace hc10 := fault_eq.1 hc10
    refine gskip ?_
    refine hN2 _ _ ?_
    refine gfrom [(4, .pointer _)] ⟨rfl, trivial⟩ fun σ => ?_
    refine gseq fun N6 hN6 => ?_
    refine greg ?_
    refine gop (y_build (vs := []) (cells := #[.int .i64 0, .int .i64 0]) rfl bd27_) rfl rfl rfl ?_
    refine gop_store 0 (v := .agg #[_, _]) (cs' := #[_, _]) rfl rfl Try.sizeOf27 rfl rfl rfl rfl (Nat.le_of_ble_eq_true rfl) rfl rfl ?_
    refine gops_nil ?_
    refine hN6 _ _ ?_
    refine gT [box b4 _, box b5 _] rfl ?_
    refine gfrom [(4, .pointer _)] ⟨rfl, trivial⟩ fun σ => ?_
    refine gret fun w1 hM => ?_
    refine ⟨_, res1 rfl (rc 0 (cs := [_, _]) hM rfl rfl Try.isAgg27 Try.sizeOf27 rfl), ?_⟩
    exact ⟨by rw [secondF, if_neg (by simp [hc10])], hM.low⟩

set_option maxHeartbeats 1000000 in
theorem isLine_any (w : World) (n : Int) : Calls Try.prog 32 #[.int .i64 n] w fun e w' => e = .returned (.bool (isLine n)) ∧ Below w.heap.size w w' := by
  refine gcalls Try.func32 rfl Try.ntmps32 (Nat.le_of_ble_eq_true rfl) ?_
  refine gfrom [(0, .int _ _)] ⟨rfl, trivial⟩ fun σ => ?_
  refine gseq fun N1 hN1 => ?_
  refine greg ?_
  refine gop (y_assign (v := .bool _) rfl) rfl rfl rfl ?_
  refine gops_nil ?_
  refine hN1 _ _ ?_
  refine gfrom [(0, .int _ _)] ⟨rfl, trivial⟩ fun σ => ?_
  refine gseq fun N2 hN2 => ?_
  refine greg ?_
  refine gop (y_move (v := .int _ _) rfl) rfl rfl rfl ?_
  refine gop (y_geq rfl rfl) rfl rfl rfl ?_
  refine gop (y_move (v := .bool _) rfl) rfl rfl rfl ?_
  refine gop_if (want := true) rfl rfl rfl rfl rfl rfl (fun hg5 => ?_) (fun hg5 => ?_)
  · -- guard 5 on
    have hg5d := of_decide_eq_true hg5
    refine gop (y_bare (y_move (v := .int _ _) rfl)) rfl rfl rfl ?_
    refine gop_on rfl rfl rfl rfl hg5 ?_
    refine gop (y_bare (y_lss rfl rfl)) rfl rfl rfl ?_
    refine gop (y_pick_t (v := .bool _) rfl hg5 rfl) rfl rfl rfl ?_
    refine gop (y_assign (v := .bool _) rfl) rfl rfl rfl ?_
    refine gops_nil ?_
    refine hN2 _ _ ?_
    refine gfrom [(2, .bool _)] ⟨rfl, trivial⟩ fun σ => ?_
    refine gret fun w1 hM => ?_
    refine ⟨_, res1 rfl (rt (v := .bool _) rfl), ?_⟩
    exact ⟨by simp [isLine, hg5d], hM.low⟩
  · -- guard 5 off
    have hg5d := of_decide_eq_false hg5
    refine gop_off rfl rfl rfl rfl hg5 rfl rfl ?_
    refine gop (y_pick_f (v := .bool _) rfl hg5 rfl) rfl rfl rfl ?_
    refine gop (y_assign (v := .bool _) rfl) rfl rfl rfl ?_
    refine gops_nil ?_
    refine hN2 _ _ ?_
    refine gfrom [(2, .bool _)] ⟨rfl, trivial⟩ fun σ => ?_
    refine gret fun w1 hM => ?_
    refine ⟨_, res1 rfl (rt (v := .bool _) rfl), ?_⟩
    exact ⟨by simp [isLine, hg5d], hM.low⟩

set_option maxHeartbeats 1000000 in
theorem place_any (w : World) (A : Option Addr) (c : Nat) (hs : List HunkC) (hp : PatR w 0 A c hs) (hn : hs.length ≤ 130) (hb : ∀ h ∈ pls hs, HB h) (line : Int) (h1 : -1000000000000 ≤ line) (h2 : line ≤ 1000000000000) : Calls Try.prog 34 #[.agg #[.slice A hs.length c], .int .i64 line] w fun e w' => e = .returned (.tuple #[.int .i64 (place (pls hs) line 0).1, .bool (place (pls hs) line 0).2]) ∧ Below w.heap.size w w' := by
  refine gcalls Try.func34 rfl Try.ntmps34 (Nat.le_of_ble_eq_true rfl) ?_
  refine gfrom [(0, .agg #[_]), (1, .int _ _)] ⟨rfl, rfl, trivial⟩ fun σ => ?_
  refine gseq fun N1 hN1 => ?_
  refine greg ?_
  refine gop_box (v := .agg #[_]) (cs := #[_]) rfl rfl rfl (fun b2 hb2 => ?_)
  refine gop (y_assign (v := .int _ _) rfl) rfl rfl rfl ?_
  refine gop (y_assign (v := .bool _) rfl) rfl rfl rfl ?_
  refine gops_nil ?_
  refine hN1 _ _ ?_
  refine gT [box b2 _] rfl ?_
  refine gfrom [(1, .int _ _), (2, .pointer _)] ⟨rfl, rfl, trivial⟩ fun σ => ?_
  refine gseq fun N2 hN2 => ?_
  refine greg ?_
  refine gop (y_assign (v := .int _ _) rfl) rfl rfl rfl ?_
  refine gops_nil ?_
  refine hN2 _ _ ?_
  refine gfrom [(1, .int _ _), (2, .pointer _), (6, .int _ _)] ⟨rfl, rfl, rfl, trivial⟩ fun σ => ?_
  refine gseq fun N3 hN3 => ?_
  refine gseq fun N4 hN4 => ?_
  refine greg ?_
  refine gop (y_fieldAddr_box fa25_0 rfl) rfl rfl rfl ?_
  refine gop (y_load Try.isAgg23 rfl (cell_box 0 rfl rfl)) rfl rfl rfl ?_
  refine gop (y_len Try.underlying23 rfl) rfl rfl rfl ?_
  refine gop (y_move (v := .int _ _) rfl) rfl rfl rfl ?_
  refine gops_nil ?_
  refine hN4 _ _ ?_
  refine gfrom [(1, .int _ _), (6, .int _ _), (10, .slice _ _ _), (11, .int _ _), (12, .int _ _)] ⟨rfl, rfl, rfl, rfl, rfl, trivial⟩ fun σ => ?_
  refine gblock ?_
  refine gfrom2 [(6, .int _ _), (12, .int _ _)] [(1, .int _ _), (10, .slice _ _ _), (11, .int _ _)] ⟨rfl, rfl, trivial⟩ ⟨rfl, rfl, rfl, trivial⟩ fun σ => ?_
  refine gloop2 (G := Nat × Int) (fun (k, g) => k ≤ hs.length ∧ -(120 * (k : Int)) ≤ g ∧ g ≤ 120 * (k : Int) ∧ place (pls hs) line 0 = place ((pls hs).drop k) line g) (fun (k, g) => hs.length - k) (fun (k, g) => [(6, .int .i64 g), (12, .int .i64 (k : Int))]) (fun (k, g) => []) ((0, 0)) ?h0 ⟨rfl, rfl, trivial⟩ ⟨rfl, rfl, rfl, trivial⟩ rfl ?round
  case h0 => exact ⟨Nat.zero_le _, by decide, by decide, rfl⟩
  case round =>
    rintro ⟨k, g⟩ hφ σ
    obtain ⟨hk, hg1, hg2, hP⟩ := hφ
    refine gseq fun N5 hN5 => ?_
    refine greg ?_
    refine gop (y_lss rfl rfl) rfl rfl rfl ?_
    refine gops_nil ?_
    refine hN5 _ _ ?_
    refine gfrom [(1, .int _ _), (6, .int _ _), (10, .slice _ _ _), (11, .int _ _), (12, .int _ _), (13, .bool _)] ⟨rfl, rfl, rfl, rfl, rfl, rfl, trivial⟩ fun σ => ?_
    refine gseq fun N6 hN6 => ?_
    refine gcond (b := _) rfl (fun hc13 => ?_) (fun hc13 => ?_)
    · -- slot 13 t
      replace hc13 := of_decide_eq_true hc13
      have hk1 : k < hs.length := by omega
      have hk2 : k < (pls hs).length := by simpa using hk1
      obtain ⟨ad, rfl, -, hcv⟩ := hp.rd.at_ hk1
      have hB : HB hs[k].pl := hb _ (List.mem_map_of_mem (List.getElem_mem hk1))
      have hB1 := hB.lo
      have hB2 := hB.hi
      have hB3 := hB.old
      have hB4 := hB.new
      have hgr : hs[k].pl.growth = hs[k].pl.new.length - hs[k].pl.old.length := rfl
      have hD := place_drop hk2 line g
      rw [show (pls hs)[k] = hs[k].pl from List.getElem_map ..] at hD
      refine gskip ?_
      refine hN6 _ _ ?_
      refine gfrom [(1, .int _ _), (6, .int _ _), (10, .slice _ _ _), (11, .int _ _), (12, .int _ _)] ⟨rfl, rfl, rfl, rfl, rfl, trivial⟩ fun σ => ?_
      refine gseq fun N7 hN7 => ?_
      refine gblock ?_
      refine gseq fun N8 hN8 => ?_
      refine greg ?_
      refine gop (y_indexAddr Try.underlying23 Try.sizeOf43 rfl rfl rfl (by omega) (by omega)) rfl rfl rfl ?_
      refine gop (y_loads (cs := [_, _, _]) Try.isAgg43 Try.sizeOf43 rfl rfl (cells_base hcv)) rfl rfl rfl ?_
      refine gop_alloc (cs := #[.int .i64 0, .slice none 0 0, .slice none 0 0]) Try.zeroValue43 rfl rfl (fun b8 hb8 => ?_)
      refine gop_store 1 (v := .agg #[_, _, _]) (cs' := #[_, _, _]) rfl rfl Try.sizeOf43 rfl rfl rfl rfl (Nat.le_of_ble_eq_true rfl) rfl rfl ?_
      refine gops_nil ?_
      refine hN8 _ _ ?_
      refine gT [box b2 _, box b8 _] rfl ?_
      refine gfrom [(1, .int _ _), (6, .int _ _), (8, .pointer _), (10, .slice _ _ _), (11, .int _ _), (12, .int _ _)] ⟨rfl, rfl, rfl, rfl, rfl, rfl, trivial⟩ fun σ => ?_
      refine gseq fun N9 hN9 => ?_
      refine gseq fun N10 hN10 => ?_
      refine greg ?_
      refine gop (y_move (v := .int _ _) rfl) rfl rfl rfl ?_
      refine gop (y_fieldAddr_box fa43_0 rfl) rfl rfl rfl ?_
      refine gop (y_load Try.isAgg3 rfl (cell_box 1 rfl rfl)) rfl rfl rfl ?_
      refine gop (y_lss rfl rfl) rfl rfl rfl ?_
      refine gops_nil ?_
      refine hN10 _ _ ?_
      refine gfrom [(1, .int _ _), (6, .int _ _), (8, .pointer _), (10, .slice _ _ _), (11, .int _ _), (12, .int _ _), (19, .bool _)] ⟨rfl, rfl, rfl, rfl, rfl, rfl, rfl, trivial⟩ fun σ => ?_
      refine gcond (b := _) rfl (fun hc19 => ?_) (fun hc19 => ?_)
      · -- slot 19 t
        replace hc19 := of_decide_eq_true hc19
        have hE : place (pls hs) line 0 = (line + g, true) := by rw [hP, hD, if_pos hc19]
        refine gexit ?_
        refine hN3 _ _ ?_
        refine gfrom [(1, .int _ _), (6, .int _ _)] ⟨rfl, rfl, trivial⟩ fun σ => ?_
        refine gseq fun N11 hN11 => ?_
        refine greg ?_
        refine gop (y_move (v := .int _ _) rfl) rfl rfl rfl ?_
        refine gop (y_move (v := .int _ _) rfl) rfl rfl rfl ?_
        refine gop (y_add rfl rfl ⟨by omega, by omega⟩) rfl rfl rfl ?_
        refine gop (y_assign (v := .int _ _) rfl) rfl rfl rfl ?_
        refine gop (y_assign (v := .bool _) rfl) rfl rfl rfl ?_
        refine gops_nil ?_
        refine hN11 _ _ ?_
        refine gfrom [(4, .int _ _), (5, .bool _)] ⟨rfl, rfl, trivial⟩ fun σ => ?_
        refine gret fun w1 hM => ?_
        refine ⟨_, res2 rfl (rt (v := .int _ _) rfl) (rt (v := .bool _) rfl), ?_⟩
        exact ⟨by rw [hE], hM.low⟩
      · -- slot 19 f
        replace hc19 := of_decide_eq_false hc19
        refine gskip ?_
        refine hN9 _ _ ?_
        refine gfrom [(1, .int _ _), (6, .int _ _), (8, .pointer _), (10, .slice _ _ _), (11, .int _ _), (12, .int _ _)] ⟨rfl, rfl, rfl, rfl, rfl, rfl, trivial⟩ fun σ => ?_
        refine gseq fun N12 hN12 => ?_
        refine gseq fun N13 hN13 => ?_
        refine greg ?_
        refine gop (y_move (v := .int _ _) rfl) rfl rfl rfl ?_
        refine gop (y_loads (cs := [_, _, _]) Try.isAgg43 Try.sizeOf43 rfl rfl (cells_box 1 rfl)) rfl rfl rfl ?_
        refine gop_pure (e_call (vs := [.agg #[_, _, _]]) Try.func35 rfl (by kernel_rfl) rfl) (fun w hM => end_any w hs[k] (by have := hB.lo; have := hB.hi; have := hB.old; unfold In64 Hunk.end_; omega)) rfl rfl rfl ?_
        refine gop (y_lss rfl rfl) rfl rfl rfl ?_
        refine gops_nil ?_
        refine hN13 _ _ ?_
        refine gfrom [(1, .int _ _), (6, .int _ _), (8, .pointer _), (10, .slice _ _ _), (11, .int _ _), (12, .int _ _), (23, .bool _)] ⟨rfl, rfl, rfl, rfl, rfl, rfl, rfl, trivial⟩ fun σ => ?_
        refine gcond (b := _) rfl (fun hc23 => ?_) (fun hc23 => ?_)
        · -- slot 23 t
          replace hc23 := of_decide_eq_true hc23
          have hE : place (pls hs) line 0 = (hs[k].pl.at_ + g, false) := by rw [hP, hD, if_neg hc19, if_pos hc23]
          refine gseq fun N14 hN14 => ?_
          refine greg ?_
          refine gop (y_fieldAddr_box fa43_0 rfl) rfl rfl rfl ?_
          refine gop (y_load Try.isAgg3 rfl (cell_box 1 rfl rfl)) rfl rfl rfl ?_
          refine gop (y_move (v := .int _ _) rfl) rfl rfl rfl ?_
          refine gop (y_add rfl rfl ⟨by omega, by omega⟩) rfl rfl rfl ?_
          refine gop (y_assign (v := .int _ _) rfl) rfl rfl rfl ?_
          refine gop (y_assign (v := .bool _) rfl) rfl rfl rfl ?_
          refine gops_nil ?_
          refine hN14 _ _ ?_
          refine gfrom [(4, .int _ _), (5, .bool _)] ⟨rfl, rfl, trivial⟩ fun σ => ?_
          refine gret fun w1 hM => ?_
          refine ⟨_, res2 rfl (rt (v := .int _ _) rfl) (rt (v := .bool _) rfl), ?_⟩
          exact ⟨by rw [hE], hM.low⟩
        · -- slot 23 f
          replace hc23 := of_decide_eq_false hc23
          refine gskip ?_
          refine hN12 _ _ ?_
          refine gfrom [(1, .int _ _), (6, .int _ _), (8, .pointer _), (10, .slice _ _ _), (11, .int _ _), (12, .int _ _)] ⟨rfl, rfl, rfl, rfl, rfl, rfl, trivial⟩ fun σ => ?_
          refine greg ?_
          refine gop (y_move (v := .int _ _) rfl) rfl rfl rfl ?_
          refine gop (y_loads (cs := [_, _, _]) Try.isAgg43 Try.sizeOf43 rfl rfl (cells_box 1 rfl)) rfl rfl rfl ?_
          refine gop_pure (e_call (vs := [.agg #[_, _, _]]) Try.func47 rfl (by kernel_rfl) rfl) (fun w hM => growth_any w hs[k] (by have := hB.old; have := hB.new; unfold In64 Hunk.growth; omega)) rfl rfl rfl ?_
          refine gop (y_add rfl rfl ⟨by omega, by omega⟩) rfl rfl rfl ?_
          refine gop (y_assign (v := .int _ _) rfl) rfl rfl rfl ?_
          refine gops_nil ?_
          refine hN7 _ _ ?_
          refine gfrom [(1, .int _ _), (6, .int _ _), (10, .slice _ _ _), (11, .int _ _), (12, .int _ _)] ⟨rfl, rfl, rfl, rfl, rfl, trivial⟩ fun σ => ?_
          refine greg ?_
          refine gop (y_add rfl rfl ⟨by omega, by omega⟩) rfl rfl rfl ?_
          refine gop (y_move (v := .int _ _) rfl) rfl rfl rfl ?_
          refine gops_nil ?_
          refine gnext2 ((k + 1, g + hs[k].pl.growth)) (by show hs.length - (k + 1) < hs.length - k; omega) (⟨by show k + 1 ≤ _; omega, by show -(120 * ((k + 1 : Nat) : Int)) ≤ _; have := hB.old; have := hB.new; unfold Hunk.growth; omega, by show _ ≤ 120 * ((k + 1 : Nat) : Int); have := hB.old; have := hB.new; unfold Hunk.growth; omega, by rw [hP, hD, if_neg hc19, if_neg hc23]⟩) ⟨rfl, rfl, trivial⟩ ⟨rfl, rfl, rfl, trivial⟩ ⟨_, rfl⟩
    · -- slot 13 f
      replace hc13 := of_decide_eq_false hc13
      have hE : place (pls hs) line 0 = (line + g, true) := by rw [hP, List.drop_eq_nil_of_le (by simp; omega), place]
      refine gexit ?_
      refine hN3 _ _ ?_
      refine gfrom [(1, .int _ _), (6, .int _ _)] ⟨rfl, rfl, trivial⟩ fun σ => ?_
      refine gseq fun N15 hN15 => ?_
      refine greg ?_
      refine gop (y_move (v := .int _ _) rfl) rfl rfl rfl ?_
      refine gop (y_move (v := .int _ _) rfl) rfl rfl rfl ?_
      refine gop (y_add rfl rfl ⟨by omega, by omega⟩) rfl rfl rfl ?_
      refine gop (y_assign (v := .int _ _) rfl) rfl rfl rfl ?_
      refine gop (y_assign (v := .bool _) rfl) rfl rfl rfl ?_
      refine gops_nil ?_
      refine hN15 _ _ ?_
      refine gfrom [(4, .int _ _), (5, .bool _)] ⟨rfl, rfl, trivial⟩ fun σ => ?_
      refine gret fun w1 hM => ?_
      refine ⟨_, res2 rfl (rt (v := .int _ _) rfl) (rt (v := .bool _) rfl), ?_⟩
      exact ⟨by rw [hE], hM.low⟩
end Go.Proofs.Ytbaojdiccikbiaa
