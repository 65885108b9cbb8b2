/- walks, printed by program -/
import Derived.Test.YthiblolfolagaaaVotesL
import Derived.Test.YthiblolfolagaaaProg
namespace Go.Proofs.Ythiblolfolagaaa
open Go.RowKit Go.Cf
set_option maxRecDepth 10000

theorem bd25_0_1 (x1 : Int) (x2 : Int) : Try.prog.built 25 [(0, .int .i64 x1), (1, .int .i64 x2)] = some #[.int .i64 x1, .int .i64 x2] := by kernel_rfl
theorem fa35_0 (a : Addr) (w : World) : (Instr.fieldAt 35 (.pointer (some a)) 0).run Try.prog w = .ok (.pointer (some (a.add 0))) w := by kernel_rfl
theorem fa35_1 (a : Addr) (w : World) : (Instr.fieldAt 35 (.pointer (some a)) 1).run Try.prog w = .ok (.pointer (some (a.add 1))) w := by kernel_rfl
theorem fa35_2 (a : Addr) (w : World) : (Instr.fieldAt 35 (.pointer (some a)) 2).run Try.prog w = .ok (.pointer (some (a.add 2))) w := by kernel_rfl
theorem bd25_  : Try.prog.built 25 [] = some #[.int .i64 0, .int .i64 0] := by kernel_rfl
theorem eg25 (op : BinOp) (x y : Operand) (xs ys : Array Value) (w : World) : (eqGuard op 25 x y (.agg xs) (.agg ys)).run Try.prog w = .ok () w := run_eqGuard_agg w op 25 x y xs ys (by kernel_rfl)
theorem ne25 (a0 b0 : Int) (a1 b1 : Int) (w : World) : (binOp .neq 25 (.agg #[.int .i64 a0, .int .i64 a1]) (.agg #[.int .i64 b0, .int .i64 b1])).run Try.prog w = .ok (.bool (!(decide (a0 = b0) && decide (a1 = b1)))) w := by
  simp [run_neq_struct, run_equalIn_agg, Try.underlying25, Try.stoodInHeld25, Program.fieldsOf, go_sem]
  (repeat' split) <;> simp_all
theorem bd43_0_1 (x1 : Int) (x2 : Bool) : Try.prog.built 43 [(0, .int .i64 x1), (1, .bool x2)] = some #[.int .i64 x1, .bool x2] := by kernel_rfl
theorem fa43_1 (a : Addr) (w : World) : (Instr.fieldAt 43 (.pointer (some a)) 1).run Try.prog w = .ok (.pointer (some (a.add 1))) w := by kernel_rfl
theorem fa43_0 (a : Addr) (w : World) : (Instr.fieldAt 43 (.pointer (some a)) 0).run Try.prog w = .ok (.pointer (some (a.add 0))) w := by kernel_rfl
theorem el3 : Elem Try.prog 3 1 8 := elem_of (z := .int .i64 0) (by kernel_rfl) rfl (by decide)
theorem bd35_0_1 (x1 : Int) (x2 : Int) : Try.prog.built 35 [(0, .int .i64 x1), (1, .int .i64 x2)] = some #[.int .i64 x1, .int .i64 x2, .int .i64 0] := by kernel_rfl
theorem bd35_0_2 (x1 : Int) (x2 : Int) : Try.prog.built 35 [(0, .int .i64 x1), (2, .int .i64 x2)] = some #[.int .i64 x1, .int .i64 0, .int .i64 x2] := by kernel_rfl
theorem fa25_0 (a : Addr) (w : World) : (Instr.fieldAt 25 (.pointer (some a)) 0).run Try.prog w = .ok (.pointer (some (a.add 0))) w := by kernel_rfl

set_option maxHeartbeats 1000000 in
theorem fault_any (w : World) (c i : Int) : Calls Try.prog 14 #[.int .i64 c, .int .i64 i] w fun e w' => e = .returned (fv ⟨c, i⟩) ∧ Below w.heap.size w w' := by
  refine gcalls Try.func14 rfl Try.ntmps14 (Nat.le_of_ble_eq_true rfl) ?_
  refine gfrom [(0, .int _ _), (1, .int _ _)] ⟨rfl, rfl, trivial⟩ fun σ => ?_
  refine gseq fun N1 hN1 => ?_
  refine greg ?_
  refine gop_alloc (cs := #[.int .i64 0, .int .i64 0]) Try.zeroValue25 rfl rfl (fun b4 hb4 => ?_)
  refine gops_nil ?_
  refine hN1 _ _ ?_
  refine gT [box b4 _] rfl ?_
  refine gfrom [(0, .int _ _), (1, .int _ _), (4, .pointer _)] ⟨rfl, rfl, rfl, trivial⟩ fun σ => ?_
  refine gseq fun N2 hN2 => ?_
  refine greg ?_
  refine gop (y_move (v := .int _ _) rfl) rfl rfl rfl ?_
  refine gop (y_move (v := .int _ _) rfl) rfl rfl rfl ?_
  refine gop (y_build (vs := [(0, .int _ _), (1, .int _ _)]) (cells := #[_, _]) rfl (bd25_0_1 _ _)) rfl rfl rfl ?_
  refine gop_store 0 (v := .agg #[_, _]) (cs' := #[_, _]) rfl rfl Try.sizeOf25 rfl rfl rfl rfl (Nat.le_of_ble_eq_true rfl) rfl rfl ?_
  refine gops_nil ?_
  refine hN2 _ _ ?_
  refine gT [box b4 _] rfl ?_
  refine gfrom [(4, .pointer _)] ⟨rfl, trivial⟩ fun σ => ?_
  refine gret fun w1 hM => ?_
  refine ⟨_, res1 rfl (rc 0 (cs := [_, _]) hM rfl rfl Try.isAgg25 Try.sizeOf25 rfl), ?_⟩
  exact ⟨rfl, hM.low⟩

set_option maxHeartbeats 1000000 in
theorem sameInts_any (w : World) (A B : Option Addr) (c c' : Nat) (l m : List Int) (hA : Rdl w 0 1 intCells A l) (hB : Rdl w 0 1 intCells B m) (hl : l.length ≤ maxLen) :
    Calls Try.prog 17 #[.slice A l.length c, .slice B m.length c'] w fun e w' => e = .returned (.bool (decide (l = m))) ∧ Below w.heap.size w w' := by
  unfold maxLen at hl
  refine gcalls Try.func17 rfl Try.ntmps17 (Nat.le_of_ble_eq_true rfl) ?_
  refine gfrom [(0, .slice _ _ _), (1, .slice _ _ _)] ⟨rfl, rfl, trivial⟩ fun σ => ?_
  refine gseq fun N1 hN1 => ?_
  refine greg ?_
  refine gop (y_assign (v := .bool _) rfl) rfl rfl rfl ?_
  refine gops_nil ?_
  refine hN1 _ _ ?_
  refine gfrom [(0, .slice _ _ _), (1, .slice _ _ _)] ⟨rfl, rfl, trivial⟩ fun σ => ?_
  refine gseq fun N2 hN2 => ?_
  refine gseq fun N3 hN3 => ?_
  refine greg ?_
  refine gop (y_move (v := .slice _ _ _) rfl) rfl rfl rfl ?_
  refine gop (y_len Try.underlying27 rfl) rfl rfl rfl ?_
  refine gop (y_move (v := .slice _ _ _) rfl) rfl rfl rfl ?_
  refine gop (y_len Try.underlying27 rfl) rfl rfl rfl ?_
  refine gop (y_neq rfl rfl) rfl rfl rfl ?_
  refine gops_nil ?_
  refine hN3 _ _ ?_
  refine gfrom [(0, .slice _ _ _), (1, .slice _ _ _), (10, .bool _)] ⟨rfl, rfl, rfl, trivial⟩ fun σ => ?_
  refine gcond (b := _) rfl (fun hc10 => ?_) (fun hc10 => ?_)
  · -- slot 10 t
    replace hc10 := of_decide_eq_true hc10
    refine gseq fun N4 hN4 => ?_
    refine greg ?_
    refine gop (y_assign (v := .bool _) rfl) rfl rfl rfl ?_
    refine gops_nil ?_
    refine hN4 _ _ ?_
    refine gfrom [(4, .bool _)] ⟨rfl, trivial⟩ fun σ => ?_
    refine gret fun w1 hM => ?_
    refine ⟨_, res1 rfl (rt (v := .bool _) rfl), ?_⟩
    exact ⟨by rw [decide_eq_false (fun e => by subst e; omega)], hM.low⟩
  · -- slot 10 f
    replace hc10 := Decidable.not_not.1 (of_decide_eq_false hc10)
    refine gskip ?_
    refine hN2 _ _ ?_
    refine gfrom [(0, .slice _ _ _), (1, .slice _ _ _)] ⟨rfl, rfl, trivial⟩ fun σ => ?_
    refine gseq fun N5 hN5 => ?_
    refine gseq fun N6 hN6 => ?_
    refine greg ?_
    refine gop (y_assign (v := .int _ _) rfl) rfl rfl rfl ?_
    refine gops_nil ?_
    refine hN6 _ _ ?_
    refine gfrom [(0, .slice _ _ _), (1, .slice _ _ _), (5, .int _ _)] ⟨rfl, rfl, rfl, trivial⟩ fun σ => ?_
    refine gblock ?_
    refine gfrom2 [(5, .int _ _)] [(0, .slice _ _ _), (1, .slice _ _ _)] ⟨rfl, trivial⟩ ⟨rfl, rfl, trivial⟩ fun σ => ?_
    refine gloop2 (G := Nat) (fun k => k ≤ l.length ∧ l.length = m.length ∧ l.take k = m.take k) (fun k => l.length - k) (fun k => [(5, .int .i64 (k : Int))]) (fun k => []) (0) ?h0 ⟨rfl, trivial⟩ ⟨rfl, rfl, trivial⟩ rfl ?round
    case h0 => exact ⟨Nat.zero_le _, by omega, by simp⟩
    case round =>
      intro k hφ σ
      obtain ⟨hk, hlm, htk⟩ := hφ
      refine gseq fun N7 hN7 => ?_
      refine gseq fun N8 hN8 => ?_
      refine greg ?_
      refine gop (y_move (v := .int _ _) rfl) rfl rfl rfl ?_
      refine gop (y_move (v := .slice _ _ _) rfl) rfl rfl rfl ?_
      refine gop (y_len Try.underlying27 rfl) rfl rfl rfl ?_
      refine gop (y_lss rfl rfl) rfl rfl rfl ?_
      refine gops_nil ?_
      refine hN8 _ _ ?_
      refine gfrom [(0, .slice _ _ _), (1, .slice _ _ _), (5, .int _ _), (14, .bool _)] ⟨rfl, rfl, rfl, rfl, trivial⟩ fun σ => ?_
      refine gcond (b := _) rfl (fun hc14 => ?_) (fun hc14 => ?_)
      · -- slot 14 t
        replace hc14 := of_decide_eq_true hc14
        have hk1 : k < l.length := by omega
        obtain ⟨ad, rfl, -, hca⟩ := hA.at_ hk1
        obtain ⟨ad', rfl, -, hcb⟩ := hB.at_ (k := k) (by omega)
        refine gskip ?_
        refine hN7 _ _ ?_
        refine gfrom [(0, .slice _ _ _), (1, .slice _ _ _), (5, .int _ _)] ⟨rfl, rfl, rfl, trivial⟩ fun σ => ?_
        refine gseq fun N9 hN9 => ?_
        refine gblock ?_
        refine gseq fun N10 hN10 => ?_
        refine greg_q (by kernel_rfl) (by kernel_rfl) ?_
        refine gq (y_move (v := .slice _ _ _) rfl) rfl rfl rfl ?_
        refine gq (y_move (v := .int _ _) rfl) rfl rfl rfl ?_
        refine gq (y_indexAddr Try.underlying27 Try.sizeOf3 rfl rfl rfl (by omega) (by omega)) rfl rfl rfl ?_
        refine gq (y_load Try.isAgg3 rfl (cell_base (hca 0 _ rfl))) rfl rfl rfl ?_
        refine gq (y_move (v := .slice _ _ _) rfl) rfl rfl rfl ?_
        refine gq (y_move (v := .int _ _) rfl) rfl rfl rfl ?_
        refine gq (y_indexAddr Try.underlying27 Try.sizeOf3 rfl rfl rfl (by omega) (by omega)) rfl rfl rfl ?_
        refine gq (y_load Try.isAgg3 rfl (cell_base (hcb 0 _ rfl))) rfl rfl rfl ?_
        refine gq (y_neq rfl rfl) rfl rfl rfl ?_
        refine gqs_nil ?_
        refine hN10 _ _ ?_
        refine gfrom [(0, .slice _ _ _), (1, .slice _ _ _), (5, .int _ _), (25, .bool _)] ⟨rfl, rfl, rfl, rfl, trivial⟩ fun σ => ?_
        refine gcond (b := _) rfl (fun hc25 => ?_) (fun hc25 => ?_)
        · -- slot 25 t
          replace hc25 := of_decide_eq_true hc25
          refine gseq fun N11 hN11 => ?_
          refine greg ?_
          refine gop (y_assign (v := .bool _) rfl) rfl rfl rfl ?_
          refine gops_nil ?_
          refine hN11 _ _ ?_
          refine gfrom [(4, .bool _)] ⟨rfl, trivial⟩ fun σ => ?_
          refine gret fun w1 hM => ?_
          refine ⟨_, res1 rfl (rt (v := .bool _) rfl), ?_⟩
          exact ⟨by rw [decide_eq_false (ne_of_at hk1 (by omega) hc25)], hM.low⟩
        · -- slot 25 f
          replace hc25 := Decidable.not_not.1 (of_decide_eq_false hc25)
          refine gskip ?_
          refine hN9 _ _ ?_
          refine gfrom [(0, .slice _ _ _), (1, .slice _ _ _), (5, .int _ _)] ⟨rfl, rfl, rfl, trivial⟩ fun σ => ?_
          refine greg ?_
          refine gop (y_move (v := .int _ _) rfl) rfl rfl rfl ?_
          refine gop (y_add rfl rfl ⟨by omega, by omega⟩) rfl rfl rfl ?_
          refine gop (y_assign (v := .int _ _) rfl) rfl rfl rfl ?_
          refine gops_nil ?_
          refine gnext2 (k + 1) (by omega) (⟨by omega, hlm, take_next l m k (by omega) (by omega) htk hc25⟩) ⟨rfl, trivial⟩ ⟨rfl, rfl, trivial⟩ ⟨_, rfl⟩
      · -- slot 14 f
        replace hc14 := of_decide_eq_false hc14
        refine gexit ?_
        refine hN5 _ _ ?_
        refine gfrom [] trivial fun σ => ?_
        refine gseq fun N12 hN12 => ?_
        refine greg ?_
        refine gop (y_assign (v := .bool _) rfl) rfl rfl rfl ?_
        refine gops_nil ?_
        refine hN12 _ _ ?_
        refine gfrom [(4, .bool _)] ⟨rfl, trivial⟩ fun σ => ?_
        refine gret fun w1 hM => ?_
        refine ⟨_, res1 rfl (rt (v := .bool _) rfl), ?_⟩
        exact ⟨by rw [decide_eq_true (eq_of_takes hlm (by omega) htk)], hM.low⟩

set_option maxHeartbeats 1000000 in
theorem validate_any (w : World) (A : Option Addr) (c : Nat) (l : List Vote) (B : Option Addr) (c2 : Nat) (tr : List Bool) (hv : Rdl w 0 3 voteCells A l) (ht : Rdl w 0 1 boolCells B tr) (hl : l.length ≤ maxLen) (htl : tr.length ≤ maxLen) (_hcc : tr.length ≤ c2) :
    Calls Try.prog 13 #[.slice A l.length c, .slice B tr.length c2] w fun e w' => e = .returned (fv (Votes.validate l tr)) ∧ Below w.heap.size w w' := by
  unfold maxLen at hl htl
  refine gcalls Try.func13 rfl Try.ntmps13 (Nat.le_of_ble_eq_true rfl) ?_
  refine gfrom [(0, .slice _ _ _), (1, .slice _ _ _)] ⟨rfl, rfl, trivial⟩ fun σ => ?_
  refine gseq fun N1 hN1 => ?_
  refine greg ?_
  refine gop_alloc (cs := #[.int .i64 0, .int .i64 0]) Try.zeroValue25 rfl rfl (fun b4 hb4 => ?_)
  refine gops_nil ?_
  refine hN1 _ _ ?_
  refine gT [box b4 _] rfl ?_
  refine gfrom [(0, .slice _ _ _), (1, .slice _ _ _), (4, .pointer _)] ⟨rfl, rfl, rfl, trivial⟩ fun σ => ?_
  refine gseq fun N2 hN2 => ?_
  refine gseq fun N3 hN3 => ?_
  refine greg ?_
  refine gop (y_move (v := .slice _ _ _) rfl) rfl rfl rfl ?_
  refine gop (y_len Try.underlying22 rfl) rfl rfl rfl ?_
  refine gop (y_gtr rfl rfl) rfl rfl rfl ?_
  refine gops_nil ?_
  refine hN3 _ _ ?_
  refine gfrom [(0, .slice _ _ _), (1, .slice _ _ _), (4, .pointer _), (9, .bool _)] ⟨rfl, rfl, rfl, rfl, trivial⟩ fun σ => ?_
  refine gcond (b := _) rfl (fun hc9 => ?_) (fun hc9 => ?_)
  · -- slot 9 t
    replace hc9 := of_decide_eq_true hc9
    refine gseq fun N4 hN4 => ?_
    refine greg ?_
    refine gop (y_build (vs := [(0, _), (1, _)]) (cells := #[_, _]) rfl (bd25_0_1 _ _)) rfl rfl rfl ?_
    refine gop_store 0 (v := .agg #[_, _]) (cs' := #[_, _]) rfl rfl Try.sizeOf25 rfl rfl rfl rfl (Nat.le_of_ble_eq_true rfl) rfl rfl ?_
    refine gops_nil ?_
    refine hN4 _ _ ?_
    refine gT [box b4 _] rfl ?_
    refine gfrom [(4, .pointer _)] ⟨rfl, trivial⟩ fun σ => ?_
    refine gret fun w1 hM => ?_
    refine ⟨_, res1 rfl (rc 0 (cs := [_, _]) hM rfl rfl Try.isAgg25 Try.sizeOf25 rfl), ?_⟩
    exact ⟨by rw [Votes.validate, if_pos (by omega)], hM.low⟩
  · -- slot 9 f
    replace hc9 := of_decide_eq_false hc9
    refine gskip ?_
    refine hN2 _ _ ?_
    refine gfrom [(0, .slice _ _ _), (1, .slice _ _ _), (4, .pointer _)] ⟨rfl, rfl, rfl, trivial⟩ fun σ => ?_
    refine gseq fun N5 hN5 => ?_
    refine gseq fun N6 hN6 => ?_
    refine greg ?_
    refine gop (y_move (v := .slice _ _ _) rfl) rfl rfl rfl ?_
    refine gop (y_len Try.underlying23 rfl) rfl rfl rfl ?_
    refine gop (y_eql rfl rfl) rfl rfl rfl ?_
    refine gop (y_move (v := .bool _) rfl) rfl rfl rfl ?_
    refine gop_if (want := false) rfl rfl rfl rfl rfl rfl (fun hg14 => ?_) (fun hg14 => ?_)
    · -- guard 14 on
      have hg14d := of_decide_eq_false hg14
      refine gop (y_bare (y_move (v := .slice _ _ _) rfl)) rfl rfl rfl ?_
      refine gop_on rfl rfl rfl rfl hg14 ?_
      refine gop (y_bare (y_len Try.underlying23 rfl)) rfl rfl rfl ?_
      refine gop_on rfl rfl rfl rfl hg14 ?_
      refine gop (y_bare (y_gtr rfl rfl)) rfl rfl rfl ?_
      refine gop (y_pick_f (v := .bool _) rfl hg14 rfl) rfl rfl rfl ?_
      refine gops_nil ?_
      refine hN6 _ _ ?_
      refine gfrom [(0, .slice _ _ _), (1, .slice _ _ _), (4, .pointer _), (18, .bool _)] ⟨rfl, rfl, rfl, rfl, trivial⟩ fun σ => ?_
      refine gcond (b := _) rfl (fun hc18 => ?_) (fun hc18 => ?_)
      · -- slot 18 t
        replace hc18 := of_decide_eq_true hc18
        refine gseq fun N7 hN7 => ?_
        refine greg ?_
        refine gop (y_build (vs := [(0, _), (1, _)]) (cells := #[_, _]) rfl (bd25_0_1 _ _)) rfl rfl rfl ?_
        refine gop_store 0 (v := .agg #[_, _]) (cs' := #[_, _]) rfl rfl Try.sizeOf25 rfl rfl rfl rfl (Nat.le_of_ble_eq_true rfl) rfl rfl ?_
        refine gops_nil ?_
        refine hN7 _ _ ?_
        refine gT [box b4 _] rfl ?_
        refine gfrom [(4, .pointer _)] ⟨rfl, trivial⟩ fun σ => ?_
        refine gret fun w1 hM => ?_
        refine ⟨_, res1 rfl (rc 0 (cs := [_, _]) hM rfl rfl Try.isAgg25 Try.sizeOf25 rfl), ?_⟩
        exact ⟨by rw [Votes.validate, if_neg (by omega), if_pos (by omega)], hM.low⟩
      · -- slot 18 f
        replace hc18 := of_decide_eq_false hc18
        obtain ⟨adt, rfl, -, hct⟩ := ht.at_ (k := 0) (by omega)
        simp only [Nat.zero_mul, Nat.zero_add] at hct
        refine gskip ?_
        refine hN5 _ _ ?_
        refine gfrom [(0, .slice _ _ _), (1, .slice _ _ _), (4, .pointer _)] ⟨rfl, rfl, rfl, trivial⟩ fun σ => ?_
        refine gseq fun N8 hN8 => ?_
        refine gseq fun N9 hN9 => ?_
        refine greg ?_
        refine gop (y_move (v := .slice _ _ _) rfl) rfl rfl rfl ?_
        refine gop (y_indexAddr Try.underlying23 Try.sizeOf4 rfl rfl rfl (by omega) (by omega)) rfl rfl rfl ?_
        refine gop (y_load Try.isAgg4 rfl (cell_base (hct 0 _ rfl))) rfl rfl rfl ?_
        refine gops_nil ?_
        refine hN9 _ _ ?_
        refine gfrom [(0, .slice _ _ _), (1, .slice _ _ _), (4, .pointer _), (22, .bool _)] ⟨rfl, rfl, rfl, rfl, trivial⟩ fun σ => ?_
        refine gcond (b := _) rfl (fun hc22 => ?_) (fun hc22 => ?_)
        · -- slot 22 t
          refine gseq fun N10 hN10 => ?_
          refine greg ?_
          refine gop (y_build (vs := [(0, _), (1, _)]) (cells := #[_, _]) rfl (bd25_0_1 _ _)) rfl rfl rfl ?_
          refine gop_store 0 (v := .agg #[_, _]) (cs' := #[_, _]) rfl rfl Try.sizeOf25 rfl rfl rfl rfl (Nat.le_of_ble_eq_true rfl) rfl rfl ?_
          refine gops_nil ?_
          refine hN10 _ _ ?_
          refine gT [box b4 _] rfl ?_
          refine gfrom [(4, .pointer _)] ⟨rfl, trivial⟩ fun σ => ?_
          refine gret fun w1 hM => ?_
          refine ⟨_, res1 rfl (rc 0 (cs := [_, _]) hM rfl rfl Try.isAgg25 Try.sizeOf25 rfl), ?_⟩
          exact ⟨by rw [Votes.validate, if_neg (by omega), if_neg (by omega), if_pos (by rw [← hc22]; simp [List.getD_eq_getElem?_getD, List.getElem?_eq_getElem (show 0 < tr.length by omega)])], hM.low⟩
        · -- slot 22 f
          have hfst : ¬ tr.getD 0 false = true := by rw [show tr.getD 0 false = tr[0] from by simp [List.getD_eq_getElem?_getD, List.getElem?_eq_getElem (show 0 < tr.length by omega)], hc22]; simp
          refine gskip ?_
          refine hN8 _ _ ?_
          refine gfrom [(0, .slice _ _ _), (1, .slice _ _ _), (4, .pointer _)] ⟨rfl, rfl, rfl, trivial⟩ fun σ => ?_
          refine gseq fun N11 hN11 => ?_
          refine gseq fun N12 hN12 => ?_
          refine greg ?_
          refine gop (y_move (v := .slice _ _ _) rfl) rfl rfl rfl ?_
          refine gop (y_len Try.underlying22 rfl) rfl rfl rfl ?_
          refine gop (y_move (v := .int _ _) rfl) rfl rfl rfl ?_
          refine gops_nil ?_
          refine hN12 _ _ ?_
          refine gfrom [(0, .slice _ _ _), (1, .slice _ _ _), (4, .pointer _), (24, .slice _ _ _), (25, .int _ _), (26, .int _ _)] ⟨rfl, rfl, rfl, rfl, rfl, rfl, trivial⟩ fun σ => ?_
          refine gblock ?_
          refine gfrom2 [(26, .int _ _)] [(0, .slice _ _ _), (1, .slice _ _ _), (4, .pointer _), (24, .slice _ _ _), (25, .int _ _)] ⟨rfl, trivial⟩ ⟨rfl, rfl, rfl, rfl, rfl, trivial⟩ fun σ => ?_
          refine gloop2 (G := Nat) (fun k => k ≤ l.length ∧ Votes.valGo tr.length 0 0 l = Votes.valGo tr.length k (Votes.prevRev l k) (l.drop k)) (fun k => l.length - k) (fun k => [(26, .int .i64 (k : Int))]) (fun k => []) (0) ?h0 ⟨rfl, trivial⟩ ⟨rfl, rfl, rfl, rfl, rfl, trivial⟩ rfl ?round
          case h0 => exact ⟨Nat.zero_le _, rfl⟩
          case round =>
            intro k hφ σ
            obtain ⟨hk, hgo⟩ := hφ
            refine gseq fun N13 hN13 => ?_
            refine greg ?_
            refine gop (y_lss rfl rfl) rfl rfl rfl ?_
            refine gops_nil ?_
            refine hN13 _ _ ?_
            refine gfrom [(0, .slice _ _ _), (1, .slice _ _ _), (4, .pointer _), (24, .slice _ _ _), (25, .int _ _), (26, .int _ _), (27, .bool _)] ⟨rfl, rfl, rfl, rfl, rfl, rfl, rfl, trivial⟩ fun σ => ?_
            refine gseq fun N14 hN14 => ?_
            refine gcond (b := _) rfl (fun hc27 => ?_) (fun hc27 => ?_)
            · -- slot 27 t
              replace hc27 := of_decide_eq_true hc27
              have hk1 : k < l.length := by omega
              obtain ⟨ad, rfl, -, hcv⟩ := hv.at_ hk1
              have hst := Votes.valGo_step tr.length l k (Votes.prevRev l k) hk1
              refine gskip ?_
              refine hN14 _ _ ?_
              refine gfrom [(0, .slice _ _ _), (1, .slice _ _ _), (4, .pointer _), (24, .slice _ _ _), (25, .int _ _), (26, .int _ _)] ⟨rfl, rfl, rfl, rfl, rfl, rfl, trivial⟩ fun σ => ?_
              refine gseq fun N15 hN15 => ?_
              refine gblock ?_
              refine gseq fun N16 hN16 => ?_
              refine greg ?_
              refine gop (y_move (v := .int _ _) rfl) rfl rfl rfl ?_
              refine gop (y_indexAddr Try.underlying22 Try.sizeOf35 rfl rfl rfl (by omega) (by omega)) rfl rfl rfl ?_
              refine gop (y_loads (cs := [_, _, _]) Try.isAgg35 Try.sizeOf35 rfl rfl (cells_base hcv)) rfl rfl rfl ?_
              refine gop_alloc (cs := #[.int .i64 0, .int .i64 0, .int .i64 0]) Try.zeroValue35 rfl rfl (fun b6 hb6 => ?_)
              refine gop (y_assign (v := .int _ _) rfl) rfl rfl rfl ?_
              refine gop_store 1 (v := .agg #[_, _, _]) (cs' := #[_, _, _]) rfl rfl Try.sizeOf35 rfl rfl rfl rfl (Nat.le_of_ble_eq_true rfl) rfl rfl ?_
              refine gops_nil ?_
              refine hN16 _ _ ?_
              refine gT [box b4 _, box b6 _] rfl ?_
              refine gfrom [(0, .slice _ _ _), (1, .slice _ _ _), (4, .pointer _), (5, .int _ _), (6, .pointer _), (24, .slice _ _ _), (25, .int _ _), (26, .int _ _)] ⟨rfl, rfl, rfl, rfl, rfl, rfl, rfl, rfl, trivial⟩ fun σ => ?_
              refine gseq fun N17 hN17 => ?_
              refine gseq fun N18 hN18 => ?_
              refine greg ?_
              refine gop (y_fieldAddr_box fa35_0 rfl) rfl rfl rfl ?_
              refine gop (y_load Try.isAgg3 rfl (cell_box 1 rfl rfl)) rfl rfl rfl ?_
              refine gop (y_lss rfl rfl) rfl rfl rfl ?_
              refine gop (y_move (v := .bool _) rfl) rfl rfl rfl ?_
              refine gop_if (want := false) rfl rfl rfl rfl rfl rfl (fun hg34 => ?_) (fun hg34 => ?_)
              · -- guard 34 on
                have hg34d := of_decide_eq_false hg34
                refine gop (y_bare (y_fieldAddr_box fa35_0 rfl)) rfl rfl rfl ?_
                refine gop_on rfl rfl rfl rfl hg34 ?_
                refine gop (y_bare (y_load Try.isAgg3 rfl (cell_box 1 rfl rfl))) rfl rfl rfl ?_
                refine gop_on rfl rfl rfl rfl hg34 ?_
                refine gop (y_bare (y_gtr rfl rfl)) rfl rfl rfl ?_
                refine gop (y_pick_f (v := .bool _) rfl hg34 rfl) rfl rfl rfl ?_
                refine gop (y_move (v := .bool _) rfl) rfl rfl rfl ?_
                refine gop_if (want := false) rfl rfl rfl rfl rfl rfl (fun hg39 => ?_) (fun hg39 => ?_)
                · -- guard 39 on
                  have hg39d := of_decide_eq_false hg39
                  refine gop (y_bare (y_fieldAddr_box fa35_1 rfl)) rfl rfl rfl ?_
                  refine gop_on rfl rfl rfl rfl hg39 ?_
                  refine gop (y_bare (y_load Try.isAgg3 rfl (cell_box 1 rfl rfl))) rfl rfl rfl ?_
                  refine gop_on rfl rfl rfl rfl hg39 ?_
                  refine gop (y_bare (y_lss rfl rfl)) rfl rfl rfl ?_
                  refine gop (y_pick_f (v := .bool _) rfl hg39 rfl) rfl rfl rfl ?_
                  refine gop (y_move (v := .bool _) rfl) rfl rfl rfl ?_
                  refine gop_if (want := false) rfl rfl rfl rfl rfl rfl (fun hg44 => ?_) (fun hg44 => ?_)
                  · -- guard 44 on
                    have hg44d := of_decide_eq_false hg44
                    refine gop (y_bare (y_fieldAddr_box fa35_1 rfl)) rfl rfl rfl ?_
                    refine gop_on rfl rfl rfl rfl hg44 ?_
                    refine gop (y_bare (y_load Try.isAgg3 rfl (cell_box 1 rfl rfl))) rfl rfl rfl ?_
                    refine gop_on rfl rfl rfl rfl hg44 ?_
                    refine gop (y_bare (y_move (v := .slice _ _ _) rfl)) rfl rfl rfl ?_
                    refine gop_on rfl rfl rfl rfl hg44 ?_
                    refine gop (y_bare (y_len Try.underlying23 rfl)) rfl rfl rfl ?_
                    refine gop_on rfl rfl rfl rfl hg44 ?_
                    refine gop (y_bare (y_geq rfl rfl)) rfl rfl rfl ?_
                    refine gop (y_pick_f (v := .bool _) rfl hg44 rfl) rfl rfl rfl ?_
                    refine gop (y_move (v := .bool _) rfl) rfl rfl rfl ?_
                    refine gop_if (want := false) rfl rfl rfl rfl rfl rfl (fun hg51 => ?_) (fun hg51 => ?_)
                    · -- guard 51 on
                      have hg51d := of_decide_eq_false hg51
                      refine gop (y_bare (y_fieldAddr_box fa35_2 rfl)) rfl rfl rfl ?_
                      refine gop_on rfl rfl rfl rfl hg51 ?_
                      refine gop (y_bare (y_load Try.isAgg3 rfl (cell_box 1 rfl rfl))) rfl rfl rfl ?_
                      refine gop_on rfl rfl rfl rfl hg51 ?_
                      refine gop (y_bare (y_lss rfl rfl)) rfl rfl rfl ?_
                      refine gop (y_pick_f (v := .bool _) rfl hg51 rfl) rfl rfl rfl ?_
                      refine gop (y_move (v := .bool _) rfl) rfl rfl rfl ?_
                      refine gop_if (want := false) rfl rfl rfl rfl rfl rfl (fun hg56 => ?_) (fun hg56 => ?_)
                      · -- guard 56 on
                        have hg56d := of_decide_eq_false hg56
                        refine gop (y_bare (y_fieldAddr_box fa35_2 rfl)) rfl rfl rfl ?_
                        refine gop_on rfl rfl rfl rfl hg56 ?_
                        refine gop (y_bare (y_load Try.isAgg3 rfl (cell_box 1 rfl rfl))) rfl rfl rfl ?_
                        refine gop_on rfl rfl rfl rfl hg56 ?_
                        refine gop (y_bare (y_gtr rfl rfl)) rfl rfl rfl ?_
                        refine gop (y_pick_f (v := .bool _) rfl hg56 rfl) rfl rfl rfl ?_
                        refine gops_nil ?_
                        refine hN18 _ _ ?_
                        refine gfrom [(0, .slice _ _ _), (1, .slice _ _ _), (4, .pointer _), (5, .int _ _), (6, .pointer _), (24, .slice _ _ _), (25, .int _ _), (26, .int _ _), (60, .bool _)] ⟨rfl, rfl, rfl, rfl, rfl, rfl, rfl, rfl, rfl, trivial⟩ fun σ => ?_
                        refine gcond (b := _) rfl (fun hc60 => ?_) (fun hc60 => ?_)
                        · -- slot 60 t
                          replace hc60 := of_decide_eq_true hc60
                          refine gseq fun N19 hN19 => ?_
                          refine greg ?_
                          refine gop (y_move (v := .int _ _) rfl) rfl rfl rfl ?_
                          refine gop (y_build (vs := [(0, _), (1, .int _ _)]) (cells := #[_, _]) rfl (bd25_0_1 _ _)) rfl rfl rfl ?_
                          refine gop_store 0 (v := .agg #[_, _]) (cs' := #[_, _]) rfl rfl Try.sizeOf25 rfl rfl rfl rfl (Nat.le_of_ble_eq_true rfl) rfl rfl ?_
                          refine gops_nil ?_
                          refine hN19 _ _ ?_
                          refine gT [box b4 _, box b6 _] rfl ?_
                          refine gfrom [(4, .pointer _)] ⟨rfl, trivial⟩ fun σ => ?_
                          refine gret fun w1 hM => ?_
                          refine ⟨_, res1 rfl (rc 0 (cs := [_, _]) hM rfl rfl Try.isAgg25 Try.sizeOf25 rfl), ?_⟩
                          exact ⟨by rw [Votes.validate, if_neg (by omega), if_neg (by omega), if_neg hfst, hgo, hst, if_pos (by unfold Votes.Bad; omega)], hM.low⟩
                        · -- slot 60 f
                          replace hc60 := of_decide_eq_false hc60
                          have hbad : ¬ Votes.Bad tr.length l[k] := by unfold Votes.Bad; omega
                          refine gskip ?_
                          refine hN17 _ _ ?_
                          refine gfrom [(0, .slice _ _ _), (1, .slice _ _ _), (4, .pointer _), (5, .int _ _), (6, .pointer _), (24, .slice _ _ _), (25, .int _ _), (26, .int _ _)] ⟨rfl, rfl, rfl, rfl, rfl, rfl, rfl, rfl, trivial⟩ fun σ => ?_
                          refine gseq fun N20 hN20 => ?_
                          refine greg_q (by kernel_rfl) (by kernel_rfl) ?_
                          refine gq (y_move (v := .int _ _) rfl) rfl rfl rfl ?_
                          refine gq (y_gtr rfl rfl) rfl rfl rfl ?_
                          refine gq (y_move (v := .bool _) rfl) rfl rfl rfl ?_
                          refine gq_if (want := true) rfl rfl rfl rfl rfl rfl (fun hg65 => ?_) (fun hg65 => ?_)
                          · -- guard 65 on
                            have hg65d := of_decide_eq_true hg65
                            obtain ⟨ad2, e2, -, hcp⟩ := hv.at_ (k := k - 1) (by omega)
                            injection e2 with e2
                            subst e2
                            have hpr := Votes.prevRev_at l k (by omega) (by omega)
                            refine gq (y_bare (y_fieldAddr_box fa35_1 rfl)) rfl rfl rfl ?_
                            refine gq_on rfl rfl rfl rfl hg65 ?_
                            refine gq (y_bare (y_load Try.isAgg3 rfl (cell_box 1 rfl rfl))) rfl rfl rfl ?_
                            refine gq_on rfl rfl rfl rfl hg65 ?_
                            refine gq (y_bare (y_move (v := .slice _ _ _) rfl)) rfl rfl rfl ?_
                            refine gq_on rfl rfl rfl rfl hg65 ?_
                            refine gq (y_bare (y_move (v := .int _ _) rfl)) rfl rfl rfl ?_
                            refine gq_on rfl rfl rfl rfl hg65 ?_
                            refine gq (y_bare (y_sub rfl rfl ⟨by omega, by omega⟩)) rfl rfl rfl ?_
                            refine gq_on rfl rfl rfl rfl hg65 ?_
                            refine gq (y_bare (y_indexAddr (m := k - 1) Try.underlying22 Try.sizeOf35 rfl rfl (by omega) (by omega) (by omega))) rfl rfl rfl ?_
                            refine gq_on rfl rfl rfl rfl hg65 ?_
                            refine gq (y_bare (y_fieldAddr_add fa35_1 rfl)) rfl rfl rfl ?_
                            refine gq_on rfl rfl rfl rfl hg65 ?_
                            refine gq (y_bare (y_load Try.isAgg3 rfl (cell_base (hcp 1 _ rfl)))) rfl rfl rfl ?_
                            refine gq_on rfl rfl rfl rfl hg65 ?_
                            refine gq (y_bare (y_lss rfl rfl)) rfl rfl rfl ?_
                            refine gq (y_pick_t (v := .bool _) rfl hg65 rfl) rfl rfl rfl ?_
                            refine gqs_nil ?_
                            refine hN20 _ _ ?_
                            refine gfrom [(0, .slice _ _ _), (1, .slice _ _ _), (4, .pointer _), (5, .int _ _), (24, .slice _ _ _), (25, .int _ _), (26, .int _ _), (75, .bool _)] ⟨rfl, rfl, rfl, rfl, rfl, rfl, rfl, rfl, trivial⟩ fun σ => ?_
                            refine gcond (b := _) rfl (fun hc75 => ?_) (fun hc75 => ?_)
                            · -- slot 75 t
                              replace hc75 := of_decide_eq_true hc75
                              refine gseq fun N21 hN21 => ?_
                              refine greg ?_
                              refine gop (y_move (v := .int _ _) rfl) rfl rfl rfl ?_
                              refine gop (y_build (vs := [(0, _), (1, .int _ _)]) (cells := #[_, _]) rfl (bd25_0_1 _ _)) rfl rfl rfl ?_
                              refine gop_store 0 (v := .agg #[_, _]) (cs' := #[_, _]) rfl rfl Try.sizeOf25 rfl rfl rfl rfl (Nat.le_of_ble_eq_true rfl) rfl rfl ?_
                              refine gops_nil ?_
                              refine hN21 _ _ ?_
                              refine gT [box b4 _, box b6 _] rfl ?_
                              refine gfrom [(4, .pointer _)] ⟨rfl, trivial⟩ fun σ => ?_
                              refine gret fun w1 hM => ?_
                              refine ⟨_, res1 rfl (rc 0 (cs := [_, _]) hM rfl rfl Try.isAgg25 Try.sizeOf25 rfl), ?_⟩
                              exact ⟨by rw [Votes.validate, if_neg (by omega), if_neg (by omega), if_neg hfst, hgo, hst, if_neg hbad, if_pos (by omega)], hM.low⟩
                            · -- slot 75 f
                              replace hc75 := of_decide_eq_false hc75
                              refine gskip ?_
                              refine hN15 _ _ ?_
                              refine gfrom [(0, .slice _ _ _), (1, .slice _ _ _), (4, .pointer _), (24, .slice _ _ _), (25, .int _ _), (26, .int _ _)] ⟨rfl, rfl, rfl, rfl, rfl, rfl, trivial⟩ fun σ => ?_
                              refine greg ?_
                              refine gop (y_add rfl rfl ⟨by omega, by omega⟩) rfl rfl rfl ?_
                              refine gop (y_move (v := .int _ _) rfl) rfl rfl rfl ?_
                              refine gops_nil ?_
                              refine gnext2 (k + 1) (by omega) (⟨by omega, by rw [hgo, hst, if_neg hbad, if_neg (by omega), Votes.prevRev_succ l k hk1]⟩) ⟨rfl, trivial⟩ ⟨rfl, rfl, rfl, rfl, rfl, trivial⟩ ⟨_, rfl⟩
                          · -- guard 65 off
                            have hg65d := of_decide_eq_false hg65
                            have hpr : Votes.prevRev l k = 0 := by unfold Votes.prevRev; rw [if_pos (by omega)]
                            refine gq_off rfl rfl rfl rfl hg65 rfl rfl ?_
                            refine gq_off rfl rfl rfl rfl hg65 rfl rfl ?_
                            refine gq_off rfl rfl rfl rfl hg65 rfl rfl ?_
                            refine gq_off rfl rfl rfl rfl hg65 rfl rfl ?_
                            refine gq_off rfl rfl rfl rfl hg65 rfl rfl ?_
                            refine gq_off rfl rfl rfl rfl hg65 rfl rfl ?_
                            refine gq_off rfl rfl rfl rfl hg65 rfl rfl ?_
                            refine gq_off rfl rfl rfl rfl hg65 rfl rfl ?_
                            refine gq (y_pick_f (v := .bool _) rfl hg65 rfl) rfl rfl rfl ?_
                            refine gqs_nil ?_
                            refine hN20 _ _ ?_
                            refine gfrom [(0, .slice _ _ _), (1, .slice _ _ _), (4, .pointer _), (5, .int _ _), (24, .slice _ _ _), (25, .int _ _), (26, .int _ _), (75, .bool _)] ⟨rfl, rfl, rfl, rfl, rfl, rfl, rfl, rfl, trivial⟩ fun σ => ?_
                            refine gcond (b := _) rfl (fun hc75 => ?_) (fun hc75 => ?_)
                            · -- slot 75 t
                              cases hc75
                            · -- slot 75 f
                              refine gskip ?_
                              refine hN15 _ _ ?_
                              refine gfrom [(0, .slice _ _ _), (1, .slice _ _ _), (4, .pointer _), (24, .slice _ _ _), (25, .int _ _), (26, .int _ _)] ⟨rfl, rfl, rfl, rfl, rfl, rfl, trivial⟩ fun σ => ?_
                              refine greg ?_
                              refine gop (y_add rfl rfl ⟨by omega, by omega⟩) rfl rfl rfl ?_
                              refine gop (y_move (v := .int _ _) rfl) rfl rfl rfl ?_
                              refine gops_nil ?_
                              refine gnext2 (k + 1) (by omega) (⟨by omega, by rw [hgo, hst, if_neg hbad, if_neg (by omega), Votes.prevRev_succ l k hk1]⟩) ⟨rfl, trivial⟩ ⟨rfl, rfl, rfl, rfl, rfl, trivial⟩ ⟨_, rfl⟩
                      · -- guard 56 off
                        have hg56d := of_decide_eq_true hg56
                        refine gop_off rfl rfl rfl rfl hg56 rfl rfl ?_
                        refine gop_off rfl rfl rfl rfl hg56 rfl rfl ?_
                        refine gop (y_pick_t (v := .bool _) rfl hg56 rfl) rfl rfl rfl ?_
                        refine gops_nil ?_
                        refine hN18 _ _ ?_
                        refine gfrom [(0, .slice _ _ _), (1, .slice _ _ _), (4, .pointer _), (5, .int _ _), (6, .pointer _), (24, .slice _ _ _), (25, .int _ _), (26, .int _ _), (60, .bool _)] ⟨rfl, rfl, rfl, rfl, rfl, rfl, rfl, rfl, rfl, trivial⟩ fun σ => ?_
                        refine gcond (b := _) rfl (fun hc60 => ?_) (fun hc60 => ?_)
                        · -- slot 60 t
                          refine gseq fun N22 hN22 => ?_
                          refine greg ?_
                          refine gop (y_move (v := .int _ _) rfl) rfl rfl rfl ?_
                          refine gop (y_build (vs := [(0, _), (1, .int _ _)]) (cells := #[_, _]) rfl (bd25_0_1 _ _)) rfl rfl rfl ?_
                          refine gop_store 0 (v := .agg #[_, _]) (cs' := #[_, _]) rfl rfl Try.sizeOf25 rfl rfl rfl rfl (Nat.le_of_ble_eq_true rfl) rfl rfl ?_
                          refine gops_nil ?_
                          refine hN22 _ _ ?_
                          refine gT [box b4 _, box b6 _] rfl ?_
                          refine gfrom [(4, .pointer _)] ⟨rfl, trivial⟩ fun σ => ?_
                          refine gret fun w1 hM => ?_
                          refine ⟨_, res1 rfl (rc 0 (cs := [_, _]) hM rfl rfl Try.isAgg25 Try.sizeOf25 rfl), ?_⟩
                          exact ⟨by rw [Votes.validate, if_neg (by omega), if_neg (by omega), if_neg hfst, hgo, hst, if_pos (by unfold Votes.Bad; omega)], hM.low⟩
                        · -- slot 60 f
                          cases hc60
                    · -- guard 51 off
                      have hg51d := of_decide_eq_true hg51
                      refine gop_off rfl rfl rfl rfl hg51 rfl rfl ?_
                      refine gop_off rfl rfl rfl rfl hg51 rfl rfl ?_
                      refine gop (y_pick_t (v := .bool _) rfl hg51 rfl) rfl rfl rfl ?_
                      refine gop (y_move (v := .bool _) rfl) rfl rfl rfl ?_
                      refine gop_off rfl rfl rfl rfl rfl rfl rfl ?_
                      refine gop_off rfl rfl rfl rfl rfl rfl rfl ?_
                      refine gop_off rfl rfl rfl rfl rfl rfl rfl ?_
                      refine gop (y_pick_t (v := .bool _) rfl rfl rfl) rfl rfl rfl ?_
                      refine gops_nil ?_
                      refine hN18 _ _ ?_
                      refine gfrom [(0, .slice _ _ _), (1, .slice _ _ _), (4, .pointer _), (5, .int _ _), (6, .pointer _), (24, .slice _ _ _), (25, .int _ _), (26, .int _ _), (60, .bool _)] ⟨rfl, rfl, rfl, rfl, rfl, rfl, rfl, rfl, rfl, trivial⟩ fun σ => ?_
                      refine gcond (b := _) rfl (fun hc60 => ?_) (fun hc60 => ?_)
                      · -- slot 60 t
                        refine gseq fun N23 hN23 => ?_
                        refine greg ?_
                        refine gop (y_move (v := .int _ _) rfl) rfl rfl rfl ?_
                        refine gop (y_build (vs := [(0, _), (1, .int _ _)]) (cells := #[_, _]) rfl (bd25_0_1 _ _)) rfl rfl rfl ?_
                        refine gop_store 0 (v := .agg #[_, _]) (cs' := #[_, _]) rfl rfl Try.sizeOf25 rfl rfl rfl rfl (Nat.le_of_ble_eq_true rfl) rfl rfl ?_
                        refine gops_nil ?_
                        refine hN23 _ _ ?_
                        refine gT [box b4 _, box b6 _] rfl ?_
                        refine gfrom [(4, .pointer _)] ⟨rfl, trivial⟩ fun σ => ?_
                        refine gret fun w1 hM => ?_
                        refine ⟨_, res1 rfl (rc 0 (cs := [_, _]) hM rfl rfl Try.isAgg25 Try.sizeOf25 rfl), ?_⟩
                        exact ⟨by rw [Votes.validate, if_neg (by omega), if_neg (by omega), if_neg hfst, hgo, hst, if_pos (by unfold Votes.Bad; omega)], hM.low⟩
                      · -- slot 60 f
                        cases hc60
                  · -- guard 44 off
                    have hg44d := of_decide_eq_true hg44
                    refine gop_off rfl rfl rfl rfl hg44 rfl rfl ?_
                    refine gop_off rfl rfl rfl rfl hg44 rfl rfl ?_
                    refine gop_off rfl rfl rfl rfl hg44 rfl rfl ?_
                    refine gop_off rfl rfl rfl rfl hg44 rfl rfl ?_
                    refine gop (y_pick_t (v := .bool _) rfl hg44 rfl) rfl rfl rfl ?_
                    refine gop (y_move (v := .bool _) rfl) rfl rfl rfl ?_
                    refine gop_off rfl rfl rfl rfl rfl rfl rfl ?_
                    refine gop_off rfl rfl rfl rfl rfl rfl rfl ?_
                    refine gop_off rfl rfl rfl rfl rfl rfl rfl ?_
                    refine gop (y_pick_t (v := .bool _) rfl rfl rfl) rfl rfl rfl ?_
                    refine gop (y_move (v := .bool _) rfl) rfl rfl rfl ?_
                    refine gop_off rfl rfl rfl rfl rfl rfl rfl ?_
                    refine gop_off rfl rfl rfl rfl rfl rfl rfl ?_
                    refine gop_off rfl rfl rfl rfl rfl rfl rfl ?_
                    refine gop (y_pick_t (v := .bool _) rfl rfl rfl) rfl rfl rfl ?_
                    refine gops_nil ?_
                    refine hN18 _ _ ?_
                    refine gfrom [(0, .slice _ _ _), (1, .slice _ _ _), (4, .pointer _), (5, .int _ _), (6, .pointer _), (24, .slice _ _ _), (25, .int _ _), (26, .int _ _), (60, .bool _)] ⟨rfl, rfl, rfl, rfl, rfl, rfl, rfl, rfl, rfl, trivial⟩ fun σ => ?_
                    refine gcond (b := _) rfl (fun hc60 => ?_) (fun hc60 => ?_)
                    · -- slot 60 t
                      refine gseq fun N24 hN24 => ?_
                      refine greg ?_
                      refine gop (y_move (v := .int _ _) rfl) rfl rfl rfl ?_
                      refine gop (y_build (vs := [(0, _), (1, .int _ _)]) (cells := #[_, _]) rfl (bd25_0_1 _ _)) rfl rfl rfl ?_
                      refine gop_store 0 (v := .agg #[_, _]) (cs' := #[_, _]) rfl rfl Try.sizeOf25 rfl rfl rfl rfl (Nat.le_of_ble_eq_true rfl) rfl rfl ?_
                      refine gops_nil ?_
                      refine hN24 _ _ ?_
                      refine gT [box b4 _, box b6 _] rfl ?_
                      refine gfrom [(4, .pointer _)] ⟨rfl, trivial⟩ fun σ => ?_
                      refine gret fun w1 hM => ?_
                      refine ⟨_, res1 rfl (rc 0 (cs := [_, _]) hM rfl rfl Try.isAgg25 Try.sizeOf25 rfl), ?_⟩
                      exact ⟨by rw [Votes.validate, if_neg (by omega), if_neg (by omega), if_neg hfst, hgo, hst, if_pos (by unfold Votes.Bad; omega)], hM.low⟩
                    · -- slot 60 f
                      cases hc60
                · -- guard 39 off
                  have hg39d := of_decide_eq_true hg39
                  refine gop_off rfl rfl rfl rfl hg39 rfl rfl ?_
                  refine gop_off rfl rfl rfl rfl hg39 rfl rfl ?_
                  refine gop (y_pick_t (v := .bool _) rfl hg39 rfl) rfl rfl rfl ?_
                  refine gop (y_move (v := .bool _) rfl) rfl rfl rfl ?_
                  refine gop_off rfl rfl rfl rfl rfl rfl rfl ?_
                  refine gop_off rfl rfl rfl rfl rfl rfl rfl ?_
                  refine gop_off rfl rfl rfl rfl rfl rfl rfl ?_
                  refine gop_off rfl rfl rfl rfl rfl rfl rfl ?_
                  refine gop_off rfl rfl rfl rfl rfl rfl rfl ?_
                  refine gop (y_pick_t (v := .bool _) rfl rfl rfl) rfl rfl rfl ?_
                  refine gop (y_move (v := .bool _) rfl) rfl rfl rfl ?_
                  refine gop_off rfl rfl rfl rfl rfl rfl rfl ?_
                  refine gop_off rfl rfl rfl rfl rfl rfl rfl ?_
                  refine gop_off rfl rfl rfl rfl rfl rfl rfl ?_
                  refine gop (y_pick_t (v := .bool _) rfl rfl rfl) rfl rfl rfl ?_
                  refine gop (y_move (v := .bool _) rfl) rfl rfl rfl ?_
                  refine gop_off rfl rfl rfl rfl rfl rfl rfl ?_
                  refine gop_off rfl rfl rfl rfl rfl rfl rfl ?_
                  refine gop_off rfl rfl rfl rfl rfl rfl rfl ?_
                  refine gop (y_pick_t (v := .bool _) rfl rfl rfl) rfl rfl rfl ?_
                  refine gops_nil ?_
                  refine hN18 _ _ ?_
                  refine gfrom [(0, .slice _ _ _), (1, .slice _ _ _), (4, .pointer _), (5, .int _ _), (6, .pointer _), (24, .slice _ _ _), (25, .int _ _), (26, .int _ _), (60, .bool _)] ⟨rfl, rfl, rfl, rfl, rfl, rfl, rfl, rfl, rfl, trivial⟩ fun σ => ?_
                  refine gcond (b := _) rfl (fun hc60 => ?_) (fun hc60 => ?_)
                  · -- slot 60 t
                    refine gseq fun N25 hN25 => ?_
                    refine greg ?_
                    refine gop (y_move (v := .int _ _) rfl) rfl rfl rfl ?_
                    refine gop (y_build (vs := [(0, _), (1, .int _ _)]) (cells := #[_, _]) rfl (bd25_0_1 _ _)) rfl rfl rfl ?_
                    refine gop_store 0 (v := .agg #[_, _]) (cs' := #[_, _]) rfl rfl Try.sizeOf25 rfl rfl rfl rfl (Nat.le_of_ble_eq_true rfl) rfl rfl ?_
                    refine gops_nil ?_
                    refine hN25 _ _ ?_
                    refine gT [box b4 _, box b6 _] rfl ?_
                    refine gfrom [(4, .pointer _)] ⟨rfl, trivial⟩ fun σ => ?_
                    refine gret fun w1 hM => ?_
                    refine ⟨_, res1 rfl (rc 0 (cs := [_, _]) hM rfl rfl Try.isAgg25 Try.sizeOf25 rfl), ?_⟩
                    exact ⟨by rw [Votes.validate, if_neg (by omega), if_neg (by omega), if_neg hfst, hgo, hst, if_pos (by unfold Votes.Bad; omega)], hM.low⟩
                  · -- slot 60 f
                    cases hc60
              · -- guard 34 off
                have hg34d := of_decide_eq_true hg34
                refine gop_off rfl rfl rfl rfl hg34 rfl rfl ?_
                refine gop_off rfl rfl rfl rfl hg34 rfl rfl ?_
                refine gop (y_pick_t (v := .bool _) rfl hg34 rfl) rfl rfl rfl ?_
                refine gop (y_move (v := .bool _) rfl) rfl rfl rfl ?_
                refine gop_off rfl rfl rfl rfl rfl rfl rfl ?_
                refine gop_off rfl rfl rfl rfl rfl rfl rfl ?_
                refine gop_off rfl rfl rfl rfl rfl rfl rfl ?_
                refine gop (y_pick_t (v := .bool _) rfl rfl rfl) rfl rfl rfl ?_
                refine gop (y_move (v := .bool _) rfl) rfl rfl rfl ?_
                refine gop_off rfl rfl rfl rfl rfl rfl rfl ?_
                refine gop_off rfl rfl rfl rfl rfl rfl rfl ?_
                refine gop_off rfl rfl rfl rfl rfl rfl rfl ?_
                refine gop_off rfl rfl rfl rfl rfl rfl rfl ?_
                refine gop_off rfl rfl rfl rfl rfl rfl rfl ?_
                refine gop (y_pick_t (v := .bool _) rfl rfl rfl) rfl rfl rfl ?_
                refine gop (y_move (v := .bool _) rfl) rfl rfl rfl ?_
                refine gop_off rfl rfl rfl rfl rfl rfl rfl ?_
                refine gop_off rfl rfl rfl rfl rfl rfl rfl ?_
                refine gop_off rfl rfl rfl rfl rfl rfl rfl ?_
                refine gop (y_pick_t (v := .bool _) rfl rfl rfl) rfl rfl rfl ?_
                refine gop (y_move (v := .bool _) rfl) rfl rfl rfl ?_
                refine gop_off rfl rfl rfl rfl rfl rfl rfl ?_
                refine gop_off rfl rfl rfl rfl rfl rfl rfl ?_
                refine gop_off rfl rfl rfl rfl rfl rfl rfl ?_
                refine gop (y_pick_t (v := .bool _) rfl rfl rfl) rfl rfl rfl ?_
                refine gops_nil ?_
                refine hN18 _ _ ?_
                refine gfrom [(0, .slice _ _ _), (1, .slice _ _ _), (4, .pointer _), (5, .int _ _), (6, .pointer _), (24, .slice _ _ _), (25, .int _ _), (26, .int _ _), (60, .bool _)] ⟨rfl, rfl, rfl, rfl, rfl, rfl, rfl, rfl, rfl, trivial⟩ fun σ => ?_
                refine gcond (b := _) rfl (fun hc60 => ?_) (fun hc60 => ?_)
                · -- slot 60 t
                  refine gseq fun N26 hN26 => ?_
                  refine greg ?_
                  refine gop (y_move (v := .int _ _) rfl) rfl rfl rfl ?_
                  refine gop (y_build (vs := [(0, _), (1, .int _ _)]) (cells := #[_, _]) rfl (bd25_0_1 _ _)) rfl rfl rfl ?_
                  refine gop_store 0 (v := .agg #[_, _]) (cs' := #[_, _]) rfl rfl Try.sizeOf25 rfl rfl rfl rfl (Nat.le_of_ble_eq_true rfl) rfl rfl ?_
                  refine gops_nil ?_
                  refine hN26 _ _ ?_
                  refine gT [box b4 _, box b6 _] rfl ?_
                  refine gfrom [(4, .pointer _)] ⟨rfl, trivial⟩ fun σ => ?_
                  refine gret fun w1 hM => ?_
                  refine ⟨_, res1 rfl (rc 0 (cs := [_, _]) hM rfl rfl Try.isAgg25 Try.sizeOf25 rfl), ?_⟩
                  exact ⟨by rw [Votes.validate, if_neg (by omega), if_neg (by omega), if_neg hfst, hgo, hst, if_pos (by unfold Votes.Bad; omega)], hM.low⟩
                · -- slot 60 f
                  cases hc60
            · -- slot 27 f
              replace hc27 := of_decide_eq_false hc27
              refine gexit ?_
              refine hN11 _ _ ?_
              refine gfrom [(4, .pointer _)] ⟨rfl, trivial⟩ fun σ => ?_
              refine gseq fun N27 hN27 => ?_
              refine greg ?_
              refine gop (y_build (vs := []) (cells := #[.int .i64 0, .int .i64 0]) rfl bd25_) rfl rfl rfl ?_
              refine gop_store 0 (v := .agg #[_, _]) (cs' := #[_, _]) rfl rfl Try.sizeOf25 rfl rfl rfl rfl (Nat.le_of_ble_eq_true rfl) rfl rfl ?_
              refine gops_nil ?_
              refine hN27 _ _ ?_
              refine gT [box b4 _] rfl ?_
              refine gfrom [(4, .pointer _)] ⟨rfl, trivial⟩ fun σ => ?_
              refine gret fun w1 hM => ?_
              refine ⟨_, res1 rfl (rc 0 (cs := [_, _]) hM rfl rfl Try.isAgg25 Try.sizeOf25 rfl), ?_⟩
              exact ⟨by rw [Votes.validate, if_neg (by omega), if_neg (by omega), if_neg hfst, hgo, List.drop_of_length_le (by omega)]; rfl, hM.low⟩
    · -- guard 14 off
      have hg14d := of_decide_eq_true hg14
      refine gop_off rfl rfl rfl rfl hg14 rfl rfl ?_
      refine gop_off rfl rfl rfl rfl hg14 rfl rfl ?_
      refine gop (y_pick_t (v := .bool _) rfl hg14 rfl) rfl rfl rfl ?_
      refine gops_nil ?_
      refine hN6 _ _ ?_
      refine gfrom [(0, .slice _ _ _), (1, .slice _ _ _), (4, .pointer _), (18, .bool _)] ⟨rfl, rfl, rfl, rfl, trivial⟩ fun σ => ?_
      refine gcond (b := _) rfl (fun hc18 => ?_) (fun hc18 => ?_)
      · -- slot 18 t
        refine gseq fun N28 hN28 => ?_
        refine greg ?_
        refine gop (y_build (vs := [(0, _), (1, _)]) (cells := #[_, _]) rfl (bd25_0_1 _ _)) rfl rfl rfl ?_
        refine gop_store 0 (v := .agg #[_, _]) (cs' := #[_, _]) rfl rfl Try.sizeOf25 rfl rfl rfl rfl (Nat.le_of_ble_eq_true rfl) rfl rfl ?_
        refine gops_nil ?_
        refine hN28 _ _ ?_
        refine gT [box b4 _] rfl ?_
        refine gfrom [(4, .pointer _)] ⟨rfl, trivial⟩ fun σ => ?_
        refine gret fun w1 hM => ?_
        refine ⟨_, res1 rfl (rc 0 (cs := [_, _]) hM rfl rfl Try.isAgg25 Try.sizeOf25 rfl), ?_⟩
        exact ⟨by rw [Votes.validate, if_neg (by omega), if_pos (by omega)], hM.low⟩
      · -- slot 18 f
        cases hc18

set_option maxHeartbeats 1000000 in
theorem states_any (w : World) (A : Option Addr) (c : Nat) (l : List Vote) (B : Option Addr) (c2 : Nat) (tr : List Bool) (hv : Rdl w 0 3 voteCells A l) (ht : Rdl w 0 1 boolCells B tr) (hl : l.length ≤ maxLen) (htl : tr.length ≤ maxLen) (hcc : tr.length ≤ c2) (at_ : Int) :
    Calls Try.prog 18 #[.slice A l.length c, .slice B tr.length c2, .int .i64 at_] w fun e w' => e = .returned (.tuple #[.agg ((Votes.stateL l tr at_).flatMap Votes.stCells).toArray, fv (Votes.stateF l tr at_)]) ∧ Below w.heap.size w w' := by
  refine gcalls Try.func18 rfl Try.ntmps18 (Nat.le_of_ble_eq_true rfl) ?_
  refine gfrom [(0, .slice _ _ _), (1, .slice _ _ _), (2, .int _ _)] ⟨rfl, rfl, rfl, trivial⟩ fun σ => ?_
  refine gseq fun N1 hN1 => ?_
  refine greg ?_
  refine gop_alloc (cs := ((List.replicate 8 ((0 : Int), false)).flatMap Votes.stCells).toArray) Try.zeroValue44 rfl rfl (fun b6 hb6 => ?_)
  refine gop_alloc (cs := #[.int .i64 0, .int .i64 0]) Try.zeroValue25 rfl rfl (fun b7 hb7 => ?_)
  refine gops_nil ?_
  refine hN1 _ _ ?_
  refine gT [box b6 _, box b7 _] rfl ?_
  refine gfrom [(0, .slice _ _ _), (1, .slice _ _ _), (2, .int _ _), (6, .pointer _), (7, .pointer _)] ⟨rfl, rfl, rfl, rfl, rfl, trivial⟩ fun σ => ?_
  refine gseq fun N2 hN2 => ?_
  refine greg ?_
  refine gop_alloc (cs := ((List.replicate 8 ((0 : Int), false)).flatMap Votes.stCells).toArray) Try.zeroValue44 rfl rfl (fun b8 hb8 => ?_)
  refine gops_nil ?_
  refine hN2 _ _ ?_
  refine gT [box b6 _, box b7 _, box b8 _] rfl ?_
  refine gfrom [(0, .slice _ _ _), (1, .slice _ _ _), (2, .int _ _), (6, .pointer _), (7, .pointer _), (8, .pointer _)] ⟨rfl, rfl, rfl, rfl, rfl, rfl, trivial⟩ fun σ => ?_
  refine gseq fun N3 hN3 => ?_
  refine gseq fun N4 hN4 => ?_
  refine greg ?_
  refine gop (y_move (v := .slice _ _ _) rfl) rfl rfl rfl ?_
  refine gop (y_move (v := .slice _ _ _) rfl) rfl rfl rfl ?_
  refine gop_pure (e_call (vs := [.slice _ _ _, .slice _ _ _]) Try.func13 rfl (by kernel_rfl) rfl) (fun w hM => validate_any w _ _ _ _ _ _ (hv.base hM) (ht.base hM) hl htl hcc) rfl rfl rfl ?_
  refine gop_alloc (cs := #[.int .i64 0, .int .i64 0]) Try.zeroValue25 rfl rfl (fun b9 hb9 => ?_)
  refine gop_store 3 (v := .agg #[_, _]) (cs' := #[_, _]) rfl rfl Try.sizeOf25 rfl rfl rfl rfl (Nat.le_of_ble_eq_true rfl) rfl rfl ?_
  refine gops_nil ?_
  refine hN4 _ _ ?_
  refine gT [box b6 _, box b7 _, box b8 _, box b9 _] rfl ?_
  refine gfrom [(0, .slice _ _ _), (1, .slice _ _ _), (2, .int _ _), (6, .pointer _), (7, .pointer _), (8, .pointer _), (9, .pointer _)] ⟨rfl, rfl, rfl, rfl, rfl, rfl, rfl, trivial⟩ fun σ => ?_
  refine gseq fun N5 hN5 => ?_
  refine greg ?_
  refine gop (y_loads (cs := [_, _]) Try.isAgg25 Try.sizeOf25 rfl rfl (cells_box 3 rfl)) rfl rfl rfl ?_
  refine gop (y_build (vs := []) (cells := #[.int .i64 0, .int .i64 0]) rfl bd25_) rfl rfl rfl ?_
  refine gop (y_bin (vx := .agg #[_, _]) (vy := .agg #[_, _]) rfl rfl (fun w => eg25 _ _ _ _ _ w) (fun w => ne25 _ _ _ _ w)) rfl rfl rfl ?_
  refine gops_nil ?_
  refine hN5 _ _ ?_
  refine gfrom [(0, .slice _ _ _), (1, .slice _ _ _), (2, .int _ _), (6, .pointer _), (7, .pointer _), (8, .pointer _), (9, .pointer _), (20, .bool _)] ⟨rfl, rfl, rfl, rfl, rfl, rfl, rfl, rfl, trivial⟩ fun σ => ?_
  refine gcond (b := _) rfl (fun hc20 => ?_) (fun hc20 => ?_)
  · -- slot 20 t
    replace hc20 := fault_ne.1 hc20
    have hf : Votes.stateF l tr at_ = Votes.validate l tr := by rw [Votes.stateF, if_pos hc20]
    have hL : Votes.stateL l tr at_ = List.replicate 8 (0, false) := by rw [Votes.stateL, hf, if_neg hc20]
    refine gseq fun N6 hN6 => ?_
    refine greg_hs [(0, room b6 44 16), (1, room b7 25 2)] (by kernel_rfl) ?_
    refine ght 0 rfl (by kernel_rfl) (by kernel_rfl) (by kernel_rfl) (y_loads (cs := (List.replicate 8 ((0 : Int), false)).flatMap Votes.stCells) Try.isAgg44 Try.sizeOf44 rfl rfl (cells_box 2 rfl)) rfl rfl rfl (weak_trans (weak_room 1 rfl rfl) (weak_room 0 rfl rfl)) (listed' := #[true, false, false, false]) rfl ?_
    refine ght 1 rfl (by kernel_rfl) (by kernel_rfl) (by kernel_rfl) (y_loads (cs := [_, _]) Try.isAgg25 Try.sizeOf25 rfl rfl (cells_box 3 rfl)) rfl rfl rfl (weak_trans (weak_room 1 rfl rfl) (weak_room 0 rfl rfl)) (listed' := #[true, true, false, false]) rfl ?_
    refine ghs 2 (by kernel_rfl) rfl rfl rfl (listed' := #[true, true, true, false]) rfl (run_store_flat 0 (f := Votes.stCells) Votes.wide_st rfl rfl Try.sizeOf44 rfl rfl rfl rfl) (weak_trans (weak_room 1 rfl rfl) (weak_room 0 rfl rfl)) ?_
    refine ghs 3 (by kernel_rfl) rfl rfl rfl (listed' := #[true, true, true, true]) rfl (run_store_box 1 (v := .agg #[_, _]) (cs' := #[_, _]) rfl rfl Try.sizeOf25 rfl rfl rfl rfl (Nat.le_of_ble_eq_true rfl) rfl rfl) (weak_trans (weak_room 1 rfl rfl) (weak_room 0 rfl rfl)) ?_
    refine ghd_done (by kernel_rfl) ?_
    refine hN6 _ _ ?_
    refine gT [box b6 _, box b7 _, box b8 _, box b9 _] rfl ?_
    refine gfrom [(6, .pointer _), (7, .pointer _)] ⟨rfl, rfl, trivial⟩ fun σ => ?_
    refine gret fun w1 hM => ?_
    refine ⟨_, res2 rfl (rc 0 (cs := _) hM rfl rfl Try.isAgg44 Try.sizeOf44 (by first | rfl | (rw [flat_len (size := 2) (fun _ => rfl), Votes.foldl_len]; rfl))) (rc 1 (cs := [_, _]) hM rfl rfl Try.isAgg25 Try.sizeOf25 rfl), ?_⟩
    exact ⟨by rw [hf, hL], hM.low⟩
  · -- slot 20 f
    replace hc20 := fault_eq.1 hc20
    have ok := Votes.ok_of l tr hc20
    refine gskip ?_
    refine hN3 _ _ ?_
    refine gfrom [(0, .slice _ _ _), (1, .slice _ _ _), (2, .int _ _), (6, .pointer _), (7, .pointer _), (8, .pointer _)] ⟨rfl, rfl, rfl, rfl, rfl, rfl, trivial⟩ fun σ => ?_
    refine gseq fun N7 hN7 => ?_
    refine gseq fun N8 hN8 => ?_
    refine greg ?_
    refine gop (y_move (v := .int _ _) rfl) rfl rfl rfl ?_
    refine gop (y_lss rfl rfl) rfl rfl rfl ?_
    refine gop (y_move (v := .bool _) rfl) rfl rfl rfl ?_
    refine gop_if (want := false) rfl rfl rfl rfl rfl rfl (fun hg25 => ?_) (fun hg25 => ?_)
    · -- guard 25 on
      have hg25d := of_decide_eq_false hg25
      refine gop (y_bare (y_move (v := .int _ _) rfl)) rfl rfl rfl ?_
      refine gop_on rfl rfl rfl rfl hg25 ?_
      refine gop (y_bare (y_move (v := .slice _ _ _) rfl)) rfl rfl rfl ?_
      refine gop_on rfl rfl rfl rfl hg25 ?_
      refine gop (y_bare (y_len Try.underlying23 rfl)) rfl rfl rfl ?_
      refine gop_on rfl rfl rfl rfl hg25 ?_
      refine gop (y_bare (y_geq rfl rfl)) rfl rfl rfl ?_
      refine gop (y_pick_f (v := .bool _) rfl hg25 rfl) rfl rfl rfl ?_
      refine gops_nil ?_
      refine hN8 _ _ ?_
      refine gfrom [(0, .slice _ _ _), (1, .slice _ _ _), (2, .int _ _), (6, .pointer _), (7, .pointer _), (8, .pointer _), (30, .bool _)] ⟨rfl, rfl, rfl, rfl, rfl, rfl, rfl, trivial⟩ fun σ => ?_
      refine gcond (b := _) rfl (fun hc30 => ?_) (fun hc30 => ?_)
      · -- slot 30 t
        replace hc30 := of_decide_eq_true hc30
        have hf : Votes.stateF l tr at_ = ⟨3, -3⟩ := by rw [Votes.stateF, if_neg (by simp [hc20]), if_pos (by omega)]
        have hL : Votes.stateL l tr at_ = List.replicate 8 (0, false) := by rw [Votes.stateL, hf, if_neg (by simp)]
        refine gseq fun N9 hN9 => ?_
        refine greg ?_
        refine gop (y_loads (cs := (List.replicate 8 ((0 : Int), false)).flatMap Votes.stCells) Try.isAgg44 Try.sizeOf44 rfl rfl (cells_box 2 rfl)) rfl rfl rfl ?_
        refine gop (y_build (vs := [(0, _), (1, _)]) (cells := #[_, _]) rfl (bd25_0_1 _ _)) rfl rfl rfl ?_
        refine gop_store_flat 0 (f := Votes.stCells) Votes.wide_st rfl rfl Try.sizeOf44 rfl rfl rfl rfl ?_
        refine gop_store 1 (v := .agg #[_, _]) (cs' := #[_, _]) rfl rfl Try.sizeOf25 rfl rfl rfl rfl (Nat.le_of_ble_eq_true rfl) rfl rfl ?_
        refine gops_nil ?_
        refine hN9 _ _ ?_
        refine gT [box b6 _, box b7 _, box b8 _, box b9 _] rfl ?_
        refine gfrom [(6, .pointer _), (7, .pointer _)] ⟨rfl, rfl, trivial⟩ fun σ => ?_
        refine gret fun w1 hM => ?_
        refine ⟨_, res2 rfl (rc 0 (cs := _) hM rfl rfl Try.isAgg44 Try.sizeOf44 (by first | rfl | (rw [flat_len (size := 2) (fun _ => rfl), Votes.foldl_len]; rfl))) (rc 1 (cs := [_, _]) hM rfl rfl Try.isAgg25 Try.sizeOf25 rfl), ?_⟩
        exact ⟨by rw [hf, hL], hM.low⟩
      · -- slot 30 f
        replace hc30 := of_decide_eq_false hc30
        have hf : Votes.stateF l tr at_ = ⟨0, 0⟩ := by rw [Votes.stateF, if_neg (by simp [hc20]), if_neg (by omega)]
        have hL : Votes.stateL l tr at_ = Votes.statesOf l tr at_.toNat := by rw [Votes.stateL, hf, if_pos rfl]
        have hfew := ok.few
        have hshort := ok.short
        obtain ⟨a, rfl⟩ := Int.eq_ofNat_of_zero_le (show 0 ≤ at_ by omega)
        rw [Int.toNat_natCast] at hL
        refine gskip ?_
        refine hN7 _ _ ?_
        refine gfrom [(0, .slice _ _ _), (1, .slice _ _ _), (2, .int _ _), (6, .pointer _), (7, .pointer _), (8, .pointer _)] ⟨rfl, rfl, rfl, rfl, rfl, rfl, trivial⟩ fun σ => ?_
        refine gseq fun N10 hN10 => ?_
        refine gseq fun N11 hN11 => ?_
        refine greg ?_
        refine gop (y_move (v := .slice _ _ _) rfl) rfl rfl rfl ?_
        refine gop (y_len Try.underlying22 rfl) rfl rfl rfl ?_
        refine gop (y_move (v := .int _ _) rfl) rfl rfl rfl ?_
        refine gops_nil ?_
        refine hN11 _ _ ?_
        refine gfrom [(1, .slice _ _ _), (2, .int _ _), (6, .pointer _), (7, .pointer _), (8, .pointer _), (33, .slice _ _ _), (34, .int _ _), (35, .int _ _)] ⟨rfl, rfl, rfl, rfl, rfl, rfl, rfl, rfl, trivial⟩ fun σ => ?_
        refine gblock ?_
        refine gfrom2 [(35, .int _ _)] [(1, .slice _ _ _), (2, .int _ _), (6, .pointer _), (7, .pointer _), (8, .pointer _), (33, .slice _ _ _), (34, .int _ _)] ⟨rfl, trivial⟩ ⟨rfl, rfl, rfl, rfl, rfl, rfl, rfl, trivial⟩ fun σ => ?_
        refine gloop2 (G := Nat) (fun k => k ≤ l.length) (fun k => l.length - k) (fun k => [(35, .int .i64 (k : Int))]) (fun k => [(2, box b8 (.cells (((l.take k).foldl (Votes.stepSt tr a) (List.replicate 8 ((0 : Int), false))).flatMap Votes.stCells).toArray 44))]) (0) ?h0 ⟨rfl, trivial⟩ ⟨rfl, rfl, rfl, rfl, rfl, rfl, rfl, trivial⟩ rfl ?round
        case h0 => exact Nat.zero_le _
        case round =>
          intro k hφ σ
          have hk := hφ
          refine gT [box b6 _, box b7 _, box _ _, box b9 _] rfl ?_
          refine gseq fun N12 hN12 => ?_
          refine greg ?_
          refine gop (y_lss rfl rfl) rfl rfl rfl ?_
          refine gops_nil ?_
          refine hN12 _ _ ?_
          refine gfrom [(1, .slice _ _ _), (2, .int _ _), (6, .pointer _), (7, .pointer _), (8, .pointer _), (33, .slice _ _ _), (34, .int _ _), (35, .int _ _), (36, .bool _)] ⟨rfl, rfl, rfl, rfl, rfl, rfl, rfl, rfl, rfl, trivial⟩ fun σ => ?_
          refine gseq fun N13 hN13 => ?_
          refine gcond (b := _) rfl (fun hc36 => ?_) (fun hc36 => ?_)
          · -- slot 36 t
            replace hc36 := of_decide_eq_true hc36
            have hk1 : k < l.length := by omega
            obtain ⟨ad, rfl, -, hcv⟩ := hv.at_ hk1
            have hgood : ¬ Votes.Bad tr.length l[k] := ok.good _ (List.getElem_mem hk1)
            unfold Votes.Bad at hgood
            have hstep := Votes.foldl_take_succ (Votes.stepSt tr a) (List.replicate 8 ((0 : Int), false)) l k hk1
            have hlen8 : ((l.take k).foldl (Votes.stepSt tr a) (List.replicate 8 ((0 : Int), false))).length = 8 := by rw [Votes.foldl_len]; rfl
            refine gskip ?_
            refine hN13 _ _ ?_
            refine gfrom [(1, .slice _ _ _), (2, .int _ _), (6, .pointer _), (7, .pointer _), (8, .pointer _), (33, .slice _ _ _), (34, .int _ _), (35, .int _ _)] ⟨rfl, rfl, rfl, rfl, rfl, rfl, rfl, rfl, trivial⟩ fun σ => ?_
            refine gseq fun N14 hN14 => ?_
            refine gblock ?_
            refine gseq fun N15 hN15 => ?_
            refine greg ?_
            refine gop (y_indexAddr Try.underlying22 Try.sizeOf35 rfl rfl rfl (by omega) (by omega)) rfl rfl rfl ?_
            refine gop (y_loads (cs := [_, _, _]) Try.isAgg35 Try.sizeOf35 rfl rfl (cells_base hcv)) rfl rfl rfl ?_
            refine gop_alloc (cs := #[.int .i64 0, .int .i64 0, .int .i64 0]) Try.zeroValue35 rfl rfl (fun b11 hb11 => ?_)
            refine gop_store 4 (v := .agg #[_, _, _]) (cs' := #[_, _, _]) rfl rfl Try.sizeOf35 rfl rfl rfl rfl (Nat.le_of_ble_eq_true rfl) rfl rfl ?_
            refine gops_nil ?_
            refine hN15 _ _ ?_
            refine gT [box b6 _, box b7 _, box _ _, box b9 _, box b11 _] rfl ?_
            refine gfrom [(1, .slice _ _ _), (2, .int _ _), (6, .pointer _), (7, .pointer _), (8, .pointer _), (11, .pointer _), (33, .slice _ _ _), (34, .int _ _), (35, .int _ _)] ⟨rfl, rfl, rfl, rfl, rfl, rfl, rfl, rfl, rfl, trivial⟩ fun σ => ?_
            refine gseq fun N16 hN16 => ?_
            refine gseq fun N17 hN17 => ?_
            refine greg ?_
            refine gop (y_fieldAddr_box fa35_1 rfl) rfl rfl rfl ?_
            refine gop (y_load Try.isAgg3 rfl (cell_box 4 rfl rfl)) rfl rfl rfl ?_
            refine gop (y_move (v := .int _ _) rfl) rfl rfl rfl ?_
            refine gop (y_gtr rfl rfl) rfl rfl rfl ?_
            refine gops_nil ?_
            refine hN17 _ _ ?_
            refine gfrom [(1, .slice _ _ _), (2, .int _ _), (6, .pointer _), (7, .pointer _), (8, .pointer _), (11, .pointer _), (33, .slice _ _ _), (34, .int _ _), (35, .int _ _), (42, .bool _)] ⟨rfl, rfl, rfl, rfl, rfl, rfl, rfl, rfl, rfl, rfl, trivial⟩ fun σ => ?_
            refine gcond (b := _) rfl (fun hc42 => ?_) (fun hc42 => ?_)
            · -- slot 42 t
              replace hc42 := of_decide_eq_true hc42
              have hsame : (l.take (k + 1)).foldl (Votes.stepSt tr a) (List.replicate 8 ((0 : Int), false)) = (l.take k).foldl (Votes.stepSt tr a) (List.replicate 8 ((0 : Int), false)) := by rw [hstep, Votes.stepSt, if_pos (by omega)]
              refine gexit ?_
              refine hN14 _ _ ?_
              refine gfrom [(1, .slice _ _ _), (2, .int _ _), (6, .pointer _), (7, .pointer _), (8, .pointer _), (33, .slice _ _ _), (34, .int _ _), (35, .int _ _)] ⟨rfl, rfl, rfl, rfl, rfl, rfl, rfl, rfl, trivial⟩ fun σ => ?_
              refine greg ?_
              refine gop (y_add rfl rfl ⟨by omega, by omega⟩) rfl rfl rfl ?_
              refine gop (y_move (v := .int _ _) rfl) rfl rfl rfl ?_
              refine gops_nil ?_
              rw [← hsame]
              refine gnext2 (k + 1) (by omega) (show k + 1 ≤ l.length by omega) ⟨rfl, trivial⟩ ⟨rfl, rfl, rfl, rfl, rfl, rfl, rfl, trivial⟩ ⟨_, rfl⟩
            · -- slot 42 f
              replace hc42 := of_decide_eq_false hc42
              have hnew : (l.take (k + 1)).foldl (Votes.stepSt tr a) (List.replicate 8 ((0 : Int), false)) = ((l.take k).foldl (Votes.stepSt tr a) (List.replicate 8 ((0 : Int), false))).set l[k].user.toNat (l[k].val, Votes.cnt tr a l[k] || decide (l[k].val = -2)) := by rw [hstep, Votes.stepSt, if_neg (by omega)]
              have hcut := ht.cut (i := (l[k].rev + 1).toNat) (j := ((a : Int) + 1).toNat) (cap := c2) (by omega) (by omega) hcc
              have hsl : ((tr.drop (l[k].rev + 1).toNat).take (((a : Int) + 1).toNat - (l[k].rev + 1).toNat)).length = ((a : Int) + 1).toNat - (l[k].rev + 1).toNat := by simp; omega
              have hcnt := Votes.cnt_cut tr a l[k] (by omega)
              generalize hsub : (tr.drop (l[k].rev + 1).toNat).take (((a : Int) + 1).toNat - (l[k].rev + 1).toNat) = sub at hcut hsl hcnt
              refine gskip ?_
              refine hN16 _ _ ?_
              refine gfrom [(1, .slice _ _ _), (2, .int _ _), (6, .pointer _), (7, .pointer _), (8, .pointer _), (11, .pointer _), (33, .slice _ _ _), (34, .int _ _), (35, .int _ _)] ⟨rfl, rfl, rfl, rfl, rfl, rfl, rfl, rfl, rfl, trivial⟩ fun σ => ?_
              refine gseq fun N18 hN18 => ?_
              refine greg ?_
              refine gop (y_assign (v := .bool _) rfl) rfl rfl rfl ?_
              refine gops_nil ?_
              refine hN18 _ _ ?_
              refine gfrom [(1, .slice _ _ _), (2, .int _ _), (6, .pointer _), (7, .pointer _), (8, .pointer _), (11, .pointer _), (12, .bool _), (33, .slice _ _ _), (34, .int _ _), (35, .int _ _)] ⟨rfl, rfl, rfl, rfl, rfl, rfl, rfl, rfl, rfl, rfl, trivial⟩ fun σ => ?_
              refine gseq fun N19 hN19 => ?_
              refine gseq fun N20 hN20 => ?_
              refine greg ?_
              refine gop (y_move (v := .slice _ _ _) rfl) rfl rfl rfl ?_
              refine gop (y_fieldAddr_box fa35_1 rfl) rfl rfl rfl ?_
              refine gop (y_load Try.isAgg3 rfl (cell_box 4 rfl rfl)) rfl rfl rfl ?_
              refine gop (y_add rfl rfl ⟨by omega, by omega⟩) rfl rfl rfl ?_
              refine gop (y_move (v := .int _ _) rfl) rfl rfl rfl ?_
              refine gop (y_add rfl rfl ⟨by omega, by omega⟩) rfl rfl rfl ?_
              refine gop (y_slice Try.underlying23 Try.sizeOf4 rfl rfl rfl (by omega) (by omega) (by omega)) rfl rfl rfl ?_
              refine gop (y_len Try.underlying23 rfl) rfl rfl rfl ?_
              refine gop (y_move (v := .int _ _) rfl) rfl rfl rfl ?_
              refine gops_nil ?_
              refine hN20 _ _ ?_
              refine gfrom [(1, .slice _ _ _), (2, .int _ _), (6, .pointer _), (7, .pointer _), (8, .pointer _), (11, .pointer _), (12, .bool _), (33, .slice _ _ _), (34, .int _ _), (35, .int _ _), (49, .slice _ _ _), (50, .int _ _), (51, .int _ _)] ⟨rfl, rfl, rfl, rfl, rfl, rfl, rfl, rfl, rfl, rfl, rfl, rfl, rfl, trivial⟩ fun σ => ?_
              refine gblock ?_
              refine gfrom2 [(12, .bool _), (51, .int _ _)] [(1, .slice _ _ _), (2, .int _ _), (6, .pointer _), (7, .pointer _), (8, .pointer _), (11, .pointer _), (33, .slice _ _ _), (34, .int _ _), (35, .int _ _), (49, .slice _ _ _), (50, .int _ _)] ⟨rfl, rfl, trivial⟩ ⟨rfl, rfl, rfl, rfl, rfl, rfl, rfl, rfl, rfl, rfl, rfl, trivial⟩ fun σ => ?_
              refine gloop2 (G := Nat) (fun j => j ≤ sub.length) (fun j => sub.length - j) (fun j => [(12, .bool ((sub.take j).all id)), (51, .int .i64 (j : Int))]) (fun j => []) (0) ?h0 ⟨by simp; rfl, rfl, trivial⟩ ⟨rfl, rfl, rfl, rfl, rfl, rfl, rfl, rfl, rfl, rfl, rfl, trivial⟩ rfl ?round
              case h0 => exact Nat.zero_le _
              case round =>
                intro j hφ σ
                have hj := hφ
                refine gseq fun N21 hN21 => ?_
                refine greg ?_
                refine gop (y_lss rfl rfl) rfl rfl rfl ?_
                refine gops_nil ?_
                refine hN21 _ _ ?_
                refine gfrom [(1, .slice _ _ _), (2, .int _ _), (6, .pointer _), (7, .pointer _), (8, .pointer _), (11, .pointer _), (12, .bool _), (33, .slice _ _ _), (34, .int _ _), (35, .int _ _), (49, .slice _ _ _), (50, .int _ _), (51, .int _ _), (52, .bool _)] ⟨rfl, rfl, rfl, rfl, rfl, rfl, rfl, rfl, rfl, rfl, rfl, rfl, rfl, rfl, trivial⟩ fun σ => ?_
                refine gseq fun N22 hN22 => ?_
                refine gcond (b := _) rfl (fun hc52 => ?_) (fun hc52 => ?_)
                · -- slot 52 t
                  replace hc52 := of_decide_eq_true hc52
                  have hj1 : j < sub.length := by omega
                  obtain ⟨adt, eA, -, hct⟩ := hcut.at_ hj1
                  refine gskip ?_
                  refine hN22 _ _ ?_
                  refine gfrom [(1, .slice _ _ _), (2, .int _ _), (6, .pointer _), (7, .pointer _), (8, .pointer _), (11, .pointer _), (12, .bool _), (33, .slice _ _ _), (34, .int _ _), (35, .int _ _), (49, .slice _ _ _), (50, .int _ _), (51, .int _ _)] ⟨rfl, rfl, rfl, rfl, rfl, rfl, rfl, rfl, rfl, rfl, rfl, rfl, rfl, trivial⟩ fun σ => ?_
                  refine gseq fun N23 hN23 => ?_
                  refine gblock ?_
                  refine gseq fun N24 hN24 => ?_
                  refine greg ?_
                  refine gop (y_indexAddr (a := adt) Try.underlying23 Try.sizeOf4 (show Value.slice _ _ _ = Value.slice (some adt) _ _ from by rw [← eA]) rfl rfl (by omega) (by omega)) rfl rfl rfl ?_
                  refine gop (y_load Try.isAgg4 rfl (cell_base (hct 0 _ rfl))) rfl rfl rfl ?_
                  refine gop (y_assign (v := .bool _) rfl) rfl rfl rfl ?_
                  refine gops_nil ?_
                  refine hN24 _ _ ?_
                  refine gfrom [(1, .slice _ _ _), (2, .int _ _), (6, .pointer _), (7, .pointer _), (8, .pointer _), (11, .pointer _), (12, .bool _), (14, .bool _), (33, .slice _ _ _), (34, .int _ _), (35, .int _ _), (49, .slice _ _ _), (50, .int _ _), (51, .int _ _)] ⟨rfl, rfl, rfl, rfl, rfl, rfl, rfl, rfl, rfl, rfl, rfl, rfl, rfl, rfl, trivial⟩ fun σ => ?_
                  refine greg ?_
                  refine gop (y_move (v := .bool _) rfl) rfl rfl rfl ?_
                  refine gop (y_move (v := .bool _) rfl) rfl rfl rfl ?_
                  refine gop_if (want := true) rfl rfl rfl rfl rfl rfl (fun hg56 => ?_) (fun hg56 => ?_)
                  · -- guard 56 on
                    have hg56d := hg56
                    skip
                    refine gop (y_bare (y_move (v := .bool _) rfl)) rfl rfl rfl ?_
                    refine gop (y_pick_t (v := .bool _) rfl hg56 rfl) rfl rfl rfl ?_
                    refine gop (y_assign (v := .bool _) rfl) rfl rfl rfl ?_
                    refine gops_nil ?_
                    refine hN23 _ _ ?_
                    refine gfrom [(1, .slice _ _ _), (2, .int _ _), (6, .pointer _), (7, .pointer _), (8, .pointer _), (11, .pointer _), (12, .bool _), (33, .slice _ _ _), (34, .int _ _), (35, .int _ _), (49, .slice _ _ _), (50, .int _ _), (51, .int _ _)] ⟨rfl, rfl, rfl, rfl, rfl, rfl, rfl, rfl, rfl, rfl, rfl, rfl, rfl, trivial⟩ fun σ => ?_
                    refine greg ?_
                    refine gop (y_add rfl rfl ⟨by omega, by omega⟩) rfl rfl rfl ?_
                    refine gop (y_move (v := .int _ _) rfl) rfl rfl rfl ?_
                    refine gops_nil ?_
                    refine gnext2 (j + 1) (by omega) (show j + 1 ≤ sub.length by omega) ⟨(congrArg Value.bool (by rw [Votes.all_take_succ _ j hj1, hg56d]; simp)), rfl, trivial⟩ ⟨rfl, rfl, rfl, rfl, rfl, rfl, rfl, rfl, rfl, rfl, rfl, trivial⟩ ⟨_, rfl⟩
                  · -- guard 56 off
                    have hg56d := hg56
                    skip
                    refine gop (y_pick_f (v := .bool _) rfl hg56 rfl) rfl rfl rfl ?_
                    refine gop (y_assign (v := .bool _) rfl) rfl rfl rfl ?_
                    refine gops_nil ?_
                    refine hN23 _ _ ?_
                    refine gfrom [(1, .slice _ _ _), (2, .int _ _), (6, .pointer _), (7, .pointer _), (8, .pointer _), (11, .pointer _), (12, .bool _), (33, .slice _ _ _), (34, .int _ _), (35, .int _ _), (49, .slice _ _ _), (50, .int _ _), (51, .int _ _)] ⟨rfl, rfl, rfl, rfl, rfl, rfl, rfl, rfl, rfl, rfl, rfl, rfl, rfl, trivial⟩ fun σ => ?_
                    refine greg ?_
                    refine gop (y_add rfl rfl ⟨by omega, by omega⟩) rfl rfl rfl ?_
                    refine gop (y_move (v := .int _ _) rfl) rfl rfl rfl ?_
                    refine gops_nil ?_
                    refine gnext2 (j + 1) (by omega) (show j + 1 ≤ sub.length by omega) ⟨(congrArg Value.bool (by rw [Votes.all_take_succ _ j hj1, hg56d]; simp)), rfl, trivial⟩ ⟨rfl, rfl, rfl, rfl, rfl, rfl, rfl, rfl, rfl, rfl, rfl, trivial⟩ ⟨_, rfl⟩
                · -- slot 52 f
                  replace hc52 := of_decide_eq_false hc52
                  have hall : sub.take j = sub := List.take_of_length_le (by omega)
                  rw [hall, ← hcnt]
                  refine gexit ?_
                  refine hN19 _ _ ?_
                  refine gfrom [(1, .slice _ _ _), (2, .int _ _), (6, .pointer _), (7, .pointer _), (8, .pointer _), (11, .pointer _), (12, .bool _), (33, .slice _ _ _), (34, .int _ _), (35, .int _ _)] ⟨rfl, rfl, rfl, rfl, rfl, rfl, rfl, rfl, rfl, rfl, trivial⟩ fun σ => ?_
                  refine greg ?_
                  refine gop (y_fieldAddr_box fa35_0 rfl) rfl rfl rfl ?_
                  refine gop (y_load Try.isAgg3 rfl (cell_box 4 rfl rfl)) rfl rfl rfl ?_
                  refine gop (y_fieldAddr_box fa35_2 rfl) rfl rfl rfl ?_
                  refine gop (y_load Try.isAgg3 rfl (cell_box 4 rfl rfl)) rfl rfl rfl ?_
                  refine gop (y_move (v := .bool _) rfl) rfl rfl rfl ?_
                  refine gop (y_move (v := .bool _) rfl) rfl rfl rfl ?_
                  refine gop_if (want := false) rfl rfl rfl rfl rfl rfl (fun hg65 => ?_) (fun hg65 => ?_)
                  · -- guard 65 on
                    have hg65d := hg65
                    refine gop (y_bare (y_fieldAddr_box fa35_2 rfl)) rfl rfl rfl ?_
                    refine gop_on rfl rfl rfl rfl hg65 ?_
                    refine gop (y_bare (y_load Try.isAgg3 rfl (cell_box 4 rfl rfl))) rfl rfl rfl ?_
                    refine gop_on rfl rfl rfl rfl hg65 ?_
                    refine gop (y_bare (y_eql rfl rfl)) rfl rfl rfl ?_
                    refine gop (y_pick_f (v := .bool _) rfl hg65 rfl) rfl rfl rfl ?_
                    refine gop (y_build (vs := [(0, .int _ _), (1, .bool _)]) (cells := #[_, _]) rfl (bd43_0_1 _ _)) rfl rfl rfl ?_
                    refine gop (y_indexAddr_arr Try.underlying44 Try.sizeOf43 rfl rfl rfl (by omega) (by omega)) rfl rfl rfl ?_
                    refine gop_store_el 2 (f := Votes.stCells) (size := 2) (k := l[k].user.toNat) (o := 0) (v := .agg #[_, _]) (a' := (l[k].val, Votes.cnt tr a l[k] || decide (l[k].val = -2))) (fun _ => rfl) rfl (by omega) rfl Try.sizeOf43 rfl rfl rfl rfl (List.getElem?_eq_getElem (show l[k].user.toNat < _ by omega)) (by omega) (by rw [hg65d]; rfl) rfl ?_
                    refine gops_nil ?_
                    refine hN14 _ _ ?_
                    refine gT [box b6 _, box b7 _, box _ _, box b9 _, box b11 _] rfl ?_
                    refine gfrom [(1, .slice _ _ _), (2, .int _ _), (6, .pointer _), (7, .pointer _), (8, .pointer _), (33, .slice _ _ _), (34, .int _ _), (35, .int _ _)] ⟨rfl, rfl, rfl, rfl, rfl, rfl, rfl, rfl, trivial⟩ fun σ => ?_
                    refine greg ?_
                    refine gop (y_add rfl rfl ⟨by omega, by omega⟩) rfl rfl rfl ?_
                    refine gop (y_move (v := .int _ _) rfl) rfl rfl rfl ?_
                    refine gops_nil ?_
                    rw [← hnew]
                    refine gnext2 (k + 1) (by omega) (show k + 1 ≤ l.length by omega) ⟨rfl, trivial⟩ ⟨rfl, rfl, rfl, rfl, rfl, rfl, rfl, trivial⟩ ⟨_, rfl⟩
                  · -- guard 65 off
                    have hg65d := hg65
                    refine gop_off rfl rfl rfl rfl hg65 rfl rfl ?_
                    refine gop_off rfl rfl rfl rfl hg65 rfl rfl ?_
                    refine gop (y_pick_t (v := .bool _) rfl hg65 rfl) rfl rfl rfl ?_
                    refine gop (y_build (vs := [(0, .int _ _), (1, .bool _)]) (cells := #[_, _]) rfl (bd43_0_1 _ _)) rfl rfl rfl ?_
                    refine gop (y_indexAddr_arr Try.underlying44 Try.sizeOf43 rfl rfl rfl (by omega) (by omega)) rfl rfl rfl ?_
                    refine gop_store_el 2 (f := Votes.stCells) (size := 2) (k := l[k].user.toNat) (o := 0) (v := .agg #[_, _]) (a' := (l[k].val, Votes.cnt tr a l[k] || decide (l[k].val = -2))) (fun _ => rfl) rfl (by omega) rfl Try.sizeOf43 rfl rfl rfl rfl (List.getElem?_eq_getElem (show l[k].user.toNat < _ by omega)) (by omega) (by rw [hg65d]; rfl) rfl ?_
                    refine gops_nil ?_
                    refine hN14 _ _ ?_
                    refine gT [box b6 _, box b7 _, box _ _, box b9 _, box b11 _] rfl ?_
                    refine gfrom [(1, .slice _ _ _), (2, .int _ _), (6, .pointer _), (7, .pointer _), (8, .pointer _), (33, .slice _ _ _), (34, .int _ _), (35, .int _ _)] ⟨rfl, rfl, rfl, rfl, rfl, rfl, rfl, rfl, trivial⟩ fun σ => ?_
                    refine greg ?_
                    refine gop (y_add rfl rfl ⟨by omega, by omega⟩) rfl rfl rfl ?_
                    refine gop (y_move (v := .int _ _) rfl) rfl rfl rfl ?_
                    refine gops_nil ?_
                    rw [← hnew]
                    refine gnext2 (k + 1) (by omega) (show k + 1 ≤ l.length by omega) ⟨rfl, trivial⟩ ⟨rfl, rfl, rfl, rfl, rfl, rfl, rfl, trivial⟩ ⟨_, rfl⟩
          · -- slot 36 f
            replace hc36 := of_decide_eq_false hc36
            refine gexit ?_
            refine hN10 _ _ ?_
            refine gfrom [(6, .pointer _), (7, .pointer _), (8, .pointer _)] ⟨rfl, rfl, rfl, trivial⟩ fun σ => ?_
            refine gseq fun N25 hN25 => ?_
            refine greg ?_
            refine gop (y_loads (cs := _) Try.isAgg44 Try.sizeOf44 (by rw [flat_len (size := 2) (fun _ => rfl), Votes.foldl_len]; rfl) rfl (cells_box 2 rfl)) rfl rfl rfl ?_
            refine gop (y_build (vs := []) (cells := #[.int .i64 0, .int .i64 0]) rfl bd25_) rfl rfl rfl ?_
            refine gop_store_flat 0 (f := Votes.stCells) Votes.wide_st rfl rfl Try.sizeOf44 (by rw [Votes.foldl_len]; rfl) rfl (by rw [Votes.foldl_len]) rfl ?_
            refine gop_store 1 (v := .agg #[_, _]) (cs' := #[_, _]) rfl rfl Try.sizeOf25 rfl rfl rfl rfl (Nat.le_of_ble_eq_true rfl) rfl rfl ?_
            refine gops_nil ?_
            refine hN25 _ _ ?_
            refine gT [box b6 _, box b7 _, box _ _, box b9 _] rfl ?_
            refine gfrom [(6, .pointer _), (7, .pointer _)] ⟨rfl, rfl, trivial⟩ fun σ => ?_
            refine gret fun w1 hM => ?_
            refine ⟨_, res2 rfl (rc 0 (cs := _) hM rfl rfl Try.isAgg44 Try.sizeOf44 (by first | rfl | (rw [flat_len (size := 2) (fun _ => rfl), Votes.foldl_len]; rfl))) (rc 1 (cs := [_, _]) hM rfl rfl Try.isAgg25 Try.sizeOf25 rfl), ?_⟩
            exact ⟨by rw [hf, hL, Votes.statesOf, List.take_of_length_le (show l.length ≤ k by omega)], hM.low⟩
    · -- guard 25 off
      have hg25d := of_decide_eq_true hg25
      refine gop_off rfl rfl rfl rfl hg25 rfl rfl ?_
      refine gop_off rfl rfl rfl rfl hg25 rfl rfl ?_
      refine gop_off rfl rfl rfl rfl hg25 rfl rfl ?_
      refine gop (y_pick_t (v := .bool _) rfl hg25 rfl) rfl rfl rfl ?_
      refine gops_nil ?_
      refine hN8 _ _ ?_
      refine gfrom [(0, .slice _ _ _), (1, .slice _ _ _), (2, .int _ _), (6, .pointer _), (7, .pointer _), (8, .pointer _), (30, .bool _)] ⟨rfl, rfl, rfl, rfl, rfl, rfl, rfl, trivial⟩ fun σ => ?_
      refine gcond (b := _) rfl (fun hc30 => ?_) (fun hc30 => ?_)
      · -- slot 30 t
        have hf : Votes.stateF l tr at_ = ⟨3, -3⟩ := by rw [Votes.stateF, if_neg (by simp [hc20]), if_pos (by omega)]
        have hL : Votes.stateL l tr at_ = List.replicate 8 (0, false) := by rw [Votes.stateL, hf, if_neg (by simp)]
        refine gseq fun N26 hN26 => ?_
        refine greg ?_
        refine gop (y_loads (cs := (List.replicate 8 ((0 : Int), false)).flatMap Votes.stCells) Try.isAgg44 Try.sizeOf44 rfl rfl (cells_box 2 rfl)) rfl rfl rfl ?_
        refine gop (y_build (vs := [(0, _), (1, _)]) (cells := #[_, _]) rfl (bd25_0_1 _ _)) rfl rfl rfl ?_
        refine gop_store_flat 0 (f := Votes.stCells) Votes.wide_st rfl rfl Try.sizeOf44 rfl rfl rfl rfl ?_
        refine gop_store 1 (v := .agg #[_, _]) (cs' := #[_, _]) rfl rfl Try.sizeOf25 rfl rfl rfl rfl (Nat.le_of_ble_eq_true rfl) rfl rfl ?_
        refine gops_nil ?_
        refine hN26 _ _ ?_
        refine gT [box b6 _, box b7 _, box b8 _, box b9 _] rfl ?_
        refine gfrom [(6, .pointer _), (7, .pointer _)] ⟨rfl, rfl, trivial⟩ fun σ => ?_
        refine gret fun w1 hM => ?_
        refine ⟨_, res2 rfl (rc 0 (cs := _) hM rfl rfl Try.isAgg44 Try.sizeOf44 (by first | rfl | (rw [flat_len (size := 2) (fun _ => rfl), Votes.foldl_len]; rfl))) (rc 1 (cs := [_, _]) hM rfl rfl Try.isAgg25 Try.sizeOf25 rfl), ?_⟩
        exact ⟨by rw [hf, hL], hM.low⟩
      · -- slot 30 f
        cases hc30

set_option maxHeartbeats 1000000 in
theorem current_any (w : World) (A : Option Addr) (c : Nat) (l : List Vote) (B : Option Addr) (c2 : Nat) (tr : List Bool) (hv : Rdl w 0 3 voteCells A l) (ht : Rdl w 0 1 boolCells B tr) (hl : l.length ≤ maxLen) (htl : tr.length ≤ maxLen) (hcc : tr.length ≤ c2) (at_ : Int) :
    Calls Try.prog 9 #[.slice A l.length c, .slice B tr.length c2, .int .i64 at_] w fun e w' => ∃ v, e = .returned (.tuple #[v, fv (Votes.stateF l tr at_)]) ∧ Below w.heap.size w w' ∧ NewL 1 intCells (Votes.curL l tr at_) w.heap.size w' v := by
  have h8 := Votes.stateL_len l tr at_
  refine gcalls Try.func9 rfl Try.ntmps9 (Nat.le_of_ble_eq_true rfl) ?_
  refine gfrom [(0, .slice _ _ _), (1, .slice _ _ _), (2, .int _ _)] ⟨rfl, rfl, rfl, trivial⟩ fun σ => ?_
  refine gseq fun N1 hN1 => ?_
  refine greg ?_
  refine gop (y_assign (v := .slice _ _ _) rfl) rfl rfl rfl ?_
  refine gop_alloc (cs := #[.int .i64 0, .int .i64 0]) Try.zeroValue25 rfl rfl (fun b7 hb7 => ?_)
  refine gops_nil ?_
  refine hN1 _ _ ?_
  refine gT [box b7 _] rfl ?_
  refine gfrom [(0, .slice _ _ _), (1, .slice _ _ _), (2, .int _ _), (7, .pointer _)] ⟨rfl, rfl, rfl, rfl, trivial⟩ fun σ => ?_
  refine gseq fun N2 hN2 => ?_
  refine greg ?_
  refine gop (y_move (v := .slice _ _ _) rfl) rfl rfl rfl ?_
  refine gop (y_move (v := .slice _ _ _) rfl) rfl rfl rfl ?_
  refine gop (y_move (v := .int _ _) rfl) rfl rfl rfl ?_
  refine gop_pure (e_call (vs := [.slice _ _ _, .slice _ _ _, .int _ _]) Try.func18 rfl (by kernel_rfl) rfl) (fun w hM => states_any w _ _ _ _ _ _ (hv.base hM) (ht.base hM) hl htl hcc _) rfl rfl rfl ?_
  refine gop (y_move (v := .tuple #[.agg _, .agg #[_, _]]) rfl) rfl rfl rfl ?_
  refine gop (y_extract (v := .agg _) rfl rfl) rfl rfl rfl ?_
  refine gop (y_extract (v := .agg #[_, _]) rfl rfl) rfl rfl rfl ?_
  refine gop_alloc (cs := ((List.replicate 8 ((0 : Int), false)).flatMap Votes.stCells).toArray) Try.zeroValue44 rfl rfl (fun b8 hb8 => ?_)
  refine gop_alloc (cs := #[.int .i64 0, .int .i64 0]) Try.zeroValue25 rfl rfl (fun b9 hb9 => ?_)
  refine gop_store_flat 1 (f := Votes.stCells) Votes.wide_st rfl rfl Try.sizeOf44 (by rw [h8]) rfl (by rw [h8]; rfl) rfl ?_
  refine gop_store 2 (v := .agg #[_, _]) (cs' := #[_, _]) rfl rfl Try.sizeOf25 rfl rfl rfl rfl (Nat.le_of_ble_eq_true rfl) rfl rfl ?_
  refine gops_nil ?_
  refine hN2 _ _ ?_
  refine gT [box b7 _, box b8 _, box b9 _] rfl ?_
  refine gfrom [(7, .pointer _), (8, .pointer _), (9, .pointer _)] ⟨rfl, rfl, rfl, trivial⟩ fun σ => ?_
  refine gseq fun N3 hN3 => ?_
  refine gseq fun N4 hN4 => ?_
  refine greg ?_
  refine gop (y_loads (cs := [_, _]) Try.isAgg25 Try.sizeOf25 rfl rfl (cells_box 2 rfl)) rfl rfl rfl ?_
  refine gop (y_build (vs := []) (cells := #[.int .i64 0, .int .i64 0]) rfl bd25_) rfl rfl rfl ?_
  refine gop (y_bin (vx := .agg #[_, _]) (vy := .agg #[_, _]) rfl rfl (fun w => eg25 _ _ _ _ _ w) (fun w => ne25 _ _ _ _ w)) rfl rfl rfl ?_
  refine gops_nil ?_
  refine hN4 _ _ ?_
  refine gfrom [(7, .pointer _), (8, .pointer _), (9, .pointer _), (22, .bool _)] ⟨rfl, rfl, rfl, rfl, trivial⟩ fun σ => ?_
  refine gcond (b := _) rfl (fun hc22 => ?_) (fun hc22 => ?_)
  · -- slot 22 t
    replace hc22 := fault_ne.1 hc22
    have hL : Votes.curL l tr at_ = [] := by rw [Votes.curL, if_neg hc22]
    refine gseq fun N5 hN5 => ?_
    refine greg_hs [(0, room b7 25 2)] (by kernel_rfl) ?_
    refine ght 0 rfl (by kernel_rfl) (by kernel_rfl) (by kernel_rfl) (y_loads (cs := [_, _]) Try.isAgg25 Try.sizeOf25 rfl rfl (cells_box 2 rfl)) rfl rfl rfl (weak_room 0 rfl rfl) (listed' := #[true, false, false]) rfl ?_
    refine ght 1 rfl (by kernel_rfl) (by kernel_rfl) (by kernel_rfl) (y_assign (v := .slice _ _ _) rfl) rfl rfl rfl (weak_room 0 rfl rfl) (listed' := #[true, true, false]) rfl ?_
    refine ghs 2 (by kernel_rfl) rfl rfl rfl (listed' := #[true, true, true]) rfl (run_store_box 0 (v := .agg #[_, _]) (cs' := #[_, _]) rfl rfl Try.sizeOf25 rfl rfl rfl rfl (Nat.le_of_ble_eq_true rfl) rfl rfl) (weak_room 0 rfl rfl) ?_
    refine ghd_done (by kernel_rfl) ?_
    refine hN5 _ _ ?_
    refine gT [box b7 _, box b8 _, box b9 _] rfl ?_
    refine gfrom [(6, .slice _ _ _), (7, .pointer _)] ⟨rfl, rfl, trivial⟩ fun σ => ?_
    refine gret fun w1 hM => ?_
    refine ⟨_, res2 rfl (rt (v := .slice _ _ _) rfl) (rc 0 (cs := [_, _]) hM rfl rfl Try.isAgg25 Try.sizeOf25 rfl), ?_⟩
    exact ⟨_, rfl, hM.low, by rw [hL]; exact newL_nil⟩
  · -- slot 22 f
    replace hc22 := fault_eq.1 hc22
    have hL : Votes.curL l tr at_ = (Votes.stateL l tr at_).map Votes.curOf := by rw [Votes.curL, if_pos hc22, Votes.stateL, if_pos hc22]
    refine gskip ?_
    refine hN3 _ _ ?_
    refine gfrom [(7, .pointer _), (8, .pointer _)] ⟨rfl, rfl, trivial⟩ fun σ => ?_
    refine gseq fun N6 hN6 => ?_
    refine greg ?_
    refine gop_make (f := intCells) (bytes := 8) (z := .int .i64 0) ((0 : Int)) Try.underlying27 (by kernel_rfl) rfl rfl rfl (k := 8) rfl rfl (by decide) (by decide) rfl (fun b24 hb24 => ?_)
    refine gop (y_assign (v := .slice (some _) _ _) rfl) rfl rfl rfl ?_
    refine gops_nil ?_
    refine hN6 _ _ ?_
    refine gT [box b7 _, box b8 _, box b9 _, rowl _ _ _ _ _ _] rfl ?_
    refine gfrom [(7, .pointer _), (8, .pointer _), (10, .slice (some _) _ _)] ⟨rfl, rfl, rfl, trivial⟩ fun σ => ?_
    refine gseq fun N7 hN7 => ?_
    refine gseq fun N8 hN8 => ?_
    refine greg ?_
    refine gop (y_loads (cs := (Votes.stateL l tr at_).flatMap Votes.stCells) Try.isAgg44 Try.sizeOf44 (by rw [flat_len (size := 2) (fun _ => rfl), h8]) rfl (cells_box 1 rfl)) rfl rfl rfl ?_
    refine gop (y_move (v := .int _ _) rfl) rfl rfl rfl ?_
    refine gops_nil ?_
    refine hN8 _ _ ?_
    refine gfrom [(7, .pointer _), (10, .slice (some _) _ _), (25, .agg _), (26, .int _ _)] ⟨rfl, rfl, rfl, rfl, trivial⟩ fun σ => ?_
    refine gblock ?_
    refine gfrom2 [(26, .int _ _)] [(7, .pointer _), (10, .slice (some _) _ _), (25, .agg _)] ⟨rfl, trivial⟩ ⟨rfl, rfl, rfl, trivial⟩ fun σ => ?_
    refine gloop2 (G := Nat) (fun k => k ≤ 8) (fun k => 8 - k) (fun k => [(26, .int .i64 (k : Int))]) (fun k => [(3, rowl intCells w.heap.size 3 1 (.slice (some ⟨b24, 0, none⟩) 8 8) (((Votes.stateL l tr at_).take k).map Votes.curOf ++ List.replicate (8 - k) 0))]) (0) ?h0 ⟨rfl, trivial⟩ ⟨rfl, rfl, rfl, trivial⟩ rfl ?round
    case h0 => exact Nat.zero_le _
    case round =>
      intro k hφ σ
      have hk : k ≤ 8 := hφ
      refine gT [box b7 _, box b8 _, box b9 _, rowl _ _ _ _ _ _] rfl ?_
      refine gseq fun N9 hN9 => ?_
      refine greg ?_
      refine gop (y_lss rfl rfl) rfl rfl rfl ?_
      refine gops_nil ?_
      refine hN9 _ _ ?_
      refine gfrom [(7, .pointer _), (10, .slice (some _) _ _), (25, .agg _), (26, .int _ _), (27, .bool _)] ⟨rfl, rfl, rfl, rfl, rfl, trivial⟩ fun σ => ?_
      refine gseq fun N10 hN10 => ?_
      refine gcond (b := _) rfl (fun hc27 => ?_) (fun hc27 => ?_)
      · -- slot 27 t
        replace hc27 := of_decide_eq_true hc27
        have hk1 : k < (Votes.stateL l tr at_).length := by omega
        refine gskip ?_
        refine hN10 _ _ ?_
        refine gfrom [(7, .pointer _), (10, .slice (some _) _ _), (25, .agg _), (26, .int _ _)] ⟨rfl, rfl, rfl, rfl, trivial⟩ fun σ => ?_
        refine gseq fun N11 hN11 => ?_
        refine gblock ?_
        refine gseq fun N12 hN12 => ?_
        refine greg ?_
        refine gop (y_move (v := .int _ _) rfl) rfl rfl rfl ?_
        refine gop (y_arridx (m := k) (f := Votes.stCells) (l := Votes.stateL l tr at_) (fun _ => rfl) Try.underlying44 Try.sizeOf43 Try.isAgg43 rfl rfl rfl (by omega) (by omega) (List.getElem?_eq_getElem hk1)) rfl rfl rfl ?_
        refine gop_alloc (cs := #[.int .i64 0, .bool false]) Try.zeroValue43 rfl rfl (fun b12 hb12 => ?_)
        refine gop (y_assign (v := .int _ _) rfl) rfl rfl rfl ?_
        refine gop_store 4 (v := .agg #[_, _]) (cs' := #[_, _]) rfl rfl Try.sizeOf43 rfl rfl rfl rfl (Nat.le_of_ble_eq_true rfl) rfl rfl ?_
        refine gops_nil ?_
        refine hN12 _ _ ?_
        refine gT [box b7 _, box b8 _, box b9 _, rowl _ _ _ _ _ _, box b12 _] rfl ?_
        refine gfrom [(7, .pointer _), (10, .slice (some _) _ _), (11, .int _ _), (12, .pointer _), (25, .agg _), (26, .int _ _)] ⟨rfl, rfl, rfl, rfl, rfl, rfl, trivial⟩ fun σ => ?_
        refine gseq fun N13 hN13 => ?_
        refine greg ?_
        refine gop (y_fieldAddr_box fa43_1 rfl) rfl rfl rfl ?_
        refine gop (y_load Try.isAgg4 rfl (cell_box 4 rfl rfl)) rfl rfl rfl ?_
        refine gops_nil ?_
        refine hN13 _ _ ?_
        refine gfrom [(7, .pointer _), (10, .slice (some _) _ _), (11, .int _ _), (12, .pointer _), (25, .agg _), (26, .int _ _), (31, .bool _)] ⟨rfl, rfl, rfl, rfl, rfl, rfl, rfl, trivial⟩ fun σ => ?_
        refine gcond (b := _) rfl (fun hc31 => ?_) (fun hc31 => ?_)
        · -- slot 31 t
          refine greg ?_
          refine gop (y_move (v := .slice (some _) _ _) rfl) rfl rfl rfl ?_
          refine gop (y_move (v := .int _ _) rfl) rfl rfl rfl ?_
          refine gop (y_fieldAddr_box fa43_0 rfl) rfl rfl rfl ?_
          refine gop (y_load Try.isAgg3 rfl (cell_box 4 rfl rfl)) rfl rfl rfl ?_
          refine gop (y_indexAddr Try.underlying27 Try.sizeOf3 rfl rfl rfl (by omega) (by omega)) rfl rfl rfl ?_
          refine gop_store_row 3 (f := intCells) (size := 1) (k := k) (o := 0) (v := .int _ _) (a' := Votes.curOf (Votes.stateL l tr at_)[k]) (fun _ => rfl) rfl (by omega) rfl Try.sizeOf3 rfl rfl rfl rfl (by simp; omega) (List.getElem?_eq_getElem (show k < _ by simp; omega)) (by omega) (by rw [Votes.curOf, hc31]; rfl) rfl ?_
          refine gops_nil ?_
          refine hN11 _ _ ?_
          refine gT [box b7 _, box b8 _, box b9 _, rowl _ _ _ _ _ _, box b12 _] rfl ?_
          refine gfrom [(7, .pointer _), (10, .slice (some _) _ _), (25, .agg _), (26, .int _ _)] ⟨rfl, rfl, rfl, rfl, trivial⟩ fun σ => ?_
          refine greg ?_
          refine gop (y_add rfl rfl ⟨by omega, by omega⟩) rfl rfl rfl ?_
          refine gop (y_move (v := .int _ _) rfl) rfl rfl rfl ?_
          refine gops_nil ?_
          rw [← map_set Votes.curOf (Votes.stateL l tr at_) k 8 hk1 (by omega) 0]
          refine gnext2 (k + 1) (by omega) (show k + 1 ≤ 8 by omega) ⟨rfl, trivial⟩ ⟨rfl, rfl, rfl, trivial⟩ ⟨_, rfl⟩
        · -- slot 31 f
          refine gskip ?_
          refine hN11 _ _ ?_
          refine gfrom [(7, .pointer _), (10, .slice (some _) _ _), (25, .agg _), (26, .int _ _)] ⟨rfl, rfl, rfl, rfl, trivial⟩ fun σ => ?_
          refine greg ?_
          refine gop (y_add rfl rfl ⟨by omega, by omega⟩) rfl rfl rfl ?_
          refine gop (y_move (v := .int _ _) rfl) rfl rfl rfl ?_
          refine gops_nil ?_
          rw [← map_same Votes.curOf (Votes.stateL l tr at_) k 8 hk1 (by omega) 0 (by rw [Votes.curOf, hc31]; rfl)]
          refine gnext2 (k + 1) (by omega) (show k + 1 ≤ 8 by omega) ⟨rfl, trivial⟩ ⟨rfl, rfl, rfl, trivial⟩ ⟨_, rfl⟩
      · -- slot 27 f
        replace hc27 := of_decide_eq_false hc27
        refine gexit ?_
        refine hN7 _ _ ?_
        refine gfrom [(7, .pointer _), (10, .slice (some _) _ _)] ⟨rfl, rfl, trivial⟩ fun σ => ?_
        refine gseq fun N14 hN14 => ?_
        refine greg ?_
        refine gop (y_move (v := .slice (some _) _ _) rfl) rfl rfl rfl ?_
        refine gop (y_build (vs := []) (cells := #[.int .i64 0, .int .i64 0]) rfl bd25_) rfl rfl rfl ?_
        refine gop (y_assign (v := .slice (some _) _ _) rfl) rfl rfl rfl ?_
        refine gop_store 0 (v := .agg #[_, _]) (cs' := #[_, _]) rfl rfl Try.sizeOf25 rfl rfl rfl rfl (Nat.le_of_ble_eq_true rfl) rfl rfl ?_
        refine gops_nil ?_
        refine hN14 _ _ ?_
        refine gT [box b7 _, box b8 _, box b9 _, rowl _ _ _ _ _ _] rfl ?_
        refine gfrom [(6, .slice (some _) _ _), (7, .pointer _)] ⟨rfl, rfl, trivial⟩ fun σ => ?_
        refine gret fun w1 hM => ?_
        refine ⟨_, res2 rfl (rt (v := .slice (some _) _ _) rfl) (rc 0 (cs := [_, _]) hM rfl rfl Try.isAgg25 Try.sizeOf25 rfl), ?_⟩
        exact ⟨_, by rw [hc22], hM.low, by rw [hL, ← map_end Votes.curOf (Votes.stateL l tr at_) k 8 (by omega) (by omega) 0]; exact hM.newL 3 rfl (fun _ => rfl)⟩

set_option maxHeartbeats 1000000 in
theorem score_any (w : World) (A : Option Addr) (c : Nat) (l : List Vote) (B : Option Addr) (c2 : Nat) (tr : List Bool) (hv : Rdl w 0 3 voteCells A l) (ht : Rdl w 0 1 boolCells B tr) (hl : l.length ≤ maxLen) (htl : tr.length ≤ maxLen) (hcc : tr.length ≤ c2) (at_ : Int) :
    Calls Try.prog 10 #[.slice A l.length c, .slice B tr.length c2, .int .i64 at_] w fun e w' => e = .returned (.tuple #[.int .i64 (Votes.scoreN l tr at_), .bool (Votes.scoreV l tr at_), fv (Votes.stateF l tr at_)]) ∧ Below w.heap.size w w' := by
  have hbd := Votes.curL_bd l tr at_
  have hln := Votes.curL_len l tr at_
  refine gcalls Try.func10 rfl Try.ntmps10 (Nat.le_of_ble_eq_true rfl) ?_
  refine gfrom [(0, .slice _ _ _), (1, .slice _ _ _), (2, .int _ _)] ⟨rfl, rfl, rfl, trivial⟩ fun σ => ?_
  refine gseq fun N1 hN1 => ?_
  refine greg ?_
  refine gop (y_assign (v := .int _ _) rfl) rfl rfl rfl ?_
  refine gop (y_assign (v := .bool _) rfl) rfl rfl rfl ?_
  refine gop_alloc (cs := #[.int .i64 0, .int .i64 0]) Try.zeroValue25 rfl rfl (fun b8 hb8 => ?_)
  refine gops_nil ?_
  refine hN1 _ _ ?_
  refine gT [box b8 _] rfl ?_
  refine gfrom [(0, .slice _ _ _), (1, .slice _ _ _), (2, .int _ _), (8, .pointer _)] ⟨rfl, rfl, rfl, rfl, trivial⟩ fun σ => ?_
  refine gseq fun N2 hN2 => ?_
  refine greg ?_
  refine gop (y_move (v := .slice _ _ _) rfl) rfl rfl rfl ?_
  refine gop (y_move (v := .slice _ _ _) rfl) rfl rfl rfl ?_
  refine gop (y_move (v := .int _ _) rfl) rfl rfl rfl ?_
  refine gop_new (fun lo ws v => ∃ v1, v = .tuple #[v1, fv (Votes.stateF l tr at_)] ∧ NewL 1 intCells (Votes.curL l tr at_) lo ws v1) (e_call (vs := [.slice _ _ _, .slice _ _ _, .int _ _]) Try.func9 rfl (by kernel_rfl) rfl) (fun w hM => (current_any w _ _ _ _ _ _ (hv.base hM) (ht.base hM) hl htl hcc _).mono fun _ _ ⟨v, h1, h2, h3⟩ => ⟨_, h1, h2, v, rfl, h3⟩) rfl rfl rfl ?_
  rintro _ lo ws hlo ⟨_, rfl, Ac, cc, rfl, hcc1, -, hcur⟩
  refine gop (y_move (v := .tuple #[.slice _ _ _, .agg #[_, _]]) rfl) rfl rfl rfl ?_
  refine gop (y_extract (v := .slice _ _ _) rfl rfl) rfl rfl rfl ?_
  refine gop (y_extract (v := .agg #[_, _]) rfl rfl) rfl rfl rfl ?_
  refine gop_alloc (cs := #[.int .i64 0, .int .i64 0]) Try.zeroValue25 rfl rfl (fun b10 hb10 => ?_)
  refine gop (y_assign (v := .slice _ _ _) rfl) rfl rfl rfl ?_
  refine gop_store 2 (v := .agg #[_, _]) (cs' := #[_, _]) rfl rfl Try.sizeOf25 rfl rfl rfl rfl (Nat.le_of_ble_eq_true rfl) rfl rfl ?_
  refine gops_nil ?_
  refine hN2 _ _ ?_
  refine gT [box b8 _, seal_ _ _, box b10 _] rfl ?_
  refine gfrom [(8, .pointer _), (9, .slice _ _ _), (10, .pointer _)] ⟨rfl, rfl, rfl, trivial⟩ fun σ => ?_
  refine gseq fun N3 hN3 => ?_
  refine gseq fun N4 hN4 => ?_
  refine greg ?_
  refine gop (y_loads (cs := [_, _]) Try.isAgg25 Try.sizeOf25 rfl rfl (cells_box 2 rfl)) rfl rfl rfl ?_
  refine gop (y_build (vs := []) (cells := #[.int .i64 0, .int .i64 0]) rfl bd25_) rfl rfl rfl ?_
  refine gop (y_bin (vx := .agg #[_, _]) (vy := .agg #[_, _]) rfl rfl (fun w => eg25 _ _ _ _ _ w) (fun w => ne25 _ _ _ _ w)) rfl rfl rfl ?_
  refine gops_nil ?_
  refine hN4 _ _ ?_
  refine gfrom [(8, .pointer _), (9, .slice _ _ _), (10, .pointer _), (24, .bool _)] ⟨rfl, rfl, rfl, rfl, trivial⟩ fun σ => ?_
  refine gcond (b := _) rfl (fun hc24 => ?_) (fun hc24 => ?_)
  · -- slot 24 t
    replace hc24 := fault_ne.1 hc24
    have hL : Votes.curL l tr at_ = [] := by rw [Votes.curL, if_neg hc24]
    refine gseq fun N5 hN5 => ?_
    refine greg_hs [(0, room b8 25 2)] (by kernel_rfl) ?_
    refine ght 0 rfl (by kernel_rfl) (by kernel_rfl) (by kernel_rfl) (y_loads (cs := [_, _]) Try.isAgg25 Try.sizeOf25 rfl rfl (cells_box 2 rfl)) rfl rfl rfl (weak_room 0 rfl rfl) (listed' := #[true, false, false, false]) rfl ?_
    refine ght 1 rfl (by kernel_rfl) (by kernel_rfl) (by kernel_rfl) (y_assign (v := .int _ _) rfl) rfl rfl rfl (weak_room 0 rfl rfl) (listed' := #[true, true, false, false]) rfl ?_
    refine ght 2 rfl (by kernel_rfl) (by kernel_rfl) (by kernel_rfl) (y_assign (v := .bool _) rfl) rfl rfl rfl (weak_room 0 rfl rfl) (listed' := #[true, true, true, false]) rfl ?_
    refine ghs 3 (by kernel_rfl) rfl rfl rfl (listed' := #[true, true, true, true]) rfl (run_store_box 0 (v := .agg #[_, _]) (cs' := #[_, _]) rfl rfl Try.sizeOf25 rfl rfl rfl rfl (Nat.le_of_ble_eq_true rfl) rfl rfl) (weak_room 0 rfl rfl) ?_
    refine ghd_done (by kernel_rfl) ?_
    refine hN5 _ _ ?_
    refine gT [box b8 _, seal_ _ _, box b10 _] rfl ?_
    refine gfrom [(6, .int _ _), (7, .bool _), (8, .pointer _)] ⟨rfl, rfl, rfl, trivial⟩ fun σ => ?_
    refine gret fun w1 hM => ?_
    refine ⟨_, res3 rfl (rt (v := .int _ _) rfl) (rt (v := .bool _) rfl) (rc 0 (cs := [_, _]) hM rfl rfl Try.isAgg25 Try.sizeOf25 rfl), ?_⟩
    exact ⟨by rw [Votes.scoreN, Votes.scoreV, hL]; rfl, hM.low⟩
  · -- slot 24 f
    replace hc24 := fault_eq.1 hc24
    refine gskip ?_
    refine hN3 _ _ ?_
    refine gfrom [(8, .pointer _), (9, .slice _ _ _)] ⟨rfl, rfl, trivial⟩ fun σ => ?_
    refine gseq fun N6 hN6 => ?_
    refine greg ?_
    refine gop (y_assign (v := .int _ _) rfl) rfl rfl rfl ?_
    refine gop (y_assign (v := .bool _) rfl) rfl rfl rfl ?_
    refine gops_nil ?_
    refine hN6 _ _ ?_
    refine gfrom [(8, .pointer _), (9, .slice _ _ _), (11, .int _ _), (12, .bool _)] ⟨rfl, rfl, rfl, rfl, trivial⟩ fun σ => ?_
    refine gseq fun N7 hN7 => ?_
    refine gseq fun N8 hN8 => ?_
    refine greg ?_
    refine gop (y_move (v := .slice _ _ _) rfl) rfl rfl rfl ?_
    refine gop (y_len Try.underlying27 rfl) rfl rfl rfl ?_
    refine gop (y_move (v := .int _ _) rfl) rfl rfl rfl ?_
    refine gops_nil ?_
    refine hN8 _ _ ?_
    refine gfrom [(8, .pointer _), (11, .int _ _), (12, .bool _), (26, .slice _ _ _), (27, .int _ _), (28, .int _ _)] ⟨rfl, rfl, rfl, rfl, rfl, rfl, trivial⟩ fun σ => ?_
    refine gblock ?_
    refine gfrom2 [(11, .int _ _), (12, .bool _), (28, .int _ _)] [(8, .pointer _), (26, .slice _ _ _), (27, .int _ _)] ⟨rfl, rfl, rfl, trivial⟩ ⟨rfl, rfl, rfl, trivial⟩ fun σ => ?_
    refine gloop2 (G := Nat) (fun k => k ≤ (Votes.curL l tr at_).length) (fun k => (Votes.curL l tr at_).length - k) (fun k => [(11, .int .i64 (Votes.isum ((Votes.curL l tr at_).take k))), (12, .bool (((Votes.curL l tr at_).take k).any fun n => decide (n = -2))), (28, .int .i64 (k : Int))]) (fun k => []) (0) ?h0 ⟨rfl, rfl, rfl, trivial⟩ ⟨rfl, rfl, rfl, trivial⟩ rfl ?round
    case h0 => exact Nat.zero_le _
    case round =>
      intro k hφ σ
      have hk := hφ
      refine gseq fun N9 hN9 => ?_
      refine greg ?_
      refine gop (y_lss rfl rfl) rfl rfl rfl ?_
      refine gops_nil ?_
      refine hN9 _ _ ?_
      refine gfrom [(8, .pointer _), (11, .int _ _), (12, .bool _), (26, .slice _ _ _), (27, .int _ _), (28, .int _ _), (29, .bool _)] ⟨rfl, rfl, rfl, rfl, rfl, rfl, rfl, trivial⟩ fun σ => ?_
      refine gseq fun N10 hN10 => ?_
      refine gcond (b := _) rfl (fun hc29 => ?_) (fun hc29 => ?_)
      · -- slot 29 t
        replace hc29 := of_decide_eq_true hc29
        have hk1 : k < (Votes.curL l tr at_).length := by omega
        obtain ⟨ad, rfl, hlo2, hcv⟩ := hcur.at_ hk1
        have hb1 := hbd _ (List.getElem_mem hk1)
        have hs1 := Votes.isum_take (Votes.curL l tr at_) k hk1
        have ha1 := any_take (fun n => decide (n = -2)) (Votes.curL l tr at_) k hk1
        have hb2 := Votes.isum_bd (Votes.curL l tr at_) hbd k
        refine gskip ?_
        refine hN10 _ _ ?_
        refine gfrom [(8, .pointer _), (11, .int _ _), (12, .bool _), (26, .slice _ _ _), (27, .int _ _), (28, .int _ _)] ⟨rfl, rfl, rfl, rfl, rfl, rfl, trivial⟩ fun σ => ?_
        refine gseq fun N11 hN11 => ?_
        refine gblock ?_
        refine gseq fun N12 hN12 => ?_
        refine greg ?_
        refine gop (y_indexAddr Try.underlying27 Try.sizeOf3 rfl rfl rfl (by omega) (by omega)) rfl rfl rfl ?_
        refine gop (y_load Try.isAgg3 rfl (cell_seal 1 rfl (by rw [block_add]; exact hlo2) (hcv 0 _ rfl))) rfl rfl rfl ?_
        refine gop (y_assign (v := .int _ _) rfl) rfl rfl rfl ?_
        refine gops_nil ?_
        refine hN12 _ _ ?_
        refine gfrom [(8, .pointer _), (11, .int _ _), (12, .bool _), (14, .int _ _), (26, .slice _ _ _), (27, .int _ _), (28, .int _ _)] ⟨rfl, rfl, rfl, rfl, rfl, rfl, rfl, trivial⟩ fun σ => ?_
        refine gseq fun N13 hN13 => ?_
        refine greg ?_
        refine gop (y_move (v := .int _ _) rfl) rfl rfl rfl ?_
        refine gop (y_move (v := .int _ _) rfl) rfl rfl rfl ?_
        refine gop (y_add rfl rfl ⟨by omega, by omega⟩) rfl rfl rfl ?_
        refine gop (y_assign (v := .int _ _) rfl) rfl rfl rfl ?_
        refine gops_nil ?_
        refine hN13 _ _ ?_
        refine gfrom [(8, .pointer _), (11, .int _ _), (12, .bool _), (14, .int _ _), (26, .slice _ _ _), (27, .int _ _), (28, .int _ _)] ⟨rfl, rfl, rfl, rfl, rfl, rfl, rfl, trivial⟩ fun σ => ?_
        refine greg ?_
        refine gop (y_move (v := .bool _) rfl) rfl rfl rfl ?_
        refine gop (y_move (v := .bool _) rfl) rfl rfl rfl ?_
        refine gop_if (want := false) rfl rfl rfl rfl rfl rfl (fun hg36 => ?_) (fun hg36 => ?_)
        · -- guard 36 on
          have hg36d := hg36
          refine gop (y_bare (y_move (v := .int _ _) rfl)) rfl rfl rfl ?_
          refine gop_on rfl rfl rfl rfl hg36 ?_
          refine gop (y_bare (y_eql rfl rfl)) rfl rfl rfl ?_
          refine gop (y_pick_f (v := .bool _) rfl hg36 rfl) rfl rfl rfl ?_
          refine gop (y_assign (v := .bool _) rfl) rfl rfl rfl ?_
          refine gops_nil ?_
          refine hN11 _ _ ?_
          refine gfrom [(8, .pointer _), (11, .int _ _), (12, .bool _), (26, .slice _ _ _), (27, .int _ _), (28, .int _ _)] ⟨rfl, rfl, rfl, rfl, rfl, rfl, trivial⟩ fun σ => ?_
          refine greg ?_
          refine gop (y_add rfl rfl ⟨by omega, by omega⟩) rfl rfl rfl ?_
          refine gop (y_move (v := .int _ _) rfl) rfl rfl rfl ?_
          refine gops_nil ?_
          refine gnext2 (k + 1) (by omega) (show k + 1 ≤ _ by omega) ⟨(congrArg (Value.int .i64) hs1.symm), (congrArg Value.bool (by rw [ha1, hg36d]; rfl)), rfl, trivial⟩ ⟨rfl, rfl, rfl, trivial⟩ ⟨_, rfl⟩
        · -- guard 36 off
          have hg36d := hg36
          refine gop_off rfl rfl rfl rfl hg36 rfl rfl ?_
          refine gop (y_pick_t (v := .bool _) rfl hg36 rfl) rfl rfl rfl ?_
          refine gop (y_assign (v := .bool _) rfl) rfl rfl rfl ?_
          refine gops_nil ?_
          refine hN11 _ _ ?_
          refine gfrom [(8, .pointer _), (11, .int _ _), (12, .bool _), (26, .slice _ _ _), (27, .int _ _), (28, .int _ _)] ⟨rfl, rfl, rfl, rfl, rfl, rfl, trivial⟩ fun σ => ?_
          refine greg ?_
          refine gop (y_add rfl rfl ⟨by omega, by omega⟩) rfl rfl rfl ?_
          refine gop (y_move (v := .int _ _) rfl) rfl rfl rfl ?_
          refine gops_nil ?_
          refine gnext2 (k + 1) (by omega) (show k + 1 ≤ _ by omega) ⟨(congrArg (Value.int .i64) hs1.symm), (congrArg Value.bool (by rw [ha1, hg36d]; rfl)), rfl, trivial⟩ ⟨rfl, rfl, rfl, trivial⟩ ⟨_, rfl⟩
      · -- slot 29 f
        replace hc29 := of_decide_eq_false hc29
        refine gexit ?_
        refine hN7 _ _ ?_
        refine gfrom [(8, .pointer _), (11, .int _ _), (12, .bool _)] ⟨rfl, rfl, rfl, trivial⟩ fun σ => ?_
        refine gseq fun N14 hN14 => ?_
        refine greg ?_
        refine gop (y_move (v := .int _ _) rfl) rfl rfl rfl ?_
        refine gop (y_move (v := .bool _) rfl) rfl rfl rfl ?_
        refine gop (y_build (vs := []) (cells := #[.int .i64 0, .int .i64 0]) rfl bd25_) rfl rfl rfl ?_
        refine gop (y_assign (v := .int _ _) rfl) rfl rfl rfl ?_
        refine gop (y_assign (v := .bool _) rfl) rfl rfl rfl ?_
        refine gop_store 0 (v := .agg #[_, _]) (cs' := #[_, _]) rfl rfl Try.sizeOf25 rfl rfl rfl rfl (Nat.le_of_ble_eq_true rfl) rfl rfl ?_
        refine gops_nil ?_
        refine hN14 _ _ ?_
        refine gT [box b8 _, seal_ _ _, box b10 _] rfl ?_
        refine gfrom [(6, .int _ _), (7, .bool _), (8, .pointer _)] ⟨rfl, rfl, rfl, trivial⟩ fun σ => ?_
        refine gret fun w1 hM => ?_
        refine ⟨_, res3 rfl (rt (v := .int _ _) rfl) (rt (v := .bool _) rfl) (rc 0 (cs := [_, _]) hM rfl rfl Try.isAgg25 Try.sizeOf25 rfl), ?_⟩
        have hall := List.take_of_length_le (l := Votes.curL l tr at_) (i := k) (by omega)
        exact ⟨by rw [hall, hc24]; rfl, hM.low⟩

set_option maxHeartbeats 1000000 in
theorem lapsed_any (w : World) (A : Option Addr) (c : Nat) (l : List Vote) (B : Option Addr) (c2 : Nat) (tr : List Bool) (hv : Rdl w 0 3 voteCells A l) (ht : Rdl w 0 1 boolCells B tr) (hl : l.length ≤ maxLen) (htl : tr.length ≤ maxLen) (hcc : tr.length ≤ c2) (at_ : Int) :
    Calls Try.prog 11 #[.slice A l.length c, .slice B tr.length c2, .int .i64 at_] w fun e w' => ∃ v, e = .returned (.tuple #[v, fv (Votes.stateF l tr at_)]) ∧ Below w.heap.size w w' ∧ NewL 1 intCells (Votes.lapL l tr at_) w.heap.size w' v := by
  have h8 := Votes.stateL_len l tr at_
  refine gcalls Try.func11 rfl Try.ntmps11 (Nat.le_of_ble_eq_true rfl) ?_
  refine gfrom [(0, .slice _ _ _), (1, .slice _ _ _), (2, .int _ _)] ⟨rfl, rfl, rfl, trivial⟩ fun σ => ?_
  refine gseq fun N1 hN1 => ?_
  refine greg ?_
  refine gop (y_assign (v := .slice _ _ _) rfl) rfl rfl rfl ?_
  refine gop_alloc (cs := #[.int .i64 0, .int .i64 0]) Try.zeroValue25 rfl rfl (fun b7 hb7 => ?_)
  refine gops_nil ?_
  refine hN1 _ _ ?_
  refine gT [box b7 _] rfl ?_
  refine gfrom [(0, .slice _ _ _), (1, .slice _ _ _), (2, .int _ _), (7, .pointer _)] ⟨rfl, rfl, rfl, rfl, trivial⟩ fun σ => ?_
  refine gseq fun N2 hN2 => ?_
  refine greg ?_
  refine gop (y_move (v := .slice _ _ _) rfl) rfl rfl rfl ?_
  refine gop (y_move (v := .slice _ _ _) rfl) rfl rfl rfl ?_
  refine gop (y_move (v := .int _ _) rfl) rfl rfl rfl ?_
  refine gop_pure (e_call (vs := [.slice _ _ _, .slice _ _ _, .int _ _]) Try.func18 rfl (by kernel_rfl) rfl) (fun w hM => states_any w _ _ _ _ _ _ (hv.base hM) (ht.base hM) hl htl hcc _) rfl rfl rfl ?_
  refine gop (y_move (v := .tuple #[.agg _, .agg #[_, _]]) rfl) rfl rfl rfl ?_
  refine gop (y_extract (v := .agg _) rfl rfl) rfl rfl rfl ?_
  refine gop (y_extract (v := .agg #[_, _]) rfl rfl) rfl rfl rfl ?_
  refine gop_alloc (cs := ((List.replicate 8 ((0 : Int), false)).flatMap Votes.stCells).toArray) Try.zeroValue44 rfl rfl (fun b8 hb8 => ?_)
  refine gop_alloc (cs := #[.int .i64 0, .int .i64 0]) Try.zeroValue25 rfl rfl (fun b9 hb9 => ?_)
  refine gop_store_flat 1 (f := Votes.stCells) Votes.wide_st rfl rfl Try.sizeOf44 (by rw [h8]) rfl (by rw [h8]; rfl) rfl ?_
  refine gop_store 2 (v := .agg #[_, _]) (cs' := #[_, _]) rfl rfl Try.sizeOf25 rfl rfl rfl rfl (Nat.le_of_ble_eq_true rfl) rfl rfl ?_
  refine gops_nil ?_
  refine hN2 _ _ ?_
  refine gT [box b7 _, box b8 _, box b9 _] rfl ?_
  refine gfrom [(7, .pointer _), (8, .pointer _), (9, .pointer _)] ⟨rfl, rfl, rfl, trivial⟩ fun σ => ?_
  refine gseq fun N3 hN3 => ?_
  refine gseq fun N4 hN4 => ?_
  refine greg ?_
  refine gop (y_loads (cs := [_, _]) Try.isAgg25 Try.sizeOf25 rfl rfl (cells_box 2 rfl)) rfl rfl rfl ?_
  refine gop (y_build (vs := []) (cells := #[.int .i64 0, .int .i64 0]) rfl bd25_) rfl rfl rfl ?_
  refine gop (y_bin (vx := .agg #[_, _]) (vy := .agg #[_, _]) rfl rfl (fun w => eg25 _ _ _ _ _ w) (fun w => ne25 _ _ _ _ w)) rfl rfl rfl ?_
  refine gops_nil ?_
  refine hN4 _ _ ?_
  refine gfrom [(7, .pointer _), (8, .pointer _), (9, .pointer _), (22, .bool _)] ⟨rfl, rfl, rfl, rfl, trivial⟩ fun σ => ?_
  refine gcond (b := _) rfl (fun hc22 => ?_) (fun hc22 => ?_)
  · -- slot 22 t
    replace hc22 := fault_ne.1 hc22
    have hL : Votes.lapL l tr at_ = [] := by rw [Votes.lapL, if_neg hc22]
    refine gseq fun N5 hN5 => ?_
    refine greg_hs [(0, room b7 25 2)] (by kernel_rfl) ?_
    refine ght 0 rfl (by kernel_rfl) (by kernel_rfl) (by kernel_rfl) (y_loads (cs := [_, _]) Try.isAgg25 Try.sizeOf25 rfl rfl (cells_box 2 rfl)) rfl rfl rfl (weak_room 0 rfl rfl) (listed' := #[true, false, false]) rfl ?_
    refine ght 1 rfl (by kernel_rfl) (by kernel_rfl) (by kernel_rfl) (y_assign (v := .slice _ _ _) rfl) rfl rfl rfl (weak_room 0 rfl rfl) (listed' := #[true, true, false]) rfl ?_
    refine ghs 2 (by kernel_rfl) rfl rfl rfl (listed' := #[true, true, true]) rfl (run_store_box 0 (v := .agg #[_, _]) (cs' := #[_, _]) rfl rfl Try.sizeOf25 rfl rfl rfl rfl (Nat.le_of_ble_eq_true rfl) rfl rfl) (weak_room 0 rfl rfl) ?_
    refine ghd_done (by kernel_rfl) ?_
    refine hN5 _ _ ?_
    refine gT [box b7 _, box b8 _, box b9 _] rfl ?_
    refine gfrom [(6, .slice _ _ _), (7, .pointer _)] ⟨rfl, rfl, trivial⟩ fun σ => ?_
    refine gret fun w1 hM => ?_
    refine ⟨_, res2 rfl (rt (v := .slice _ _ _) rfl) (rc 0 (cs := [_, _]) hM rfl rfl Try.isAgg25 Try.sizeOf25 rfl), ?_⟩
    exact ⟨_, rfl, hM.low, by rw [hL]; exact newL_nil⟩
  · -- slot 22 f
    replace hc22 := fault_eq.1 hc22
    have hL : Votes.lapL l tr at_ = Votes.lapIdx (Votes.stateL l tr at_) 8 := by rw [Votes.lapL, if_pos hc22, Votes.stateL, if_pos hc22]
    refine gskip ?_
    refine hN3 _ _ ?_
    refine gfrom [(7, .pointer _), (8, .pointer _)] ⟨rfl, rfl, trivial⟩ fun σ => ?_
    refine gseq fun N6 hN6 => ?_
    refine greg ?_
    refine gop (y_assign (v := .slice _ _ _) rfl) rfl rfl rfl ?_
    refine gops_nil ?_
    refine hN6 _ _ ?_
    refine gfrom [(7, .pointer _), (8, .pointer _), (10, .slice _ _ _)] ⟨rfl, rfl, rfl, trivial⟩ fun σ => ?_
    refine gseq fun N7 hN7 => ?_
    refine gseq fun N8 hN8 => ?_
    refine greg ?_
    refine gop (y_loads (cs := (Votes.stateL l tr at_).flatMap Votes.stCells) Try.isAgg44 Try.sizeOf44 (by rw [flat_len (size := 2) (fun _ => rfl), h8]) rfl (cells_box 1 rfl)) rfl rfl rfl ?_
    refine gop (y_move (v := .int _ _) rfl) rfl rfl rfl ?_
    refine gops_nil ?_
    refine hN8 _ _ ?_
    refine gfrom [(7, .pointer _), (10, .slice _ _ _), (24, .agg _), (25, .int _ _)] ⟨rfl, rfl, rfl, rfl, trivial⟩ fun σ => ?_
    refine gblock ?_
    refine gnilrow intCells 3 1 ?_
    refine gfrom2 [(10, .slice _ _ _), (25, .int _ _)] [(7, .pointer _), (24, .agg _)] ⟨rfl, rfl, trivial⟩ ⟨rfl, rfl, trivial⟩ fun σ => ?_
    refine gloop2 (G := Nat × Value) (fun (k, v10) => k ≤ 8) (fun (k, v10) => 8 - k) (fun (k, v10) => [(10, v10), (25, .int .i64 (k : Int))]) (fun (k, v10) => [(3, rowl intCells w.heap.size 3 1 v10 (Votes.lapIdx (Votes.stateL l tr at_) k))]) ((0, .slice none 0 0)) ?h0 ⟨rfl, rfl, trivial⟩ ⟨rfl, rfl, trivial⟩ rfl ?round
    case h0 => exact Nat.zero_le 8
    case round =>
      rintro ⟨k, v10⟩ hφ σ
      have hk : k ≤ 8 := hφ
      refine gT [box b7 _, box b8 _, box b9 _, rowl _ _ _ _ _ _] rfl ?_
      refine gseq fun N9 hN9 => ?_
      refine greg ?_
      refine gop (y_lss rfl rfl) rfl rfl rfl ?_
      refine gops_nil ?_
      refine hN9 _ _ ?_
      refine gfrom [(7, .pointer _), (10, v10), (24, .agg _), (25, .int _ _), (26, .bool _)] ⟨rfl, rfl, rfl, rfl, rfl, trivial⟩ fun σ => ?_
      refine gseq fun N10 hN10 => ?_
      refine gcond (b := _) rfl (fun hc26 => ?_) (fun hc26 => ?_)
      · -- slot 26 t
        replace hc26 := of_decide_eq_true hc26
        have hk1 : k < (Votes.stateL l tr at_).length := by omega
        have hnx := Votes.lapIdx_succ (Votes.stateL l tr at_) k hk1
        have hln := Votes.lapIdx_len (Votes.stateL l tr at_) k
        refine gskip ?_
        refine hN10 _ _ ?_
        refine gfrom [(7, .pointer _), (10, v10), (24, .agg _), (25, .int _ _)] ⟨rfl, rfl, rfl, rfl, trivial⟩ fun σ => ?_
        refine gseq fun N11 hN11 => ?_
        refine gblock ?_
        refine gseq fun N12 hN12 => ?_
        refine greg ?_
        refine gop (y_move (v := .int _ _) rfl) rfl rfl rfl ?_
        refine gop (y_arridx (m := k) (f := Votes.stCells) (l := Votes.stateL l tr at_) (fun _ => rfl) Try.underlying44 Try.sizeOf43 Try.isAgg43 rfl rfl rfl (by omega) (by omega) (List.getElem?_eq_getElem hk1)) rfl rfl rfl ?_
        refine gop_alloc (cs := #[.int .i64 0, .bool false]) Try.zeroValue43 rfl rfl (fun b12 hb12 => ?_)
        refine gop (y_assign (v := .int _ _) rfl) rfl rfl rfl ?_
        refine gop_store 4 (v := .agg #[_, _]) (cs' := #[_, _]) rfl rfl Try.sizeOf43 rfl rfl rfl rfl (Nat.le_of_ble_eq_true rfl) rfl rfl ?_
        refine gops_nil ?_
        refine hN12 _ _ ?_
        refine gT [box b7 _, box b8 _, box b9 _, rowl _ _ _ _ _ _, box b12 _] rfl ?_
        refine gfrom [(7, .pointer _), (10, v10), (11, .int _ _), (12, .pointer _), (24, .agg _), (25, .int _ _)] ⟨rfl, rfl, rfl, rfl, rfl, rfl, trivial⟩ fun σ => ?_
        refine gseq fun N13 hN13 => ?_
        refine greg ?_
        refine gop (y_fieldAddr_box fa43_0 rfl) rfl rfl rfl ?_
        refine gop (y_load Try.isAgg3 rfl (cell_box 4 rfl rfl)) rfl rfl rfl ?_
        refine gop (y_neq rfl rfl) rfl rfl rfl ?_
        refine gop (y_move (v := .bool _) rfl) rfl rfl rfl ?_
        refine gop_if (want := true) rfl rfl rfl rfl rfl rfl (fun hg32 => ?_) (fun hg32 => ?_)
        · -- guard 32 on
          have hg32d := of_decide_eq_true hg32
          refine gop (y_bare (y_fieldAddr_box fa43_1 rfl)) rfl rfl rfl ?_
          refine gop_on rfl rfl rfl rfl hg32 ?_
          refine gop (y_bare (y_load Try.isAgg4 rfl (cell_box 4 rfl rfl))) rfl rfl rfl ?_
          refine gop_on rfl rfl rfl rfl hg32 ?_
          refine gop (y_bare (y_not rfl)) rfl rfl rfl ?_
          refine gop (y_pick_t (v := .bool _) rfl hg32 rfl) rfl rfl rfl ?_
          refine gops_nil ?_
          refine hN13 _ _ ?_
          refine gfrom [(7, .pointer _), (10, v10), (11, .int _ _), (24, .agg _), (25, .int _ _), (36, .bool _)] ⟨rfl, rfl, rfl, rfl, rfl, rfl, trivial⟩ fun σ => ?_
          refine gcond (b := _) rfl (fun hc36 => ?_) (fun hc36 => ?_)
          · -- slot 36 t
            replace hc36 := not_t hc36
            refine greg ?_
            refine gop (y_move (v := v10) rfl) rfl rfl rfl ?_
            refine gop (y_move (v := .int _ _) rfl) rfl rfl rfl ?_
            refine gop_lit (vs := [.int _ _]) (cells := #[_]) Try.underlying27 Try.sizeOf3 Try.zeroValue3 rfl (by decide) (by decide) rfl rfl rfl rfl (fun b39 hb39 => ?_)
            refine gop_append 3 (f := intCells) (l2 := [(k : Int)]) Try.underlying27 el3 wide_int (v := v10) rfl rfl rfl rfl (fun h => by cases h) (by simp [maxLen]; omega) (by simp; omega) (src_box 5 rfl rfl) rfl (fun v40 => ?_)
            refine gop (y_assign (v := v40) rfl) rfl rfl rfl ?_
            refine gops_nil ?_
            refine hN11 _ _ ?_
            refine gT [box b7 _, box b8 _, box b9 _, rowl _ _ _ _ _ _, box b12 _, box b39 _] rfl ?_
            refine gfrom [(7, .pointer _), (10, v40), (24, .agg _), (25, .int _ _)] ⟨rfl, rfl, rfl, rfl, trivial⟩ fun σ => ?_
            refine greg ?_
            refine gop (y_add rfl rfl ⟨by omega, by omega⟩) rfl rfl rfl ?_
            refine gop (y_move (v := .int _ _) rfl) rfl rfl rfl ?_
            refine gops_nil ?_
            rw [show Votes.lapIdx (Votes.stateL l tr at_) k ++ [(k : Int)] = Votes.lapIdx (Votes.stateL l tr at_) (k + 1) from by rw [hnx, if_pos ⟨hg32d, hc36⟩]]
            refine gnext2 ((k + 1, v40)) (by show 8 - (k + 1) < 8 - k; omega) (show k + 1 ≤ 8 by omega) ⟨rfl, rfl, trivial⟩ ⟨rfl, rfl, trivial⟩ ⟨_, rfl⟩
          · -- slot 36 f
            replace hc36 := not_f hc36
            refine gskip ?_
            refine hN11 _ _ ?_
            refine gfrom [(7, .pointer _), (10, v10), (24, .agg _), (25, .int _ _)] ⟨rfl, rfl, rfl, rfl, trivial⟩ fun σ => ?_
            refine greg ?_
            refine gop (y_add rfl rfl ⟨by omega, by omega⟩) rfl rfl rfl ?_
            refine gop (y_move (v := .int _ _) rfl) rfl rfl rfl ?_
            refine gops_nil ?_
            rw [show Votes.lapIdx (Votes.stateL l tr at_) k = Votes.lapIdx (Votes.stateL l tr at_) (k + 1) from by rw [hnx, if_neg (by simp [hc36])]]
            refine gnext2 ((k + 1, v10)) (by show 8 - (k + 1) < 8 - k; omega) (show k + 1 ≤ 8 by omega) ⟨rfl, rfl, trivial⟩ ⟨rfl, rfl, trivial⟩ ⟨_, rfl⟩
        · -- guard 32 off
          have hg32d := Decidable.not_not.1 (of_decide_eq_false hg32)
          refine gop_off rfl rfl rfl rfl hg32 rfl rfl ?_
          refine gop_off rfl rfl rfl rfl hg32 rfl rfl ?_
          refine gop (y_pick_f (v := .bool _) rfl hg32 rfl) rfl rfl rfl ?_
          refine gops_nil ?_
          refine hN13 _ _ ?_
          refine gfrom [(7, .pointer _), (10, v10), (11, .int _ _), (24, .agg _), (25, .int _ _), (36, .bool _)] ⟨rfl, rfl, rfl, rfl, rfl, rfl, trivial⟩ fun σ => ?_
          refine gcond (b := _) rfl (fun hc36 => ?_) (fun hc36 => ?_)
          · -- slot 36 t
            cases hc36
          · -- slot 36 f
            refine gskip ?_
            refine hN11 _ _ ?_
            refine gfrom [(7, .pointer _), (10, v10), (24, .agg _), (25, .int _ _)] ⟨rfl, rfl, rfl, rfl, trivial⟩ fun σ => ?_
            refine greg ?_
            refine gop (y_add rfl rfl ⟨by omega, by omega⟩) rfl rfl rfl ?_
            refine gop (y_move (v := .int _ _) rfl) rfl rfl rfl ?_
            refine gops_nil ?_
            rw [show Votes.lapIdx (Votes.stateL l tr at_) k = Votes.lapIdx (Votes.stateL l tr at_) (k + 1) from by rw [hnx, if_neg (fun h => h.1 hg32d)]]
            refine gnext2 ((k + 1, v10)) (by show 8 - (k + 1) < 8 - k; omega) (show k + 1 ≤ 8 by omega) ⟨rfl, rfl, trivial⟩ ⟨rfl, rfl, trivial⟩ ⟨_, rfl⟩
      · -- slot 26 f
        replace hc26 := of_decide_eq_false hc26
        refine gexit ?_
        refine hN7 _ _ ?_
        refine gfrom [(7, .pointer _), (10, v10)] ⟨rfl, rfl, trivial⟩ fun σ => ?_
        refine gseq fun N14 hN14 => ?_
        refine greg ?_
        refine gop (y_move (v := v10) rfl) rfl rfl rfl ?_
        refine gop (y_build (vs := []) (cells := #[.int .i64 0, .int .i64 0]) rfl bd25_) rfl rfl rfl ?_
        refine gop (y_assign (v := v10) rfl) rfl rfl rfl ?_
        refine gop_store 0 (v := .agg #[_, _]) (cs' := #[_, _]) rfl rfl Try.sizeOf25 rfl rfl rfl rfl (Nat.le_of_ble_eq_true rfl) rfl rfl ?_
        refine gops_nil ?_
        refine hN14 _ _ ?_
        refine gT [box b7 _, box b8 _, box b9 _, rowl _ _ _ _ _ _] rfl ?_
        refine gfrom [(6, v10), (7, .pointer _)] ⟨rfl, rfl, trivial⟩ fun σ => ?_
        refine gret fun w1 hM => ?_
        refine ⟨_, res2 rfl (rt (v := v10) rfl) (rc 0 (cs := [_, _]) hM rfl rfl Try.isAgg25 Try.sizeOf25 rfl), ?_⟩
        obtain rfl : k = 8 := by omega
        exact ⟨_, by rw [hc22], hM.low, by rw [hL]; exact hM.newL 3 rfl (fun _ => rfl)⟩

set_option maxHeartbeats 1000000 in
theorem votesFault_any (w : World) (A : Option Addr) (c : Nat) (l : List Vote) (B : Option Addr) (c2 : Nat) (tr : List Bool) (hv : Rdl w 0 3 voteCells A l) (ht : Rdl w 0 1 boolCells B tr) (hl : l.length ≤ maxLen) (htl : tr.length ≤ maxLen) (_hcc : tr.length ≤ c2) :
    Calls Try.prog 8 #[.slice A l.length c, .slice B tr.length c2] w fun e w' => e = .returned (fv (Votes.validate l tr)) ∧ Below w.heap.size w w' := by
  unfold maxLen at hl htl
  refine gcalls Try.func8 rfl Try.ntmps8 (Nat.le_of_ble_eq_true rfl) ?_
  refine gfrom [(0, .slice _ _ _), (1, .slice _ _ _)] ⟨rfl, rfl, trivial⟩ fun σ => ?_
  refine gseq fun N1 hN1 => ?_
  refine greg ?_
  refine gop_alloc (cs := #[.int .i64 0, .int .i64 0]) Try.zeroValue25 rfl rfl (fun b4 hb4 => ?_)
  refine gops_nil ?_
  refine hN1 _ _ ?_
  refine gT [box b4 _] rfl ?_
  refine gfrom [(0, .slice _ _ _), (1, .slice _ _ _), (4, .pointer _)] ⟨rfl, rfl, rfl, trivial⟩ fun σ => ?_
  refine gseq fun N2 hN2 => ?_
  refine gseq fun N3 hN3 => ?_
  refine greg ?_
  refine gop (y_move (v := .slice _ _ _) rfl) rfl rfl rfl ?_
  refine gop (y_len Try.underlying22 rfl) rfl rfl rfl ?_
  refine gop (y_gtr rfl rfl) rfl rfl rfl ?_
  refine gops_nil ?_
  refine hN3 _ _ ?_
  refine gfrom [(0, .slice _ _ _), (1, .slice _ _ _), (4, .pointer _), (10, .bool _)] ⟨rfl, rfl, rfl, rfl, trivial⟩ fun σ => ?_
  refine gcond (b := _) rfl (fun hc10 => ?_) (fun hc10 => ?_)
  · -- slot 10 t
    replace hc10 := of_decide_eq_true hc10
    refine gseq fun N4 hN4 => ?_
    refine greg ?_
    refine gop_pure (e_call (vs := [_, _]) Try.func14 rfl (by kernel_rfl) rfl) (fun w hM => fault_any w _ _) rfl rfl rfl ?_
    refine gop_store 0 (v := .agg #[_, _]) (cs' := #[_, _]) rfl rfl Try.sizeOf25 rfl rfl rfl rfl (Nat.le_of_ble_eq_true rfl) rfl rfl ?_
    refine gops_nil ?_
    refine hN4 _ _ ?_
    refine gT [box b4 _] rfl ?_
    refine gfrom [(4, .pointer _)] ⟨rfl, trivial⟩ fun σ => ?_
    refine gret fun w1 hM => ?_
    refine ⟨_, res1 rfl (rc 0 (cs := [_, _]) hM rfl rfl Try.isAgg25 Try.sizeOf25 rfl), ?_⟩
    exact ⟨by rw [Votes.validate, if_pos (by omega)], hM.low⟩
  · -- slot 10 f
    replace hc10 := of_decide_eq_false hc10
    refine gskip ?_
    refine hN2 _ _ ?_
    refine gfrom [(0, .slice _ _ _), (1, .slice _ _ _), (4, .pointer _)] ⟨rfl, rfl, rfl, trivial⟩ fun σ => ?_
    refine gseq fun N5 hN5 => ?_
    refine gseq fun N6 hN6 => ?_
    refine greg ?_
    refine gop (y_move (v := .slice _ _ _) rfl) rfl rfl rfl ?_
    refine gop (y_len Try.underlying23 rfl) rfl rfl rfl ?_
    refine gop (y_eql rfl rfl) rfl rfl rfl ?_
    refine gop (y_move (v := .bool _) rfl) rfl rfl rfl ?_
    refine gop_if (want := false) rfl rfl rfl rfl rfl rfl (fun hg15 => ?_) (fun hg15 => ?_)
    · -- guard 15 on
      have hg15d := of_decide_eq_false hg15
      refine gop (y_bare (y_move (v := .slice _ _ _) rfl)) rfl rfl rfl ?_
      refine gop_on rfl rfl rfl rfl hg15 ?_
      refine gop (y_bare (y_len Try.underlying23 rfl)) rfl rfl rfl ?_
      refine gop_on rfl rfl rfl rfl hg15 ?_
      refine gop (y_bare (y_gtr rfl rfl)) rfl rfl rfl ?_
      refine gop (y_pick_f (v := .bool _) rfl hg15 rfl) rfl rfl rfl ?_
      refine gops_nil ?_
      refine hN6 _ _ ?_
      refine gfrom [(0, .slice _ _ _), (1, .slice _ _ _), (4, .pointer _), (19, .bool _)] ⟨rfl, rfl, rfl, rfl, trivial⟩ fun σ => ?_
      refine gcond (b := _) rfl (fun hc19 => ?_) (fun hc19 => ?_)
      · -- slot 19 t
        replace hc19 := of_decide_eq_true hc19
        refine gseq fun N7 hN7 => ?_
        refine greg ?_
        refine gop_pure (e_call (vs := [_, _]) Try.func14 rfl (by kernel_rfl) rfl) (fun w hM => fault_any w _ _) rfl rfl rfl ?_
        refine gop_store 0 (v := .agg #[_, _]) (cs' := #[_, _]) rfl rfl Try.sizeOf25 rfl rfl rfl rfl (Nat.le_of_ble_eq_true rfl) rfl rfl ?_
        refine gops_nil ?_
        refine hN7 _ _ ?_
        refine gT [box b4 _] rfl ?_
        refine gfrom [(4, .pointer _)] ⟨rfl, trivial⟩ fun σ => ?_
        refine gret fun w1 hM => ?_
        refine ⟨_, res1 rfl (rc 0 (cs := [_, _]) hM rfl rfl Try.isAgg25 Try.sizeOf25 rfl), ?_⟩
        exact ⟨by rw [Votes.validate, if_neg (by omega), if_pos (by omega)], hM.low⟩
      · -- slot 19 f
        replace hc19 := of_decide_eq_false hc19
        obtain ⟨adt, rfl, -, hct⟩ := ht.at_ (k := 0) (by omega)
        simp only [Nat.zero_mul, Nat.zero_add] at hct
        refine gskip ?_
        refine hN5 _ _ ?_
        refine gfrom [(0, .slice _ _ _), (1, .slice _ _ _), (4, .pointer _)] ⟨rfl, rfl, rfl, trivial⟩ fun σ => ?_
        refine gseq fun N8 hN8 => ?_
        refine gseq fun N9 hN9 => ?_
        refine greg ?_
        refine gop (y_move (v := .slice _ _ _) rfl) rfl rfl rfl ?_
        refine gop (y_indexAddr Try.underlying23 Try.sizeOf4 rfl rfl rfl (by omega) (by omega)) rfl rfl rfl ?_
        refine gop (y_load Try.isAgg4 rfl (cell_base (hct 0 _ rfl))) rfl rfl rfl ?_
        refine gops_nil ?_
        refine hN9 _ _ ?_
        refine gfrom [(0, .slice _ _ _), (1, .slice _ _ _), (4, .pointer _), (23, .bool _)] ⟨rfl, rfl, rfl, rfl, trivial⟩ fun σ => ?_
        refine gcond (b := _) rfl (fun hc23 => ?_) (fun hc23 => ?_)
        · -- slot 23 t
          refine gseq fun N10 hN10 => ?_
          refine greg ?_
          refine gop_pure (e_call (vs := [_, _]) Try.func14 rfl (by kernel_rfl) rfl) (fun w hM => fault_any w _ _) rfl rfl rfl ?_
          refine gop_store 0 (v := .agg #[_, _]) (cs' := #[_, _]) rfl rfl Try.sizeOf25 rfl rfl rfl rfl (Nat.le_of_ble_eq_true rfl) rfl rfl ?_
          refine gops_nil ?_
          refine hN10 _ _ ?_
          refine gT [box b4 _] rfl ?_
          refine gfrom [(4, .pointer _)] ⟨rfl, trivial⟩ fun σ => ?_
          refine gret fun w1 hM => ?_
          refine ⟨_, res1 rfl (rc 0 (cs := [_, _]) hM rfl rfl Try.isAgg25 Try.sizeOf25 rfl), ?_⟩
          exact ⟨by rw [Votes.validate, if_neg (by omega), if_neg (by omega), if_pos (by rw [← hc23]; simp [List.getD_eq_getElem?_getD, List.getElem?_eq_getElem (show 0 < tr.length by omega)])], hM.low⟩
        · -- slot 23 f
          have hfst : ¬ tr.getD 0 false = true := by rw [show tr.getD 0 false = tr[0] from by simp [List.getD_eq_getElem?_getD, List.getElem?_eq_getElem (show 0 < tr.length by omega)], hc23]; simp
          refine gskip ?_
          refine hN8 _ _ ?_
          refine gfrom [(0, .slice _ _ _), (1, .slice _ _ _), (4, .pointer _)] ⟨rfl, rfl, rfl, trivial⟩ fun σ => ?_
          refine gseq fun N11 hN11 => ?_
          refine greg ?_
          refine gop (y_assign (v := .int _ _) rfl) rfl rfl rfl ?_
          refine gops_nil ?_
          refine hN11 _ _ ?_
          refine gfrom [(0, .slice _ _ _), (1, .slice _ _ _), (4, .pointer _), (5, .int _ _)] ⟨rfl, rfl, rfl, rfl, trivial⟩ fun σ => ?_
          refine gseq fun N12 hN12 => ?_
          refine gseq fun N13 hN13 => ?_
          refine greg ?_
          refine gop (y_assign (v := .int _ _) rfl) rfl rfl rfl ?_
          refine gops_nil ?_
          refine hN13 _ _ ?_
          refine gfrom [(0, .slice _ _ _), (1, .slice _ _ _), (4, .pointer _), (5, .int _ _), (6, .int _ _)] ⟨rfl, rfl, rfl, rfl, rfl, trivial⟩ fun σ => ?_
          refine gblock ?_
          refine gfrom2 [(5, .int _ _), (6, .int _ _)] [(0, .slice _ _ _), (1, .slice _ _ _), (4, .pointer _)] ⟨rfl, rfl, trivial⟩ ⟨rfl, rfl, rfl, trivial⟩ fun σ => ?_
          refine gloop2 (G := Nat) (fun k => k ≤ l.length ∧ Votes.valGo tr.length 0 0 l = Votes.valGo tr.length k (Votes.prevRev l k) (l.drop k)) (fun k => l.length - k) (fun k => [(5, .int .i64 (Votes.prevRev l k)), (6, .int .i64 (k : Int))]) (fun k => []) (0) ?h0 ⟨rfl, rfl, trivial⟩ ⟨rfl, rfl, rfl, trivial⟩ rfl ?round
          case h0 => exact ⟨Nat.zero_le _, rfl⟩
          case round =>
            intro k hφ σ
            obtain ⟨hk, hgo⟩ := hφ
            refine gseq fun N14 hN14 => ?_
            refine gseq fun N15 hN15 => ?_
            refine greg ?_
            refine gop (y_move (v := .int _ _) rfl) rfl rfl rfl ?_
            refine gop (y_move (v := .slice _ _ _) rfl) rfl rfl rfl ?_
            refine gop (y_len Try.underlying22 rfl) rfl rfl rfl ?_
            refine gop (y_lss rfl rfl) rfl rfl rfl ?_
            refine gops_nil ?_
            refine hN15 _ _ ?_
            refine gfrom [(0, .slice _ _ _), (1, .slice _ _ _), (4, .pointer _), (5, .int _ _), (6, .int _ _), (28, .bool _)] ⟨rfl, rfl, rfl, rfl, rfl, rfl, trivial⟩ fun σ => ?_
            refine gcond (b := _) rfl (fun hc28 => ?_) (fun hc28 => ?_)
            · -- slot 28 t
              replace hc28 := of_decide_eq_true hc28
              have hk1 : k < l.length := by omega
              obtain ⟨ad, rfl, -, hcv⟩ := hv.at_ hk1
              have hst := Votes.valGo_step tr.length l k (Votes.prevRev l k) hk1
              refine gskip ?_
              refine hN14 _ _ ?_
              refine gfrom [(0, .slice _ _ _), (1, .slice _ _ _), (4, .pointer _), (5, .int _ _), (6, .int _ _)] ⟨rfl, rfl, rfl, rfl, rfl, trivial⟩ fun σ => ?_
              refine gseq fun N16 hN16 => ?_
              refine gblock ?_
              refine gseq fun N17 hN17 => ?_
              refine greg ?_
              refine gop (y_move (v := .slice _ _ _) rfl) rfl rfl rfl ?_
              refine gop (y_move (v := .int _ _) rfl) rfl rfl rfl ?_
              refine gop (y_indexAddr Try.underlying22 Try.sizeOf35 rfl rfl rfl (by omega) (by omega)) rfl rfl rfl ?_
              refine gop (y_loads (cs := [_, _, _]) Try.isAgg35 Try.sizeOf35 rfl rfl (cells_base hcv)) rfl rfl rfl ?_
              refine gop_alloc (cs := #[.int .i64 0, .int .i64 0, .int .i64 0]) Try.zeroValue35 rfl rfl (fun b7 hb7 => ?_)
              refine gop_store 1 (v := .agg #[_, _, _]) (cs' := #[_, _, _]) rfl rfl Try.sizeOf35 rfl rfl rfl rfl (Nat.le_of_ble_eq_true rfl) rfl rfl ?_
              refine gops_nil ?_
              refine hN17 _ _ ?_
              refine gT [box b4 _, box b7 _] rfl ?_
              refine gfrom [(0, .slice _ _ _), (1, .slice _ _ _), (4, .pointer _), (5, .int _ _), (6, .int _ _), (7, .pointer _)] ⟨rfl, rfl, rfl, rfl, rfl, rfl, trivial⟩ fun σ => ?_
              refine gseq fun N18 hN18 => ?_
              refine gseq fun N19 hN19 => ?_
              refine greg ?_
              refine gop (y_fieldAddr_box fa35_0 rfl) rfl rfl rfl ?_
              refine gop (y_load Try.isAgg3 rfl (cell_box 1 rfl rfl)) rfl rfl rfl ?_
              refine gop (y_lss rfl rfl) rfl rfl rfl ?_
              refine gop (y_move (v := .bool _) rfl) rfl rfl rfl ?_
              refine gop_if (want := false) rfl rfl rfl rfl rfl rfl (fun hg38 => ?_) (fun hg38 => ?_)
              · -- guard 38 on
                have hg38d := of_decide_eq_false hg38
                refine gop (y_bare (y_fieldAddr_box fa35_0 rfl)) rfl rfl rfl ?_
                refine gop_on rfl rfl rfl rfl hg38 ?_
                refine gop (y_bare (y_load Try.isAgg3 rfl (cell_box 1 rfl rfl))) rfl rfl rfl ?_
                refine gop_on rfl rfl rfl rfl hg38 ?_
                refine gop (y_bare (y_gtr rfl rfl)) rfl rfl rfl ?_
                refine gop (y_pick_f (v := .bool _) rfl hg38 rfl) rfl rfl rfl ?_
                refine gop (y_move (v := .bool _) rfl) rfl rfl rfl ?_
                refine gop_if (want := false) rfl rfl rfl rfl rfl rfl (fun hg43 => ?_) (fun hg43 => ?_)
                · -- guard 43 on
                  have hg43d := of_decide_eq_false hg43
                  refine gop (y_bare (y_fieldAddr_box fa35_1 rfl)) rfl rfl rfl ?_
                  refine gop_on rfl rfl rfl rfl hg43 ?_
                  refine gop (y_bare (y_load Try.isAgg3 rfl (cell_box 1 rfl rfl))) rfl rfl rfl ?_
                  refine gop_on rfl rfl rfl rfl hg43 ?_
                  refine gop (y_bare (y_lss rfl rfl)) rfl rfl rfl ?_
                  refine gop (y_pick_f (v := .bool _) rfl hg43 rfl) rfl rfl rfl ?_
                  refine gop (y_move (v := .bool _) rfl) rfl rfl rfl ?_
                  refine gop_if (want := false) rfl rfl rfl rfl rfl rfl (fun hg48 => ?_) (fun hg48 => ?_)
                  · -- guard 48 on
                    have hg48d := of_decide_eq_false hg48
                    refine gop (y_bare (y_fieldAddr_box fa35_1 rfl)) rfl rfl rfl ?_
                    refine gop_on rfl rfl rfl rfl hg48 ?_
                    refine gop (y_bare (y_load Try.isAgg3 rfl (cell_box 1 rfl rfl))) rfl rfl rfl ?_
                    refine gop_on rfl rfl rfl rfl hg48 ?_
                    refine gop (y_bare (y_move (v := .slice _ _ _) rfl)) rfl rfl rfl ?_
                    refine gop_on rfl rfl rfl rfl hg48 ?_
                    refine gop (y_bare (y_len Try.underlying23 rfl)) rfl rfl rfl ?_
                    refine gop_on rfl rfl rfl rfl hg48 ?_
                    refine gop (y_bare (y_geq rfl rfl)) rfl rfl rfl ?_
                    refine gop (y_pick_f (v := .bool _) rfl hg48 rfl) rfl rfl rfl ?_
                    refine gop (y_move (v := .bool _) rfl) rfl rfl rfl ?_
                    refine gop_if (want := false) rfl rfl rfl rfl rfl rfl (fun hg55 => ?_) (fun hg55 => ?_)
                    · -- guard 55 on
                      have hg55d := of_decide_eq_false hg55
                      refine gop (y_bare (y_fieldAddr_box fa35_2 rfl)) rfl rfl rfl ?_
                      refine gop_on rfl rfl rfl rfl hg55 ?_
                      refine gop (y_bare (y_load Try.isAgg3 rfl (cell_box 1 rfl rfl))) rfl rfl rfl ?_
                      refine gop_on rfl rfl rfl rfl hg55 ?_
                      refine gop (y_bare (y_lss rfl rfl)) rfl rfl rfl ?_
                      refine gop (y_pick_f (v := .bool _) rfl hg55 rfl) rfl rfl rfl ?_
                      refine gop (y_move (v := .bool _) rfl) rfl rfl rfl ?_
                      refine gop_if (want := false) rfl rfl rfl rfl rfl rfl (fun hg60 => ?_) (fun hg60 => ?_)
                      · -- guard 60 on
                        have hg60d := of_decide_eq_false hg60
                        refine gop (y_bare (y_fieldAddr_box fa35_2 rfl)) rfl rfl rfl ?_
                        refine gop_on rfl rfl rfl rfl hg60 ?_
                        refine gop (y_bare (y_load Try.isAgg3 rfl (cell_box 1 rfl rfl))) rfl rfl rfl ?_
                        refine gop_on rfl rfl rfl rfl hg60 ?_
                        refine gop (y_bare (y_gtr rfl rfl)) rfl rfl rfl ?_
                        refine gop (y_pick_f (v := .bool _) rfl hg60 rfl) rfl rfl rfl ?_
                        refine gops_nil ?_
                        refine hN19 _ _ ?_
                        refine gfrom [(0, .slice _ _ _), (1, .slice _ _ _), (4, .pointer _), (5, .int _ _), (6, .int _ _), (7, .pointer _), (64, .bool _)] ⟨rfl, rfl, rfl, rfl, rfl, rfl, rfl, trivial⟩ fun σ => ?_
                        refine gcond (b := _) rfl (fun hc64 => ?_) (fun hc64 => ?_)
                        · -- slot 64 t
                          replace hc64 := of_decide_eq_true hc64
                          refine gseq fun N20 hN20 => ?_
                          refine greg ?_
                          refine gop (y_move (v := .int _ _) rfl) rfl rfl rfl ?_
                          refine gop_pure (e_call (vs := [_, .int _ _]) Try.func14 rfl (by kernel_rfl) rfl) (fun w hM => fault_any w _ _) rfl rfl rfl ?_
                          refine gop_store 0 (v := .agg #[_, _]) (cs' := #[_, _]) rfl rfl Try.sizeOf25 rfl rfl rfl rfl (Nat.le_of_ble_eq_true rfl) rfl rfl ?_
                          refine gops_nil ?_
                          refine hN20 _ _ ?_
                          refine gT [box b4 _, box b7 _] rfl ?_
                          refine gfrom [(4, .pointer _)] ⟨rfl, trivial⟩ fun σ => ?_
                          refine gret fun w1 hM => ?_
                          refine ⟨_, res1 rfl (rc 0 (cs := [_, _]) hM rfl rfl Try.isAgg25 Try.sizeOf25 rfl), ?_⟩
                          exact ⟨by rw [Votes.validate, if_neg (by omega), if_neg (by omega), if_neg hfst, hgo, hst, if_pos (by unfold Votes.Bad; omega)], hM.low⟩
                        · -- slot 64 f
                          replace hc64 := of_decide_eq_false hc64
                          have hbad : ¬ Votes.Bad tr.length l[k] := by unfold Votes.Bad; omega
                          refine gskip ?_
                          refine hN18 _ _ ?_
                          refine gfrom [(0, .slice _ _ _), (1, .slice _ _ _), (4, .pointer _), (5, .int _ _), (6, .int _ _), (7, .pointer _)] ⟨rfl, rfl, rfl, rfl, rfl, rfl, trivial⟩ fun σ => ?_
                          refine gseq fun N21 hN21 => ?_
                          refine gseq fun N22 hN22 => ?_
                          refine greg ?_
                          refine gop (y_fieldAddr_box fa35_1 rfl) rfl rfl rfl ?_
                          refine gop (y_load Try.isAgg3 rfl (cell_box 1 rfl rfl)) rfl rfl rfl ?_
                          refine gop (y_move (v := .int _ _) rfl) rfl rfl rfl ?_
                          refine gop (y_lss rfl rfl) rfl rfl rfl ?_
                          refine gops_nil ?_
                          refine hN22 _ _ ?_
                          refine gfrom [(0, .slice _ _ _), (1, .slice _ _ _), (4, .pointer _), (6, .int _ _), (7, .pointer _), (70, .bool _)] ⟨rfl, rfl, rfl, rfl, rfl, rfl, trivial⟩ fun σ => ?_
                          refine gcond (b := _) rfl (fun hc70 => ?_) (fun hc70 => ?_)
                          · -- slot 70 t
                            replace hc70 := of_decide_eq_true hc70
                            refine gseq fun N23 hN23 => ?_
                            refine greg ?_
                            refine gop (y_move (v := .int _ _) rfl) rfl rfl rfl ?_
                            refine gop_pure (e_call (vs := [_, .int _ _]) Try.func14 rfl (by kernel_rfl) rfl) (fun w hM => fault_any w _ _) rfl rfl rfl ?_
                            refine gop_store 0 (v := .agg #[_, _]) (cs' := #[_, _]) rfl rfl Try.sizeOf25 rfl rfl rfl rfl (Nat.le_of_ble_eq_true rfl) rfl rfl ?_
                            refine gops_nil ?_
                            refine hN23 _ _ ?_
                            refine gT [box b4 _, box b7 _] rfl ?_
                            refine gfrom [(4, .pointer _)] ⟨rfl, trivial⟩ fun σ => ?_
                            refine gret fun w1 hM => ?_
                            refine ⟨_, res1 rfl (rc 0 (cs := [_, _]) hM rfl rfl Try.isAgg25 Try.sizeOf25 rfl), ?_⟩
                            exact ⟨by rw [Votes.validate, if_neg (by omega), if_neg (by omega), if_neg hfst, hgo, hst, if_neg hbad, if_pos (by omega)], hM.low⟩
                          · -- slot 70 f
                            replace hc70 := of_decide_eq_false hc70
                            refine gskip ?_
                            refine hN21 _ _ ?_
                            refine gfrom [(0, .slice _ _ _), (1, .slice _ _ _), (4, .pointer _), (6, .int _ _), (7, .pointer _)] ⟨rfl, rfl, rfl, rfl, rfl, trivial⟩ fun σ => ?_
                            refine greg ?_
                            refine gop (y_fieldAddr_box fa35_1 rfl) rfl rfl rfl ?_
                            refine gop (y_load Try.isAgg3 rfl (cell_box 1 rfl rfl)) rfl rfl rfl ?_
                            refine gop (y_assign (v := .int _ _) rfl) rfl rfl rfl ?_
                            refine gops_nil ?_
                            refine hN16 _ _ ?_
                            refine gfrom [(0, .slice _ _ _), (1, .slice _ _ _), (4, .pointer _), (5, .int _ _), (6, .int _ _)] ⟨rfl, rfl, rfl, rfl, rfl, trivial⟩ fun σ => ?_
                            refine greg ?_
                            refine gop (y_move (v := .int _ _) rfl) rfl rfl rfl ?_
                            refine gop (y_add rfl rfl ⟨by omega, by omega⟩) rfl rfl rfl ?_
                            refine gop (y_assign (v := .int _ _) rfl) rfl rfl rfl ?_
                            refine gops_nil ?_
                            refine gnext2 (k + 1) (by omega) (⟨by omega, by rw [hgo, hst, if_neg hbad, if_neg (by omega), Votes.prevRev_succ l k hk1]⟩) ⟨by rw [Votes.prevRev_succ l k hk1]; rfl, rfl, trivial⟩ ⟨rfl, rfl, rfl, trivial⟩ ⟨_, rfl⟩
                      · -- guard 60 off
                        have hg60d := of_decide_eq_true hg60
                        refine gop_off rfl rfl rfl rfl hg60 rfl rfl ?_
                        refine gop_off rfl rfl rfl rfl hg60 rfl rfl ?_
                        refine gop (y_pick_t (v := .bool _) rfl hg60 rfl) rfl rfl rfl ?_
                        refine gops_nil ?_
                        refine hN19 _ _ ?_
                        refine gfrom [(0, .slice _ _ _), (1, .slice _ _ _), (4, .pointer _), (5, .int _ _), (6, .int _ _), (7, .pointer _), (64, .bool _)] ⟨rfl, rfl, rfl, rfl, rfl, rfl, rfl, trivial⟩ fun σ => ?_
                        refine gcond (b := _) rfl (fun hc64 => ?_) (fun hc64 => ?_)
                        · -- slot 64 t
                          refine gseq fun N24 hN24 => ?_
                          refine greg ?_
                          refine gop (y_move (v := .int _ _) rfl) rfl rfl rfl ?_
                          refine gop_pure (e_call (vs := [_, .int _ _]) Try.func14 rfl (by kernel_rfl) rfl) (fun w hM => fault_any w _ _) rfl rfl rfl ?_
                          refine gop_store 0 (v := .agg #[_, _]) (cs' := #[_, _]) rfl rfl Try.sizeOf25 rfl rfl rfl rfl (Nat.le_of_ble_eq_true rfl) rfl rfl ?_
                          refine gops_nil ?_
                          refine hN24 _ _ ?_
                          refine gT [box b4 _, box b7 _] rfl ?_
                          refine gfrom [(4, .pointer _)] ⟨rfl, trivial⟩ fun σ => ?_
                          refine gret fun w1 hM => ?_
                          refine ⟨_, res1 rfl (rc 0 (cs := [_, _]) hM rfl rfl Try.isAgg25 Try.sizeOf25 rfl), ?_⟩
                          exact ⟨by rw [Votes.validate, if_neg (by omega), if_neg (by omega), if_neg hfst, hgo, hst, if_pos (by unfold Votes.Bad; omega)], hM.low⟩
                        · -- slot 64 f
                          cases hc64
                    · -- guard 55 off
                      have hg55d := of_decide_eq_true hg55
                      refine gop_off rfl rfl rfl rfl hg55 rfl rfl ?_
                      refine gop_off rfl rfl rfl rfl hg55 rfl rfl ?_
                      refine gop (y_pick_t (v := .bool _) rfl hg55 rfl) rfl rfl rfl ?_
                      refine gop (y_move (v := .bool _) rfl) rfl rfl rfl ?_
                      refine gop_off rfl rfl rfl rfl rfl rfl rfl ?_
                      refine gop_off rfl rfl rfl rfl rfl rfl rfl ?_
                      refine gop_off rfl rfl rfl rfl rfl rfl rfl ?_
                      refine gop (y_pick_t (v := .bool _) rfl rfl rfl) rfl rfl rfl ?_
                      refine gops_nil ?_
                      refine hN19 _ _ ?_
                      refine gfrom [(0, .slice _ _ _), (1, .slice _ _ _), (4, .pointer _), (5, .int _ _), (6, .int _ _), (7, .pointer _), (64, .bool _)] ⟨rfl, rfl, rfl, rfl, rfl, rfl, rfl, trivial⟩ fun σ => ?_
                      refine gcond (b := _) rfl (fun hc64 => ?_) (fun hc64 => ?_)
                      · -- slot 64 t
                        refine gseq fun N25 hN25 => ?_
                        refine greg ?_
                        refine gop (y_move (v := .int _ _) rfl) rfl rfl rfl ?_
                        refine gop_pure (e_call (vs := [_, .int _ _]) Try.func14 rfl (by kernel_rfl) rfl) (fun w hM => fault_any w _ _) rfl rfl rfl ?_
                        refine gop_store 0 (v := .agg #[_, _]) (cs' := #[_, _]) rfl rfl Try.sizeOf25 rfl rfl rfl rfl (Nat.le_of_ble_eq_true rfl) rfl rfl ?_
                        refine gops_nil ?_
                        refine hN25 _ _ ?_
                        refine gT [box b4 _, box b7 _] rfl ?_
                        refine gfrom [(4, .pointer _)] ⟨rfl, trivial⟩ fun σ => ?_
                        refine gret fun w1 hM => ?_
                        refine ⟨_, res1 rfl (rc 0 (cs := [_, _]) hM rfl rfl Try.isAgg25 Try.sizeOf25 rfl), ?_⟩
                        exact ⟨by rw [Votes.validate, if_neg (by omega), if_neg (by omega), if_neg hfst, hgo, hst, if_pos (by unfold Votes.Bad; omega)], hM.low⟩
                      · -- slot 64 f
                        cases hc64
                  · -- guard 48 off
                    have hg48d := of_decide_eq_true hg48
                    refine gop_off rfl rfl rfl rfl hg48 rfl rfl ?_
                    refine gop_off rfl rfl rfl rfl hg48 rfl rfl ?_
                    refine gop_off rfl rfl rfl rfl hg48 rfl rfl ?_
                    refine gop_off rfl rfl rfl rfl hg48 rfl rfl ?_
                    refine gop (y_pick_t (v := .bool _) rfl hg48 rfl) rfl rfl rfl ?_
                    refine gop (y_move (v := .bool _) rfl) rfl rfl rfl ?_
                    refine gop_off rfl rfl rfl rfl rfl rfl rfl ?_
                    refine gop_off rfl rfl rfl rfl rfl rfl rfl ?_
                    refine gop_off rfl rfl rfl rfl rfl rfl rfl ?_
                    refine gop (y_pick_t (v := .bool _) rfl rfl rfl) rfl rfl rfl ?_
                    refine gop (y_move (v := .bool _) rfl) rfl rfl rfl ?_
                    refine gop_off rfl rfl rfl rfl rfl rfl rfl ?_
                    refine gop_off rfl rfl rfl rfl rfl rfl rfl ?_
                    refine gop_off rfl rfl rfl rfl rfl rfl rfl ?_
                    refine gop (y_pick_t (v := .bool _) rfl rfl rfl) rfl rfl rfl ?_
                    refine gops_nil ?_
                    refine hN19 _ _ ?_
                    refine gfrom [(0, .slice _ _ _), (1, .slice _ _ _), (4, .pointer _), (5, .int _ _), (6, .int _ _), (7, .pointer _), (64, .bool _)] ⟨rfl, rfl, rfl, rfl, rfl, rfl, rfl, trivial⟩ fun σ => ?_
                    refine gcond (b := _) rfl (fun hc64 => ?_) (fun hc64 => ?_)
                    · -- slot 64 t
                      refine gseq fun N26 hN26 => ?_
                      refine greg ?_
                      refine gop (y_move (v := .int _ _) rfl) rfl rfl rfl ?_
                      refine gop_pure (e_call (vs := [_, .int _ _]) Try.func14 rfl (by kernel_rfl) rfl) (fun w hM => fault_any w _ _) rfl rfl rfl ?_
                      refine gop_store 0 (v := .agg #[_, _]) (cs' := #[_, _]) rfl rfl Try.sizeOf25 rfl rfl rfl rfl (Nat.le_of_ble_eq_true rfl) rfl rfl ?_
                      refine gops_nil ?_
                      refine hN26 _ _ ?_
                      refine gT [box b4 _, box b7 _] rfl ?_
                      refine gfrom [(4, .pointer _)] ⟨rfl, trivial⟩ fun σ => ?_
                      refine gret fun w1 hM => ?_
                      refine ⟨_, res1 rfl (rc 0 (cs := [_, _]) hM rfl rfl Try.isAgg25 Try.sizeOf25 rfl), ?_⟩
                      exact ⟨by rw [Votes.validate, if_neg (by omega), if_neg (by omega), if_neg hfst, hgo, hst, if_pos (by unfold Votes.Bad; omega)], hM.low⟩
                    · -- slot 64 f
                      cases hc64
                · -- guard 43 off
                  have hg43d := of_decide_eq_true hg43
                  refine gop_off rfl rfl rfl rfl hg43 rfl rfl ?_
                  refine gop_off rfl rfl rfl rfl hg43 rfl rfl ?_
                  refine gop (y_pick_t (v := .bool _) rfl hg43 rfl) rfl rfl rfl ?_
                  refine gop (y_move (v := .bool _) rfl) rfl rfl rfl ?_
                  refine gop_off rfl rfl rfl rfl rfl rfl rfl ?_
                  refine gop_off rfl rfl rfl rfl rfl rfl rfl ?_
                  refine gop_off rfl rfl rfl rfl rfl rfl rfl ?_
                  refine gop_off rfl rfl rfl rfl rfl rfl rfl ?_
                  refine gop_off rfl rfl rfl rfl rfl rfl rfl ?_
                  refine gop (y_pick_t (v := .bool _) rfl rfl rfl) rfl rfl rfl ?_
                  refine gop (y_move (v := .bool _) rfl) rfl rfl rfl ?_
                  refine gop_off rfl rfl rfl rfl rfl rfl rfl ?_
                  refine gop_off rfl rfl rfl rfl rfl rfl rfl ?_
                  refine gop_off rfl rfl rfl rfl rfl rfl rfl ?_
                  refine gop (y_pick_t (v := .bool _) rfl rfl rfl) rfl rfl rfl ?_
                  refine gop (y_move (v := .bool _) rfl) rfl rfl rfl ?_
                  refine gop_off rfl rfl rfl rfl rfl rfl rfl ?_
                  refine gop_off rfl rfl rfl rfl rfl rfl rfl ?_
                  refine gop_off rfl rfl rfl rfl rfl rfl rfl ?_
                  refine gop (y_pick_t (v := .bool _) rfl rfl rfl) rfl rfl rfl ?_
                  refine gops_nil ?_
                  refine hN19 _ _ ?_
                  refine gfrom [(0, .slice _ _ _), (1, .slice _ _ _), (4, .pointer _), (5, .int _ _), (6, .int _ _), (7, .pointer _), (64, .bool _)] ⟨rfl, rfl, rfl, rfl, rfl, rfl, rfl, trivial⟩ fun σ => ?_
                  refine gcond (b := _) rfl (fun hc64 => ?_) (fun hc64 => ?_)
                  · -- slot 64 t
                    refine gseq fun N27 hN27 => ?_
                    refine greg ?_
                    refine gop (y_move (v := .int _ _) rfl) rfl rfl rfl ?_
                    refine gop_pure (e_call (vs := [_, .int _ _]) Try.func14 rfl (by kernel_rfl) rfl) (fun w hM => fault_any w _ _) rfl rfl rfl ?_
                    refine gop_store 0 (v := .agg #[_, _]) (cs' := #[_, _]) rfl rfl Try.sizeOf25 rfl rfl rfl rfl (Nat.le_of_ble_eq_true rfl) rfl rfl ?_
                    refine gops_nil ?_
                    refine hN27 _ _ ?_
                    refine gT [box b4 _, box b7 _] rfl ?_
                    refine gfrom [(4, .pointer _)] ⟨rfl, trivial⟩ fun σ => ?_
                    refine gret fun w1 hM => ?_
                    refine ⟨_, res1 rfl (rc 0 (cs := [_, _]) hM rfl rfl Try.isAgg25 Try.sizeOf25 rfl), ?_⟩
                    exact ⟨by rw [Votes.validate, if_neg (by omega), if_neg (by omega), if_neg hfst, hgo, hst, if_pos (by unfold Votes.Bad; omega)], hM.low⟩
                  · -- slot 64 f
                    cases hc64
              · -- guard 38 off
                have hg38d := of_decide_eq_true hg38
                refine gop_off rfl rfl rfl rfl hg38 rfl rfl ?_
                refine gop_off rfl rfl rfl rfl hg38 rfl rfl ?_
                refine gop (y_pick_t (v := .bool _) rfl hg38 rfl) rfl rfl rfl ?_
                refine gop (y_move (v := .bool _) rfl) rfl rfl rfl ?_
                refine gop_off rfl rfl rfl rfl rfl rfl rfl ?_
                refine gop_off rfl rfl rfl rfl rfl rfl rfl ?_
                refine gop_off rfl rfl rfl rfl rfl rfl rfl ?_
                refine gop (y_pick_t (v := .bool _) rfl rfl rfl) rfl rfl rfl ?_
                refine gop (y_move (v := .bool _) rfl) rfl rfl rfl ?_
                refine gop_off rfl rfl rfl rfl rfl rfl rfl ?_
                refine gop_off rfl rfl rfl rfl rfl rfl rfl ?_
                refine gop_off rfl rfl rfl rfl rfl rfl rfl ?_
                refine gop_off rfl rfl rfl rfl rfl rfl rfl ?_
                refine gop_off rfl rfl rfl rfl rfl rfl rfl ?_
                refine gop (y_pick_t (v := .bool _) rfl rfl rfl) rfl rfl rfl ?_
                refine gop (y_move (v := .bool _) rfl) rfl rfl rfl ?_
                refine gop_off rfl rfl rfl rfl rfl rfl rfl ?_
                refine gop_off rfl rfl rfl rfl rfl rfl rfl ?_
                refine gop_off rfl rfl rfl rfl rfl rfl rfl ?_
                refine gop (y_pick_t (v := .bool _) rfl rfl rfl) rfl rfl rfl ?_
                refine gop (y_move (v := .bool _) rfl) rfl rfl rfl ?_
                refine gop_off rfl rfl rfl rfl rfl rfl rfl ?_
                refine gop_off rfl rfl rfl rfl rfl rfl rfl ?_
                refine gop_off rfl rfl rfl rfl rfl rfl rfl ?_
                refine gop (y_pick_t (v := .bool _) rfl rfl rfl) rfl rfl rfl ?_
                refine gops_nil ?_
                refine hN19 _ _ ?_
                refine gfrom [(0, .slice _ _ _), (1, .slice _ _ _), (4, .pointer _), (5, .int _ _), (6, .int _ _), (7, .pointer _), (64, .bool _)] ⟨rfl, rfl, rfl, rfl, rfl, rfl, rfl, trivial⟩ fun σ => ?_
                refine gcond (b := _) rfl (fun hc64 => ?_) (fun hc64 => ?_)
                · -- slot 64 t
                  refine gseq fun N28 hN28 => ?_
                  refine greg ?_
                  refine gop (y_move (v := .int _ _) rfl) rfl rfl rfl ?_
                  refine gop_pure (e_call (vs := [_, .int _ _]) Try.func14 rfl (by kernel_rfl) rfl) (fun w hM => fault_any w _ _) rfl rfl rfl ?_
                  refine gop_store 0 (v := .agg #[_, _]) (cs' := #[_, _]) rfl rfl Try.sizeOf25 rfl rfl rfl rfl (Nat.le_of_ble_eq_true rfl) rfl rfl ?_
                  refine gops_nil ?_
                  refine hN28 _ _ ?_
                  refine gT [box b4 _, box b7 _] rfl ?_
                  refine gfrom [(4, .pointer _)] ⟨rfl, trivial⟩ fun σ => ?_
                  refine gret fun w1 hM => ?_
                  refine ⟨_, res1 rfl (rc 0 (cs := [_, _]) hM rfl rfl Try.isAgg25 Try.sizeOf25 rfl), ?_⟩
                  exact ⟨by rw [Votes.validate, if_neg (by omega), if_neg (by omega), if_neg hfst, hgo, hst, if_pos (by unfold Votes.Bad; omega)], hM.low⟩
                · -- slot 64 f
                  cases hc64
            · -- slot 28 f
              replace hc28 := of_decide_eq_false hc28
              refine gexit ?_
              refine hN12 _ _ ?_
              refine gfrom [(4, .pointer _)] ⟨rfl, trivial⟩ fun σ => ?_
              refine gseq fun N29 hN29 => ?_
              refine greg ?_
              refine gop_pure (e_call (vs := [_, _]) Try.func14 rfl (by kernel_rfl) rfl) (fun w hM => fault_any w _ _) rfl rfl rfl ?_
              refine gop_store 0 (v := .agg #[_, _]) (cs' := #[_, _]) rfl rfl Try.sizeOf25 rfl rfl rfl rfl (Nat.le_of_ble_eq_true rfl) rfl rfl ?_
              refine gops_nil ?_
              refine hN29 _ _ ?_
              refine gT [box b4 _] rfl ?_
              refine gfrom [(4, .pointer _)] ⟨rfl, trivial⟩ fun σ => ?_
              refine gret fun w1 hM => ?_
              refine ⟨_, res1 rfl (rc 0 (cs := [_, _]) hM rfl rfl Try.isAgg25 Try.sizeOf25 rfl), ?_⟩
              exact ⟨by rw [Votes.validate, if_neg (by omega), if_neg (by omega), if_neg hfst, hgo, List.drop_of_length_le (by omega)]; rfl, hM.low⟩
    · -- guard 15 off
      have hg15d := of_decide_eq_true hg15
      refine gop_off rfl rfl rfl rfl hg15 rfl rfl ?_
      refine gop_off rfl rfl rfl rfl hg15 rfl rfl ?_
      refine gop (y_pick_t (v := .bool _) rfl hg15 rfl) rfl rfl rfl ?_
      refine gops_nil ?_
      refine hN6 _ _ ?_
      refine gfrom [(0, .slice _ _ _), (1, .slice _ _ _), (4, .pointer _), (19, .bool _)] ⟨rfl, rfl, rfl, rfl, trivial⟩ fun σ => ?_
      refine gcond (b := _) rfl (fun hc19 => ?_) (fun hc19 => ?_)
      · -- slot 19 t
        refine gseq fun N30 hN30 => ?_
        refine greg ?_
        refine gop_pure (e_call (vs := [_, _]) Try.func14 rfl (by kernel_rfl) rfl) (fun w hM => fault_any w _ _) rfl rfl rfl ?_
        refine gop_store 0 (v := .agg #[_, _]) (cs' := #[_, _]) rfl rfl Try.sizeOf25 rfl rfl rfl rfl (Nat.le_of_ble_eq_true rfl) rfl rfl ?_
        refine gops_nil ?_
        refine hN30 _ _ ?_
        refine gT [box b4 _] rfl ?_
        refine gfrom [(4, .pointer _)] ⟨rfl, trivial⟩ fun σ => ?_
        refine gret fun w1 hM => ?_
        refine ⟨_, res1 rfl (rc 0 (cs := [_, _]) hM rfl rfl Try.isAgg25 Try.sizeOf25 rfl), ?_⟩
        exact ⟨by rw [Votes.validate, if_neg (by omega), if_pos (by omega)], hM.low⟩
      · -- slot 19 f
        cases hc19

set_option maxHeartbeats 1000000 in
theorem counts_any (w : World) (v : Vote) (B : Option Addr) (c2 : Nat) (tr : List Bool) (at_ : Nat) (ht : Rdl w 0 1 boolCells B tr) (hr : 0 ≤ v.rev) (hr2 : v.rev ≤ 9000) (hat : at_ < tr.length) (hl : tr.length ≤ 12) :
    Calls Try.prog 16 #[.agg (voteCells v).toArray, .slice B tr.length c2, .int .i64 at_] w fun e w' => e = .returned (.bool (Votes.counts tr at_ v)) ∧ Below w.heap.size w w' := by
  refine gcalls Try.func16 rfl Try.ntmps16 (Nat.le_of_ble_eq_true rfl) ?_
  refine gfrom [(0, .agg #[_, _, _]), (1, .slice _ _ _), (2, .int _ _)] ⟨rfl, rfl, rfl, trivial⟩ fun σ => ?_
  refine gseq fun N1 hN1 => ?_
  refine greg ?_
  refine gop_box (v := .agg #[_, _, _]) (cs := #[_, _, _]) rfl rfl rfl (fun b3 hb3 => ?_)
  refine gop (y_assign (v := .bool _) rfl) rfl rfl rfl ?_
  refine gops_nil ?_
  refine hN1 _ _ ?_
  refine gT [box b3 _] rfl ?_
  refine gfrom [(1, .slice _ _ _), (2, .int _ _), (3, .pointer _)] ⟨rfl, rfl, rfl, trivial⟩ fun σ => ?_
  refine gseq fun N2 hN2 => ?_
  refine gseq fun N3 hN3 => ?_
  refine greg ?_
  refine gop (y_fieldAddr_box fa35_2 rfl) rfl rfl rfl ?_
  refine gop (y_load Try.isAgg3 rfl (cell_box 0 rfl rfl)) rfl rfl rfl ?_
  refine gop (y_eql rfl rfl) rfl rfl rfl ?_
  refine gops_nil ?_
  refine hN3 _ _ ?_
  refine gfrom [(1, .slice _ _ _), (2, .int _ _), (3, .pointer _), (10, .bool _)] ⟨rfl, rfl, rfl, rfl, trivial⟩ fun σ => ?_
  refine gcond (b := _) rfl (fun hc10 => ?_) (fun hc10 => ?_)
  · -- slot 10 t
    replace hc10 := of_decide_eq_true hc10
    refine gseq fun N4 hN4 => ?_
    refine greg ?_
    refine gop (y_assign (v := .bool _) rfl) rfl rfl rfl ?_
    refine gops_nil ?_
    refine hN4 _ _ ?_
    refine gfrom [(6, .bool _)] ⟨rfl, trivial⟩ fun σ => ?_
    refine gret fun w1 hM => ?_
    refine ⟨_, res1 rfl (rt (v := .bool _) rfl), ?_⟩
    exact ⟨by rw [Votes.counts, decide_eq_true hc10]; rfl, hM.low⟩
  · -- slot 10 f
    replace hc10 := of_decide_eq_false hc10
    refine gskip ?_
    refine hN2 _ _ ?_
    refine gfrom [(1, .slice _ _ _), (2, .int _ _), (3, .pointer _)] ⟨rfl, rfl, rfl, trivial⟩ fun σ => ?_
    refine gseq fun N5 hN5 => ?_
    refine gseq fun N6 hN6 => ?_
    refine greg ?_
    refine gop (y_fieldAddr_box fa35_1 rfl) rfl rfl rfl ?_
    refine gop (y_load Try.isAgg3 rfl (cell_box 0 rfl rfl)) rfl rfl rfl ?_
    refine gop (y_add rfl rfl ⟨by omega, by omega⟩) rfl rfl rfl ?_
    refine gop (y_assign (v := .int _ _) rfl) rfl rfl rfl ?_
    refine gops_nil ?_
    refine hN6 _ _ ?_
    refine gfrom [(1, .slice _ _ _), (2, .int _ _), (7, .int _ _)] ⟨rfl, rfl, rfl, trivial⟩ fun σ => ?_
    refine gblock ?_
    refine gfrom2 [(7, .int _ _)] [(1, .slice _ _ _), (2, .int _ _)] ⟨rfl, trivial⟩ ⟨rfl, rfl, trivial⟩ fun σ => ?_
    refine gloop2 (G := Nat) (fun k => (((tr.drop (v.rev.toNat + 1)).take (at_ - v.rev.toNat)).take k).all id = true ∧ k ≤ at_ + 1) (fun k => at_ + 1 - k) (fun k => [(7, .int .i64 (v.rev + 1 + (k : Int)))]) (fun k => []) (0) ?h0 ⟨by simp; rfl, trivial⟩ ⟨rfl, rfl, trivial⟩ rfl ?round
    case h0 => exact ⟨by simp, by omega⟩
    case round =>
      intro k hφ σ
      obtain ⟨hall, hk⟩ := hφ
      refine gseq fun N7 hN7 => ?_
      refine gseq fun N8 hN8 => ?_
      refine greg ?_
      refine gop (y_move (v := .int _ _) rfl) rfl rfl rfl ?_
      refine gop (y_move (v := .int _ _) rfl) rfl rfl rfl ?_
      refine gop (y_leq rfl rfl) rfl rfl rfl ?_
      refine gops_nil ?_
      refine hN8 _ _ ?_
      refine gfrom [(1, .slice _ _ _), (2, .int _ _), (7, .int _ _), (16, .bool _)] ⟨rfl, rfl, rfl, rfl, trivial⟩ fun σ => ?_
      refine gcond (b := _) rfl (fun hc16 => ?_) (fun hc16 => ?_)
      · -- slot 16 t
        replace hc16 := of_decide_eq_true hc16
        obtain ⟨adt, rfl, -, hct⟩ := ht.at_ (k := v.rev.toNat + 1 + k) (by omega)
        have hsub : k < ((tr.drop (v.rev.toNat + 1)).take (at_ - v.rev.toNat)).length := by simp; omega
        have hget : ((tr.drop (v.rev.toNat + 1)).take (at_ - v.rev.toNat))[k] = tr[v.rev.toNat + 1 + k] := by simp
        refine gskip ?_
        refine hN7 _ _ ?_
        refine gfrom [(1, .slice _ _ _), (2, .int _ _), (7, .int _ _)] ⟨rfl, rfl, rfl, trivial⟩ fun σ => ?_
        refine gseq fun N9 hN9 => ?_
        refine gblock ?_
        refine gseq fun N10 hN10 => ?_
        refine greg ?_
        refine gop (y_move (v := .slice _ _ _) rfl) rfl rfl rfl ?_
        refine gop (y_move (v := .int _ _) rfl) rfl rfl rfl ?_
        refine gop (y_indexAddr (m := v.rev.toNat + 1 + k) Try.underlying23 Try.sizeOf4 rfl rfl (by omega) (by omega) (by omega)) rfl rfl rfl ?_
        refine gop (y_load Try.isAgg4 rfl (cell_base (hct 0 _ rfl))) rfl rfl rfl ?_
        refine gop (y_not rfl) rfl rfl rfl ?_
        refine gops_nil ?_
        refine hN10 _ _ ?_
        refine gfrom [(1, .slice _ _ _), (2, .int _ _), (7, .int _ _), (23, .bool _)] ⟨rfl, rfl, rfl, rfl, trivial⟩ fun σ => ?_
        refine gcond (b := _) rfl (fun hc23 => ?_) (fun hc23 => ?_)
        · -- slot 23 t
          replace hc23 := not_t hc23
          refine gseq fun N11 hN11 => ?_
          refine greg ?_
          refine gop (y_assign (v := .bool _) rfl) rfl rfl rfl ?_
          refine gops_nil ?_
          refine hN11 _ _ ?_
          refine gfrom [(6, .bool _)] ⟨rfl, trivial⟩ fun σ => ?_
          refine gret fun w1 hM => ?_
          refine ⟨_, res1 rfl (rt (v := .bool _) rfl), ?_⟩
          exact ⟨by rw [Votes.counts, decide_eq_false hc10, Votes.cnt, all_false _ k hsub (by rw [hget]; exact hc23)]; rfl, hM.low⟩
        · -- slot 23 f
          replace hc23 := not_f hc23
          refine gskip ?_
          refine hN9 _ _ ?_
          refine gfrom [(1, .slice _ _ _), (2, .int _ _), (7, .int _ _)] ⟨rfl, rfl, rfl, trivial⟩ fun σ => ?_
          refine greg ?_
          refine gop (y_move (v := .int _ _) rfl) rfl rfl rfl ?_
          refine gop (y_add rfl rfl ⟨by omega, by omega⟩) rfl rfl rfl ?_
          refine gop (y_assign (v := .int _ _) rfl) rfl rfl rfl ?_
          refine gops_nil ?_
          refine gnext2 (k + 1) (by omega) (⟨by rw [Votes.all_take_succ _ k hsub, hall, hget, hc23]; rfl, by omega⟩) ⟨by show Value.int _ _ = _; congr 1; omega, trivial⟩ ⟨rfl, rfl, trivial⟩ ⟨_, rfl⟩
      · -- slot 16 f
        replace hc16 := of_decide_eq_false hc16
        refine gexit ?_
        refine hN5 _ _ ?_
        refine gfrom [] trivial fun σ => ?_
        refine gseq fun N12 hN12 => ?_
        refine greg ?_
        refine gop (y_assign (v := .bool _) rfl) rfl rfl rfl ?_
        refine gops_nil ?_
        refine hN12 _ _ ?_
        refine gfrom [(6, .bool _)] ⟨rfl, trivial⟩ fun σ => ?_
        refine gret fun w1 hM => ?_
        refine ⟨_, res1 rfl (rt (v := .bool _) rfl), ?_⟩
        exact ⟨by rw [Votes.counts, decide_eq_false hc10, Votes.cnt, ← List.take_of_length_le (l := (tr.drop (v.rev.toNat + 1)).take (at_ - v.rev.toNat)) (i := k) (by simp; omega), hall]; rfl, hM.low⟩

set_option maxHeartbeats 1000000 in
theorem lastVote_any (w : World) (A : Option Addr) (c : Nat) (l : List Vote) (u at_ : Int) (hv : Rdl w 0 3 voteCells A l) (hl : l.length ≤ maxLen) :
    Calls Try.prog 15 #[.slice A l.length c, .int .i64 u, .int .i64 at_] w fun e w' => e = .returned (.agg (voteCells (Votes.lastVote l u at_)).toArray) ∧ Below w.heap.size w w' := by
  unfold maxLen at hl
  refine gcalls Try.func15 rfl Try.ntmps15 (Nat.le_of_ble_eq_true rfl) ?_
  refine gfrom [(0, .slice _ _ _), (1, .int _ _), (2, .int _ _)] ⟨rfl, rfl, rfl, trivial⟩ fun σ => ?_
  refine gseq fun N1 hN1 => ?_
  refine greg ?_
  refine gop_alloc (cs := #[.int .i64 0, .int .i64 0, .int .i64 0]) Try.zeroValue35 rfl rfl (fun b6 hb6 => ?_)
  refine gops_nil ?_
  refine hN1 _ _ ?_
  refine gT [box b6 _] rfl ?_
  refine gfrom [(0, .slice _ _ _), (1, .int _ _), (2, .int _ _), (6, .pointer _)] ⟨rfl, rfl, rfl, rfl, trivial⟩ fun σ => ?_
  refine gseq fun N2 hN2 => ?_
  refine gseq fun N3 hN3 => ?_
  refine greg ?_
  refine gop (y_move (v := .slice _ _ _) rfl) rfl rfl rfl ?_
  refine gop (y_len Try.underlying22 rfl) rfl rfl rfl ?_
  refine gop (y_sub rfl rfl ⟨by omega, by omega⟩) rfl rfl rfl ?_
  refine gop (y_assign (v := .int _ _) rfl) rfl rfl rfl ?_
  refine gops_nil ?_
  refine hN3 _ _ ?_
  refine gfrom [(0, .slice _ _ _), (1, .int _ _), (2, .int _ _), (6, .pointer _), (7, .int _ _)] ⟨rfl, rfl, rfl, rfl, rfl, trivial⟩ fun σ => ?_
  refine gblock ?_
  refine gfrom2 [(7, .int _ _)] [(0, .slice _ _ _), (1, .int _ _), (2, .int _ _), (6, .pointer _)] ⟨rfl, trivial⟩ ⟨rfl, rfl, rfl, rfl, trivial⟩ fun σ => ?_
  refine gloop2 (G := Nat) (fun k => k ≤ l.length ∧ (l.drop k).filter (fun v => decide (v.user = u) && decide (v.rev ≤ at_)) = []) (fun k => k) (fun k => [(7, .int .i64 ((k : Int) - 1))]) (fun k => []) (l.length) ?h0 ⟨rfl, trivial⟩ ⟨rfl, rfl, rfl, rfl, trivial⟩ rfl ?round
  case h0 => exact ⟨Nat.le_refl _, by simp⟩
  case round =>
    intro k hφ σ
    obtain ⟨hk, hno⟩ := hφ
    refine gseq fun N4 hN4 => ?_
    refine gseq fun N5 hN5 => ?_
    refine greg ?_
    refine gop (y_move (v := .int _ _) rfl) rfl rfl rfl ?_
    refine gop (y_geq rfl rfl) rfl rfl rfl ?_
    refine gops_nil ?_
    refine hN5 _ _ ?_
    refine gfrom [(0, .slice _ _ _), (1, .int _ _), (2, .int _ _), (6, .pointer _), (7, .int _ _), (12, .bool _)] ⟨rfl, rfl, rfl, rfl, rfl, rfl, trivial⟩ fun σ => ?_
    refine gcond (b := _) rfl (fun hc12 => ?_) (fun hc12 => ?_)
    · -- slot 12 t
      replace hc12 := of_decide_eq_true hc12
      obtain ⟨k, rfl⟩ : ∃ j, k = j + 1 := ⟨k - 1, by omega⟩
      have hk1 : k < l.length := by omega
      obtain ⟨ad, rfl, -, hcv⟩ := hv.at_ hk1
      refine gskip ?_
      refine hN4 _ _ ?_
      refine gfrom [(0, .slice _ _ _), (1, .int _ _), (2, .int _ _), (6, .pointer _), (7, .int _ _)] ⟨rfl, rfl, rfl, rfl, rfl, trivial⟩ fun σ => ?_
      refine gseq fun N6 hN6 => ?_
      refine gblock ?_
      refine gseq fun N7 hN7 => ?_
      refine greg ?_
      refine gop (y_move (v := .slice _ _ _) rfl) rfl rfl rfl ?_
      refine gop (y_move (v := .int _ _) rfl) rfl rfl rfl ?_
      refine gop (y_indexAddr (m := k) Try.underlying22 Try.sizeOf35 rfl rfl (by omega) (by omega) (by omega)) rfl rfl rfl ?_
      refine gop (y_fieldAddr_add fa35_0 rfl) rfl rfl rfl ?_
      refine gop (y_load Try.isAgg3 rfl (cell_base (hcv 0 _ rfl))) rfl rfl rfl ?_
      refine gop (y_move (v := .int _ _) rfl) rfl rfl rfl ?_
      refine gop (y_eql rfl rfl) rfl rfl rfl ?_
      refine gop (y_move (v := .bool _) rfl) rfl rfl rfl ?_
      refine gop_if (want := true) rfl rfl rfl rfl rfl rfl (fun hg22 => ?_) (fun hg22 => ?_)
      · -- guard 22 on
        have hg22d := of_decide_eq_true hg22
        refine gop (y_bare (y_move (v := .slice _ _ _) rfl)) rfl rfl rfl ?_
        refine gop_on rfl rfl rfl rfl hg22 ?_
        refine gop (y_bare (y_move (v := .int _ _) rfl)) rfl rfl rfl ?_
        refine gop_on rfl rfl rfl rfl hg22 ?_
        refine gop (y_bare (y_indexAddr (m := k) Try.underlying22 Try.sizeOf35 rfl rfl (by omega) (by omega) (by omega))) rfl rfl rfl ?_
        refine gop_on rfl rfl rfl rfl hg22 ?_
        refine gop (y_bare (y_fieldAddr_add fa35_1 rfl)) rfl rfl rfl ?_
        refine gop_on rfl rfl rfl rfl hg22 ?_
        refine gop (y_bare (y_load Try.isAgg3 rfl (cell_base (hcv 1 _ rfl)))) rfl rfl rfl ?_
        refine gop_on rfl rfl rfl rfl hg22 ?_
        refine gop (y_bare (y_move (v := .int _ _) rfl)) rfl rfl rfl ?_
        refine gop_on rfl rfl rfl rfl hg22 ?_
        refine gop (y_bare (y_leq rfl rfl)) rfl rfl rfl ?_
        refine gop (y_pick_t (v := .bool _) rfl hg22 rfl) rfl rfl rfl ?_
        refine gops_nil ?_
        refine hN7 _ _ ?_
        refine gfrom [(0, .slice _ _ _), (1, .int _ _), (2, .int _ _), (6, .pointer _), (7, .int _ _), (30, .bool _)] ⟨rfl, rfl, rfl, rfl, rfl, rfl, trivial⟩ fun σ => ?_
        refine gcond (b := _) rfl (fun hc30 => ?_) (fun hc30 => ?_)
        · -- slot 30 t
          replace hc30 := of_decide_eq_true hc30
          refine gseq fun N8 hN8 => ?_
          refine greg ?_
          refine gop (y_move (v := .slice _ _ _) rfl) rfl rfl rfl ?_
          refine gop (y_move (v := .int _ _) rfl) rfl rfl rfl ?_
          refine gop (y_indexAddr (m := k) Try.underlying22 Try.sizeOf35 rfl rfl (by omega) (by omega) (by omega)) rfl rfl rfl ?_
          refine gop (y_loads (cs := [_, _, _]) Try.isAgg35 Try.sizeOf35 rfl rfl (cells_base hcv)) rfl rfl rfl ?_
          refine gop_store 0 (v := .agg #[_, _, _]) (cs' := #[_, _, _]) rfl rfl Try.sizeOf35 rfl rfl rfl rfl (Nat.le_of_ble_eq_true rfl) rfl rfl ?_
          refine gops_nil ?_
          refine hN8 _ _ ?_
          refine gT [box b6 _] rfl ?_
          refine gfrom [(6, .pointer _)] ⟨rfl, trivial⟩ fun σ => ?_
          refine gret fun w1 hM => ?_
          refine ⟨_, res1 rfl (rc 0 (cs := [_, _, _]) hM rfl rfl Try.isAgg35 Try.sizeOf35 rfl), ?_⟩
          exact ⟨by rw [Votes.lastVote, filter_last _ l k hk1 (by simp; omega) hno]; rfl, hM.low⟩
        · -- slot 30 f
          replace hc30 := of_decide_eq_false hc30
          refine gskip ?_
          refine hN6 _ _ ?_
          refine gfrom [(0, .slice _ _ _), (1, .int _ _), (2, .int _ _), (6, .pointer _), (7, .int _ _)] ⟨rfl, rfl, rfl, rfl, rfl, trivial⟩ fun σ => ?_
          refine greg ?_
          refine gop (y_move (v := .int _ _) rfl) rfl rfl rfl ?_
          refine gop (y_sub rfl rfl ⟨by omega, by omega⟩) rfl rfl rfl ?_
          refine gop (y_assign (v := .int _ _) rfl) rfl rfl rfl ?_
          refine gops_nil ?_
          refine gnext2 (k) (by omega) (⟨by omega, by rw [List.drop_eq_getElem_cons hk1, List.filter_cons, if_neg (by simp; omega)]; exact hno⟩) ⟨by show Value.int _ _ = _; congr 1; omega, trivial⟩ ⟨rfl, rfl, rfl, rfl, trivial⟩ ⟨_, rfl⟩
      · -- guard 22 off
        have hg22d := of_decide_eq_false hg22
        refine gop_off rfl rfl rfl rfl hg22 rfl rfl ?_
        refine gop_off rfl rfl rfl rfl hg22 rfl rfl ?_
        refine gop_off rfl rfl rfl rfl hg22 rfl rfl ?_
        refine gop_off rfl rfl rfl rfl hg22 rfl rfl ?_
        refine gop_off rfl rfl rfl rfl hg22 rfl rfl ?_
        refine gop_off rfl rfl rfl rfl hg22 rfl rfl ?_
        refine gop (y_pick_f (v := .bool _) rfl hg22 rfl) rfl rfl rfl ?_
        refine gops_nil ?_
        refine hN7 _ _ ?_
        refine gfrom [(0, .slice _ _ _), (1, .int _ _), (2, .int _ _), (6, .pointer _), (7, .int _ _), (30, .bool _)] ⟨rfl, rfl, rfl, rfl, rfl, rfl, trivial⟩ fun σ => ?_
        refine gcond (b := _) rfl (fun hc30 => ?_) (fun hc30 => ?_)
        · -- slot 30 t
          cases hc30
        · -- slot 30 f
          refine gskip ?_
          refine hN6 _ _ ?_
          refine gfrom [(0, .slice _ _ _), (1, .int _ _), (2, .int _ _), (6, .pointer _), (7, .int _ _)] ⟨rfl, rfl, rfl, rfl, rfl, trivial⟩ fun σ => ?_
          refine greg ?_
          refine gop (y_move (v := .int _ _) rfl) rfl rfl rfl ?_
          refine gop (y_sub rfl rfl ⟨by omega, by omega⟩) rfl rfl rfl ?_
          refine gop (y_assign (v := .int _ _) rfl) rfl rfl rfl ?_
          refine gops_nil ?_
          refine gnext2 (k) (by omega) (⟨by omega, by rw [List.drop_eq_getElem_cons hk1, List.filter_cons, if_neg (by simp; omega)]; exact hno⟩) ⟨by show Value.int _ _ = _; congr 1; omega, trivial⟩ ⟨rfl, rfl, rfl, rfl, trivial⟩ ⟨_, rfl⟩
    · -- slot 12 f
      replace hc12 := of_decide_eq_false hc12
      refine gexit ?_
      refine hN2 _ _ ?_
      refine gfrom [(1, .int _ _), (2, .int _ _), (6, .pointer _)] ⟨rfl, rfl, rfl, trivial⟩ fun σ => ?_
      refine gseq fun N9 hN9 => ?_
      refine greg ?_
      refine gop (y_move (v := .int _ _) rfl) rfl rfl rfl ?_
      refine gop (y_move (v := .int _ _) rfl) rfl rfl rfl ?_
      refine gop (y_build (vs := [(0, .int _ _), (1, .int _ _)]) (cells := #[_, _, .int .i64 0]) rfl (bd35_0_1 _ _)) rfl rfl rfl ?_
      refine gop_store 0 (v := .agg #[_, _, _]) (cs' := #[_, _, _]) rfl rfl Try.sizeOf35 rfl rfl rfl rfl (Nat.le_of_ble_eq_true rfl) rfl rfl ?_
      refine gops_nil ?_
      refine hN9 _ _ ?_
      refine gT [box b6 _] rfl ?_
      refine gfrom [(6, .pointer _)] ⟨rfl, trivial⟩ fun σ => ?_
      refine gret fun w1 hM => ?_
      refine ⟨_, res1 rfl (rc 0 (cs := [_, _, _]) hM rfl rfl Try.isAgg35 Try.sizeOf35 rfl), ?_⟩
      obtain rfl : k = 0 := by omega
      rw [List.drop_zero] at hno
      exact ⟨by rw [Votes.lastVote, hno]; rfl, hM.low⟩

set_option maxHeartbeats 1000000 in
theorem votesExample_any (w : World) : Calls Try.prog 12 #[] w fun e w' => e = .returned (.bool true) ∧ Below w.heap.size w w' := by
  refine gcalls Try.func12 rfl Try.ntmps12 (Nat.le_of_ble_eq_true rfl) ?_
  refine gfrom [] trivial fun σ => ?_
  refine gseq fun N1 hN1 => ?_
  refine greg ?_
  refine gop (y_assign (v := .bool _) rfl) rfl rfl rfl ?_
  refine gops_nil ?_
  refine hN1 _ _ ?_
  refine gfrom [] trivial fun σ => ?_
  refine gseq fun N2 hN2 => ?_
  refine greg ?_
  refine gop (y_build (vs := [(0, _), (2, _)]) (cells := #[_, .int .i64 0, _]) rfl (bd35_0_2 _ _)) rfl rfl rfl ?_
  refine gop (y_build (vs := [(0, _), (2, _)]) (cells := #[_, .int .i64 0, _]) rfl (bd35_0_2 _ _)) rfl rfl rfl ?_
  refine gop_lit (vs := [.agg #[_, _, _], .agg #[_, _, _]]) (cells := #[_, _, _, _, _, _]) Try.underlying22 Try.sizeOf35 Try.zeroValue35 rfl (by decide) (by decide) rfl rfl rfl rfl (fun b11 hb11 => ?_)
  refine gop (y_assign (v := .slice (some _) _ _) rfl) rfl rfl rfl ?_
  refine gops_nil ?_
  refine hN2 _ _ ?_
  refine gT [box b11 _] rfl ?_
  refine gfrom [(1, .slice (some _) _ _)] ⟨rfl, trivial⟩ fun σ => ?_
  refine gseq fun N3 hN3 => ?_
  refine greg ?_
  refine gop (y_move (v := .slice (some _) _ _) rfl) rfl rfl rfl ?_
  refine gop_lit (vs := [.bool _, .bool _]) (cells := #[_, _]) Try.underlying23 Try.sizeOf4 Try.zeroValue4 rfl (by decide) (by decide) rfl rfl rfl rfl (fun b14 hb14 => ?_)
  refine gop_new (fun lo ws v => ∃ v1, v = .tuple #[v1, fv (Votes.stateF [⟨0, 0, 2⟩, ⟨1, 0, -2⟩] [false, false] 1)] ∧ NewL 1 intCells (Votes.curL [⟨0, 0, 2⟩, ⟨1, 0, -2⟩] [false, false] 1) lo ws v1) (e_call (vs := [.slice (some _) _ _, .slice (some _) _ _, _]) Try.func9 rfl (by kernel_rfl) rfl) (fun w hM => (current_any w _ _ [⟨0, 0, 2⟩, ⟨1, 0, -2⟩] _ _ [false, false] (Rdl.mono (Rdl.of_box 0 (l := [⟨0, 0, 2⟩, ⟨1, 0, -2⟩]) (f := voteCells) (fun _ => rfl) hM rfl rfl) (Nat.zero_le _)) (Rdl.mono (Rdl.of_box 1 (l := [false, false]) (f := boolCells) (fun _ => rfl) hM rfl rfl) (Nat.zero_le _)) (by decide) (by decide) (by decide) 1).mono fun _ _ ⟨v, h1, h2, h3⟩ => ⟨_, h1, h2, v, rfl, h3⟩) rfl rfl rfl ?_
  rintro _ lo15 ws15 hlo15 ⟨_, rfl, A15, c15, rfl, hcc15, hcm15, hr15⟩
  refine gop (y_move (v := .tuple #[.slice _ _ _, .agg #[_, _]]) rfl) rfl rfl rfl ?_
  refine gop (y_extract (v := .slice _ _ _) rfl rfl) rfl rfl rfl ?_
  refine gop (y_extract (v := .agg #[_, _]) rfl rfl) rfl rfl rfl ?_
  refine gop_alloc (cs := #[.int .i64 0, .int .i64 0]) Try.zeroValue25 rfl rfl (fun b3 hb3 => ?_)
  refine gop (y_assign (v := .slice _ _ _) rfl) rfl rfl rfl ?_
  refine gop_store 3 (v := .agg #[_, _]) (cs' := #[_, _]) rfl rfl Try.sizeOf25 rfl rfl rfl rfl (Nat.le_of_ble_eq_true rfl) rfl rfl ?_
  refine gops_nil ?_
  refine hN3 _ _ ?_
  refine gT [box b11 _, box b14 _, seal_ _ _, box b3 _] rfl ?_
  refine gfrom [(1, .slice (some _) _ _), (2, .slice _ _ _), (3, .pointer _)] ⟨rfl, rfl, rfl, trivial⟩ fun σ => ?_
  refine gseq fun N4 hN4 => ?_
  refine greg ?_
  refine gop (y_move (v := .slice (some _) _ _) rfl) rfl rfl rfl ?_
  refine gop_lit (vs := [.bool _, .bool _]) (cells := #[_, _]) Try.underlying23 Try.sizeOf4 Try.zeroValue4 rfl (by decide) (by decide) rfl rfl rfl rfl (fun b20 hb20 => ?_)
  refine gop_pure (e_call (vs := [.slice (some _) _ _, .slice (some _) _ _, _]) Try.func10 rfl (by kernel_rfl) rfl) (fun w hM => score_any w _ _ [⟨0, 0, 2⟩, ⟨1, 0, -2⟩] _ _ [false, false] (Rdl.mono (Rdl.of_box 0 (l := [⟨0, 0, 2⟩, ⟨1, 0, -2⟩]) (f := voteCells) (fun _ => rfl) hM rfl rfl) (Nat.zero_le _)) (Rdl.mono (Rdl.of_box 4 (l := [false, false]) (f := boolCells) (fun _ => rfl) hM rfl rfl) (Nat.zero_le _)) (by decide) (by decide) (by decide) 0) rfl rfl rfl ?_
  refine gop (y_move (v := .tuple #[.int _ _, .bool _, .agg #[_, _]]) rfl) rfl rfl rfl ?_
  refine gop (y_extract (v := .int _ _) rfl rfl) rfl rfl rfl ?_
  refine gop (y_extract (v := .bool _) rfl rfl) rfl rfl rfl ?_
  refine gop (y_extract (v := .agg #[_, _]) rfl rfl) rfl rfl rfl ?_
  refine gop_alloc (cs := #[.int .i64 0, .int .i64 0]) Try.zeroValue25 rfl rfl (fun b6 hb6 => ?_)
  refine gop (y_assign (v := .int _ _) rfl) rfl rfl rfl ?_
  refine gop (y_assign (v := .bool _) rfl) rfl rfl rfl ?_
  refine gop_store 5 (v := .agg #[_, _]) (cs' := #[_, _]) rfl rfl Try.sizeOf25 rfl rfl rfl rfl (Nat.le_of_ble_eq_true rfl) rfl rfl ?_
  refine gops_nil ?_
  refine hN4 _ _ ?_
  refine gT [box b11 _, box b14 _, seal_ _ _, box b3 _, box b20 _, box b6 _] rfl ?_
  refine gfrom [(1, .slice (some _) _ _), (2, .slice _ _ _), (3, .pointer _), (4, .int _ _), (5, .bool _), (6, .pointer _)] ⟨rfl, rfl, rfl, rfl, rfl, rfl, trivial⟩ fun σ => ?_
  refine gseq fun N5 hN5 => ?_
  refine greg ?_
  refine gop (y_move (v := .slice (some _) _ _) rfl) rfl rfl rfl ?_
  refine gop_lit (vs := [.bool _, .bool _]) (cells := #[_, _]) Try.underlying23 Try.sizeOf4 Try.zeroValue4 rfl (by decide) (by decide) rfl rfl rfl rfl (fun b27 hb27 => ?_)
  refine gop_new (fun lo ws v => ∃ v1, v = .tuple #[v1, fv (Votes.stateF [⟨0, 0, 2⟩, ⟨1, 0, -2⟩] [false, false] 1)] ∧ NewL 1 intCells (Votes.lapL [⟨0, 0, 2⟩, ⟨1, 0, -2⟩] [false, false] 1) lo ws v1) (e_call (vs := [.slice (some _) _ _, .slice (some _) _ _, _]) Try.func11 rfl (by kernel_rfl) rfl) (fun w hM => (lapsed_any w _ _ [⟨0, 0, 2⟩, ⟨1, 0, -2⟩] _ _ [false, false] (Rdl.mono (Rdl.of_box 0 (l := [⟨0, 0, 2⟩, ⟨1, 0, -2⟩]) (f := voteCells) (fun _ => rfl) hM rfl rfl) (Nat.zero_le _)) (Rdl.mono (Rdl.of_box 6 (l := [false, false]) (f := boolCells) (fun _ => rfl) hM rfl rfl) (Nat.zero_le _)) (by decide) (by decide) (by decide) 1).mono fun _ _ ⟨v, h1, h2, h3⟩ => ⟨_, h1, h2, v, rfl, h3⟩) rfl rfl rfl ?_
  rintro _ lo28 ws28 hlo28 ⟨_, rfl, A28, c28, rfl, hcc28, hcm28, hr28⟩
  refine gop (y_move (v := .tuple #[.slice _ _ _, .agg #[_, _]]) rfl) rfl rfl rfl ?_
  refine gop (y_extract (v := .slice _ _ _) rfl rfl) rfl rfl rfl ?_
  refine gop (y_extract (v := .agg #[_, _]) rfl rfl) rfl rfl rfl ?_
  refine gop_alloc (cs := #[.int .i64 0, .int .i64 0]) Try.zeroValue25 rfl rfl (fun b8 hb8 => ?_)
  refine gop (y_assign (v := .slice _ _ _) rfl) rfl rfl rfl ?_
  refine gop_store 8 (v := .agg #[_, _]) (cs' := #[_, _]) rfl rfl Try.sizeOf25 rfl rfl rfl rfl (Nat.le_of_ble_eq_true rfl) rfl rfl ?_
  refine gops_nil ?_
  refine hN5 _ _ ?_
  refine gT [box b11 _, box b14 _, seal_ _ _, box b3 _, box b20 _, box b6 _, box b27 _, seal_ _ _, box b8 _] rfl ?_
  refine gfrom [(2, .slice _ _ _), (3, .pointer _), (4, .int _ _), (5, .bool _), (6, .pointer _), (7, .slice _ _ _), (8, .pointer _)] ⟨rfl, rfl, rfl, rfl, rfl, rfl, rfl, trivial⟩ fun σ => ?_
  refine gseq fun N6 hN6 => ?_
  refine greg ?_
  refine gop (y_fieldAddr_box fa25_0 rfl) rfl rfl rfl ?_
  refine gop (y_load Try.isAgg3 rfl (cell_box 3 rfl rfl)) rfl rfl rfl ?_
  refine gop (y_eql rfl rfl) rfl rfl rfl ?_
  refine gop (y_move (v := .bool _) rfl) rfl rfl rfl ?_
  refine gop_if (want := true) rfl rfl rfl rfl rfl rfl (fun hg34 => ?_) (fun hg34 => ?_)
  · -- guard 34 on
    have hg34d := of_decide_eq_true hg34
    refine gop (y_bare (y_fieldAddr_box fa25_0 rfl)) rfl rfl rfl ?_
    refine gop_on rfl rfl rfl rfl hg34 ?_
    refine gop (y_bare (y_load Try.isAgg3 rfl (cell_box 5 rfl rfl))) rfl rfl rfl ?_
    refine gop_on rfl rfl rfl rfl hg34 ?_
    refine gop (y_bare (y_eql rfl rfl)) rfl rfl rfl ?_
    refine gop (y_pick_t (v := .bool _) rfl hg34 rfl) rfl rfl rfl ?_
    refine gop (y_move (v := .bool _) rfl) rfl rfl rfl ?_
    refine gop_if (want := true) rfl rfl rfl rfl rfl rfl (fun hg39 => ?_) (fun hg39 => ?_)
    · -- guard 39 on
      have hg39d := of_decide_eq_true hg39
      refine gop (y_bare (y_fieldAddr_box fa25_0 rfl)) rfl rfl rfl ?_
      refine gop_on rfl rfl rfl rfl hg39 ?_
      refine gop (y_bare (y_load Try.isAgg3 rfl (cell_box 8 rfl rfl))) rfl rfl rfl ?_
      refine gop_on rfl rfl rfl rfl hg39 ?_
      refine gop (y_bare (y_eql rfl rfl)) rfl rfl rfl ?_
      refine gop (y_pick_t (v := .bool _) rfl hg39 rfl) rfl rfl rfl ?_
      refine gop (y_move (v := .bool _) rfl) rfl rfl rfl ?_
      refine gop_if (want := true) rfl rfl rfl rfl rfl rfl (fun hg44 => ?_) (fun hg44 => ?_)
      · -- guard 44 on
        have hg44d := of_decide_eq_true hg44
        refine gop (y_bare (y_move (v := .slice _ _ _) rfl)) rfl rfl rfl ?_
        refine gop_on rfl rfl rfl rfl hg44 ?_
        refine gop_lit (vs := [.int _ _, .int _ _, .int _ _, .int _ _, .int _ _, .int _ _, .int _ _, .int _ _]) (cells := #[_, _, _, _, _, _, _, _]) Try.underlying27 Try.sizeOf3 Try.zeroValue3 rfl (by decide) (by decide) rfl rfl rfl rfl (fun b46 hb46 => ?_)
        refine gop_on rfl rfl rfl rfl hg44 ?_
        refine gop_pure (e_call (vs := [.slice _ _ _, .slice (some _) _ _]) Try.func17 rfl (by kernel_rfl) rfl) (fun w hM => sameInts_any w _ _ _ _ (Votes.curL [⟨0, 0, 2⟩, ⟨1, 0, -2⟩] [false, false] 1) [0, -2, 0, 0, 0, 0, 0, 0] ((hr15.seal_ 2 rfl (Nat.le_refl _) hM).mono (Nat.zero_le _)) (Rdl.mono (Rdl.of_box 9 (f := intCells) (fun _ => rfl) hM rfl rfl) (Nat.zero_le _)) (by decide)) rfl rfl rfl ?_
        refine gop (y_pick_t (v := .bool _) rfl hg44 rfl) rfl rfl rfl ?_
        refine gop (y_move (v := .bool _) rfl) rfl rfl rfl ?_
        refine gop_if (want := true) rfl rfl rfl rfl rfl rfl (fun hg49 => ?_) (fun hg49 => ?_)
        · -- guard 49 on
          have hg49d := hg49
          refine gop (y_bare (y_move (v := .int _ _) rfl)) rfl rfl rfl ?_
          refine gop_on rfl rfl rfl rfl hg49 ?_
          refine gop (y_bare (y_eql rfl rfl)) rfl rfl rfl ?_
          refine gop (y_pick_t (v := .bool _) rfl hg49 rfl) rfl rfl rfl ?_
          refine gop (y_move (v := .bool _) rfl) rfl rfl rfl ?_
          refine gop_if (want := true) rfl rfl rfl rfl rfl rfl (fun hg53 => ?_) (fun hg53 => ?_)
          · -- guard 53 on
            have hg53d := of_decide_eq_true hg53
            refine gop (y_bare (y_move (v := .bool _) rfl)) rfl rfl rfl ?_
            refine gop (y_pick_t (v := .bool _) rfl hg53 rfl) rfl rfl rfl ?_
            refine gop (y_move (v := .bool _) rfl) rfl rfl rfl ?_
            refine gop_if (want := true) rfl rfl rfl rfl rfl rfl (fun hg56 => ?_) (fun hg56 => ?_)
            · -- guard 56 on
              have hg56d := hg56
              refine gop (y_bare (y_move (v := .slice _ _ _) rfl)) rfl rfl rfl ?_
              refine gop_on rfl rfl rfl rfl hg56 ?_
              refine gop_lit (vs := [.int _ _]) (cells := #[_]) Try.underlying27 Try.sizeOf3 Try.zeroValue3 rfl (by decide) (by decide) rfl rfl rfl rfl (fun b58 hb58 => ?_)
              refine gop_on rfl rfl rfl rfl hg56 ?_
              refine gop_pure (e_call (vs := [.slice _ _ _, .slice (some _) _ _]) Try.func17 rfl (by kernel_rfl) rfl) (fun w hM => sameInts_any w _ _ _ _ (Votes.lapL [⟨0, 0, 2⟩, ⟨1, 0, -2⟩] [false, false] 1) [0] ((hr28.seal_ 7 rfl (Nat.le_refl _) hM).mono (Nat.zero_le _)) (Rdl.mono (Rdl.of_box 10 (f := intCells) (fun _ => rfl) hM rfl rfl) (Nat.zero_le _)) (by decide)) rfl rfl rfl ?_
              refine gop (y_pick_t (v := .bool _) rfl hg56 rfl) rfl rfl rfl ?_
              refine gop (y_assign (v := .bool _) rfl) rfl rfl rfl ?_
              refine gops_nil ?_
              refine hN6 _ _ ?_
              refine gT [box b11 _, box b14 _, seal_ _ _, box b3 _, box b20 _, box b6 _, box b27 _, seal_ _ _, box b8 _, box b46 _, box b58 _] rfl ?_
              refine gfrom [(0, .bool _)] ⟨rfl, trivial⟩ fun σ => ?_
              refine gret fun w1 hM => ?_
              refine ⟨_, res1 rfl (rt (v := .bool _) rfl), ?_⟩
              exact ⟨rfl, hM.low⟩
            · -- guard 56 off
              exact absurd hg56 (by decide)
          · -- guard 53 off
            exact absurd hg53 (by decide)
        · -- guard 49 off
          exact absurd hg49 (by decide)
      · -- guard 44 off
        exact absurd hg44 (by decide)
    · -- guard 39 off
      exact absurd hg39 (by decide)
  · -- guard 34 off
    exact absurd hg34 (by decide)
end Go.Proofs.Ythiblolfolagaaa
