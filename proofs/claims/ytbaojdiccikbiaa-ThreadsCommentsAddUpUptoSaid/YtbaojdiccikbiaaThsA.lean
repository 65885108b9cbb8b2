/- walks, printed by program -/
import Derived.Test.YtbaojdiccikbiaaThrC
import Derived.Test.YtbaojdiccikbiaaThs
import Derived.Test.YtbaojdiccikbiaaPatchE
namespace Go.Proofs.Ytbaojdiccikbiaa
open Go.RowKit Go.Cf
set_option maxRecDepth 10000

theorem eg60 (op : BinOp) (x y : Operand) (xs ys : Array Value) (w : World) : (eqGuard op 60 x y (.agg xs) (.agg ys)).run Try.prog w = .ok () w := run_eqGuard_agg w op 60 x y xs ys (by kernel_rfl)
theorem ne60 (a0 b0 : Int) (a1 b1 : Int) (a2 b2 : Int) (a3 b3 : Bool) (a4 b4 : Bool) (w : World) : (binOp .neq 60 (.agg #[.int .i64 a0, .int .i64 a1, .int .i64 a2, .bool a3, .bool a4]) (.agg #[.int .i64 b0, .int .i64 b1, .int .i64 b2, .bool b3, .bool b4])).run Try.prog w = .ok (.bool (!(decide (a0 = b0) && decide (a1 = b1) && decide (a2 = b2) && (a3 == b3) && (a4 == b4)))) w := by
  simp [run_neq_struct, run_equalIn_agg, Try.underlying60, Try.stoodInHeld60, Program.fieldsOf, go_sem]
  (repeat' split) <;> simp_all

set_option maxHeartbeats 1000000 in
theorem sameThreads_any (w : World) (A B : Option Addr) (c c' : Nat) (l m : List Thr) (hA : Rdl w 0 5 thrCells A l) (hB : Rdl w 0 5 thrCells B m) (hl : l.length ≤ maxLen) :
    Calls Try.prog 29 #[.slice A l.length c, .slice B m.length c'] w fun e w' => e = .returned (.bool (decide (l = m))) ∧ Below w.heap.size w w' := by
  unfold maxLen at hl
  refine gcalls Try.func29 rfl Try.ntmps29 (Nat.le_of_ble_eq_true rfl) ?_
  refine gfrom [(0, .slice _ _ _), (1, .slice _ _ _)] ⟨rfl, rfl, trivial⟩ fun σ => ?_
  refine gseq fun N1 hN1 => ?_
  refine greg ?_
  refine gop (y_assign (v := .bool _) rfl) rfl rfl rfl ?_
  refine gops_nil ?_
  refine hN1 _ _ ?_
  refine gfrom [(0, .slice _ _ _), (1, .slice _ _ _)] ⟨rfl, rfl, trivial⟩ fun σ => ?_
  refine gseq fun N2 hN2 => ?_
  refine gseq fun N3 hN3 => ?_
  refine greg ?_
  refine gop (y_move (v := .slice _ _ _) rfl) rfl rfl rfl ?_
  refine gop (y_len Try.underlying55 rfl) rfl rfl rfl ?_
  refine gop (y_move (v := .slice _ _ _) rfl) rfl rfl rfl ?_
  refine gop (y_len Try.underlying55 rfl) rfl rfl rfl ?_
  refine gop (y_neq rfl rfl) rfl rfl rfl ?_
  refine gops_nil ?_
  refine hN3 _ _ ?_
  refine gfrom [(0, .slice _ _ _), (1, .slice _ _ _), (10, .bool _)] ⟨rfl, rfl, rfl, trivial⟩ fun σ => ?_
  refine gcond (b := _) rfl (fun hc10 => ?_) (fun hc10 => ?_)
  · -- slot 10 t
    replace hc10 := of_decide_eq_true hc10
    refine gseq fun N4 hN4 => ?_
    refine greg ?_
    refine gop (y_assign (v := .bool _) rfl) rfl rfl rfl ?_
    refine gops_nil ?_
    refine hN4 _ _ ?_
    refine gfrom [(4, .bool _)] ⟨rfl, trivial⟩ fun σ => ?_
    refine gret fun w1 hM => ?_
    refine ⟨_, res1 rfl (rt (v := .bool _) rfl), ?_⟩
    exact ⟨by rw [decide_eq_false (fun e => by subst e; omega)], hM.low⟩
  · -- slot 10 f
    replace hc10 := Decidable.not_not.1 (of_decide_eq_false hc10)
    refine gskip ?_
    refine hN2 _ _ ?_
    refine gfrom [(0, .slice _ _ _), (1, .slice _ _ _)] ⟨rfl, rfl, trivial⟩ fun σ => ?_
    refine gseq fun N5 hN5 => ?_
    refine gseq fun N6 hN6 => ?_
    refine greg ?_
    refine gop (y_assign (v := .int _ _) rfl) rfl rfl rfl ?_
    refine gops_nil ?_
    refine hN6 _ _ ?_
    refine gfrom [(0, .slice _ _ _), (1, .slice _ _ _), (5, .int _ _)] ⟨rfl, rfl, rfl, trivial⟩ fun σ => ?_
    refine gblock ?_
    refine gfrom2 [(5, .int _ _)] [(0, .slice _ _ _), (1, .slice _ _ _)] ⟨rfl, trivial⟩ ⟨rfl, rfl, trivial⟩ fun σ => ?_
    refine gloop2 (G := Nat) (fun k => k ≤ l.length ∧ l.length = m.length ∧ l.take k = m.take k) (fun k => l.length - k) (fun k => [(5, .int .i64 (k : Int))]) (fun k => []) (0) ?h0 ⟨rfl, trivial⟩ ⟨rfl, rfl, trivial⟩ rfl ?round
    case h0 => exact ⟨Nat.zero_le _, by omega, by simp⟩
    case round =>
      intro k hφ σ
      obtain ⟨hk, hlm, htk⟩ := hφ
      refine gseq fun N7 hN7 => ?_
      refine gseq fun N8 hN8 => ?_
      refine greg ?_
      refine gop (y_move (v := .int _ _) rfl) rfl rfl rfl ?_
      refine gop (y_move (v := .slice _ _ _) rfl) rfl rfl rfl ?_
      refine gop (y_len Try.underlying55 rfl) rfl rfl rfl ?_
      refine gop (y_lss rfl rfl) rfl rfl rfl ?_
      refine gops_nil ?_
      refine hN8 _ _ ?_
      refine gfrom [(0, .slice _ _ _), (1, .slice _ _ _), (5, .int _ _), (14, .bool _)] ⟨rfl, rfl, rfl, rfl, trivial⟩ fun σ => ?_
      refine gcond (b := _) rfl (fun hc14 => ?_) (fun hc14 => ?_)
      · -- slot 14 t
        replace hc14 := of_decide_eq_true hc14
        have hk1 : k < l.length := by omega
        obtain ⟨ad, rfl, -, hca⟩ := hA.at_ hk1
        obtain ⟨ad', rfl, -, hcb⟩ := hB.at_ (k := k) (by omega)
        refine gskip ?_
        refine hN7 _ _ ?_
        refine gfrom [(0, .slice _ _ _), (1, .slice _ _ _), (5, .int _ _)] ⟨rfl, rfl, rfl, trivial⟩ fun σ => ?_
        refine gseq fun N9 hN9 => ?_
        refine gblock ?_
        refine gseq fun N10 hN10 => ?_
        refine greg_q (by kernel_rfl) (by kernel_rfl) ?_
        refine gq (y_move (v := .slice _ _ _) rfl) rfl rfl rfl ?_
        refine gq (y_move (v := .int _ _) rfl) rfl rfl rfl ?_
        refine gq (y_indexAddr Try.underlying55 Try.sizeOf60 rfl rfl rfl (by omega) (by omega)) rfl rfl rfl ?_
        refine gq (y_loads (cs := [_, _, _, _, _]) Try.isAgg60 Try.sizeOf60 rfl rfl (cells_base hca)) rfl rfl rfl ?_
        refine gq (y_move (v := .slice _ _ _) rfl) rfl rfl rfl ?_
        refine gq (y_move (v := .int _ _) rfl) rfl rfl rfl ?_
        refine gq (y_indexAddr Try.underlying55 Try.sizeOf60 rfl rfl rfl (by omega) (by omega)) rfl rfl rfl ?_
        refine gq (y_loads (cs := [_, _, _, _, _]) Try.isAgg60 Try.sizeOf60 rfl rfl (cells_base hcb)) rfl rfl rfl ?_
        refine gq (y_bin (vx := .agg #[_, _, _, _, _]) (vy := .agg #[_, _, _, _, _]) rfl rfl (fun w => eg60 _ _ _ _ _ w) (fun w => ne60 _ _ _ _ _ _ _ _ _ _ w)) rfl rfl rfl ?_
        refine gqs_nil ?_
        refine hN10 _ _ ?_
        refine gfrom [(0, .slice _ _ _), (1, .slice _ _ _), (5, .int _ _), (25, .bool _)] ⟨rfl, rfl, rfl, rfl, trivial⟩ fun σ => ?_
        refine gcond (b := _) rfl (fun hc25 => ?_) (fun hc25 => ?_)
        · -- slot 25 t
          replace hc25 := thr_ne_t hc25
          refine gseq fun N11 hN11 => ?_
          refine greg ?_
          refine gop (y_assign (v := .bool _) rfl) rfl rfl rfl ?_
          refine gops_nil ?_
          refine hN11 _ _ ?_
          refine gfrom [(4, .bool _)] ⟨rfl, trivial⟩ fun σ => ?_
          refine gret fun w1 hM => ?_
          refine ⟨_, res1 rfl (rt (v := .bool _) rfl), ?_⟩
          exact ⟨by rw [decide_eq_false (ne_of_at hk1 (by omega) hc25)], hM.low⟩
        · -- slot 25 f
          replace hc25 := thr_ne_f hc25
          refine gskip ?_
          refine hN9 _ _ ?_
          refine gfrom [(0, .slice _ _ _), (1, .slice _ _ _), (5, .int _ _)] ⟨rfl, rfl, rfl, trivial⟩ fun σ => ?_
          refine greg ?_
          refine gop (y_move (v := .int _ _) rfl) rfl rfl rfl ?_
          refine gop (y_add rfl rfl ⟨by omega, by omega⟩) rfl rfl rfl ?_
          refine gop (y_assign (v := .int _ _) rfl) rfl rfl rfl ?_
          refine gops_nil ?_
          refine gnext2 (k + 1) (by omega) (⟨by omega, hlm, take_next l m k (by omega) (by omega) htk hc25⟩) ⟨rfl, trivial⟩ ⟨rfl, rfl, trivial⟩ ⟨_, rfl⟩
      · -- slot 14 f
        replace hc14 := of_decide_eq_false hc14
        refine gexit ?_
        refine hN5 _ _ ?_
        refine gfrom [] trivial fun σ => ?_
        refine gseq fun N12 hN12 => ?_
        refine greg ?_
        refine gop (y_assign (v := .bool _) rfl) rfl rfl rfl ?_
        refine gops_nil ?_
        refine hN12 _ _ ?_
        refine gfrom [(4, .bool _)] ⟨rfl, trivial⟩ fun σ => ?_
        refine gret fun w1 hM => ?_
        refine ⟨_, res1 rfl (rt (v := .bool _) rfl), ?_⟩
        exact ⟨by rw [decide_eq_true (eq_of_takes hlm (by omega) htk)], hM.low⟩

set_option maxHeartbeats 1000000 in
theorem equalStrings_any (w : World) (A B : Option Addr) (c c' : Nat) (l m : List ByteArray) (hA : Rdl w 0 1 strCells A l) (hB : Rdl w 0 1 strCells B m) (hl : l.length ≤ maxLen) :
    Calls Try.prog 30 #[.slice A l.length c, .slice B m.length c'] w fun e w' => e = .returned (.bool (decide (l = m))) ∧ Below w.heap.size w w' := by
  unfold maxLen at hl
  refine gcalls Try.func30 rfl Try.ntmps30 (Nat.le_of_ble_eq_true rfl) ?_
  refine gfrom [(0, .slice _ _ _), (1, .slice _ _ _)] ⟨rfl, rfl, trivial⟩ fun σ => ?_
  refine gseq fun N1 hN1 => ?_
  refine greg ?_
  refine gop (y_assign (v := .bool _) rfl) rfl rfl rfl ?_
  refine gops_nil ?_
  refine hN1 _ _ ?_
  refine gfrom [(0, .slice _ _ _), (1, .slice _ _ _)] ⟨rfl, rfl, trivial⟩ fun σ => ?_
  refine gseq fun N2 hN2 => ?_
  refine gseq fun N3 hN3 => ?_
  refine greg ?_
  refine gop (y_move (v := .slice _ _ _) rfl) rfl rfl rfl ?_
  refine gop (y_len Try.underlying41 rfl) rfl rfl rfl ?_
  refine gop (y_move (v := .slice _ _ _) rfl) rfl rfl rfl ?_
  refine gop (y_len Try.underlying41 rfl) rfl rfl rfl ?_
  refine gop (y_neq rfl rfl) rfl rfl rfl ?_
  refine gops_nil ?_
  refine hN3 _ _ ?_
  refine gfrom [(0, .slice _ _ _), (1, .slice _ _ _), (10, .bool _)] ⟨rfl, rfl, rfl, trivial⟩ fun σ => ?_
  refine gcond (b := _) rfl (fun hc10 => ?_) (fun hc10 => ?_)
  · -- slot 10 t
    replace hc10 := of_decide_eq_true hc10
    refine gseq fun N4 hN4 => ?_
    refine greg ?_
    refine gop (y_assign (v := .bool _) rfl) rfl rfl rfl ?_
    refine gops_nil ?_
    refine hN4 _ _ ?_
    refine gfrom [(4, .bool _)] ⟨rfl, trivial⟩ fun σ => ?_
    refine gret fun w1 hM => ?_
    refine ⟨_, res1 rfl (rt (v := .bool _) rfl), ?_⟩
    exact ⟨by rw [decide_eq_false (fun e => by subst e; omega)], hM.low⟩
  · -- slot 10 f
    replace hc10 := Decidable.not_not.1 (of_decide_eq_false hc10)
    refine gskip ?_
    refine hN2 _ _ ?_
    refine gfrom [(0, .slice _ _ _), (1, .slice _ _ _)] ⟨rfl, rfl, trivial⟩ fun σ => ?_
    refine gseq fun N5 hN5 => ?_
    refine gseq fun N6 hN6 => ?_
    refine greg ?_
    refine gop (y_assign (v := .int _ _) rfl) rfl rfl rfl ?_
    refine gops_nil ?_
    refine hN6 _ _ ?_
    refine gfrom [(0, .slice _ _ _), (1, .slice _ _ _), (5, .int _ _)] ⟨rfl, rfl, rfl, trivial⟩ fun σ => ?_
    refine gblock ?_
    refine gfrom2 [(5, .int _ _)] [(0, .slice _ _ _), (1, .slice _ _ _)] ⟨rfl, trivial⟩ ⟨rfl, rfl, trivial⟩ fun σ => ?_
    refine gloop2 (G := Nat) (fun k => k ≤ l.length ∧ l.length = m.length ∧ l.take k = m.take k) (fun k => l.length - k) (fun k => [(5, .int .i64 (k : Int))]) (fun k => []) (0) ?h0 ⟨rfl, trivial⟩ ⟨rfl, rfl, trivial⟩ rfl ?round
    case h0 => exact ⟨Nat.zero_le _, by omega, by simp⟩
    case round =>
      intro k hφ σ
      obtain ⟨hk, hlm, htk⟩ := hφ
      refine gseq fun N7 hN7 => ?_
      refine gseq fun N8 hN8 => ?_
      refine greg ?_
      refine gop (y_move (v := .int _ _) rfl) rfl rfl rfl ?_
      refine gop (y_move (v := .slice _ _ _) rfl) rfl rfl rfl ?_
      refine gop (y_len Try.underlying41 rfl) rfl rfl rfl ?_
      refine gop (y_lss rfl rfl) rfl rfl rfl ?_
      refine gops_nil ?_
      refine hN8 _ _ ?_
      refine gfrom [(0, .slice _ _ _), (1, .slice _ _ _), (5, .int _ _), (14, .bool _)] ⟨rfl, rfl, rfl, rfl, trivial⟩ fun σ => ?_
      refine gcond (b := _) rfl (fun hc14 => ?_) (fun hc14 => ?_)
      · -- slot 14 t
        replace hc14 := of_decide_eq_true hc14
        have hk1 : k < l.length := by omega
        obtain ⟨ad, rfl, -, hca⟩ := hA.at_ hk1
        obtain ⟨ad', rfl, -, hcb⟩ := hB.at_ (k := k) (by omega)
        refine gskip ?_
        refine hN7 _ _ ?_
        refine gfrom [(0, .slice _ _ _), (1, .slice _ _ _), (5, .int _ _)] ⟨rfl, rfl, rfl, trivial⟩ fun σ => ?_
        refine gseq fun N9 hN9 => ?_
        refine gblock ?_
        refine gseq fun N10 hN10 => ?_
        refine greg_q (by kernel_rfl) (by kernel_rfl) ?_
        refine gq (y_move (v := .slice _ _ _) rfl) rfl rfl rfl ?_
        refine gq (y_move (v := .int _ _) rfl) rfl rfl rfl ?_
        refine gq (y_indexAddr Try.underlying41 Try.sizeOf9 rfl rfl rfl (by omega) (by omega)) rfl rfl rfl ?_
        refine gq (y_load Try.isAgg9 rfl (cell_base (hca 0 _ rfl))) rfl rfl rfl ?_
        refine gq (y_move (v := .slice _ _ _) rfl) rfl rfl rfl ?_
        refine gq (y_move (v := .int _ _) rfl) rfl rfl rfl ?_
        refine gq (y_indexAddr Try.underlying41 Try.sizeOf9 rfl rfl rfl (by omega) (by omega)) rfl rfl rfl ?_
        refine gq (y_load Try.isAgg9 rfl (cell_base (hcb 0 _ rfl))) rfl rfl rfl ?_
        refine gq (y_neqs rfl rfl) rfl rfl rfl ?_
        refine gqs_nil ?_
        refine hN10 _ _ ?_
        refine gfrom [(0, .slice _ _ _), (1, .slice _ _ _), (5, .int _ _), (25, .bool _)] ⟨rfl, rfl, rfl, rfl, trivial⟩ fun σ => ?_
        refine gcond (b := _) rfl (fun hc25 => ?_) (fun hc25 => ?_)
        · -- slot 25 t
          replace hc25 := ba_ne_t hc25
          refine gseq fun N11 hN11 => ?_
          refine greg ?_
          refine gop (y_assign (v := .bool _) rfl) rfl rfl rfl ?_
          refine gops_nil ?_
          refine hN11 _ _ ?_
          refine gfrom [(4, .bool _)] ⟨rfl, trivial⟩ fun σ => ?_
          refine gret fun w1 hM => ?_
          refine ⟨_, res1 rfl (rt (v := .bool _) rfl), ?_⟩
          exact ⟨by rw [decide_eq_false (ne_of_at hk1 (by omega) hc25)], hM.low⟩
        · -- slot 25 f
          replace hc25 := ba_ne_f hc25
          refine gskip ?_
          refine hN9 _ _ ?_
          refine gfrom [(0, .slice _ _ _), (1, .slice _ _ _), (5, .int _ _)] ⟨rfl, rfl, rfl, trivial⟩ fun σ => ?_
          refine greg ?_
          refine gop (y_move (v := .int _ _) rfl) rfl rfl rfl ?_
          refine gop (y_add rfl rfl ⟨by omega, by omega⟩) rfl rfl rfl ?_
          refine gop (y_assign (v := .int _ _) rfl) rfl rfl rfl ?_
          refine gops_nil ?_
          refine gnext2 (k + 1) (by omega) (⟨by omega, hlm, take_next l m k (by omega) (by omega) htk hc25⟩) ⟨rfl, trivial⟩ ⟨rfl, rfl, trivial⟩ ⟨_, rfl⟩
      · -- slot 14 f
        replace hc14 := of_decide_eq_false hc14
        refine gexit ?_
        refine hN5 _ _ ?_
        refine gfrom [] trivial fun σ => ?_
        refine gseq fun N12 hN12 => ?_
        refine greg ?_
        refine gop (y_assign (v := .bool _) rfl) rfl rfl rfl ?_
        refine gops_nil ?_
        refine hN12 _ _ ?_
        refine gfrom [(4, .bool _)] ⟨rfl, trivial⟩ fun σ => ?_
        refine gret fun w1 hM => ?_
        refine ⟨_, res1 rfl (rt (v := .bool _) rfl), ?_⟩
        exact ⟨by rw [decide_eq_true (eq_of_takes hlm (by omega) htk)], hM.low⟩

set_option maxHeartbeats 2000000 in
theorem pending_any (w : World) (B : Option Addr) (d : Nat) (text : List ByteArray) (ht : Rdl w 0 1 strCells B text) (htb : SB B text.length d 16) (E : Option Addr) (ec : Nat) (es : List EvC) (he : EvsR w 0 E es) (hem : es.length ≤ maxLen) :
    Calls Try.prog 25 #[.slice B text.length d, .slice E es.length ec] w fun e w' => ∃ v, e = .returned (.tuple #[v, fv (runV text (evs es)).1]) ∧ Below w.heap.size w w' ∧ NewL 1 intCells (pendR text (evs es)) w.heap.size w' v := by
  have hmx : maxLen = 9223372036854775807 := rfl
  have htc := htb.len
  have htm := htb.max
  refine gcalls Try.func25 rfl Try.ntmps25 (Nat.le_of_ble_eq_true rfl) ?_
  refine gfrom [(0, .slice _ _ _), (1, .slice _ _ _)] ⟨rfl, rfl, trivial⟩ fun σ => ?_
  refine gseq fun N1 hN1 => ?_
  refine greg ?_
  refine gop (y_assign (v := .slice _ _ _) rfl) rfl rfl rfl ?_
  refine gop_alloc (cs := #[.int .i64 0, .int .i64 0]) Try.zeroValue27 rfl rfl (fun b5 hb5 => ?_)
  refine gops_nil ?_
  refine hN1 _ _ ?_
  refine gT [box b5 _] rfl ?_
  refine gfrom [(0, .slice _ _ _), (1, .slice _ _ _), (5, .pointer _)] ⟨rfl, rfl, rfl, trivial⟩ fun σ => ?_
  refine gseq fun N2 hN2 => ?_
  refine greg ?_
  refine gop (y_move (v := .slice _ _ _) rfl) rfl rfl rfl ?_
  refine gop (y_move (v := .slice _ _ _) rfl) rfl rfl rfl ?_
  refine gop_new (fun lo ws v => ∃ v1 v2, v = .tuple #[v1, v2, fv (runV text (evs es)).1] ∧ NewL 5 thrCells (runV text (evs es)).2.1 lo ws v1 ∧ NewL 1 strCells (runV text (evs es)).2.2 lo ws v2) (e_call (vs := [.slice _ _ _, .slice _ _ _]) Try.func24 rfl (by kernel_rfl) rfl) (fun w hM => by have hc := run_any w B d text (ht.base hM) htb E ec es (EvsR.lasts.base he hM) hem; exact hc.mono fun _ _ ⟨v1, v2, h1, h2, h3, h4⟩ => ⟨_, h1, h2, v1, v2, rfl, h3, h4⟩) rfl rfl rfl ?_
  rintro _ lo15 ws15 hlo15 ⟨_, _, rfl, ⟨A15, c15, rfl, hcc15, hcm15, hr15⟩, ⟨B15, d15, rfl, hdc15, hdm15, hq15⟩⟩
  refine gop (y_move (v := .tuple #[.slice _ _ _, .slice _ _ _, .agg #[_, _]]) rfl) rfl rfl rfl ?_
  refine gop (y_extract (v := .slice _ _ _) rfl rfl) rfl rfl rfl ?_
  refine gop (y_extract (v := .slice _ _ _) rfl rfl) rfl rfl rfl ?_
  refine gop (y_extract (v := .agg #[_, _]) rfl rfl) rfl rfl rfl ?_
  refine gop_alloc (cs := #[.int .i64 0, .int .i64 0]) Try.zeroValue27 rfl rfl (fun b8 hb8 => ?_)
  refine gop (y_assign (v := .slice _ _ _) rfl) rfl rfl rfl ?_
  refine gop (y_assign (v := .slice _ _ _) rfl) rfl rfl rfl ?_
  refine gop_store 2 (v := .agg #[_, _]) (cs' := #[_, _]) rfl rfl Try.sizeOf27 rfl rfl rfl rfl (Nat.le_of_ble_eq_true rfl) rfl rfl ?_
  refine gops_nil ?_
  refine hN2 _ _ ?_
  refine gT [box b5 _, seal_ _ _, box b8 _] rfl ?_
  refine gfrom [(5, .pointer _), (6, .slice _ _ _), (8, .pointer _)] ⟨rfl, rfl, rfl, trivial⟩ fun σ => ?_
  refine gseq fun N3 hN3 => ?_
  refine gseq fun N4 hN4 => ?_
  refine greg ?_
  refine gop (y_loads (cs := [_, _]) Try.isAgg27 Try.sizeOf27 rfl rfl (cells_box 2 rfl)) rfl rfl rfl ?_
  refine gop (y_build (vs := []) (cells := #[.int .i64 0, .int .i64 0]) rfl bd27_) rfl rfl rfl ?_
  refine gop (y_bin (vx := .agg #[_, _]) (vy := .agg #[_, _]) rfl rfl (fun w => eg27 _ _ _ _ _ w) (fun w => ne27 _ _ _ _ w)) rfl rfl rfl ?_
  refine gops_nil ?_
  refine hN4 _ _ ?_
  refine gfrom [(5, .pointer _), (6, .slice _ _ _), (8, .pointer _), (21, .bool _)] ⟨rfl, rfl, rfl, rfl, trivial⟩ fun σ => ?_
  refine gcond (b := _) rfl (fun hc21 => ?_) (fun hc21 => ?_)
  · -- slot 21 t
    replace hc21 := fault_ne.1 hc21
    have hB := (loadR_bad hc21).2
    refine gseq fun N5 hN5 => ?_
    refine greg_e1 [] [(0, room b5 27 2)] (by kernel_rfl) ?_
    refine ge_take 0 (TK := [room b5 27 2, seal_ _ _, box b8 _]) rfl (by kernel_rfl) (by kernel_rfl) (by kernel_rfl) #[false, true, false] (by kernel_rfl) rfl (y_loads (cs := [_, _]) Try.isAgg27 Try.sizeOf27 rfl rfl (cells_box 2 rfl)) rfl rfl rfl (weak_room 0 rfl rfl) (listed' := #[true, false, false]) rfl ?_
    refine ge_take 1 (TK := [room b5 27 2, seal_ _ _, box b8 _]) rfl (by kernel_rfl) (by kernel_rfl) (by kernel_rfl) #[true, false, false] (by kernel_rfl) rfl (y_assign (v := .slice _ _ _) rfl) rfl rfl rfl (weak_room 0 rfl rfl) (listed' := #[true, true, false]) rfl ?_
    refine ge_one 2 (k' := 0) (listed' := #[true, true, true]) (by kernel_rfl) rfl rfl rfl ?_
    refine gop_store 0 (v := .agg #[_, _]) (cs' := #[_, _]) rfl rfl Try.sizeOf27 rfl rfl rfl rfl (Nat.le_of_ble_eq_true rfl) rfl rfl ?_
    refine gops_nil ?_
    refine ge_fin (TK := [room b5 27 2, seal_ _ _, box b8 _]) rfl (weak_room 0 rfl rfl) ?_
    refine ge_done (by kernel_rfl) ?_
    refine hN5 _ _ ?_
    refine gT [box b5 _, seal_ _ _, box b8 _] rfl ?_
    refine gfrom [(4, .slice _ _ _), (5, .pointer _)] ⟨rfl, rfl, trivial⟩ fun σ => ?_
    refine gret fun w1 hM => ?_
    refine ⟨_, res2 rfl (rt (v := .slice _ _ _) rfl) (rc 0 (cs := [_, _]) hM rfl rfl Try.isAgg27 Try.sizeOf27 rfl), ?_⟩
    exact ⟨_, rfl, hM.low, by rw [hB]; exact newL_nil⟩
  · -- slot 21 f
    replace hc21 := fault_eq.1 hc21
    obtain ⟨_, _, _, hri⟩ := runV_ok hc21
    have hfw := hri.few
    refine gskip ?_
    refine hN3 _ _ ?_
    refine gfrom [(5, .pointer _), (6, .slice _ _ _)] ⟨rfl, rfl, trivial⟩ fun σ => ?_
    refine gseq fun N6 hN6 => ?_
    refine greg ?_
    refine gop (y_assign (v := .slice _ _ _) rfl) rfl rfl rfl ?_
    refine gops_nil ?_
    refine hN6 _ _ ?_
    refine gfrom [(5, .pointer _), (6, .slice _ _ _), (9, .slice _ _ _)] ⟨rfl, rfl, rfl, trivial⟩ fun σ => ?_
    refine gseq fun N7 hN7 => ?_
    refine gseq fun N8 hN8 => ?_
    refine greg ?_
    refine gop (y_move (v := .slice _ _ _) rfl) rfl rfl rfl ?_
    refine gop (y_len Try.underlying55 rfl) rfl rfl rfl ?_
    refine gop (y_move (v := .int _ _) rfl) rfl rfl rfl ?_
    refine gops_nil ?_
    refine hN8 _ _ ?_
    refine gfrom [(5, .pointer _), (9, .slice _ _ _), (23, .slice _ _ _), (24, .int _ _), (25, .int _ _)] ⟨rfl, rfl, rfl, rfl, rfl, trivial⟩ fun σ => ?_
    refine gblock ?_
    refine gnilrow intCells 3 1 ?_
    refine gfrom2 [(9, .slice _ _ _), (25, .int _ _)] [(5, .pointer _), (23, .slice _ _ _), (24, .int _ _)] ⟨rfl, rfl, trivial⟩ ⟨rfl, rfl, rfl, trivial⟩ fun σ => ?_
    refine gloop2 (G := Nat × Option Addr × Nat) (fun (k, Av, cv) => k ≤ (runV text (evs es)).2.1.length) (fun (k, Av, cv) => (runV text (evs es)).2.1.length - k) (fun (k, Av, cv) => [(9, .slice Av (pendK (runV text (evs es)).2.1 k).length cv), (25, .int .i64 (k : Int))]) (fun (k, Av, cv) => [(3, rowl intCells w.heap.size 3 1 (.slice Av (pendK (runV text (evs es)).2.1 k).length cv) (pendK (runV text (evs es)).2.1 k))]) ((0, none, 0)) ?h0 ⟨rfl, rfl, trivial⟩ ⟨rfl, rfl, rfl, trivial⟩ rfl ?round
    case h0 => exact Nat.zero_le _
    case round =>
      rintro ⟨k, Av, cv⟩ hφ σ
      have hk : k ≤ (runV text (evs es)).2.1.length := hφ
      refine gT [box b5 _, seal_ _ _, box b8 _, rowl _ _ _ _ _ _] rfl ?_
      refine gseq fun N9 hN9 => ?_
      refine greg ?_
      refine gop (y_lss rfl rfl) rfl rfl rfl ?_
      refine gops_nil ?_
      refine hN9 _ _ ?_
      refine gfrom [(5, .pointer _), (9, .slice Av _ cv), (23, .slice _ _ _), (24, .int _ _), (25, .int _ _), (26, .bool _)] ⟨rfl, rfl, rfl, rfl, rfl, rfl, trivial⟩ fun σ => ?_
      refine gseq fun N10 hN10 => ?_
      refine gcond (b := _) rfl (fun hc26 => ?_) (fun hc26 => ?_)
      · -- slot 26 t
        replace hc26 := of_decide_eq_true hc26
        have hk1 : k < (runV text (evs es)).2.1.length := by omega
        obtain ⟨ad, rfl, hlo2, hcl⟩ := hr15.at_ hk1
        have hpl := pendK_len (runV text (evs es)).2.1 k
        refine gskip ?_
        refine hN10 _ _ ?_
        refine gfrom [(5, .pointer _), (9, .slice Av _ cv), (23, .slice _ _ _), (24, .int _ _), (25, .int _ _)] ⟨rfl, rfl, rfl, rfl, rfl, trivial⟩ fun σ => ?_
        refine gseq fun N11 hN11 => ?_
        refine gblock ?_
        refine gseq fun N12 hN12 => ?_
        refine greg ?_
        refine gop (y_move (v := .int _ _) rfl) rfl rfl rfl ?_
        refine gop (y_indexAddr Try.underlying55 Try.sizeOf60 rfl rfl rfl (by omega) (by omega)) rfl rfl rfl ?_
        refine gop (y_loads (cs := [_, _, _, _, _]) Try.isAgg60 Try.sizeOf60 rfl rfl (cells_sealed 1 rfl hlo2 hcl)) rfl rfl rfl ?_
        refine gop_alloc (cs := #[.int .i64 0, .int .i64 0, .int .i64 0, .bool false, .bool false]) Try.zeroValue60 rfl rfl (fun b11 hb11 => ?_)
        refine gop (y_assign (v := .int _ _) rfl) rfl rfl rfl ?_
        refine gop_store 4 (v := .agg #[_, _, _, _, _]) (cs' := #[_, _, _, _, _]) rfl rfl Try.sizeOf60 rfl rfl rfl rfl (Nat.le_of_ble_eq_true rfl) rfl rfl ?_
        refine gops_nil ?_
        refine hN12 _ _ ?_
        refine gT [box b5 _, seal_ _ _, box b8 _, rowl _ _ _ _ _ _, box b11 _] rfl ?_
        refine gfrom [(5, .pointer _), (9, .slice Av _ cv), (10, .int _ _), (11, .pointer _), (23, .slice _ _ _), (24, .int _ _), (25, .int _ _)] ⟨rfl, rfl, rfl, rfl, rfl, rfl, rfl, trivial⟩ fun σ => ?_
        refine gseq fun N13 hN13 => ?_
        refine greg ?_
        refine gop (y_fieldAddr_box fa60_4 rfl) rfl rfl rfl ?_
        refine gop (y_load Try.isAgg4 rfl (cell_box 4 rfl rfl)) rfl rfl rfl ?_
        refine gop (y_not rfl) rfl rfl rfl ?_
        refine gops_nil ?_
        refine hN13 _ _ ?_
        refine gfrom [(5, .pointer _), (9, .slice Av _ cv), (10, .int _ _), (23, .slice _ _ _), (24, .int _ _), (25, .int _ _), (32, .bool _)] ⟨rfl, rfl, rfl, rfl, rfl, rfl, rfl, trivial⟩ fun σ => ?_
        refine gcond (b := _) rfl (fun hc32 => ?_) (fun hc32 => ?_)
        · -- slot 32 t
          replace hc32 := not_t hc32
          refine greg ?_
          refine gop (y_move (v := .slice Av _ cv) rfl) rfl rfl rfl ?_
          refine gop (y_move (v := .int _ _) rfl) rfl rfl rfl ?_
          refine gop_lit (vs := [.int _ _]) (cells := #[_]) Try.underlying30 Try.sizeOf3 Try.zeroValue3 rfl (by decide) (by decide) rfl rfl rfl rfl (fun b35 hb35 => ?_)
          refine gop_append 3 (f := intCells) (l2 := [(k : Int)]) Try.underlying30 el3 wide_int (v := .slice Av _ cv) rfl rfl rfl rfl (fun h => by cases h) (by simp [maxLen]; omega) (by simp; omega) (src_box 5 rfl rfl) rfl (fun v36 => ?_)
          refine gops_fact (fun w hM => own_form (hM.own 3 rfl)) ?_
          rintro ⟨A36, c36, rfl, hc36, hm36⟩
          refine gop (y_assign (v := .slice A36 _ c36) rfl) rfl rfl rfl ?_
          refine gops_nil ?_
          refine hN11 _ _ ?_
          refine gT [box b5 _, seal_ _ _, box b8 _, rowl _ _ _ _ _ _, box b11 _, box b35 _] rfl ?_
          refine gfrom [(5, .pointer _), (9, .slice A36 _ c36), (23, .slice _ _ _), (24, .int _ _), (25, .int _ _)] ⟨rfl, rfl, rfl, rfl, rfl, trivial⟩ fun σ => ?_
          refine greg ?_
          refine gop (y_add rfl rfl ⟨by omega, by omega⟩) rfl rfl rfl ?_
          refine gop (y_move (v := .int _ _) rfl) rfl rfl rfl ?_
          refine gops_nil ?_
          rw [← pendK_yes hk1 hc32]
          refine gnext2 ((k + 1, A36, c36)) (by show _ - (k + 1) < _ - k; omega) (show k + 1 ≤ _ by omega) ⟨(by rw [pendK_yes hk1 hc32]; rfl), rfl, trivial⟩ ⟨rfl, rfl, rfl, trivial⟩ ⟨_, rfl⟩
        · -- slot 32 f
          replace hc32 := not_f hc32
          refine gskip ?_
          refine hN11 _ _ ?_
          refine gfrom [(5, .pointer _), (9, .slice Av _ cv), (23, .slice _ _ _), (24, .int _ _), (25, .int _ _)] ⟨rfl, rfl, rfl, rfl, rfl, trivial⟩ fun σ => ?_
          refine greg ?_
          refine gop (y_add rfl rfl ⟨by omega, by omega⟩) rfl rfl rfl ?_
          refine gop (y_move (v := .int _ _) rfl) rfl rfl rfl ?_
          refine gops_nil ?_
          rw [← pendK_no hk1 hc32]
          refine gnext2 ((k + 1, Av, cv)) (by show _ - (k + 1) < _ - k; omega) (show k + 1 ≤ _ by omega) ⟨(by rw [pendK_no hk1 hc32]; rfl), rfl, trivial⟩ ⟨rfl, rfl, rfl, trivial⟩ ⟨_, rfl⟩
      · -- slot 26 f
        replace hc26 := of_decide_eq_false hc26
        refine gexit ?_
        refine hN7 _ _ ?_
        refine gfrom [(5, .pointer _), (9, .slice Av _ cv)] ⟨rfl, rfl, trivial⟩ fun σ => ?_
        refine gseq fun N14 hN14 => ?_
        refine greg ?_
        refine gop (y_move (v := .slice Av _ cv) rfl) rfl rfl rfl ?_
        refine gop (y_build (vs := []) (cells := #[.int .i64 0, .int .i64 0]) rfl bd27_) rfl rfl rfl ?_
        refine gop (y_assign (v := .slice Av _ cv) rfl) rfl rfl rfl ?_
        refine gop_store 0 (v := .agg #[_, _]) (cs' := #[_, _]) rfl rfl Try.sizeOf27 rfl rfl rfl rfl (Nat.le_of_ble_eq_true rfl) rfl rfl ?_
        refine gops_nil ?_
        refine hN14 _ _ ?_
        refine gT [box b5 _, seal_ _ _, box b8 _, rowl _ _ _ _ _ _] rfl ?_
        refine gfrom [(4, .slice Av _ cv), (5, .pointer _)] ⟨rfl, rfl, trivial⟩ fun σ => ?_
        refine gret fun w1 hM => ?_
        refine ⟨_, res2 rfl (rt (v := .slice Av _ cv) rfl) (rc 0 (cs := [_, _]) hM rfl rfl Try.isAgg27 Try.sizeOf27 rfl), ?_⟩
        obtain rfl : k = (runV text (evs es)).2.1.length := by omega
        exact ⟨_, by rw [hc21], hM.low, hM.newL 3 rfl (fun _ => rfl)⟩

set_option maxHeartbeats 2000000 in
theorem load_any (w : World) (B : Option Addr) (d : Nat) (text : List ByteArray) (ht : Rdl w 0 1 strCells B text) (htb : SB B text.length d 16) (E : Option Addr) (ec : Nat) (es : List EvC) (he : EvsR w 0 E es) (hem : es.length ≤ maxLen) :
    Calls Try.prog 26 #[.slice B text.length d, .slice E es.length ec] w fun e w' => ∃ v, e = .returned (.tuple #[v, fv (runV text (evs es)).1]) ∧ Below w.heap.size w w' ∧ NewL 1 intCells (loadR text (evs es)) w.heap.size w' v := by
  have hmx : maxLen = 9223372036854775807 := rfl
  have htc := htb.len
  have htm := htb.max
  refine gcalls Try.func26 rfl Try.ntmps26 (Nat.le_of_ble_eq_true rfl) ?_
  refine gfrom [(0, .slice _ _ _), (1, .slice _ _ _)] ⟨rfl, rfl, trivial⟩ fun σ => ?_
  refine gseq fun N1 hN1 => ?_
  refine greg ?_
  refine gop (y_assign (v := .slice _ _ _) rfl) rfl rfl rfl ?_
  refine gop_alloc (cs := #[.int .i64 0, .int .i64 0]) Try.zeroValue27 rfl rfl (fun b5 hb5 => ?_)
  refine gops_nil ?_
  refine hN1 _ _ ?_
  refine gT [box b5 _] rfl ?_
  refine gfrom [(0, .slice _ _ _), (1, .slice _ _ _), (5, .pointer _)] ⟨rfl, rfl, rfl, trivial⟩ fun σ => ?_
  refine gseq fun N2 hN2 => ?_
  refine greg ?_
  refine gop (y_move (v := .slice _ _ _) rfl) rfl rfl rfl ?_
  refine gop (y_move (v := .slice _ _ _) rfl) rfl rfl rfl ?_
  refine gop_new (fun lo ws v => ∃ v1 v2, v = .tuple #[v1, v2, fv (runV text (evs es)).1] ∧ NewL 5 thrCells (runV text (evs es)).2.1 lo ws v1 ∧ NewL 1 strCells (runV text (evs es)).2.2 lo ws v2) (e_call (vs := [.slice _ _ _, .slice _ _ _]) Try.func24 rfl (by kernel_rfl) rfl) (fun w hM => by have hc := run_any w B d text (ht.base hM) htb E ec es (EvsR.lasts.base he hM) hem; exact hc.mono fun _ _ ⟨v1, v2, h1, h2, h3, h4⟩ => ⟨_, h1, h2, v1, v2, rfl, h3, h4⟩) rfl rfl rfl ?_
  rintro _ lo15 ws15 hlo15 ⟨_, _, rfl, ⟨A15, c15, rfl, hcc15, hcm15, hr15⟩, ⟨B15, d15, rfl, hdc15, hdm15, hq15⟩⟩
  refine gop (y_move (v := .tuple #[.slice _ _ _, .slice _ _ _, .agg #[_, _]]) rfl) rfl rfl rfl ?_
  refine gop (y_extract (v := .slice _ _ _) rfl rfl) rfl rfl rfl ?_
  refine gop (y_extract (v := .slice _ _ _) rfl rfl) rfl rfl rfl ?_
  refine gop (y_extract (v := .agg #[_, _]) rfl rfl) rfl rfl rfl ?_
  refine gop_alloc (cs := #[.int .i64 0, .int .i64 0]) Try.zeroValue27 rfl rfl (fun b8 hb8 => ?_)
  refine gop (y_assign (v := .slice _ _ _) rfl) rfl rfl rfl ?_
  refine gop (y_assign (v := .slice _ _ _) rfl) rfl rfl rfl ?_
  refine gop_store 2 (v := .agg #[_, _]) (cs' := #[_, _]) rfl rfl Try.sizeOf27 rfl rfl rfl rfl (Nat.le_of_ble_eq_true rfl) rfl rfl ?_
  refine gops_nil ?_
  refine hN2 _ _ ?_
  refine gT [box b5 _, seal_ _ _, box b8 _] rfl ?_
  refine gfrom [(5, .pointer _), (6, .slice _ _ _), (7, .slice _ _ _), (8, .pointer _)] ⟨rfl, rfl, rfl, rfl, trivial⟩ fun σ => ?_
  refine gseq fun N3 hN3 => ?_
  refine gseq fun N4 hN4 => ?_
  refine greg ?_
  refine gop (y_loads (cs := [_, _]) Try.isAgg27 Try.sizeOf27 rfl rfl (cells_box 2 rfl)) rfl rfl rfl ?_
  refine gop (y_build (vs := []) (cells := #[.int .i64 0, .int .i64 0]) rfl bd27_) rfl rfl rfl ?_
  refine gop (y_bin (vx := .agg #[_, _]) (vy := .agg #[_, _]) rfl rfl (fun w => eg27 _ _ _ _ _ w) (fun w => ne27 _ _ _ _ w)) rfl rfl rfl ?_
  refine gops_nil ?_
  refine hN4 _ _ ?_
  refine gfrom [(5, .pointer _), (6, .slice _ _ _), (7, .slice _ _ _), (8, .pointer _), (21, .bool _)] ⟨rfl, rfl, rfl, rfl, rfl, trivial⟩ fun σ => ?_
  refine gcond (b := _) rfl (fun hc21 => ?_) (fun hc21 => ?_)
  · -- slot 21 t
    replace hc21 := fault_ne.1 hc21
    have hB := (loadR_bad hc21).1
    refine gseq fun N5 hN5 => ?_
    refine greg_e1 [] [(0, room b5 27 2)] (by kernel_rfl) ?_
    refine ge_take 0 (TK := [room b5 27 2, seal_ _ _, box b8 _]) rfl (by kernel_rfl) (by kernel_rfl) (by kernel_rfl) #[false, true, false] (by kernel_rfl) rfl (y_loads (cs := [_, _]) Try.isAgg27 Try.sizeOf27 rfl rfl (cells_box 2 rfl)) rfl rfl rfl (weak_room 0 rfl rfl) (listed' := #[true, false, false]) rfl ?_
    refine ge_take 1 (TK := [room b5 27 2, seal_ _ _, box b8 _]) rfl (by kernel_rfl) (by kernel_rfl) (by kernel_rfl) #[true, false, false] (by kernel_rfl) rfl (y_assign (v := .slice _ _ _) rfl) rfl rfl rfl (weak_room 0 rfl rfl) (listed' := #[true, true, false]) rfl ?_
    refine ge_one 2 (k' := 0) (listed' := #[true, true, true]) (by kernel_rfl) rfl rfl rfl ?_
    refine gop_store 0 (v := .agg #[_, _]) (cs' := #[_, _]) rfl rfl Try.sizeOf27 rfl rfl rfl rfl (Nat.le_of_ble_eq_true rfl) rfl rfl ?_
    refine gops_nil ?_
    refine ge_fin (TK := [room b5 27 2, seal_ _ _, box b8 _]) rfl (weak_room 0 rfl rfl) ?_
    refine ge_done (by kernel_rfl) ?_
    refine hN5 _ _ ?_
    refine gT [box b5 _, seal_ _ _, box b8 _] rfl ?_
    refine gfrom [(4, .slice _ _ _), (5, .pointer _)] ⟨rfl, rfl, trivial⟩ fun σ => ?_
    refine gret fun w1 hM => ?_
    refine ⟨_, res2 rfl (rt (v := .slice _ _ _) rfl) (rc 0 (cs := [_, _]) hM rfl rfl Try.isAgg27 Try.sizeOf27 rfl), ?_⟩
    exact ⟨_, rfl, hM.low, by rw [hB]; exact newL_nil⟩
  · -- slot 21 f
    replace hc21 := fault_eq.1 hc21
    obtain ⟨_, _, _, hri⟩ := runV_ok hc21
    have hfw := hri.few
    have hln := hri.len
    refine gskip ?_
    refine hN3 _ _ ?_
    refine gfrom [(5, .pointer _), (6, .slice _ _ _), (7, .slice _ _ _)] ⟨rfl, rfl, rfl, trivial⟩ fun σ => ?_
    refine gseq fun N6 hN6 => ?_
    refine greg ?_
    refine gop (y_move (v := .slice _ _ _) rfl) rfl rfl rfl ?_
    refine gop (y_len Try.underlying41 rfl) rfl rfl rfl ?_
    refine gop_make (f := intCells) (bytes := 8) (z := .int .i64 0) ((0 : Int)) Try.underlying30 (by kernel_rfl) rfl rfl rfl (k := (runV text (evs es)).2.2.length) rfl rfl (by omega) (by omega) rfl (fun b25 hb25 => ?_)
    refine gop (y_assign (v := .slice (some _) _ _) rfl) rfl rfl rfl ?_
    refine gops_nil ?_
    refine hN6 _ _ ?_
    refine gT [box b5 _, seal_ _ _, box b8 _, rowl _ _ _ _ _ _] rfl ?_
    refine gfrom [(5, .pointer _), (6, .slice _ _ _), (9, .slice (some _) _ _)] ⟨rfl, rfl, rfl, trivial⟩ fun σ => ?_
    refine gseq fun N7 hN7 => ?_
    refine gseq fun N8 hN8 => ?_
    refine greg ?_
    refine gop (y_move (v := .slice _ _ _) rfl) rfl rfl rfl ?_
    refine gop (y_len Try.underlying55 rfl) rfl rfl rfl ?_
    refine gop (y_move (v := .int _ _) rfl) rfl rfl rfl ?_
    refine gops_nil ?_
    refine hN8 _ _ ?_
    refine gfrom [(5, .pointer _), (9, .slice (some _) _ _), (26, .slice _ _ _), (27, .int _ _), (28, .int _ _)] ⟨rfl, rfl, rfl, rfl, rfl, trivial⟩ fun σ => ?_
    refine gblock ?_
    refine gfrom2 [(28, .int _ _)] [(5, .pointer _), (9, .slice (some _) _ _), (26, .slice _ _ _), (27, .int _ _)] ⟨rfl, trivial⟩ ⟨rfl, rfl, rfl, rfl, trivial⟩ fun σ => ?_
    refine gloop2 (G := Nat) (fun k => k ≤ (runV text (evs es)).2.1.length) (fun k => (runV text (evs es)).2.1.length - k) (fun k => [(28, .int .i64 (k : Int))]) (fun k => [(3, rowl intCells w.heap.size 3 1 (.slice (some ⟨b25, 0, none⟩) (runV text (evs es)).2.2.length (runV text (evs es)).2.2.length) (loadK (runV text (evs es)).2.1 (runV text (evs es)).2.2.length k))]) (0) ?h0 ⟨rfl, trivial⟩ ⟨rfl, rfl, rfl, rfl, trivial⟩ rfl ?round
    case h0 => exact Nat.zero_le _
    case round =>
      intro k hφ σ
      have hk : k ≤ (runV text (evs es)).2.1.length := hφ
      refine gT [box b5 _, seal_ _ _, box b8 _, rowl _ _ _ _ _ _] rfl ?_
      refine gseq fun N9 hN9 => ?_
      refine greg ?_
      refine gop (y_lss rfl rfl) rfl rfl rfl ?_
      refine gops_nil ?_
      refine hN9 _ _ ?_
      refine gfrom [(5, .pointer _), (9, .slice (some _) _ _), (26, .slice _ _ _), (27, .int _ _), (28, .int _ _), (29, .bool _)] ⟨rfl, rfl, rfl, rfl, rfl, rfl, trivial⟩ fun σ => ?_
      refine gseq fun N10 hN10 => ?_
      refine gcond (b := _) rfl (fun hc29 => ?_) (fun hc29 => ?_)
      · -- slot 29 t
        replace hc29 := of_decide_eq_true hc29
        have hk1 : k < (runV text (evs es)).2.1.length := by omega
        obtain ⟨ad, rfl, hlo2, hcl⟩ := hr15.at_ hk1
        have hsu := loadK_succ hk1 (runV text (evs es)).2.2.length
        obtain ⟨hll, hlb⟩ := loadK_bd (runV text (evs es)).2.1 (runV text (evs es)).2.2.length k hk
        refine gskip ?_
        refine hN10 _ _ ?_
        refine gfrom [(5, .pointer _), (9, .slice (some _) _ _), (26, .slice _ _ _), (27, .int _ _), (28, .int _ _)] ⟨rfl, rfl, rfl, rfl, rfl, trivial⟩ fun σ => ?_
        refine gseq fun N11 hN11 => ?_
        refine gblock ?_
        refine gseq fun N12 hN12 => ?_
        refine greg ?_
        refine gop (y_indexAddr Try.underlying55 Try.sizeOf60 rfl rfl rfl (by omega) (by omega)) rfl rfl rfl ?_
        refine gop (y_loads (cs := [_, _, _, _, _]) Try.isAgg60 Try.sizeOf60 rfl rfl (cells_sealed 1 rfl hlo2 hcl)) rfl rfl rfl ?_
        refine gop_alloc (cs := #[.int .i64 0, .int .i64 0, .int .i64 0, .bool false, .bool false]) Try.zeroValue60 rfl rfl (fun b11 hb11 => ?_)
        refine gop_store 4 (v := .agg #[_, _, _, _, _]) (cs' := #[_, _, _, _, _]) rfl rfl Try.sizeOf60 rfl rfl rfl rfl (Nat.le_of_ble_eq_true rfl) rfl rfl ?_
        refine gops_nil ?_
        refine hN12 _ _ ?_
        refine gT [box b5 _, seal_ _ _, box b8 _, rowl _ _ _ _ _ _, box b11 _] rfl ?_
        refine gfrom [(5, .pointer _), (9, .slice (some _) _ _), (11, .pointer _), (26, .slice _ _ _), (27, .int _ _), (28, .int _ _)] ⟨rfl, rfl, rfl, rfl, rfl, rfl, trivial⟩ fun σ => ?_
        refine gseq fun N13 hN13 => ?_
        refine greg ?_
        refine gop (y_fieldAddr_box fa60_4 rfl) rfl rfl rfl ?_
        refine gop (y_load Try.isAgg4 rfl (cell_box 4 rfl rfl)) rfl rfl rfl ?_
        refine gop (y_not rfl) rfl rfl rfl ?_
        refine gop (y_move (v := .bool _) rfl) rfl rfl rfl ?_
        refine gop_if (want := true) rfl rfl rfl rfl rfl rfl (fun hg35 => ?_) (fun hg35 => ?_)
        · -- guard 35 on
          have hg35d := not_t hg35
          refine gop (y_bare (y_fieldAddr_box fa60_3 rfl)) rfl rfl rfl ?_
          refine gop_on rfl rfl rfl rfl hg35 ?_
          refine gop (y_bare (y_load Try.isAgg4 rfl (cell_box 4 rfl rfl))) rfl rfl rfl ?_
          refine gop_on rfl rfl rfl rfl hg35 ?_
          refine gop (y_bare (y_not rfl)) rfl rfl rfl ?_
          refine gop (y_pick_t (v := .bool _) rfl hg35 rfl) rfl rfl rfl ?_
          refine gops_nil ?_
          refine hN13 _ _ ?_
          refine gfrom [(5, .pointer _), (9, .slice (some _) _ _), (11, .pointer _), (26, .slice _ _ _), (27, .int _ _), (28, .int _ _), (39, .bool _)] ⟨rfl, rfl, rfl, rfl, rfl, rfl, rfl, trivial⟩ fun σ => ?_
          refine gcond (b := _) rfl (fun hc39 => ?_) (fun hc39 => ?_)
          · -- slot 39 t
            replace hc39 := not_t hc39
            have hl0 := hri.lo _ (List.getElem_mem hk1)
            have hl1 := hri.cur _ (List.getElem_mem hk1) hc39
            have hln2 : (runV text (evs es)).2.1[k].line.toNat < (loadK (runV text (evs es)).2.1 (runV text (evs es)).2.2.length k).length := by rw [hll]; omega
            obtain ⟨y, hy⟩ : ∃ y, (loadK (runV text (evs es)).2.1 (runV text (evs es)).2.2.length k)[(runV text (evs es)).2.1[k].line.toNat]? = some y := ⟨_, List.getElem?_eq_getElem hln2⟩
            have hyb := hlb y (List.mem_of_getElem? hy)
            rw [addT, if_pos ⟨hg35d, hc39⟩, hy] at hsu
            refine greg ?_
            refine gop (y_move (v := .slice (some _) _ _) rfl) rfl rfl rfl ?_
            refine gop (y_fieldAddr_box fa60_1 rfl) rfl rfl rfl ?_
            refine gop (y_load Try.isAgg3 rfl (cell_box 4 rfl rfl)) rfl rfl rfl ?_
            refine gop (y_indexAddr (m := (runV text (evs es)).2.1[k].line.toNat) Try.underlying30 Try.sizeOf3 rfl rfl (by omega) (by omega) (by omega)) rfl rfl rfl ?_
            refine gop (y_load Try.isAgg3 rfl (cells_rowl 3 (f := intCells) (l := loadK (runV text (evs es)).2.1 (runV text (evs es)).2.2.length k) rfl hll.symm (fun _ => rfl) hy 0 _ rfl)) rfl rfl rfl ?_
            refine gop (y_add rfl rfl ⟨by omega, by omega⟩) rfl rfl rfl ?_
            refine gop (y_indexAddr (m := (runV text (evs es)).2.1[k].line.toNat) Try.underlying30 Try.sizeOf3 rfl rfl (by omega) (by omega) (by omega)) rfl rfl rfl ?_
            refine gop_store_row 3 (f := intCells) (l := loadK (runV text (evs es)).2.1 (runV text (evs es)).2.2.length k) (k := (runV text (evs es)).2.1[k].line.toNat) (o := 0) (v := .int _ _) (a := y) (a' := y + 1) (fun _ => rfl) rfl rfl rfl Try.sizeOf3 rfl rfl rfl rfl hll.symm hy (Nat.le_of_ble_eq_true rfl) rfl rfl ?_
            refine gops_nil ?_
            refine hN11 _ _ ?_
            refine gT [box b5 _, seal_ _ _, box b8 _, rowl _ _ _ _ _ _, box b11 _] rfl ?_
            refine gfrom [(5, .pointer _), (9, .slice (some _) _ _), (26, .slice _ _ _), (27, .int _ _), (28, .int _ _)] ⟨rfl, rfl, rfl, rfl, rfl, trivial⟩ fun σ => ?_
            refine greg ?_
            refine gop (y_add rfl rfl ⟨by omega, by omega⟩) rfl rfl rfl ?_
            refine gop (y_move (v := .int _ _) rfl) rfl rfl rfl ?_
            refine gops_nil ?_
            rw [show (loadK (runV text (evs es)).2.1 (runV text (evs es)).2.2.length k).set (runV text (evs es)).2.1[k].line.toNat (y + 1) = loadK (runV text (evs es)).2.1 (runV text (evs es)).2.2.length (k + 1) from by rw [hsu]; rfl]
            refine gnext2 (k + 1) (by omega) (show k + 1 ≤ _ by omega) ⟨rfl, trivial⟩ ⟨rfl, rfl, rfl, rfl, trivial⟩ ⟨_, rfl⟩
          · -- slot 39 f
            replace hc39 := not_f hc39
            rw [addT, if_neg (by first | (intro h2; simp_all; done) | (intro h2; rw [h2.1] at hg35d; cases hg35d))] at hsu
            refine gskip ?_
            refine hN11 _ _ ?_
            refine gfrom [(5, .pointer _), (9, .slice (some _) _ _), (26, .slice _ _ _), (27, .int _ _), (28, .int _ _)] ⟨rfl, rfl, rfl, rfl, rfl, trivial⟩ fun σ => ?_
            refine greg ?_
            refine gop (y_add rfl rfl ⟨by omega, by omega⟩) rfl rfl rfl ?_
            refine gop (y_move (v := .int _ _) rfl) rfl rfl rfl ?_
            refine gops_nil ?_
            rw [← hsu]
            refine gnext2 (k + 1) (by omega) (show k + 1 ≤ _ by omega) ⟨rfl, trivial⟩ ⟨rfl, rfl, rfl, rfl, trivial⟩ ⟨_, rfl⟩
        · -- guard 35 off
          have hg35d := not_f hg35
          refine gop_off rfl rfl rfl rfl hg35 rfl rfl ?_
          refine gop_off rfl rfl rfl rfl hg35 rfl rfl ?_
          refine gop (y_pick_f (v := .bool _) rfl hg35 rfl) rfl rfl rfl ?_
          refine gops_nil ?_
          refine hN13 _ _ ?_
          refine gfrom [(5, .pointer _), (9, .slice (some _) _ _), (11, .pointer _), (26, .slice _ _ _), (27, .int _ _), (28, .int _ _), (39, .bool _)] ⟨rfl, rfl, rfl, rfl, rfl, rfl, rfl, trivial⟩ fun σ => ?_
          refine gcond (b := _) rfl (fun hc39 => ?_) (fun hc39 => ?_)
          · -- slot 39 t
            cases hc39
          · -- slot 39 f
            rw [addT, if_neg (by first | (intro h2; simp_all; done) | (intro h2; rw [h2.1] at hg35d; cases hg35d))] at hsu
            refine gskip ?_
            refine hN11 _ _ ?_
            refine gfrom [(5, .pointer _), (9, .slice (some _) _ _), (26, .slice _ _ _), (27, .int _ _), (28, .int _ _)] ⟨rfl, rfl, rfl, rfl, rfl, trivial⟩ fun σ => ?_
            refine greg ?_
            refine gop (y_add rfl rfl ⟨by omega, by omega⟩) rfl rfl rfl ?_
            refine gop (y_move (v := .int _ _) rfl) rfl rfl rfl ?_
            refine gops_nil ?_
            rw [← hsu]
            refine gnext2 (k + 1) (by omega) (show k + 1 ≤ _ by omega) ⟨rfl, trivial⟩ ⟨rfl, rfl, rfl, rfl, trivial⟩ ⟨_, rfl⟩
      · -- slot 29 f
        replace hc29 := of_decide_eq_false hc29
        refine gexit ?_
        refine hN7 _ _ ?_
        refine gfrom [(5, .pointer _), (9, .slice (some _) _ _)] ⟨rfl, rfl, trivial⟩ fun σ => ?_
        refine gseq fun N14 hN14 => ?_
        refine greg ?_
        refine gop (y_move (v := .slice (some _) _ _) rfl) rfl rfl rfl ?_
        refine gop (y_build (vs := []) (cells := #[.int .i64 0, .int .i64 0]) rfl bd27_) rfl rfl rfl ?_
        refine gop (y_assign (v := .slice (some _) _ _) rfl) rfl rfl rfl ?_
        refine gop_store 0 (v := .agg #[_, _]) (cs' := #[_, _]) rfl rfl Try.sizeOf27 rfl rfl rfl rfl (Nat.le_of_ble_eq_true rfl) rfl rfl ?_
        refine gops_nil ?_
        refine hN14 _ _ ?_
        refine gT [box b5 _, seal_ _ _, box b8 _, rowl _ _ _ _ _ _] rfl ?_
        refine gfrom [(4, .slice (some _) _ _), (5, .pointer _)] ⟨rfl, rfl, trivial⟩ fun σ => ?_
        refine gret fun w1 hM => ?_
        refine ⟨_, res2 rfl (rt (v := .slice (some _) _ _) rfl) (rc 0 (cs := [_, _]) hM rfl rfl Try.isAgg27 Try.sizeOf27 rfl), ?_⟩
        obtain ⟨hll, _⟩ := loadK_bd (runV text (evs es)).2.1 (runV text (evs es)).2.2.length k hk
        exact ⟨_, by rw [hc21], hM.low, by have := Mem.own 3 hM rfl; rw [show k = (runV text (evs es)).2.1.length by omega] at this hll; exact ⟨_, _, by rw [loadR, hll], by rw [loadR, hll]; omega, by omega, by rw [loadR]; exact Rdl.of_own (f := intCells) (fun _ => rfl) this⟩⟩
end Go.Proofs.Ytbaojdiccikbiaa
