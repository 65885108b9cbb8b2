/-
  ApprovalsApproveMatchesSpec: for every tree, user and list of paths the law returns true (the tied card of the second form: what is read is of bulk at most 1048576).
-/
import Derived.Test.YtbkameioedmlkaaDoorP35d
import Derived.Deep.DeepHandedRow
import Derived.Lib.LaidTab
import Derived.Test.YtbkameioedmlkaaDoorCards
import Derived.Test.YtbkameioedmlkaaDoorProg
import Derived.Test.YtbkameioedmlkaaDoorTie
namespace Go.Proofs.YtbkameioedmlkaaDoor
open Go.RowKit Go.Cf
set_option maxRecDepth 10000
theorem el41 : Elem Tryd.prog 41 2 40 := elem_of (z := .agg #[.string .empty, .slice none 0 0]) (by kernel_rfl) rfl (by decide)
set_option maxHeartbeats 4000000 in
theorem concat_any (w : World) (A : Option Addr) (c : Nat) (l : List FsC) (hl : Rdl w 0 1 fsCells A l) (hn : l.length ≤ 4) (he : ∀ x ∈ l, TreeR w 0 x.A x.c x.fs ∧ x.fs.length ≤ 24) :
    Calls Tryd.prog 42 #[.slice A l.length c] w fun e w' => ∃ v T' lo, e = .returned v ∧ w.heap.size ≤ lo ∧ T' = [rowl fileCells lo 41 2 (v) (catFs l)] ∧ Mem w T' w' := by
  have hcb := catFs_le (fun x hx => (he x hx).2)
  refine gcalls Tryd.func42 rfl Tryd.ntmps42 (Nat.le_of_ble_eq_true rfl) ?_
  refine gfrom [(0, .slice _ _ _)] ⟨rfl, trivial⟩ fun σ => ?_
  refine gseq fun N1 hN1 => ?_
  refine greg ?_
  refine gop (y_assign (v := .slice _ _ _) rfl) rfl rfl rfl ?_
  refine gops_nil ?_
  refine hN1 _ _ ?_
  refine gfrom [(0, .slice _ _ _)] ⟨rfl, trivial⟩ fun σ => ?_
  refine gseq fun N2 hN2 => ?_
  refine greg ?_
  refine gop (y_assign (v := .int _ _) rfl) rfl rfl rfl ?_
  refine gops_nil ?_
  refine hN2 _ _ ?_
  refine gfrom [(0, .slice _ _ _), (3, .int _ _)] ⟨rfl, rfl, trivial⟩ fun σ => ?_
  refine gseq fun N3 hN3 => ?_
  refine gseq fun N4 hN4 => ?_
  refine greg ?_
  refine gop (y_move (v := .slice _ _ _) rfl) rfl rfl rfl ?_
  refine gop (y_len Tryd.underlying97 rfl) rfl rfl rfl ?_
  refine gop (y_move (v := .int _ _) rfl) rfl rfl rfl ?_
  refine gops_nil ?_
  refine hN4 _ _ ?_
  refine gfrom [(0, .slice _ _ _), (3, .int _ _), (9, .slice _ _ _), (10, .int _ _), (11, .int _ _)] ⟨rfl, rfl, rfl, rfl, rfl, trivial⟩ fun σ => ?_
  refine gblock ?_
  refine gfrom2 [(3, .int _ _), (11, .int _ _)] [(0, .slice _ _ _), (9, .slice _ _ _), (10, .int _ _)] ⟨rfl, rfl, trivial⟩ ⟨rfl, rfl, rfl, trivial⟩ fun σ => ?_
  refine gloop2 (G := Nat) (fun k => k ≤ l.length) (fun k => l.length - k) (fun k => [(3, .int .i64 ((catFs (l.take k)).length : Int)), (11, .int .i64 (k : Int))]) (fun k => []) (0) ?h0 ⟨rfl, rfl, trivial⟩ ⟨rfl, rfl, rfl, trivial⟩ rfl ?round
  case h0 => exact Nat.zero_le _
  case round =>
    intro k hφ σ
    have hk : k ≤ l.length := hφ
    refine gseq fun N5 hN5 => ?_
    refine greg ?_
    refine gop (y_lss rfl rfl) rfl rfl rfl ?_
    refine gops_nil ?_
    refine hN5 _ _ ?_
    refine gfrom [(0, .slice _ _ _), (3, .int _ _), (9, .slice _ _ _), (10, .int _ _), (11, .int _ _), (12, .bool _)] ⟨rfl, rfl, rfl, rfl, rfl, rfl, trivial⟩ fun σ => ?_
    refine gseq fun N6 hN6 => ?_
    refine gcond (b := _) rfl (fun hc12 => ?_) (fun hc12 => ?_)
    · 
      replace hc12 := of_decide_eq_true hc12
      have hk1 : k < l.length := by omega
      obtain ⟨ad, rfl, -, hca⟩ := hl.at_ hk1
      have hk24 := (he _ (List.getElem_mem hk1)).2
      have hcbk := hcb k
      refine gskip ?_
      refine hN6 _ _ ?_
      refine gfrom [(0, .slice _ _ _), (3, .int _ _), (9, .slice _ _ _), (10, .int _ _), (11, .int _ _)] ⟨rfl, rfl, rfl, rfl, rfl, trivial⟩ fun σ => ?_
      refine gseq fun N7 hN7 => ?_
      refine gblock ?_
      refine gseq fun N8 hN8 => ?_
      refine greg ?_
      refine gop (y_indexAddr (m := k) Tryd.underlying97 Tryd.sizeOf22 rfl rfl (by omega) (by omega) (by omega)) rfl rfl rfl ?_
      refine gop (y_load Tryd.isAgg22 rfl (cell_base (hca 0 _ rfl))) rfl rfl rfl ?_
      refine gop (y_assign (v := .slice _ _ _) rfl) rfl rfl rfl ?_
      refine gops_nil ?_
      refine hN8 _ _ ?_
      refine gfrom [(0, .slice _ _ _), (3, .int _ _), (5, .slice _ _ _), (9, .slice _ _ _), (10, .int _ _), (11, .int _ _)] ⟨rfl, rfl, rfl, rfl, rfl, rfl, trivial⟩ fun σ => ?_
      refine gseq fun N9 hN9 => ?_
      refine greg ?_
      refine gop (y_move (v := .int _ _) rfl) rfl rfl rfl ?_
      refine gop (y_move (v := .slice _ _ _) rfl) rfl rfl rfl ?_
      refine gop (y_len Tryd.underlying22 rfl) rfl rfl rfl ?_
      refine gop (y_add rfl rfl ⟨by omega, by omega⟩) rfl rfl rfl ?_
      refine gop (y_assign (v := .int _ _) rfl) rfl rfl rfl ?_
      refine gops_nil ?_
      refine hN9 _ _ ?_
      refine gfrom [(0, .slice _ _ _), (3, .int _ _), (9, .slice _ _ _), (10, .int _ _), (11, .int _ _)] ⟨rfl, rfl, rfl, rfl, rfl, trivial⟩ fun σ => ?_
      refine gseq fun N10 hN10 => ?_
      refine greg ?_
      refine gop (y_move (v := .int _ _) rfl) rfl rfl rfl ?_
      refine gop (y_lss rfl rfl) rfl rfl rfl ?_
      refine gops_nil ?_
      refine hN10 _ _ ?_
      refine gfrom [(0, .slice _ _ _), (3, .int _ _), (9, .slice _ _ _), (10, .int _ _), (11, .int _ _), (20, .bool _)] ⟨rfl, rfl, rfl, rfl, rfl, rfl, trivial⟩ fun σ => ?_
      refine gcond (b := _) rfl (fun hc20 => ?_) (fun hc20 => ?_)
      · 
         exfalso; have h9 := of_decide_eq_true hc20; omega
      · 
        replace hc20 := of_decide_eq_false hc20
        refine gskip ?_
        refine hN7 _ _ ?_
        refine gfrom [(0, .slice _ _ _), (3, .int _ _), (9, .slice _ _ _), (10, .int _ _), (11, .int _ _)] ⟨rfl, rfl, rfl, rfl, rfl, trivial⟩ fun σ => ?_
        refine greg ?_
        refine gop (y_add rfl rfl ⟨by omega, by omega⟩) rfl rfl rfl ?_
        refine gop (y_move (v := .int _ _) rfl) rfl rfl rfl ?_
        refine gops_nil ?_
        refine gnext2 (k + 1) (by omega) (show k + 1 ≤ _ by omega) ⟨(congrArg (Value.int .i64) (catFs_n hk1).symm), rfl, trivial⟩ ⟨rfl, rfl, rfl, trivial⟩ ⟨_, rfl⟩
    · 
      replace hc12 := of_decide_eq_false hc12
      have hcbk := hcb k
      have hke : l.take k = l := List.take_of_length_le (by omega)
      rw [hke] at hcbk ⊢
      refine gexit ?_
      refine hN3 _ _ ?_
      refine gfrom [(0, .slice _ _ _), (3, .int _ _)] ⟨rfl, rfl, trivial⟩ fun σ => ?_
      refine gseq fun N11 hN11 => ?_
      refine greg ?_
      refine gop (y_move (v := .int _ _) rfl) rfl rfl rfl ?_
      refine gop_got (fun v T' => ∃ lo, w.heap.size ≤ lo ∧ T' = [rowl fileCells lo 41 2 (v) ([])]) (e_call (vs := [_, .int _ _]) Tryd.func58 rfl (by kernel_rfl) rfl) (fun w hM => by have hc := growF_any w (catFs l).length (by omega); exact hc.mono fun _ _ ⟨v, T1, h1, h2, h3⟩ => ⟨v, T1, h1, ⟨_, hM.low.size, h2⟩, h3⟩) rfl rfl rfl ?_
      rintro v24 _ ⟨lo24, hlo24, rfl⟩
      refine gops_fact (fun w hM => row_form (hM.ok _ (List.mem_of_getElem? (i := 0) rfl))) ?_
      rintro ⟨A24, c24, rfl, hc24, hm24, hn24⟩
      refine gops_mem _ (weak_lower 0 rfl hlo24) ?_
      refine gop (y_assign (v := .slice A24 _ c24) rfl) rfl rfl rfl ?_
      refine gops_nil ?_
      refine hN11 _ _ ?_
      refine gT [rowl _ _ _ _ _ _] rfl ?_
      refine gfrom [(0, .slice _ _ _), (6, .slice A24 _ c24)] ⟨rfl, rfl, trivial⟩ fun σ => ?_
      refine gseq fun N12 hN12 => ?_
      refine gseq fun N13 hN13 => ?_
      refine greg ?_
      refine gop (y_move (v := .slice _ _ _) rfl) rfl rfl rfl ?_
      refine gop (y_len Tryd.underlying97 rfl) rfl rfl rfl ?_
      refine gop (y_move (v := .int _ _) rfl) rfl rfl rfl ?_
      refine gops_nil ?_
      refine hN13 _ _ ?_
      refine gfrom [(6, .slice A24 _ c24), (25, .slice _ _ _), (26, .int _ _), (27, .int _ _)] ⟨rfl, rfl, rfl, rfl, trivial⟩ fun σ => ?_
      refine gblock ?_
      refine gfrom2 [(6, .slice A24 _ c24), (27, .int _ _)] [(25, .slice _ _ _), (26, .int _ _)] ⟨rfl, rfl, trivial⟩ ⟨rfl, rfl, trivial⟩ fun σ => ?_
      refine gloop2 (G := Nat × Option Addr × Nat) (fun (k, Av, cv) => k ≤ l.length) (fun (k, Av, cv) => l.length - k) (fun (k, Av, cv) => [(6, .slice Av (catFs (l.take k)).length cv), (27, .int .i64 (k : Int))]) (fun (k, Av, cv) => [(0, rowl fileCells w.heap.size 41 2 (.slice Av (catFs (l.take k)).length cv) (catFs (l.take k)))]) ((0, A24, c24)) ?h0 ⟨rfl, rfl, trivial⟩ ⟨rfl, rfl, trivial⟩ rfl ?round
      case h0 => exact Nat.zero_le _
      case round =>
        rintro ⟨k, Av, cv⟩ hφ σ
        have hk : k ≤ l.length := hφ
        refine gT [rowl _ _ _ _ _ _] rfl ?_
        refine gseq fun N14 hN14 => ?_
        refine greg ?_
        refine gop (y_lss rfl rfl) rfl rfl rfl ?_
        refine gops_nil ?_
        refine hN14 _ _ ?_
        refine gfrom [(6, .slice Av _ cv), (25, .slice _ _ _), (26, .int _ _), (27, .int _ _), (28, .bool _)] ⟨rfl, rfl, rfl, rfl, rfl, trivial⟩ fun σ => ?_
        refine gseq fun N15 hN15 => ?_
        refine gcond (b := _) rfl (fun hc28 => ?_) (fun hc28 => ?_)
        · 
          replace hc28 := of_decide_eq_true hc28
          have hk1 : k < l.length := by omega
          obtain ⟨ad, rfl, -, hca⟩ := hl.at_ hk1
          have hRk := he _ (List.getElem_mem hk1)
          have hcbj := hcb k
          refine gskip ?_
          refine hN15 _ _ ?_
          refine gfrom [(6, .slice Av _ cv), (25, .slice _ _ _), (26, .int _ _), (27, .int _ _)] ⟨rfl, rfl, rfl, rfl, trivial⟩ fun σ => ?_
          refine gseq fun N16 hN16 => ?_
          refine gblock ?_
          refine gseq fun N17 hN17 => ?_
          refine greg ?_
          refine gop (y_indexAddr (m := k) Tryd.underlying97 Tryd.sizeOf22 rfl rfl (by omega) (by omega) (by omega)) rfl rfl rfl ?_
          refine gop (y_load Tryd.isAgg22 rfl (cell_base (hca 0 _ rfl))) rfl rfl rfl ?_
          refine gop (y_assign (v := .slice _ _ _) rfl) rfl rfl rfl ?_
          refine gops_nil ?_
          refine hN17 _ _ ?_
          refine gfrom [(6, .slice Av _ cv), (8, .slice _ _ _), (25, .slice _ _ _), (26, .int _ _), (27, .int _ _)] ⟨rfl, rfl, rfl, rfl, rfl, trivial⟩ fun σ => ?_
          refine greg ?_
          refine gop (y_move (v := .slice Av _ cv) rfl) rfl rfl rfl ?_
          refine gop (y_move (v := .slice _ _ _) rfl) rfl rfl rfl ?_
          refine gop_append 0 (f := fileCells) (l2 := l[k].fs) Tryd.underlying22 el41 wide_file (v := .slice Av _ cv) rfl rfl rfl rfl hRk.1.sb.nil (by simp [maxLen]; omega) (by omega) (fun w hM => (hRk.1.rd.base hM).src (fun _ => rfl)) rfl (fun v33 => ?_)
          refine gops_fact (fun w hM => own_form (hM.own 0 rfl)) ?_
          rintro ⟨A33, c33, rfl, hc33, hm33⟩
          refine gop (y_assign (v := .slice A33 _ c33) rfl) rfl rfl rfl ?_
          refine gops_nil ?_
          refine hN16 _ _ ?_
          refine gT [rowl _ _ _ _ _ _] rfl ?_
          refine gfrom [(6, .slice A33 _ c33), (25, .slice _ _ _), (26, .int _ _), (27, .int _ _)] ⟨rfl, rfl, rfl, rfl, trivial⟩ fun σ => ?_
          refine greg ?_
          refine gop (y_add rfl rfl ⟨by omega, by omega⟩) rfl rfl rfl ?_
          refine gop (y_move (v := .int _ _) rfl) rfl rfl rfl ?_
          refine gops_nil ?_
          rw [← catFs_succ hk1]
          refine gnext2 ((k + 1, A33, c33)) (by show l.length - (k + 1) < l.length - k; omega) (show k + 1 ≤ _ by omega) ⟨(by rw [catFs_succ hk1]; rfl), rfl, trivial⟩ ⟨rfl, rfl, trivial⟩ ⟨_, rfl⟩
        · 
          replace hc28 := of_decide_eq_false hc28
          refine gexit ?_
          refine hN12 _ _ ?_
          refine gfrom [(6, .slice Av _ cv)] ⟨rfl, trivial⟩ fun σ => ?_
          refine gseq fun N18 hN18 => ?_
          refine greg ?_
          refine gop (y_move (v := .slice Av _ cv) rfl) rfl rfl rfl ?_
          refine gop (y_assign (v := .slice Av _ cv) rfl) rfl rfl rfl ?_
          refine gops_nil ?_
          refine hN18 _ _ ?_
          refine gfrom [(2, .slice Av _ cv)] ⟨rfl, trivial⟩ fun σ => ?_
          refine gret fun w1 hM => ?_
          refine ⟨_, res1 rfl (rt (v := .slice Av _ cv) rfl), ?_⟩
          have hke2 : l.take k = l := List.take_of_length_le (by omega)
          rw [hke2] at hM
          exact ⟨_, _, _, by rw [hke2], Nat.le_refl _, rfl, hM⟩
set_option maxHeartbeats 1000000 in
theorem equal_any (w : World) (A B : Option Addr) (c c' : Nat) (l m : List ByteArray) (hA : Rdl w 0 1 strCells A l) (hB : Rdl w 0 1 strCells B m) (n : Nat) (hn : n = l.length) (hl : l.length ≤ maxLen) :
    Calls Tryd.prog 43 #[.slice A n c, .slice B m.length c'] w fun e w' => e = .returned (.bool (decide (l = m))) ∧ Below w.heap.size w w' := by
  subst hn
  unfold maxLen at hl
  refine gcalls Tryd.func43 rfl Tryd.ntmps43 (Nat.le_of_ble_eq_true rfl) ?_
  refine gfrom [(0, .slice _ _ _), (1, .slice _ _ _)] ⟨rfl, rfl, trivial⟩ fun σ => ?_
  refine gseq fun N1 hN1 => ?_
  refine greg ?_
  refine gop (y_assign (v := .bool _) rfl) rfl rfl rfl ?_
  refine gops_nil ?_
  refine hN1 _ _ ?_
  refine gfrom [(0, .slice _ _ _), (1, .slice _ _ _)] ⟨rfl, rfl, trivial⟩ fun σ => ?_
  refine gseq fun N2 hN2 => ?_
  refine gseq fun N3 hN3 => ?_
  refine greg ?_
  refine gop (y_move (v := .slice _ _ _) rfl) rfl rfl rfl ?_
  refine gop (y_len Tryd.underlying25 rfl) rfl rfl rfl ?_
  refine gop (y_move (v := .slice _ _ _) rfl) rfl rfl rfl ?_
  refine gop (y_len Tryd.underlying25 rfl) rfl rfl rfl ?_
  refine gop (y_neq rfl rfl) rfl rfl rfl ?_
  refine gops_nil ?_
  refine hN3 _ _ ?_
  refine gfrom [(0, .slice _ _ _), (1, .slice _ _ _), (10, .bool _)] ⟨rfl, rfl, rfl, trivial⟩ fun σ => ?_
  refine gcond (b := _) rfl (fun hc10 => ?_) (fun hc10 => ?_)
  · 
    replace hc10 := of_decide_eq_true hc10
    refine gseq fun N4 hN4 => ?_
    refine greg ?_
    refine gop (y_assign (v := .bool _) rfl) rfl rfl rfl ?_
    refine gops_nil ?_
    refine hN4 _ _ ?_
    refine gfrom [(4, .bool _)] ⟨rfl, trivial⟩ fun σ => ?_
    refine gret fun w1 hM => ?_
    refine ⟨_, res1 rfl (rt (v := .bool _) rfl), ?_⟩
    exact ⟨by rw [decide_eq_false (fun e => by subst e; omega)], hM.low⟩
  · 
    replace hc10 := Decidable.not_not.1 (of_decide_eq_false hc10)
    refine gskip ?_
    refine hN2 _ _ ?_
    refine gfrom [(0, .slice _ _ _), (1, .slice _ _ _)] ⟨rfl, rfl, trivial⟩ fun σ => ?_
    refine gseq fun N5 hN5 => ?_
    refine gseq fun N6 hN6 => ?_
    refine greg ?_
    refine gop (y_move (v := .slice _ _ _) rfl) rfl rfl rfl ?_
    refine gop (y_len Tryd.underlying25 rfl) rfl rfl rfl ?_
    refine gop (y_move (v := .int _ _) rfl) rfl rfl rfl ?_
    refine gops_nil ?_
    refine hN6 _ _ ?_
    refine gfrom [(0, .slice _ _ _), (1, .slice _ _ _), (12, .int _ _), (13, .int _ _)] ⟨rfl, rfl, rfl, rfl, trivial⟩ fun σ => ?_
    refine gblock ?_
    refine gfrom2 [(13, .int _ _)] [(0, .slice _ _ _), (1, .slice _ _ _), (12, .int _ _)] ⟨rfl, trivial⟩ ⟨rfl, rfl, rfl, trivial⟩ fun σ => ?_
    refine gloop2 (G := Nat) (fun k => k ≤ l.length ∧ l.length = m.length ∧ l.take k = m.take k) (fun k => l.length - k) (fun k => [(13, .int .i64 (k : Int))]) (fun k => []) (0) ?h0 ⟨rfl, trivial⟩ ⟨rfl, rfl, rfl, trivial⟩ rfl ?round
    case h0 => exact ⟨Nat.zero_le _, by omega, by simp⟩
    case round =>
      intro k hφ σ
      obtain ⟨hk, hlm, htk⟩ := hφ
      refine gseq fun N7 hN7 => ?_
      refine greg ?_
      refine gop (y_lss rfl rfl) rfl rfl rfl ?_
      refine gops_nil ?_
      refine hN7 _ _ ?_
      refine gfrom [(0, .slice _ _ _), (1, .slice _ _ _), (12, .int _ _), (13, .int _ _), (14, .bool _)] ⟨rfl, rfl, rfl, rfl, rfl, trivial⟩ fun σ => ?_
      refine gseq fun N8 hN8 => ?_
      refine gcond (b := _) rfl (fun hc14 => ?_) (fun hc14 => ?_)
      · 
        replace hc14 := of_decide_eq_true hc14
        have hk1 : k < l.length := by omega
        obtain ⟨ad, rfl, -, hca⟩ := hA.at_ hk1
        obtain ⟨ad', rfl, -, hcb⟩ := hB.at_ (k := k) (by omega)
        refine gskip ?_
        refine hN8 _ _ ?_
        refine gfrom [(0, .slice _ _ _), (1, .slice _ _ _), (12, .int _ _), (13, .int _ _)] ⟨rfl, rfl, rfl, rfl, trivial⟩ fun σ => ?_
        refine gseq fun N9 hN9 => ?_
        refine gblock ?_
        refine gseq fun N10 hN10 => ?_
        refine greg ?_
        refine gop (y_move (v := .int _ _) rfl) rfl rfl rfl ?_
        refine gop (y_assign (v := .int _ _) rfl) rfl rfl rfl ?_
        refine gops_nil ?_
        refine hN10 _ _ ?_
        refine gfrom [(0, .slice _ _ _), (1, .slice _ _ _), (5, .int _ _), (12, .int _ _), (13, .int _ _)] ⟨rfl, rfl, rfl, rfl, rfl, trivial⟩ fun σ => ?_
        refine gseq fun N11 hN11 => ?_
        refine greg_q (by kernel_rfl) (by kernel_rfl) ?_
        refine gq (y_move (v := .slice _ _ _) rfl) rfl rfl rfl ?_
        refine gq (y_move (v := .int _ _) rfl) rfl rfl rfl ?_
        refine gq (y_indexAddr Tryd.underlying25 Tryd.sizeOf9 rfl rfl rfl (by omega) (by omega)) rfl rfl rfl ?_
        refine gq (y_load Tryd.isAgg9 rfl (cell_base (hca 0 _ rfl))) rfl rfl rfl ?_
        refine gq (y_move (v := .slice _ _ _) rfl) rfl rfl rfl ?_
        refine gq (y_move (v := .int _ _) rfl) rfl rfl rfl ?_
        refine gq (y_indexAddr Tryd.underlying25 Tryd.sizeOf9 rfl rfl rfl (by omega) (by omega)) rfl rfl rfl ?_
        refine gq (y_load Tryd.isAgg9 rfl (cell_base (hcb 0 _ rfl))) rfl rfl rfl ?_
        refine gq (y_neqs rfl rfl) rfl rfl rfl ?_
        refine gqs_nil ?_
        refine hN11 _ _ ?_
        refine gfrom [(0, .slice _ _ _), (1, .slice _ _ _), (12, .int _ _), (13, .int _ _), (24, .bool _)] ⟨rfl, rfl, rfl, rfl, rfl, trivial⟩ fun σ => ?_
        refine gcond (b := _) rfl (fun hc24 => ?_) (fun hc24 => ?_)
        · 
          replace hc24 := strEq_ne2 hc24
          refine gseq fun N12 hN12 => ?_
          refine greg ?_
          refine gop (y_assign (v := .bool _) rfl) rfl rfl rfl ?_
          refine gops_nil ?_
          refine hN12 _ _ ?_
          refine gfrom [(4, .bool _)] ⟨rfl, trivial⟩ fun σ => ?_
          refine gret fun w1 hM => ?_
          refine ⟨_, res1 rfl (rt (v := .bool _) rfl), ?_⟩
          exact ⟨by rw [decide_eq_false (ne_of_at hk1 (by omega) hc24)], hM.low⟩
        · 
          replace hc24 := sb_eq_t (by simpa using hc24)
          refine gskip ?_
          refine hN9 _ _ ?_
          refine gfrom [(0, .slice _ _ _), (1, .slice _ _ _), (12, .int _ _), (13, .int _ _)] ⟨rfl, rfl, rfl, rfl, trivial⟩ fun σ => ?_
          refine greg ?_
          refine gop (y_add rfl rfl ⟨by omega, by omega⟩) rfl rfl rfl ?_
          refine gop (y_move (v := .int _ _) rfl) rfl rfl rfl ?_
          refine gops_nil ?_
          refine gnext2 (k + 1) (by omega) (⟨by omega, hlm, take_next l m k (by omega) (by omega) htk hc24⟩) ⟨rfl, trivial⟩ ⟨rfl, rfl, rfl, trivial⟩ ⟨_, rfl⟩
      · 
        replace hc14 := of_decide_eq_false hc14
        refine gexit ?_
        refine hN5 _ _ ?_
        refine gfrom [] trivial fun σ => ?_
        refine gseq fun N13 hN13 => ?_
        refine greg ?_
        refine gop (y_assign (v := .bool _) rfl) rfl rfl rfl ?_
        refine gops_nil ?_
        refine hN13 _ _ ?_
        refine gfrom [(4, .bool _)] ⟨rfl, trivial⟩ fun σ => ?_
        refine gret fun w1 hM => ?_
        refine ⟨_, res1 rfl (rt (v := .bool _) rfl), ?_⟩
        exact ⟨by rw [decide_eq_true (eq_of_takes hlm (by omega) htk)], hM.low⟩
set_option maxHeartbeats 16000000 in
theorem changed_any (w : World) (A : Option Addr) (c : Nat) (fs : List FileC) (hR : TreeR w 0 A c fs) (v : VTree (fpl fs)) (B : Option Addr) (d : Nat) (gs : List FileC) (hS : TreeR w 0 B d gs) (v2 : VTree (fpl gs)) :
    Calls Tryd.prog 30 #[.agg #[.slice A fs.length c], .agg #[.slice B gs.length d]] w fun e w' => ∃ v T', e = .returned v ∧ T' = [rowl strCells w.heap.size 9 1 (v) (chgL (fpl fs) (fpl gs))] ∧ Mem w T' w' := by
  have hsl := hR.sb.len
  have hsm := hR.sb.max
  have hmx : maxLen = 9223372036854775807 := rfl
  have hA24 : fs.length ≤ 24 := by have h9 := v.len; simpa using h9
  have hB24 : gs.length ≤ 24 := by have h9 := v2.len; simpa using h9
  have hall : (fs ++ gs).length = fs.length + gs.length := List.length_append
  refine gcalls Tryd.func30 rfl Tryd.ntmps30 (Nat.le_of_ble_eq_true rfl) ?_
  refine gfrom [(0, .agg #[_]), (1, .agg #[_])] ⟨rfl, rfl, trivial⟩ fun σ => ?_
  refine gseq fun N1 hN1 => ?_
  refine greg ?_
  refine gop_box (v := .agg #[_]) (cs := #[_]) rfl rfl rfl (fun b2 hb2 => ?_)
  refine gop_box (v := .agg #[_]) (cs := #[_]) rfl rfl rfl (fun b3 hb3 => ?_)
  refine gop (y_assign (v := .slice _ _ _) rfl) rfl rfl rfl ?_
  refine gops_nil ?_
  refine hN1 _ _ ?_
  refine gT [box b2 _, box b3 _] rfl ?_
  refine gfrom [(2, .pointer _), (3, .pointer _)] ⟨rfl, rfl, trivial⟩ fun σ => ?_
  refine gseq fun N2 hN2 => ?_
  refine greg ?_
  refine gop (y_assign (v := .slice _ _ _) rfl) rfl rfl rfl ?_
  refine gops_nil ?_
  refine hN2 _ _ ?_
  refine gfrom [(2, .pointer _), (3, .pointer _), (5, .slice _ _ _)] ⟨rfl, rfl, rfl, trivial⟩ fun σ => ?_
  refine gseq fun N3 hN3 => ?_
  refine gseq fun N4 hN4 => ?_
  refine greg ?_
  refine gop (y_fieldAddr_box fa24_0 rfl) rfl rfl rfl ?_
  refine gop (y_load Tryd.isAgg22 rfl (cell_box 0 rfl rfl)) rfl rfl rfl ?_
  refine gop (y_fieldAddr_box fa24_0 rfl) rfl rfl rfl ?_
  refine gop (y_load Tryd.isAgg22 rfl (cell_box 1 rfl rfl)) rfl rfl rfl ?_
  refine gop_lit (vs := [.slice _ _ _, .slice _ _ _]) (cells := #[_, _]) Tryd.underlying97 Tryd.sizeOf22 Tryd.zeroValue22 rfl (by decide) (by decide) rfl rfl rfl rfl (fun b16 hb16 => ?_)
  refine gop_got (fun v T' => ∃ lo, w.heap.size ≤ lo ∧ T' = [rowl fileCells lo 41 2 (v) ((fs ++ gs))]) (e_call (vs := [.slice (some _) _ _]) Tryd.func42 rfl (by kernel_rfl) rfl) (fun w hM => by have hr : Rdl w 0 1 fsCells (some ⟨b16, 0, none⟩) [⟨A, c, fs⟩, ⟨B, d, gs⟩] := (Rdl.of_box 2 (f := fsCells) (fun _ => rfl) hM rfl rfl).mono (Nat.zero_le _); have he : ∀ x ∈ ([⟨A, c, fs⟩, ⟨B, d, gs⟩] : List FsC), TreeR w 0 x.A x.c x.fs ∧ x.fs.length ≤ 24 := (fun x hx => by rcases List.mem_cons.1 hx with rfl | hx; exact ⟨hR.base hM, hA24⟩; obtain rfl := List.mem_singleton.1 hx; exact ⟨hS.base hM, hB24⟩); have hc := concat_any w (some ⟨b16, 0, none⟩) 2 [⟨A, c, fs⟩, ⟨B, d, gs⟩] hr (by simp) he; rw [show catFs [⟨A, c, fs⟩, ⟨B, d, gs⟩] = fs ++ gs from by simp [catFs]] at hc; exact hc.mono fun _ _ ⟨v, T1, lo, h1, h2, h3, h4⟩ => ⟨v, T1, h1, ⟨lo, Nat.le_trans hM.low.size h2, h3⟩, h4⟩) rfl rfl rfl ?_
  rintro v17 _ ⟨lo17, hlo17, rfl⟩
  refine gops_fact (fun w hM => row_form (hM.ok _ (List.mem_of_getElem? (i := 3) rfl))) ?_
  rintro ⟨A17, c17, rfl, hc17, hm17, hn17⟩
  refine gops_fact (Φ := 0 < ((fs ++ gs)).length → ∃ g, A17 = some ⟨g, 0, none⟩) (fun w hM h9 => row_g2 (hM.ok _ (List.mem_of_getElem? (i := 3) rfl)) h9) ?_
  intro hg17
  refine gop (y_len Tryd.underlying22 rfl) rfl rfl rfl ?_
  refine gop (y_move (v := .int _ _) rfl) rfl rfl rfl ?_
  refine gops_nil ?_
  refine hN4 _ _ ?_
  refine gT [box b2 _, box b3 _, box b16 _, rowl _ _ _ _ _ _] rfl ?_
  refine gfrom [(2, .pointer _), (3, .pointer _), (5, .slice _ _ _), (17, .slice A17 _ c17), (18, .int _ _), (19, .int _ _)] ⟨rfl, rfl, rfl, rfl, rfl, rfl, trivial⟩ fun σ => ?_
  refine gblock ?_
  refine gnilrow strCells 9 1 ?_
  refine gfrom2 [(5, .slice _ _ _), (19, .int _ _)] [(2, .pointer _), (3, .pointer _), (17, .slice A17 _ c17), (18, .int _ _)] ⟨rfl, rfl, trivial⟩ ⟨rfl, rfl, rfl, rfl, trivial⟩ fun σ => ?_
  refine gloop2 (G := Nat × Option Addr × Nat) (fun (k, Ov, ov) => k ≤ (fs ++ gs).length) (fun (k, Ov, ov) => (fs ++ gs).length - k) (fun (k, Ov, ov) => [(5, .slice Ov (chgTo (fpl fs) (fpl gs) k).length ov), (19, .int .i64 (k : Int))]) (fun (k, Ov, ov) => [(4, rowl strCells w.heap.size 9 1 (.slice Ov (chgTo (fpl fs) (fpl gs) k).length ov) (chgTo (fpl fs) (fpl gs) k))]) ((0, none, 0)) ?h0 ⟨rfl, rfl, trivial⟩ ⟨rfl, rfl, rfl, rfl, trivial⟩ rfl ?round
  case h0 => exact Nat.zero_le _
  case round =>
    rintro ⟨k, Ov, ov⟩ hφ σ
    have hk : k ≤ (fs ++ gs).length := hφ
    have hcl := chgTo_len (fpl fs) (fpl gs) k
    refine gT [box b2 _, box b3 _, box b16 _, rowl _ _ _ _ _ _, rowl _ _ _ _ _ _] rfl ?_
    refine gseq fun N5 hN5 => ?_
    refine greg ?_
    refine gop (y_lss rfl rfl) rfl rfl rfl ?_
    refine gops_nil ?_
    refine hN5 _ _ ?_
    refine gfrom [(2, .pointer _), (3, .pointer _), (5, .slice Ov _ ov), (17, .slice A17 _ c17), (18, .int _ _), (19, .int _ _), (20, .bool _)] ⟨rfl, rfl, rfl, rfl, rfl, rfl, rfl, trivial⟩ fun σ => ?_
    refine gseq fun N6 hN6 => ?_
    refine gcond (b := _) rfl (fun hc20 => ?_) (fun hc20 => ?_)
    · 
      replace hc20 := of_decide_eq_true hc20
      have hk1 : k < (fs ++ gs).length := by omega
      obtain ⟨g17, rfl⟩ := hg17 (by omega)
      refine gskip ?_
      refine hN6 _ _ ?_
      refine gfrom [(2, .pointer _), (3, .pointer _), (5, .slice Ov _ ov), (17, .slice (some ⟨g17, 0, none⟩) _ c17), (18, .int _ _), (19, .int _ _)] ⟨rfl, rfl, rfl, rfl, rfl, rfl, trivial⟩ fun σ => ?_
      refine gseq fun N7 hN7 => ?_
      refine gblock ?_
      refine gseq fun N8 hN8 => ?_
      refine greg ?_
      refine gop (y_indexAddr (m := k) Tryd.underlying22 Tryd.sizeOf41 rfl rfl (by omega) (by omega) (by omega)) rfl rfl rfl ?_
      refine gop (y_loads (cs := [_, _]) Tryd.isAgg41 Tryd.sizeOf41 rfl rfl (cells_rowp 3 (f := fileCells) (l := (fs ++ gs)) rfl rfl (fun _ => rfl) (List.getElem?_eq_getElem hk1))) rfl rfl rfl ?_
      refine gop_alloc (cs := #[.string .empty, .slice none 0 0]) Tryd.zeroValue41 rfl rfl (fun b7 hb7 => ?_)
      refine gop_store 5 (v := .agg #[_, _]) (cs' := #[_, _]) rfl rfl Tryd.sizeOf41 rfl rfl rfl rfl (Nat.le_of_ble_eq_true rfl) rfl rfl ?_
      refine gops_nil ?_
      refine hN8 _ _ ?_
      refine gT [box b2 _, box b3 _, box b16 _, rowl _ _ _ _ _ _, rowl _ _ _ _ _ _, box b7 _] rfl ?_
      refine gfrom [(2, .pointer _), (3, .pointer _), (5, .slice Ov _ ov), (7, .pointer _), (17, .slice (some ⟨g17, 0, none⟩) _ c17), (18, .int _ _), (19, .int _ _)] ⟨rfl, rfl, rfl, rfl, rfl, rfl, rfl, trivial⟩ fun σ => ?_
      refine gseq fun N9 hN9 => ?_
      refine greg ?_
      refine gop (y_fieldAddr_box fa24_0 rfl) rfl rfl rfl ?_
      refine gop (y_load Tryd.isAgg22 rfl (cell_box 0 rfl rfl)) rfl rfl rfl ?_
      refine gop (y_fieldAddr_box fa41_0 rfl) rfl rfl rfl ?_
      refine gop (y_load Tryd.isAgg9 rfl (cell_box 5 rfl rfl)) rfl rfl rfl ?_
      refine gop_got (fun v T' => T' = [] ∧ ∃ (kk : Nat) (b : Bool), v = .tuple #[.int .i64 (kk : Int), .bool b] ∧ (b = true → ∃ h : kk < fs.length, fs[kk].pl.path = (fs ++ gs)[k].pl.path) ∧ (b = false → ∀ f ∈ fs, f.pl.path ≠ (fs ++ gs)[k].pl.path)) (e_call (vs := [.slice _ _ _, .string _]) Tryd.func35 rfl (by kernel_rfl) rfl) (fun w hM => (treeFind_any w A c fs (hR.base hM) v (fs ++ gs)[k].pl.path).mono fun _ _ ⟨k, b, h1, h2, h3, h4⟩ => ⟨_, [], h1, ⟨rfl, k, b, rfl, h3, h4⟩, (Mem.start w).call h2⟩) rfl rfl rfl ?_
      rintro _ _ ⟨rfl, i, q1, rfl, hf1, hf2⟩
      refine gop (y_move (v := .tuple #[.int _ _, .bool _]) rfl) rfl rfl rfl ?_
      refine gop (y_extract (v := .int _ _) rfl rfl) rfl rfl rfl ?_
      refine gop (y_extract (v := .bool _) rfl rfl) rfl rfl rfl ?_
      refine gop (y_assign (v := .int _ _) rfl) rfl rfl rfl ?_
      refine gop (y_assign (v := .bool _) rfl) rfl rfl rfl ?_
      refine gops_nil ?_
      refine hN9 _ _ ?_
      refine gfrom [(2, .pointer _), (3, .pointer _), (5, .slice Ov _ ov), (7, .pointer _), (8, .int _ _), (9, .bool _), (17, .slice (some ⟨g17, 0, none⟩) _ c17), (18, .int _ _), (19, .int _ _)] ⟨rfl, rfl, rfl, rfl, rfl, rfl, rfl, rfl, rfl, trivial⟩ fun σ => ?_
      refine gseq fun N10 hN10 => ?_
      refine greg ?_
      refine gop (y_fieldAddr_box fa24_0 rfl) rfl rfl rfl ?_
      refine gop (y_load Tryd.isAgg22 rfl (cell_box 1 rfl rfl)) rfl rfl rfl ?_
      refine gop (y_fieldAddr_box fa41_0 rfl) rfl rfl rfl ?_
      refine gop (y_load Tryd.isAgg9 rfl (cell_box 5 rfl rfl)) rfl rfl rfl ?_
      refine gop_got (fun v T' => T' = [] ∧ ∃ (kk : Nat) (b : Bool), v = .tuple #[.int .i64 (kk : Int), .bool b] ∧ (b = true → ∃ h : kk < gs.length, gs[kk].pl.path = (fs ++ gs)[k].pl.path) ∧ (b = false → ∀ f ∈ gs, f.pl.path ≠ (fs ++ gs)[k].pl.path)) (e_call (vs := [.slice _ _ _, .string _]) Tryd.func35 rfl (by kernel_rfl) rfl) (fun w hM => (treeFind_any w B d gs (hS.base hM) v2 (fs ++ gs)[k].pl.path).mono fun _ _ ⟨k, b, h1, h2, h3, h4⟩ => ⟨_, [], h1, ⟨rfl, k, b, rfl, h3, h4⟩, (Mem.start w).call h2⟩) rfl rfl rfl ?_
      rintro _ _ ⟨rfl, j, q2, rfl, hf3, hf4⟩
      refine gop (y_move (v := .tuple #[.int _ _, .bool _]) rfl) rfl rfl rfl ?_
      refine gop (y_extract (v := .int _ _) rfl rfl) rfl rfl rfl ?_
      refine gop (y_extract (v := .bool _) rfl rfl) rfl rfl rfl ?_
      refine gop (y_assign (v := .int _ _) rfl) rfl rfl rfl ?_
      refine gop (y_assign (v := .bool _) rfl) rfl rfl rfl ?_
      refine gops_nil ?_
      refine hN10 _ _ ?_
      refine gfrom [(2, .pointer _), (3, .pointer _), (5, .slice Ov _ ov), (7, .pointer _), (8, .int _ _), (9, .bool _), (10, .int _ _), (11, .bool _), (17, .slice (some ⟨g17, 0, none⟩) _ c17), (18, .int _ _), (19, .int _ _)] ⟨rfl, rfl, rfl, rfl, rfl, rfl, rfl, rfl, rfl, rfl, rfl, trivial⟩ fun σ => ?_
      refine gseq fun N11 hN11 => ?_
      refine greg_q (by kernel_rfl) (by kernel_rfl) ?_
      refine gq (y_move (v := .bool _) rfl) rfl rfl rfl ?_
      refine gq (y_not rfl) rfl rfl rfl ?_
      refine gq (y_move (v := .bool _) rfl) rfl rfl rfl ?_
      refine gq_if (want := false) rfl rfl rfl rfl rfl rfl (fun hg41 => ?_) (fun hg41 => ?_)
      · 
        have hb1 : q1 = true := by simpa using hg41
        refine gq (y_bare (y_move (v := .bool _) rfl)) rfl rfl rfl ?_
        refine gq_on rfl rfl rfl rfl hg41 ?_
        refine gq (y_bare (y_not rfl)) rfl rfl rfl ?_
        refine gq (y_pick_f (v := .bool _) rfl hg41 rfl) rfl rfl rfl ?_
        refine gq (y_move (v := .bool _) rfl) rfl rfl rfl ?_
        refine gq_if (want := false) rfl rfl rfl rfl rfl rfl (fun hg45 => ?_) (fun hg45 => ?_)
        · 
          have hb2 : q2 = true := by simpa using hg45
          obtain ⟨hi1, hp1⟩ := hf1 hb1
          obtain ⟨hj1, hp2⟩ := hf3 hb2
          have hD := diff_both v v2 hi1 hp1 hj1 hp2
          have hRi := hR.each _ (List.getElem_mem hi1)
          have hSj := hS.each _ (List.getElem_mem hj1)
          obtain ⟨ad, rfl, -, hcx⟩ := hR.rd.at_ hi1
          obtain ⟨ad2, rfl, -, hcy⟩ := hS.rd.at_ hj1
          refine gq (y_bare (y_fieldAddr_box fa24_0 rfl)) rfl rfl rfl ?_
          refine gq_on rfl rfl rfl rfl hg45 ?_
          refine gq (y_bare (y_load Tryd.isAgg22 rfl (cell_box 0 rfl rfl))) rfl rfl rfl ?_
          refine gq_on rfl rfl rfl rfl hg45 ?_
          refine gq (y_bare (y_move (v := .int _ _) rfl)) rfl rfl rfl ?_
          refine gq_on rfl rfl rfl rfl hg45 ?_
          refine gq (y_bare (y_indexAddr (m := i) Tryd.underlying22 Tryd.sizeOf41 rfl rfl (by omega) (by omega) (by omega))) rfl rfl rfl ?_
          refine gq_on rfl rfl rfl rfl hg45 ?_
          refine gq (y_bare (y_fieldAddr_add fa41_1 rfl)) rfl rfl rfl ?_
          refine gq_on rfl rfl rfl rfl hg45 ?_
          refine gq (y_bare (y_load Tryd.isAgg25 rfl (cell_base (hcx 1 _ rfl)))) rfl rfl rfl ?_
          refine gq_on rfl rfl rfl rfl hg45 ?_
          refine gq (y_bare (y_fieldAddr_box fa24_0 rfl)) rfl rfl rfl ?_
          refine gq_on rfl rfl rfl rfl hg45 ?_
          refine gq (y_bare (y_load Tryd.isAgg22 rfl (cell_box 1 rfl rfl))) rfl rfl rfl ?_
          refine gq_on rfl rfl rfl rfl hg45 ?_
          refine gq (y_bare (y_move (v := .int _ _) rfl)) rfl rfl rfl ?_
          refine gq_on rfl rfl rfl rfl hg45 ?_
          refine gq (y_bare (y_indexAddr (m := j) Tryd.underlying22 Tryd.sizeOf41 rfl rfl (by omega) (by omega) (by omega))) rfl rfl rfl ?_
          refine gq_on rfl rfl rfl rfl hg45 ?_
          refine gq (y_bare (y_fieldAddr_add fa41_1 rfl)) rfl rfl rfl ?_
          refine gq_on rfl rfl rfl rfl hg45 ?_
          refine gq (y_bare (y_load Tryd.isAgg25 rfl (cell_base (hcy 1 _ rfl)))) rfl rfl rfl ?_
          refine gq_on rfl rfl rfl rfl hg45 ?_
          refine gq_pure (e_call (vs := [.slice _ _ _, .slice _ _ _]) Tryd.func43 rfl (by kernel_rfl) rfl) (fun w hM => by have hc := equal_any w fs[i].A gs[j].A fs[i].c gs[j].c fs[i].pl.lines gs[j].pl.lines (hRi.rd.base hM) (hSj.rd.base hM) _ rfl (Nat.le_trans hRi.sb.len hRi.sb.max); exact hc) rfl rfl rfl ?_
          refine gq_on rfl rfl rfl rfl hg45 ?_
          refine gq (y_bare (y_not rfl)) rfl rfl rfl ?_
          refine gq (y_pick_f (v := .bool _) rfl hg45 rfl) rfl rfl rfl ?_
          refine gqs_nil ?_
          refine hN11 _ _ ?_
          refine gfrom [(2, .pointer _), (3, .pointer _), (5, .slice Ov _ ov), (7, .pointer _), (17, .slice (some ⟨g17, 0, none⟩) _ c17), (18, .int _ _), (19, .int _ _), (60, .bool _)] ⟨rfl, rfl, rfl, rfl, rfl, rfl, rfl, rfl, trivial⟩ fun σ => ?_
          refine gcond (b := _) rfl (fun hc60 => ?_) (fun hc60 => ?_)
          · 
            have hd : diffAt (fpl fs) (fpl gs) (fs ++ gs)[k].pl.path = true := by first | exact hD | exact hD.trans hc60
            refine greg ?_
            refine gop (y_move (v := .slice Ov _ ov) rfl) rfl rfl rfl ?_
            refine gop (y_fieldAddr_box fa41_0 rfl) rfl rfl rfl ?_
            refine gop (y_load Tryd.isAgg9 rfl (cell_box 5 rfl rfl)) rfl rfl rfl ?_
            refine gop_lit (vs := [.string _]) (cells := #[_]) Tryd.underlying25 Tryd.sizeOf9 Tryd.zeroValue9 rfl (by decide) (by decide) rfl rfl rfl rfl (fun b64 hb64 => ?_)
            refine gop_append 4 (f := strCells) (l2 := [(fs ++ gs)[k].pl.path]) Tryd.underlying25 el9 wide_str (v := .slice Ov _ ov) rfl rfl rfl rfl (fun h => by cases h) (by simp [maxLen]; omega) (by simp; omega) (src_box 6 rfl rfl) rfl (fun v65 => ?_)
            refine gops_fact (fun w hM => own_form (hM.own 4 rfl)) ?_
            rintro ⟨A65, c65, rfl, hc65, hm65⟩
            refine gop (y_assign (v := .slice A65 _ c65) rfl) rfl rfl rfl ?_
            refine gops_nil ?_
            refine hN7 _ _ ?_
            refine gT [box b2 _, box b3 _, box b16 _, rowl _ _ _ _ _ _, rowl _ _ _ _ _ _, box b7 _, box b64 _] rfl ?_
            refine gfrom [(2, .pointer _), (3, .pointer _), (5, .slice A65 _ c65), (17, .slice (some ⟨g17, 0, none⟩) _ c17), (18, .int _ _), (19, .int _ _)] ⟨rfl, rfl, rfl, rfl, rfl, rfl, trivial⟩ fun σ => ?_
            refine greg ?_
            refine gop (y_add rfl rfl ⟨by omega, by omega⟩) rfl rfl rfl ?_
            refine gop (y_move (v := .int _ _) rfl) rfl rfl rfl ?_
            refine gops_nil ?_
            rw [← chgTo_yes hk1 hd]
            refine gnext2 ((k + 1, A65, c65)) (by show (fs ++ gs).length - (k + 1) < (fs ++ gs).length - k; omega) (show k + 1 ≤ _ by omega) ⟨(by rw [chgTo_yes hk1 hd]; rfl), rfl, trivial⟩ ⟨rfl, rfl, rfl, rfl, trivial⟩ ⟨_, rfl⟩
          · 
            have hd : diffAt (fpl fs) (fpl gs) (fs ++ gs)[k].pl.path = false := hD.trans hc60
            refine gskip ?_
            refine hN7 _ _ ?_
            refine gfrom [(2, .pointer _), (3, .pointer _), (5, .slice Ov _ ov), (17, .slice (some ⟨g17, 0, none⟩) _ c17), (18, .int _ _), (19, .int _ _)] ⟨rfl, rfl, rfl, rfl, rfl, rfl, trivial⟩ fun σ => ?_
            refine greg ?_
            refine gop (y_add rfl rfl ⟨by omega, by omega⟩) rfl rfl rfl ?_
            refine gop (y_move (v := .int _ _) rfl) rfl rfl rfl ?_
            refine gops_nil ?_
            rw [← chgTo_no hk1 hd]
            refine gnext2 ((k + 1, Ov, ov)) (by show (fs ++ gs).length - (k + 1) < (fs ++ gs).length - k; omega) (show k + 1 ≤ _ by omega) ⟨rfl, rfl, trivial⟩ ⟨rfl, rfl, rfl, rfl, trivial⟩ ⟨_, rfl⟩
        · 
          have hD := diff_right (a := fpl fs) (hf4 (by simpa using hg45))
          refine gq_off rfl rfl rfl rfl hg45 rfl rfl ?_
          refine gq_off rfl rfl rfl rfl hg45 rfl rfl ?_
          refine gq_off rfl rfl rfl rfl hg45 rfl rfl ?_
          refine gq_off rfl rfl rfl rfl hg45 rfl rfl ?_
          refine gq_off rfl rfl rfl rfl hg45 rfl rfl ?_
          refine gq_off rfl rfl rfl rfl hg45 rfl rfl ?_
          refine gq_off rfl rfl rfl rfl hg45 rfl rfl ?_
          refine gq_off rfl rfl rfl rfl hg45 rfl rfl ?_
          refine gq_off rfl rfl rfl rfl hg45 rfl rfl ?_
          refine gq_off rfl rfl rfl rfl hg45 rfl rfl ?_
          refine gq_off rfl rfl rfl rfl hg45 rfl rfl ?_
          refine gq_off rfl rfl rfl rfl hg45 rfl rfl ?_
          refine gq_off rfl rfl rfl rfl hg45 rfl rfl ?_
          refine gq (y_pick_t (v := .bool _) rfl hg45 rfl) rfl rfl rfl ?_
          refine gqs_nil ?_
          refine hN11 _ _ ?_
          refine gfrom [(2, .pointer _), (3, .pointer _), (5, .slice Ov _ ov), (7, .pointer _), (17, .slice (some ⟨g17, 0, none⟩) _ c17), (18, .int _ _), (19, .int _ _), (60, .bool _)] ⟨rfl, rfl, rfl, rfl, rfl, rfl, rfl, rfl, trivial⟩ fun σ => ?_
          refine gcond (b := _) rfl (fun hc60 => ?_) (fun hc60 => ?_)
          · 
            have hd : diffAt (fpl fs) (fpl gs) (fs ++ gs)[k].pl.path = true := by first | exact hD | exact hD.trans hc60
            refine greg ?_
            refine gop (y_move (v := .slice Ov _ ov) rfl) rfl rfl rfl ?_
            refine gop (y_fieldAddr_box fa41_0 rfl) rfl rfl rfl ?_
            refine gop (y_load Tryd.isAgg9 rfl (cell_box 5 rfl rfl)) rfl rfl rfl ?_
            refine gop_lit (vs := [.string _]) (cells := #[_]) Tryd.underlying25 Tryd.sizeOf9 Tryd.zeroValue9 rfl (by decide) (by decide) rfl rfl rfl rfl (fun b64 hb64 => ?_)
            refine gop_append 4 (f := strCells) (l2 := [(fs ++ gs)[k].pl.path]) Tryd.underlying25 el9 wide_str (v := .slice Ov _ ov) rfl rfl rfl rfl (fun h => by cases h) (by simp [maxLen]; omega) (by simp; omega) (src_box 6 rfl rfl) rfl (fun v65 => ?_)
            refine gops_fact (fun w hM => own_form (hM.own 4 rfl)) ?_
            rintro ⟨A65, c65, rfl, hc65, hm65⟩
            refine gop (y_assign (v := .slice A65 _ c65) rfl) rfl rfl rfl ?_
            refine gops_nil ?_
            refine hN7 _ _ ?_
            refine gT [box b2 _, box b3 _, box b16 _, rowl _ _ _ _ _ _, rowl _ _ _ _ _ _, box b7 _, box b64 _] rfl ?_
            refine gfrom [(2, .pointer _), (3, .pointer _), (5, .slice A65 _ c65), (17, .slice (some ⟨g17, 0, none⟩) _ c17), (18, .int _ _), (19, .int _ _)] ⟨rfl, rfl, rfl, rfl, rfl, rfl, trivial⟩ fun σ => ?_
            refine greg ?_
            refine gop (y_add rfl rfl ⟨by omega, by omega⟩) rfl rfl rfl ?_
            refine gop (y_move (v := .int _ _) rfl) rfl rfl rfl ?_
            refine gops_nil ?_
            rw [← chgTo_yes hk1 hd]
            refine gnext2 ((k + 1, A65, c65)) (by show (fs ++ gs).length - (k + 1) < (fs ++ gs).length - k; omega) (show k + 1 ≤ _ by omega) ⟨(by rw [chgTo_yes hk1 hd]; rfl), rfl, trivial⟩ ⟨rfl, rfl, rfl, rfl, trivial⟩ ⟨_, rfl⟩
          · 
            cases hc60
      · 
        have hD := diff_left (b := fpl gs) (hf2 (by simpa using hg41))
        refine gq_off rfl rfl rfl rfl hg41 rfl rfl ?_
        refine gq (y_pick_t (v := .bool _) rfl hg41 rfl) rfl rfl rfl ?_
        refine gq (y_move (v := .bool _) rfl) rfl rfl rfl ?_
        refine gq_off rfl rfl rfl rfl rfl rfl rfl ?_
        refine gq_off rfl rfl rfl rfl rfl rfl rfl ?_
        refine gq_off rfl rfl rfl rfl rfl rfl rfl ?_
        refine gq_off rfl rfl rfl rfl rfl rfl rfl ?_
        refine gq_off rfl rfl rfl rfl rfl rfl rfl ?_
        refine gq_off rfl rfl rfl rfl rfl rfl rfl ?_
        refine gq_off rfl rfl rfl rfl rfl rfl rfl ?_
        refine gq_off rfl rfl rfl rfl rfl rfl rfl ?_
        refine gq_off rfl rfl rfl rfl rfl rfl rfl ?_
        refine gq_off rfl rfl rfl rfl rfl rfl rfl ?_
        refine gq_off rfl rfl rfl rfl rfl rfl rfl ?_
        refine gq_off rfl rfl rfl rfl rfl rfl rfl ?_
        refine gq_off rfl rfl rfl rfl rfl rfl rfl ?_
        refine gq_off rfl rfl rfl rfl rfl rfl rfl ?_
        refine gq (y_pick_t (v := .bool _) rfl rfl rfl) rfl rfl rfl ?_
        refine gqs_nil ?_
        refine hN11 _ _ ?_
        refine gfrom [(2, .pointer _), (3, .pointer _), (5, .slice Ov _ ov), (7, .pointer _), (17, .slice (some ⟨g17, 0, none⟩) _ c17), (18, .int _ _), (19, .int _ _), (60, .bool _)] ⟨rfl, rfl, rfl, rfl, rfl, rfl, rfl, rfl, trivial⟩ fun σ => ?_
        refine gcond (b := _) rfl (fun hc60 => ?_) (fun hc60 => ?_)
        · 
          have hd : diffAt (fpl fs) (fpl gs) (fs ++ gs)[k].pl.path = true := by first | exact hD | exact hD.trans hc60
          refine greg ?_
          refine gop (y_move (v := .slice Ov _ ov) rfl) rfl rfl rfl ?_
          refine gop (y_fieldAddr_box fa41_0 rfl) rfl rfl rfl ?_
          refine gop (y_load Tryd.isAgg9 rfl (cell_box 5 rfl rfl)) rfl rfl rfl ?_
          refine gop_lit (vs := [.string _]) (cells := #[_]) Tryd.underlying25 Tryd.sizeOf9 Tryd.zeroValue9 rfl (by decide) (by decide) rfl rfl rfl rfl (fun b64 hb64 => ?_)
          refine gop_append 4 (f := strCells) (l2 := [(fs ++ gs)[k].pl.path]) Tryd.underlying25 el9 wide_str (v := .slice Ov _ ov) rfl rfl rfl rfl (fun h => by cases h) (by simp [maxLen]; omega) (by simp; omega) (src_box 6 rfl rfl) rfl (fun v65 => ?_)
          refine gops_fact (fun w hM => own_form (hM.own 4 rfl)) ?_
          rintro ⟨A65, c65, rfl, hc65, hm65⟩
          refine gop (y_assign (v := .slice A65 _ c65) rfl) rfl rfl rfl ?_
          refine gops_nil ?_
          refine hN7 _ _ ?_
          refine gT [box b2 _, box b3 _, box b16 _, rowl _ _ _ _ _ _, rowl _ _ _ _ _ _, box b7 _, box b64 _] rfl ?_
          refine gfrom [(2, .pointer _), (3, .pointer _), (5, .slice A65 _ c65), (17, .slice (some ⟨g17, 0, none⟩) _ c17), (18, .int _ _), (19, .int _ _)] ⟨rfl, rfl, rfl, rfl, rfl, rfl, trivial⟩ fun σ => ?_
          refine greg ?_
          refine gop (y_add rfl rfl ⟨by omega, by omega⟩) rfl rfl rfl ?_
          refine gop (y_move (v := .int _ _) rfl) rfl rfl rfl ?_
          refine gops_nil ?_
          rw [← chgTo_yes hk1 hd]
          refine gnext2 ((k + 1, A65, c65)) (by show (fs ++ gs).length - (k + 1) < (fs ++ gs).length - k; omega) (show k + 1 ≤ _ by omega) ⟨(by rw [chgTo_yes hk1 hd]; rfl), rfl, trivial⟩ ⟨rfl, rfl, rfl, rfl, trivial⟩ ⟨_, rfl⟩
        · 
          cases hc60
    · 
      replace hc20 := of_decide_eq_false hc20
      have hca := chgTo_all (fs := fs) (gs := gs) (k := k) (by omega)
      refine gexit ?_
      refine hN3 _ _ ?_
      refine gfrom [(5, .slice Ov _ ov)] ⟨rfl, trivial⟩ fun σ => ?_
      refine gseq fun N12 hN12 => ?_
      refine greg ?_
      refine gop (y_move (v := .slice Ov _ ov) rfl) rfl rfl rfl ?_
      refine gop_does1 4 (fun v r2 G => v = .tuple #[] ∧ r2 = rowl strCells w.heap.size 9 1 (.slice Ov (chgTo (fpl fs) (fpl gs) k).length ov) (sortS (chgTo (fpl fs) (fpl gs) k)) ∧ G = []) (e_call (vs := [.slice Ov _ ov]) Tryd.func44 rfl (by kernel_rfl) rfl) rfl (fun w fr1 hfr hM => sortS_on _ w fr1 Ov ov _ (chgTo (fpl fs) (fpl gs) k) hM (by omega)) rfl rfl rfl ?_
      rintro _ _ _ ⟨rfl, rfl, rfl⟩
      refine gops_nil ?_
      refine hN12 _ _ ?_
      refine gT [box b2 _, box b3 _, box b16 _, rowl _ _ _ _ _ _, rowl _ _ _ _ _ _] rfl ?_
      refine gfrom [(5, .slice Ov _ ov)] ⟨rfl, trivial⟩ fun σ => ?_
      refine gseq fun N13 hN13 => ?_
      refine greg ?_
      refine gop (y_move (v := .slice Ov _ ov) rfl) rfl rfl rfl ?_
      refine gop_does1 4 (fun v r2 G => r2 = rowl strCells w.heap.size 9 1 (v) (leafS (chgTo (fpl fs) (fpl gs) k)) ∧ G = []) (e_call (vs := [.slice Ov _ ov]) Tryd.func45 rfl (by kernel_rfl) rfl) rfl (fun w fr1 hfr hM => compactS_on _ w fr1 Ov ov _ (chgTo (fpl fs) (fpl gs) k) _ rfl hM (by omega)) rfl rfl rfl ?_
      rintro v70 _ _ ⟨rfl, rfl⟩
      refine gop (y_assign (v := v70) rfl) rfl rfl rfl ?_
      refine gops_nil ?_
      refine hN13 _ _ ?_
      refine gT [box b2 _, box b3 _, box b16 _, rowl _ _ _ _ _ _, rowl _ _ _ _ _ _] rfl ?_
      refine gfrom [(4, v70)] ⟨rfl, trivial⟩ fun σ => ?_
      refine gret fun w1 hM => ?_
      refine ⟨_, res1 rfl (rt (v := v70) rfl), ?_⟩
      have h9 := hM.dropTo 4 rfl
      rw [hca] at h9
      exact ⟨_, _, rfl, rfl, h9⟩
end Go.Proofs.YtbkameioedmlkaaDoor
namespace Go.Proofs.YtbkameioedmlkaaDoor
open Go.RowKit Go.Cf
set_option maxRecDepth 10000
set_option maxHeartbeats 1000000 in
theorem fault_any (w : World) (c i : Int) : Calls Tryd.prog 10 #[.int .i64 c, .int .i64 i] w fun e w' => e = .returned (fv ⟨c, i⟩) ∧ Below w.heap.size w w' := by
  refine gcalls Tryd.func10 rfl Tryd.ntmps10 (Nat.le_of_ble_eq_true rfl) ?_
  refine gfrom [(0, .int _ _), (1, .int _ _)] ⟨rfl, rfl, trivial⟩ fun σ => ?_
  refine gseq fun N1 hN1 => ?_
  refine greg ?_
  refine gop_alloc (cs := #[.int .i64 0, .int .i64 0]) Tryd.zeroValue28 rfl rfl (fun b4 hb4 => ?_)
  refine gops_nil ?_
  refine hN1 _ _ ?_
  refine gT [box b4 _] rfl ?_
  refine gfrom [(0, .int _ _), (1, .int _ _), (4, .pointer _)] ⟨rfl, rfl, rfl, trivial⟩ fun σ => ?_
  refine gseq fun N2 hN2 => ?_
  refine greg ?_
  refine gop (y_move (v := .int _ _) rfl) rfl rfl rfl ?_
  refine gop (y_move (v := .int _ _) rfl) rfl rfl rfl ?_
  refine gop (y_build (vs := [(0, .int _ _), (1, .int _ _)]) (cells := #[_, _]) rfl (bd28_0_1 _ _)) rfl rfl rfl ?_
  refine gop_store 0 (v := .agg #[_, _]) (cs' := #[_, _]) rfl rfl Tryd.sizeOf28 rfl rfl rfl rfl (Nat.le_of_ble_eq_true rfl) rfl rfl ?_
  refine gops_nil ?_
  refine hN2 _ _ ?_
  refine gT [box b4 _] rfl ?_
  refine gfrom [(4, .pointer _)] ⟨rfl, trivial⟩ fun σ => ?_
  refine gret fun w1 hM => ?_
  refine ⟨_, res1 rfl (rc 0 (cs := [_, _]) hM rfl rfl Tryd.isAgg28 Tryd.sizeOf28 rfl), ?_⟩
  exact ⟨rfl, hM.low⟩
end Go.Proofs.YtbkameioedmlkaaDoor
namespace Go.Proofs.YtbkameioedmlkaaDoor
open Go.RowKit Go.Cf
set_option maxRecDepth 10000
theorem fd28_0 (x0 x1 : Value) (w : World) : (Instr.field 28 (.agg #[x0, x1]) 0).run Tryd.prog w = .ok x0 w := by kernel_rfl
set_option maxHeartbeats 1000000 in
theorem indexI_any (w : World) (A : Option Addr) (c : Nat) (l : List Int) (hl : Rdl w 0 1 intCells A l) (hn : l.length ≤ maxLen) (x : Int) : Calls Tryd.prog 49 #[.slice A l.length c, .int .i64 x] w fun e w' => e = .returned (.int .i64 (idxP (fun y => decide (x = y)) l)) ∧ Below w.heap.size w w' := by
  unfold maxLen at hn
  refine gcalls Tryd.func49 rfl Tryd.ntmps49 (Nat.le_of_ble_eq_true rfl) ?_
  refine gfrom [(0, .slice _ _ _), (1, .int _ _)] ⟨rfl, rfl, trivial⟩ fun σ => ?_
  refine gseq fun N1 hN1 => ?_
  refine greg ?_
  refine gop (y_assign (v := .int _ _) rfl) rfl rfl rfl ?_
  refine gops_nil ?_
  refine hN1 _ _ ?_
  refine gfrom [(0, .slice _ _ _), (1, .int _ _)] ⟨rfl, rfl, trivial⟩ fun σ => ?_
  refine gseq fun N2 hN2 => ?_
  refine gseq fun N3 hN3 => ?_
  refine greg ?_
  refine gop (y_move (v := .slice _ _ _) rfl) rfl rfl rfl ?_
  refine gop (y_len Tryd.underlying50 rfl) rfl rfl rfl ?_
  refine gop (y_move (v := .int _ _) rfl) rfl rfl rfl ?_
  refine gops_nil ?_
  refine hN3 _ _ ?_
  refine gfrom [(0, .slice _ _ _), (1, .int _ _), (7, .int _ _), (8, .int _ _)] ⟨rfl, rfl, rfl, rfl, trivial⟩ fun σ => ?_
  refine gblock ?_
  refine gfrom2 [(8, .int _ _)] [(0, .slice _ _ _), (1, .int _ _), (7, .int _ _)] ⟨rfl, trivial⟩ ⟨rfl, rfl, rfl, trivial⟩ fun σ => ?_
  refine gloop2 (G := Nat) (fun k => k ≤ l.length ∧ ∀ j (h : j < l.length), j < k → decide (x = l[j]) = false) (fun k => l.length - k) (fun k => [(8, .int .i64 (k : Int))]) (fun k => []) (0) ?h0 ⟨rfl, trivial⟩ ⟨rfl, rfl, rfl, trivial⟩ rfl ?round
  case h0 => exact ⟨Nat.zero_le _, fun _ _ h => absurd h (by omega)⟩
  case round =>
    intro k hφ σ
    obtain ⟨hk, hz⟩ := hφ
    refine gseq fun N4 hN4 => ?_
    refine greg ?_
    refine gop (y_lss rfl rfl) rfl rfl rfl ?_
    refine gops_nil ?_
    refine hN4 _ _ ?_
    refine gfrom [(0, .slice _ _ _), (1, .int _ _), (7, .int _ _), (8, .int _ _), (9, .bool _)] ⟨rfl, rfl, rfl, rfl, rfl, trivial⟩ fun σ => ?_
    refine gseq fun N5 hN5 => ?_
    refine gcond (b := _) rfl (fun hc9 => ?_) (fun hc9 => ?_)
    · 
      replace hc9 := of_decide_eq_true hc9
      have hk1 : k < l.length := by omega
      obtain ⟨ad, rfl, -, hca⟩ := hl.at_ hk1
      refine gskip ?_
      refine hN5 _ _ ?_
      refine gfrom [(0, .slice _ _ _), (1, .int _ _), (7, .int _ _), (8, .int _ _)] ⟨rfl, rfl, rfl, rfl, trivial⟩ fun σ => ?_
      refine gseq fun N6 hN6 => ?_
      refine gblock ?_
      refine gseq fun N7 hN7 => ?_
      refine greg ?_
      refine gop (y_move (v := .int _ _) rfl) rfl rfl rfl ?_
      refine gop (y_assign (v := .int _ _) rfl) rfl rfl rfl ?_
      refine gops_nil ?_
      refine hN7 _ _ ?_
      refine gfrom [(0, .slice _ _ _), (1, .int _ _), (5, .int _ _), (7, .int _ _), (8, .int _ _)] ⟨rfl, rfl, rfl, rfl, rfl, trivial⟩ fun σ => ?_
      refine gseq fun N8 hN8 => ?_
      refine greg ?_
      refine gop (y_move (v := .int _ _) rfl) rfl rfl rfl ?_
      refine gop (y_move (v := .slice _ _ _) rfl) rfl rfl rfl ?_
      refine gop (y_move (v := .int _ _) rfl) rfl rfl rfl ?_
      refine gop (y_indexAddr (m := k) Tryd.underlying50 Tryd.sizeOf3 rfl rfl (by omega) (by omega) (by omega)) rfl rfl rfl ?_
      refine gop (y_load Tryd.isAgg3 rfl (cell_base (hca 0 _ rfl))) rfl rfl rfl ?_
      refine gop (y_eql rfl rfl) rfl rfl rfl ?_
      refine gops_nil ?_
      refine hN8 _ _ ?_
      refine gfrom [(0, .slice _ _ _), (1, .int _ _), (5, .int _ _), (7, .int _ _), (8, .int _ _), (16, .bool _)] ⟨rfl, rfl, rfl, rfl, rfl, rfl, trivial⟩ fun σ => ?_
      refine gcond (b := _) rfl (fun hc16 => ?_) (fun hc16 => ?_)
      · 
        replace hc16 := of_decide_eq_true hc16
        refine gseq fun N9 hN9 => ?_
        refine greg ?_
        refine gop (y_move (v := .int _ _) rfl) rfl rfl rfl ?_
        refine gop (y_assign (v := .int _ _) rfl) rfl rfl rfl ?_
        refine gops_nil ?_
        refine hN9 _ _ ?_
        refine gfrom [(4, .int _ _)] ⟨rfl, trivial⟩ fun σ => ?_
        refine gret fun w1 hM => ?_
        refine ⟨_, res1 rfl (rt (v := .int _ _) rfl), ?_⟩
        exact ⟨by rw [idxP_hit (p := fun y => decide (x = y)) hk1 hz (decide_eq_true hc16)], hM.low⟩
      · 
        replace hc16 := of_decide_eq_false hc16
        refine gskip ?_
        refine hN6 _ _ ?_
        refine gfrom [(0, .slice _ _ _), (1, .int _ _), (7, .int _ _), (8, .int _ _)] ⟨rfl, rfl, rfl, rfl, trivial⟩ fun σ => ?_
        refine greg ?_
        refine gop (y_add rfl rfl ⟨by omega, by omega⟩) rfl rfl rfl ?_
        refine gop (y_move (v := .int _ _) rfl) rfl rfl rfl ?_
        refine gops_nil ?_
        refine gnext2 (k + 1) (by omega) (⟨by omega, fun j h hj => by rcases Nat.lt_succ_iff_lt_or_eq.1 hj with h1 | rfl; exact hz j h h1; exact decide_eq_false hc16⟩) ⟨rfl, trivial⟩ ⟨rfl, rfl, rfl, trivial⟩ ⟨_, rfl⟩
    · 
      replace hc9 := of_decide_eq_false hc9
      have hI := idxP_none (p := fun y => decide (x = y)) (l := l) (fun j hj => hz j hj (by omega))
      refine gexit ?_
      refine hN2 _ _ ?_
      refine gfrom [] trivial fun σ => ?_
      refine gseq fun N10 hN10 => ?_
      refine greg ?_
      refine gop (y_assign (v := .int _ _) rfl) rfl rfl rfl ?_
      refine gops_nil ?_
      refine hN10 _ _ ?_
      refine gfrom [(4, .int _ _)] ⟨rfl, trivial⟩ fun σ => ?_
      refine gret fun w1 hM => ?_
      refine ⟨_, res1 rfl (rt (v := .int _ _) rfl), ?_⟩
      exact ⟨by rw [hI], hM.low⟩
set_option maxHeartbeats 1000000 in
theorem containsI_any (w : World) (A : Option Addr) (c : Nat) (l : List Int) (hl : Rdl w 0 1 intCells A l) (hn : l.length ≤ maxLen) (x : Int) : Calls Tryd.prog 32 #[.slice A l.length c, .int .i64 x] w fun e w' => e = .returned (.bool (hasI l x)) ∧ Below w.heap.size w w' := by
  refine gcalls Tryd.func32 rfl Tryd.ntmps32 (Nat.le_of_ble_eq_true rfl) ?_
  refine gfrom [(0, .slice _ _ _), (1, .int _ _)] ⟨rfl, rfl, trivial⟩ fun σ => ?_
  refine gseq fun N1 hN1 => ?_
  refine greg ?_
  refine gop (y_assign (v := .bool _) rfl) rfl rfl rfl ?_
  refine gops_nil ?_
  refine hN1 _ _ ?_
  refine gfrom [(0, .slice _ _ _), (1, .int _ _)] ⟨rfl, rfl, trivial⟩ fun σ => ?_
  refine gseq fun N2 hN2 => ?_
  refine greg ?_
  refine gop (y_move (v := .slice _ _ _) rfl) rfl rfl rfl ?_
  refine gop (y_move (v := .int _ _) rfl) rfl rfl rfl ?_
  refine gop_pure (e_call (vs := [.slice _ _ _, .int _ _]) Tryd.func49 rfl (by kernel_rfl) rfl) (fun w hM => indexI_any w A c l (hl.base hM) hn x) rfl rfl rfl ?_
  refine gop (y_geq rfl rfl) rfl rfl rfl ?_
  refine gop (y_assign (v := .bool _) rfl) rfl rfl rfl ?_
  refine gops_nil ?_
  refine hN2 _ _ ?_
  refine gfrom [(4, .bool _)] ⟨rfl, trivial⟩ fun σ => ?_
  refine gret fun w1 hM => ?_
  refine ⟨_, res1 rfl (rt (v := .bool _) rfl), ?_⟩
  exact ⟨by rw [idxP_any]; rfl, hM.low⟩
set_option maxHeartbeats 16000000 in
theorem missing_any (w : World) (RA : Option Addr) (rcp : Nat) (rs : List RuleC) (hRS : RulesR w 0 RA rcp rs) (LA : Option Addr) (lc : Nat) (l : List Appr) (hl : Rdl w 0 3 apprCells LA l) (hll : l.length ≤ lc) (hlm : lc ≤ maxLen) (A : Option Addr) (c : Nat) (fs : List FileC) (hR : TreeR w 0 A c fs) (B : Option Addr) (d : Nat) (gs : List FileC) (hS : TreeR w 0 B d gs) :
    Calls Tryd.prog 15 #[.slice RA rs.length rcp, .slice LA l.length lc, .agg #[.slice A fs.length c], .agg #[.slice B gs.length d]] w fun e w' => ∃ v T', e = .returned (.tuple #[v, fv (missF (rls rs) l (fpl fs) (fpl gs))]) ∧ T' = [rowl strCells w.heap.size 9 1 (v) (missV (rls rs) l (fpl fs) (fpl gs))] ∧ Mem w T' w' := by
  have hsl := hR.sb.len
  have hsm := hR.sb.max
  have hmx : maxLen = 9223372036854775807 := rfl
  refine gcalls Tryd.func15 rfl Tryd.ntmps15 (Nat.le_of_ble_eq_true rfl) ?_
  refine gfrom [(0, .slice _ _ _), (1, .slice _ _ _), (2, .agg #[_]), (3, .agg #[_])] ⟨rfl, rfl, rfl, rfl, trivial⟩ fun σ => ?_
  refine gseq fun N1 hN1 => ?_
  refine greg ?_
  refine gop_box (v := .agg #[_]) (cs := #[_]) rfl rfl rfl (fun b6 hb6 => ?_)
  refine gop_box (v := .agg #[_]) (cs := #[_]) rfl rfl rfl (fun b7 hb7 => ?_)
  refine gop (y_assign (v := .slice _ _ _) rfl) rfl rfl rfl ?_
  refine gop_alloc (cs := #[.int .i64 0, .int .i64 0]) Tryd.zeroValue28 rfl rfl (fun b9 hb9 => ?_)
  refine gops_nil ?_
  refine hN1 _ _ ?_
  refine gT [box b6 _, box b7 _, box b9 _] rfl ?_
  refine gfrom [(0, .slice _ _ _), (1, .slice _ _ _), (6, .pointer _), (7, .pointer _), (9, .pointer _)] ⟨rfl, rfl, rfl, rfl, rfl, trivial⟩ fun σ => ?_
  refine gseq fun N2 hN2 => ?_
  refine greg ?_
  refine gop (y_move (v := .slice _ _ _) rfl) rfl rfl rfl ?_
  refine gop (y_loads (cs := [_]) Tryd.isAgg24 Tryd.sizeOf24 rfl rfl (cells_box 1 rfl)) rfl rfl rfl ?_
  refine gop_got (fun v T' => ∃ lo u, v = .tuple #[u, fv (validF l (fpl gs))] ∧ w.heap.size ≤ lo ∧ T' = [rowl boolCells lo 4 1 (u) (validV l (fpl gs))]) (e_call (vs := [.slice _ _ _, .agg #[_]]) Tryd.func14 rfl (by kernel_rfl) rfl) (fun w hM => by have hc := valid_any w LA lc l (hl.base hM) hll hlm B d gs (hS.base hM); exact hc.mono fun _ _ ⟨v, T1, h1, h2, h3⟩ => ⟨_, T1, h1, ⟨_, v, rfl, hM.low.size, h2⟩, h3⟩) rfl rfl rfl ?_
  rintro _ _ ⟨lo24, u24, rfl, hlo24, rfl⟩
  refine gops_fact (fun w hM => row_form (hM.ok _ (List.mem_of_getElem? (i := 3) rfl))) ?_
  rintro ⟨A24, c24, rfl, hc24, hm24, hn24⟩
  refine gops_fact (Φ := 0 < (validV l (fpl gs)).length → ∃ g, A24 = some ⟨g, 0, none⟩) (fun w hM h9 => row_g2 (hM.ok _ (List.mem_of_getElem? (i := 3) rfl)) h9) ?_
  intro hg24
  refine gop (y_move (v := .tuple #[.slice A24 _ c24, .agg #[_, _]]) rfl) rfl rfl rfl ?_
  refine gop (y_extract (v := .slice _ _ _) rfl rfl) rfl rfl rfl ?_
  refine gop (y_extract (v := .agg #[_, _]) rfl rfl) rfl rfl rfl ?_
  refine gop_alloc (cs := #[.int .i64 0, .int .i64 0]) Tryd.zeroValue28 rfl rfl (fun b11 hb11 => ?_)
  refine gop (y_assign (v := .slice _ _ _) rfl) rfl rfl rfl ?_
  refine gop_store 4 (v := .agg #[_, _]) (cs' := #[_, _]) rfl rfl Tryd.sizeOf28 rfl rfl rfl rfl (Nat.le_of_ble_eq_true rfl) rfl rfl ?_
  refine gops_nil ?_
  refine hN2 _ _ ?_
  refine gT [box b6 _, box b7 _, box b9 _, rowl _ _ _ _ _ _, box b11 _] rfl ?_
  refine gfrom [(0, .slice _ _ _), (1, .slice _ _ _), (6, .pointer _), (7, .pointer _), (9, .pointer _), (10, .slice _ _ _), (11, .pointer _)] ⟨rfl, rfl, rfl, rfl, rfl, rfl, rfl, trivial⟩ fun σ => ?_
  refine gseq fun N3 hN3 => ?_
  refine gseq fun N4 hN4 => ?_
  refine greg ?_
  refine gop (y_loads (cs := [_, _]) Tryd.isAgg28 Tryd.sizeOf28 rfl rfl (cells_box 4 rfl)) rfl rfl rfl ?_
  refine gop (y_build (vs := []) (cells := #[.int .i64 0, .int .i64 0]) rfl bd28_) rfl rfl rfl ?_
  refine gop (y_bin (vx := .agg #[_, _]) (vy := .agg #[_, _]) rfl rfl (fun w => eg28 _ _ _ _ _ w) (fun w => ne28 _ _ _ _ w)) rfl rfl rfl ?_
  refine gops_nil ?_
  refine hN4 _ _ ?_
  refine gfrom [(0, .slice _ _ _), (1, .slice _ _ _), (6, .pointer _), (7, .pointer _), (9, .pointer _), (10, .slice _ _ _), (11, .pointer _), (29, .bool _)] ⟨rfl, rfl, rfl, rfl, rfl, rfl, rfl, rfl, trivial⟩ fun σ => ?_
  refine gcond (b := _) rfl (fun hc29 => ?_) (fun hc29 => ?_)
  · 
    replace hc29 := fault_ne.1 hc29
    have hF : missF (rls rs) l (fpl fs) (fpl gs) = validF l (fpl gs) := missF_1 rfl hc29
    refine gseq fun N5 hN5 => ?_
    refine greg_e1 [] [(2, room b9 28 2)] (by kernel_rfl) ?_
    refine ge_take 0 (TK := [box b6 _, box b7 _, room b9 28 2, rowl _ _ _ _ _ _, box b11 _]) rfl (by kernel_rfl) (by kernel_rfl) (by kernel_rfl) #[false, true, false] (by kernel_rfl) rfl (y_loads (cs := [_, _]) Tryd.isAgg28 Tryd.sizeOf28 rfl rfl (cells_box 4 rfl)) rfl rfl rfl (weak_room 2 rfl rfl) (listed' := #[true, false, false]) rfl ?_
    refine ge_take 1 (TK := [box b6 _, box b7 _, room b9 28 2, rowl _ _ _ _ _ _, box b11 _]) rfl (by kernel_rfl) (by kernel_rfl) (by kernel_rfl) #[true, false, false] (by kernel_rfl) rfl (y_assign (v := .slice _ _ _) rfl) rfl rfl rfl (weak_room 2 rfl rfl) (listed' := #[true, true, false]) rfl ?_
    refine ge_one 2 (k' := 0) (listed' := #[true, true, true]) (by kernel_rfl) rfl rfl rfl ?_
    refine gop_store 2 (v := .agg #[_, _]) (cs' := #[_, _]) rfl rfl Tryd.sizeOf28 rfl rfl rfl rfl (Nat.le_of_ble_eq_true rfl) rfl rfl ?_
    refine gops_nil ?_
    refine ge_fin (TK := [box b6 _, box b7 _, room b9 28 2, rowl _ _ _ _ _ _, box b11 _]) rfl (weak_room 2 rfl rfl) ?_
    refine ge_done (by kernel_rfl) ?_
    refine hN5 _ _ ?_
    refine gT [box b6 _, box b7 _, box b9 _, rowl _ _ _ _ _ _, box b11 _] rfl ?_
    refine gfrom [(8, .slice _ _ _), (9, .pointer _)] ⟨rfl, rfl, trivial⟩ fun σ => ?_
    refine gret fun w1 hM => ?_
    refine ⟨_, res2 rfl (rt (v := .slice _ _ _) rfl) (rc 2 (cs := [_, _]) hM rfl rfl Tryd.isAgg28 Tryd.sizeOf28 rfl), ?_⟩
    exact ⟨_, _, by rw [hF], by rw [missV, if_neg (by rw [hF]; exact hc29)]; rfl, (mem_nilrow strCells 9 1 hM).dropTo 5 rfl⟩
  · 
    replace hc29 := fault_eq.1 hc29
    have hvz := hc29
    obtain ⟨-, haz, htz⟩ := validF_code (by rw [hvz])
    have hvl := validV_len hvz
    have h40 := apprF_len haz
    have v2 := treeF_valid htz
    refine gskip ?_
    refine hN3 _ _ ?_
    refine gfrom [(0, .slice _ _ _), (1, .slice _ _ _), (6, .pointer _), (7, .pointer _), (9, .pointer _), (10, .slice _ _ _)] ⟨rfl, rfl, rfl, rfl, rfl, rfl, trivial⟩ fun σ => ?_
    refine gseq fun N6 hN6 => ?_
    refine gseq fun N7 hN7 => ?_
    refine greg ?_
    refine gop (y_loads (cs := [_]) Tryd.isAgg24 Tryd.sizeOf24 rfl rfl (cells_box 0 rfl)) rfl rfl rfl ?_
    refine gop_pure (e_call (vs := [.agg #[_], _]) Tryd.func17 rfl (by kernel_rfl) rfl) (fun w hM => treeSecond_any w A c fs (hR.base hM) (-3)) rfl rfl rfl ?_
    refine gop_alloc (cs := #[.int .i64 0, .int .i64 0]) Tryd.zeroValue28 rfl rfl (fun b12 hb12 => ?_)
    refine gop_store 5 (v := .agg #[_, _]) (cs' := #[_, _]) rfl rfl Tryd.sizeOf28 rfl rfl rfl rfl (Nat.le_of_ble_eq_true rfl) rfl rfl ?_
    refine gops_nil ?_
    refine hN7 _ _ ?_
    refine gT [box b6 _, box b7 _, box b9 _, rowl _ _ _ _ _ _, box b11 _, box b12 _] rfl ?_
    refine gfrom [(0, .slice _ _ _), (1, .slice _ _ _), (6, .pointer _), (7, .pointer _), (9, .pointer _), (10, .slice _ _ _), (12, .pointer _)] ⟨rfl, rfl, rfl, rfl, rfl, rfl, rfl, trivial⟩ fun σ => ?_
    refine gseq fun N8 hN8 => ?_
    refine greg ?_
    refine gop (y_loads (cs := [_, _]) Tryd.isAgg28 Tryd.sizeOf28 rfl rfl (cells_box 5 rfl)) rfl rfl rfl ?_
    refine gop (y_build (vs := []) (cells := #[.int .i64 0, .int .i64 0]) rfl bd28_) rfl rfl rfl ?_
    refine gop (y_bin (vx := .agg #[_, _]) (vy := .agg #[_, _]) rfl rfl (fun w => eg28 _ _ _ _ _ w) (fun w => ne28 _ _ _ _ w)) rfl rfl rfl ?_
    refine gops_nil ?_
    refine hN8 _ _ ?_
    refine gfrom [(0, .slice _ _ _), (1, .slice _ _ _), (6, .pointer _), (7, .pointer _), (9, .pointer _), (10, .slice _ _ _), (12, .pointer _), (35, .bool _)] ⟨rfl, rfl, rfl, rfl, rfl, rfl, rfl, rfl, trivial⟩ fun σ => ?_
    refine gcond (b := _) rfl (fun hc35 => ?_) (fun hc35 => ?_)
    · 
      replace hc35 := fault_ne.1 hc35
      have hF : missF (rls rs) l (fpl fs) (fpl gs) = secondF (treeF (fpl fs)) (-3) := missF_2 hvz hc35
      refine gseq fun N9 hN9 => ?_
      refine greg_e1 [] [(2, room b9 28 2)] (by kernel_rfl) ?_
      refine ge_take 0 (TK := [box b6 _, box b7 _, room b9 28 2, rowl _ _ _ _ _ _, box b11 _, box b12 _]) rfl (by kernel_rfl) (by kernel_rfl) (by kernel_rfl) #[false, true, false] (by kernel_rfl) rfl (y_loads (cs := [_, _]) Tryd.isAgg28 Tryd.sizeOf28 rfl rfl (cells_box 5 rfl)) rfl rfl rfl (weak_room 2 rfl rfl) (listed' := #[true, false, false]) rfl ?_
      refine ge_take 1 (TK := [box b6 _, box b7 _, room b9 28 2, rowl _ _ _ _ _ _, box b11 _, box b12 _]) rfl (by kernel_rfl) (by kernel_rfl) (by kernel_rfl) #[true, false, false] (by kernel_rfl) rfl (y_assign (v := .slice _ _ _) rfl) rfl rfl rfl (weak_room 2 rfl rfl) (listed' := #[true, true, false]) rfl ?_
      refine ge_one 2 (k' := 0) (listed' := #[true, true, true]) (by kernel_rfl) rfl rfl rfl ?_
      refine gop_store 2 (v := .agg #[_, _]) (cs' := #[_, _]) rfl rfl Tryd.sizeOf28 rfl rfl rfl rfl (Nat.le_of_ble_eq_true rfl) rfl rfl ?_
      refine gops_nil ?_
      refine ge_fin (TK := [box b6 _, box b7 _, room b9 28 2, rowl _ _ _ _ _ _, box b11 _, box b12 _]) rfl (weak_room 2 rfl rfl) ?_
      refine ge_done (by kernel_rfl) ?_
      refine hN9 _ _ ?_
      refine gT [box b6 _, box b7 _, box b9 _, rowl _ _ _ _ _ _, box b11 _, box b12 _] rfl ?_
      refine gfrom [(8, .slice _ _ _), (9, .pointer _)] ⟨rfl, rfl, trivial⟩ fun σ => ?_
      refine gret fun w1 hM => ?_
      refine ⟨_, res2 rfl (rt (v := .slice _ _ _) rfl) (rc 2 (cs := [_, _]) hM rfl rfl Tryd.isAgg28 Tryd.sizeOf28 rfl), ?_⟩
      exact ⟨_, _, by rw [hF], by rw [missV, if_neg (by rw [hF]; exact hc35)]; rfl, (mem_nilrow strCells 9 1 hM).dropTo 6 rfl⟩
    · 
      replace hc35 := fault_eq.1 hc35
      have hbz : treeF (fpl fs) = ⟨0, 0⟩ := sec_ok hc35 (by decide)
      have v1 := treeF_valid hbz
      have hFS : missF (rls rs) l (fpl fs) (fpl gs) = secondF (rulesF (rls rs)) (-4) := missF_3 hvz hbz
      refine gskip ?_
      refine hN6 _ _ ?_
      refine gfrom [(0, .slice _ _ _), (1, .slice _ _ _), (6, .pointer _), (7, .pointer _), (9, .pointer _), (10, .slice _ _ _)] ⟨rfl, rfl, rfl, rfl, rfl, rfl, trivial⟩ fun σ => ?_
      refine gseq fun N10 hN10 => ?_
      refine gseq fun N11 hN11 => ?_
      refine greg ?_
      refine gop (y_move (v := .slice _ _ _) rfl) rfl rfl rfl ?_
      refine gop_pure (e_call (vs := [.slice _ _ _]) Tryd.func29 rfl (by kernel_rfl) rfl) (fun w hM => ownValidate_any w RA rcp rs (RulesR.lasts.base hRS hM)) rfl rfl rfl ?_
      refine gop_alloc (cs := #[.int .i64 0, .int .i64 0]) Tryd.zeroValue28 rfl rfl (fun b13 hb13 => ?_)
      refine gop_store 6 (v := .agg #[_, _]) (cs' := #[_, _]) rfl rfl Tryd.sizeOf28 rfl rfl rfl rfl (Nat.le_of_ble_eq_true rfl) rfl rfl ?_
      refine gops_nil ?_
      refine hN11 _ _ ?_
      refine gT [box b6 _, box b7 _, box b9 _, rowl _ _ _ _ _ _, box b11 _, box b12 _, box b13 _] rfl ?_
      refine gfrom [(0, .slice _ _ _), (1, .slice _ _ _), (6, .pointer _), (7, .pointer _), (9, .pointer _), (10, .slice _ _ _), (13, .pointer _)] ⟨rfl, rfl, rfl, rfl, rfl, rfl, rfl, trivial⟩ fun σ => ?_
      refine gseq fun N12 hN12 => ?_
      refine greg ?_
      refine gop (y_loads (cs := [_, _]) Tryd.isAgg28 Tryd.sizeOf28 rfl rfl (cells_box 6 rfl)) rfl rfl rfl ?_
      refine gop (y_build (vs := []) (cells := #[.int .i64 0, .int .i64 0]) rfl bd28_) rfl rfl rfl ?_
      refine gop (y_bin (vx := .agg #[_, _]) (vy := .agg #[_, _]) rfl rfl (fun w => eg28 _ _ _ _ _ w) (fun w => ne28 _ _ _ _ w)) rfl rfl rfl ?_
      refine gops_nil ?_
      refine hN12 _ _ ?_
      refine gfrom [(0, .slice _ _ _), (1, .slice _ _ _), (6, .pointer _), (7, .pointer _), (9, .pointer _), (10, .slice _ _ _), (13, .pointer _), (41, .bool _)] ⟨rfl, rfl, rfl, rfl, rfl, rfl, rfl, rfl, trivial⟩ fun σ => ?_
      refine gcond (b := _) rfl (fun hc41 => ?_) (fun hc41 => ?_)
      · 
        replace hc41 := fault_ne.1 hc41
        have hF : missF (rls rs) l (fpl fs) (fpl gs) = ⟨(rulesF (rls rs)).code, -4⟩ := by rw [hFS, secondF, if_pos hc41]
        have hFn : missF (rls rs) l (fpl fs) (fpl gs) ≠ ⟨0, 0⟩ := by rw [hF]; exact fun h9 => absurd (congrArg Fault.index h9) (show ¬ ((-4 : Int) = 0) by decide)
        refine gseq fun N13 hN13 => ?_
        refine greg_e1 [] [(2, room b9 28 2)] (by kernel_rfl) ?_
        refine ge_take 0 (TK := [box b6 _, box b7 _, room b9 28 2, rowl _ _ _ _ _ _, box b11 _, box b12 _, box b13 _]) rfl (by kernel_rfl) (by kernel_rfl) (by kernel_rfl) #[false, false, false, true, false] (by kernel_rfl) rfl (y_fieldAddr_box fa28_0 rfl) rfl rfl rfl (weak_room 2 rfl rfl) (listed' := #[true, false, false, false, false]) rfl ?_
        refine ge_take 1 (TK := [box b6 _, box b7 _, room b9 28 2, rowl _ _ _ _ _ _, box b11 _, box b12 _, box b13 _]) rfl (by kernel_rfl) (by kernel_rfl) (by kernel_rfl) #[true, false, false, true, false] (by kernel_rfl) rfl (y_load Tryd.isAgg3 rfl (cell_box 6 rfl rfl)) rfl rfl rfl (weak_room 2 rfl rfl) (listed' := #[true, true, false, false, false]) rfl ?_
        refine ge_take 2 (TK := [box b6 _, box b7 _, room b9 28 2, rowl _ _ _ _ _ _, box b11 _, box b12 _, box b13 _]) rfl (by kernel_rfl) (by kernel_rfl) (by kernel_rfl) #[true, true, false, true, false] (by kernel_rfl) rfl (y_build (vs := [(0, .int _ _), (1, _)]) (cells := #[_, _]) rfl (bd28_0_1 _ _)) rfl rfl rfl (weak_room 2 rfl rfl) (listed' := #[true, true, true, false, false]) rfl ?_
        refine ge_take 3 (TK := [box b6 _, box b7 _, room b9 28 2, rowl _ _ _ _ _ _, box b11 _, box b12 _, box b13 _]) rfl (by kernel_rfl) (by kernel_rfl) (by kernel_rfl) #[true, true, true, false, false] (by kernel_rfl) rfl (y_assign (v := .slice _ _ _) rfl) rfl rfl rfl (weak_room 2 rfl rfl) (listed' := #[true, true, true, true, false]) rfl ?_
        refine ge_one 4 (k' := 0) (listed' := #[true, true, true, true, true]) (by kernel_rfl) rfl rfl rfl ?_
        refine gop_store 2 (v := .agg #[_, _]) (cs' := #[_, _]) rfl rfl Tryd.sizeOf28 rfl rfl rfl rfl (Nat.le_of_ble_eq_true rfl) rfl rfl ?_
        refine gops_nil ?_
        refine ge_fin (TK := [box b6 _, box b7 _, room b9 28 2, rowl _ _ _ _ _ _, box b11 _, box b12 _, box b13 _]) rfl (weak_room 2 rfl rfl) ?_
        refine ge_done (by kernel_rfl) ?_
        refine hN13 _ _ ?_
        refine gT [box b6 _, box b7 _, box b9 _, rowl _ _ _ _ _ _, box b11 _, box b12 _, box b13 _] rfl ?_
        refine gfrom [(8, .slice _ _ _), (9, .pointer _)] ⟨rfl, rfl, trivial⟩ fun σ => ?_
        refine gret fun w1 hM => ?_
        refine ⟨_, res2 rfl (rt (v := .slice _ _ _) rfl) (rc 2 (cs := [_, _]) hM rfl rfl Tryd.isAgg28 Tryd.sizeOf28 rfl), ?_⟩
        exact ⟨_, _, by rw [hF], by rw [missV, if_neg hFn]; rfl, (mem_nilrow strCells 9 1 hM).dropTo 7 rfl⟩
      · 
        replace hc41 := fault_eq.1 hc41
        have hrz := hc41
        have hF : missF (rls rs) l (fpl fs) (fpl gs) = ⟨0, 0⟩ := by rw [hFS, hrz]; rfl
        have hcn : (chgL (fpl fs) (fpl gs)).length ≤ 48 := by have h8 := chg_len (a := fpl fs) (b := fpl gs); have h7 := v1.len; have h6 := v2.len; omega
        refine gskip ?_
        refine hN10 _ _ ?_
        refine gfrom [(0, .slice _ _ _), (1, .slice _ _ _), (6, .pointer _), (7, .pointer _), (9, .pointer _), (10, .slice _ _ _)] ⟨rfl, rfl, rfl, rfl, rfl, rfl, trivial⟩ fun σ => ?_
        refine gseq fun N14 hN14 => ?_
        refine greg ?_
        refine gop (y_assign (v := .slice _ _ _) rfl) rfl rfl rfl ?_
        refine gops_nil ?_
        refine hN14 _ _ ?_
        refine gfrom [(0, .slice _ _ _), (1, .slice _ _ _), (6, .pointer _), (7, .pointer _), (9, .pointer _), (10, .slice _ _ _), (14, .slice _ _ _)] ⟨rfl, rfl, rfl, rfl, rfl, rfl, rfl, trivial⟩ fun σ => ?_
        refine gseq fun N15 hN15 => ?_
        refine gseq fun N16 hN16 => ?_
        refine greg ?_
        refine gop (y_loads (cs := [_]) Tryd.isAgg24 Tryd.sizeOf24 rfl rfl (cells_box 0 rfl)) rfl rfl rfl ?_
        refine gop (y_loads (cs := [_]) Tryd.isAgg24 Tryd.sizeOf24 rfl rfl (cells_box 1 rfl)) rfl rfl rfl ?_
        refine gop_got (fun v T' => ∃ lo, w.heap.size ≤ lo ∧ T' = [rowl strCells lo 9 1 (v) (chgL (fpl fs) (fpl gs))]) (e_call (vs := [.agg #[_], .agg #[_]]) Tryd.func30 rfl (by kernel_rfl) rfl) (fun w hM => by have hc := changed_any w A c fs (hR.base hM) v1 B d gs (hS.base hM) v2; exact hc.mono fun _ _ ⟨v, T1, h1, h2, h3⟩ => ⟨v, T1, h1, ⟨_, hM.low.size, h2⟩, h3⟩) rfl rfl rfl ?_
        rintro v47 _ ⟨lo47, hlo47, rfl⟩
        refine gops_fact (fun w hM => row_form (hM.ok _ (List.mem_of_getElem? (i := 7) rfl))) ?_
        rintro ⟨A47, c47, rfl, hc47, hm47, hn47⟩
        refine gops_fact (Φ := 0 < (chgL (fpl fs) (fpl gs)).length → ∃ g, A47 = some ⟨g, 0, none⟩) (fun w hM h9 => row_g2 (hM.ok _ (List.mem_of_getElem? (i := 7) rfl)) h9) ?_
        intro hg47
        refine gop (y_len Tryd.underlying25 rfl) rfl rfl rfl ?_
        refine gop (y_move (v := .int _ _) rfl) rfl rfl rfl ?_
        refine gops_nil ?_
        refine hN16 _ _ ?_
        refine gT [box b6 _, box b7 _, box b9 _, rowl _ _ _ _ _ _, box b11 _, box b12 _, box b13 _, rowl _ _ _ _ _ _] rfl ?_
        refine gfrom [(0, .slice _ _ _), (1, .slice _ _ _), (9, .pointer _), (10, .slice _ _ _), (14, .slice _ _ _), (47, .slice A47 _ c47), (48, .int _ _), (49, .int _ _)] ⟨rfl, rfl, rfl, rfl, rfl, rfl, rfl, rfl, trivial⟩ fun σ => ?_
        refine gblock ?_
        refine gnilrow strCells 9 1 ?_
        refine gfrom2 [(14, .slice _ _ _), (49, .int _ _)] [(0, .slice _ _ _), (1, .slice _ _ _), (9, .pointer _), (10, .slice _ _ _), (47, .slice A47 _ c47), (48, .int _ _)] ⟨rfl, rfl, trivial⟩ ⟨rfl, rfl, rfl, rfl, rfl, rfl, trivial⟩ fun σ => ?_
        refine gloop2 (G := Nat × Option Addr × Nat) (fun (k, Ov, ov) => k ≤ (chgL (fpl fs) (fpl gs)).length) (fun (k, Ov, ov) => (chgL (fpl fs) (fpl gs)).length - k) (fun (k, Ov, ov) => [(14, .slice Ov (missTo (rls rs) l (fpl fs) (fpl gs) k).length ov), (49, .int .i64 (k : Int))]) (fun (k, Ov, ov) => [(8, rowl strCells w.heap.size 9 1 (.slice Ov (missTo (rls rs) l (fpl fs) (fpl gs) k).length ov) (missTo (rls rs) l (fpl fs) (fpl gs) k))]) ((0, none, 0)) ?h0 ⟨rfl, rfl, trivial⟩ ⟨rfl, rfl, rfl, rfl, rfl, rfl, trivial⟩ rfl ?round
        case h0 => exact Nat.zero_le _
        case round =>
          rintro ⟨k, Ov, ov⟩ hφ σ
          have hk : k ≤ (chgL (fpl fs) (fpl gs)).length := hφ
          have hml := missTo_len (rls rs) l (fpl fs) (fpl gs) k
          refine gT [box b6 _, box b7 _, box b9 _, rowl _ _ _ _ _ _, box b11 _, box b12 _, box b13 _, rowl _ _ _ _ _ _, rowl _ _ _ _ _ _] rfl ?_
          refine gseq fun N17 hN17 => ?_
          refine greg ?_
          refine gop (y_lss rfl rfl) rfl rfl rfl ?_
          refine gops_nil ?_
          refine hN17 _ _ ?_
          refine gfrom [(0, .slice _ _ _), (1, .slice _ _ _), (9, .pointer _), (10, .slice _ _ _), (14, .slice Ov _ ov), (47, .slice A47 _ c47), (48, .int _ _), (49, .int _ _), (50, .bool _)] ⟨rfl, rfl, rfl, rfl, rfl, rfl, rfl, rfl, rfl, trivial⟩ fun σ => ?_
          refine gseq fun N18 hN18 => ?_
          refine gcond (b := _) rfl (fun hc50 => ?_) (fun hc50 => ?_)
          · 
            replace hc50 := of_decide_eq_true hc50
            have hk1 : k < (chgL (fpl fs) (fpl gs)).length := by omega
            obtain ⟨g47, rfl⟩ := hg47 (by omega)
            have hpk : pathOk (chgL (fpl fs) (fpl gs))[k] = true := chg_ok hbz htz (List.getElem_mem hk1)
            refine gskip ?_
            refine hN18 _ _ ?_
            refine gfrom [(0, .slice _ _ _), (1, .slice _ _ _), (9, .pointer _), (10, .slice _ _ _), (14, .slice Ov _ ov), (47, .slice (some ⟨g47, 0, none⟩) _ c47), (48, .int _ _), (49, .int _ _)] ⟨rfl, rfl, rfl, rfl, rfl, rfl, rfl, rfl, trivial⟩ fun σ => ?_
            refine gseq fun N19 hN19 => ?_
            refine gblock ?_
            refine gseq fun N20 hN20 => ?_
            refine greg ?_
            refine gop (y_indexAddr (m := k) Tryd.underlying25 Tryd.sizeOf9 rfl rfl (by omega) (by omega) (by omega)) rfl rfl rfl ?_
            refine gop (y_load Tryd.isAgg9 rfl (cells_rowl 7 (f := strCells) (l := chgL (fpl fs) (fpl gs)) rfl rfl (fun _ => rfl) (List.getElem?_eq_getElem hk1) 0 _ rfl)) rfl rfl rfl ?_
            refine gop (y_assign (v := .string _) rfl) rfl rfl rfl ?_
            refine gops_nil ?_
            refine hN20 _ _ ?_
            refine gfrom [(0, .slice _ _ _), (1, .slice _ _ _), (9, .pointer _), (10, .slice _ _ _), (14, .slice Ov _ ov), (16, .string _), (47, .slice (some ⟨g47, 0, none⟩) _ c47), (48, .int _ _), (49, .int _ _)] ⟨rfl, rfl, rfl, rfl, rfl, rfl, rfl, rfl, rfl, trivial⟩ fun σ => ?_
            refine gseq fun N21 hN21 => ?_
            refine greg ?_
            refine gop (y_move (v := .slice _ _ _) rfl) rfl rfl rfl ?_
            refine gop (y_move (v := .string _) rfl) rfl rfl rfl ?_
            refine gop_got (fun v T' => ∃ lo, w.heap.size ≤ lo ∧ T' = [rowl intCells lo 3 1 (v) (findU (rls rs) (chgL (fpl fs) (fpl gs))[k])]) (e_call (vs := [.slice _ _ _, .string _]) Tryd.func31 rfl (by kernel_rfl) rfl) (fun w hM => (find_any w RA rcp rs (RulesR.lasts.base hRS hM) (chgL (fpl fs) (fpl gs))[k] (fun a ha => Nat.le_trans (patFault_size (ruleCode_zero (rulesF_each hrz a.pl (List.mem_map.2 ⟨a, ha, rfl⟩))).1) (by decide)) (Nat.le_trans (pathOk_size hpk) (by decide)) (fun a ha => Nat.le_trans (ruleCode_zero (rulesF_each hrz a.pl (List.mem_map.2 ⟨a, ha, rfl⟩))).2.1 (by decide))).mono fun _ _ ⟨v, T1, h1, h2, h3⟩ => ⟨v, T1, h1, ⟨_, hM.low.size, h2⟩, h3⟩) rfl rfl rfl ?_
            rintro v55 _ ⟨lo55, hlo55, rfl⟩
            refine gops_fact (fun w hM => row_form (hM.ok _ (List.mem_of_getElem? (i := 9) rfl))) ?_
            rintro ⟨A55, c55, rfl, hc55, hm55, hn55⟩
            refine gops_mem _ (weak_lower 9 rfl hlo55) ?_
            refine gop (y_assign (v := .slice A55 _ c55) rfl) rfl rfl rfl ?_
            refine gops_nil ?_
            refine hN21 _ _ ?_
            refine gT [box b6 _, box b7 _, box b9 _, rowl _ _ _ _ _ _, box b11 _, box b12 _, box b13 _, rowl _ _ _ _ _ _, rowl _ _ _ _ _ _, rowl _ _ _ _ _ _] rfl ?_
            refine gfrom [(0, .slice _ _ _), (1, .slice _ _ _), (9, .pointer _), (10, .slice _ _ _), (14, .slice Ov _ ov), (16, .string _), (17, .slice A55 _ c55), (47, .slice (some ⟨g47, 0, none⟩) _ c47), (48, .int _ _), (49, .int _ _)] ⟨rfl, rfl, rfl, rfl, rfl, rfl, rfl, rfl, rfl, rfl, trivial⟩ fun σ => ?_
            refine gseq fun N22 hN22 => ?_
            refine greg ?_
            refine gop (y_move (v := .slice A55 _ c55) rfl) rfl rfl rfl ?_
            refine gop (y_len Tryd.underlying50 rfl) rfl rfl rfl ?_
            refine gop (y_eql rfl rfl) rfl rfl rfl ?_
            refine gop (y_assign (v := .bool _) rfl) rfl rfl rfl ?_
            refine gops_nil ?_
            refine hN22 _ _ ?_
            refine gfrom [(0, .slice _ _ _), (1, .slice _ _ _), (9, .pointer _), (10, .slice _ _ _), (14, .slice Ov _ ov), (16, .string _), (17, .slice A55 _ c55), (18, .bool _), (47, .slice (some ⟨g47, 0, none⟩) _ c47), (48, .int _ _), (49, .int _ _)] ⟨rfl, rfl, rfl, rfl, rfl, rfl, rfl, rfl, rfl, rfl, rfl, trivial⟩ fun σ => ?_
            refine gseq fun N23 hN23 => ?_
            refine gseq fun N24 hN24 => ?_
            refine greg ?_
            refine gop (y_move (v := .slice _ _ _) rfl) rfl rfl rfl ?_
            refine gop (y_len Tryd.underlying26 rfl) rfl rfl rfl ?_
            refine gop (y_move (v := .int _ _) rfl) rfl rfl rfl ?_
            refine gops_nil ?_
            refine hN24 _ _ ?_
            refine gfrom [(0, .slice _ _ _), (1, .slice _ _ _), (9, .pointer _), (10, .slice _ _ _), (14, .slice Ov _ ov), (16, .string _), (17, .slice A55 _ c55), (18, .bool _), (47, .slice (some ⟨g47, 0, none⟩) _ c47), (48, .int _ _), (49, .int _ _), (59, .slice _ _ _), (60, .int _ _), (61, .int _ _)] ⟨rfl, rfl, rfl, rfl, rfl, rfl, rfl, rfl, rfl, rfl, rfl, rfl, rfl, rfl, trivial⟩ fun σ => ?_
            refine gblock ?_
            refine gfrom2 [(18, .bool _), (61, .int _ _)] [(0, .slice _ _ _), (1, .slice _ _ _), (9, .pointer _), (10, .slice _ _ _), (14, .slice Ov _ ov), (16, .string _), (17, .slice A55 _ c55), (47, .slice (some ⟨g47, 0, none⟩) _ c47), (48, .int _ _), (49, .int _ _), (59, .slice _ _ _), (60, .int _ _)] ⟨rfl, rfl, trivial⟩ ⟨rfl, rfl, rfl, rfl, rfl, rfl, rfl, rfl, rfl, rfl, rfl, rfl, trivial⟩ fun σ => ?_
            refine gloop2 (G := Nat) (fun j => j ≤ l.length) (fun j => l.length - j) (fun j => [(18, .bool (doneTo (rls rs) l (fpl gs) (chgL (fpl fs) (fpl gs))[k] j)), (61, .int .i64 (j : Int))]) (fun j => []) (0) ?h0 ⟨(congrArg Value.bool doneTo_zero), rfl, trivial⟩ ⟨rfl, rfl, rfl, rfl, rfl, rfl, rfl, rfl, rfl, rfl, rfl, rfl, trivial⟩ rfl ?round
            case h0 => exact Nat.zero_le _
            case round =>
              intro j hφ σ
              have hj : j ≤ l.length := hφ
              refine gseq fun N25 hN25 => ?_
              refine greg ?_
              refine gop (y_lss rfl rfl) rfl rfl rfl ?_
              refine gops_nil ?_
              refine hN25 _ _ ?_
              refine gfrom [(0, .slice _ _ _), (1, .slice _ _ _), (9, .pointer _), (10, .slice _ _ _), (14, .slice Ov _ ov), (16, .string _), (17, .slice A55 _ c55), (18, .bool _), (47, .slice (some ⟨g47, 0, none⟩) _ c47), (48, .int _ _), (49, .int _ _), (59, .slice _ _ _), (60, .int _ _), (61, .int _ _), (62, .bool _)] ⟨rfl, rfl, rfl, rfl, rfl, rfl, rfl, rfl, rfl, rfl, rfl, rfl, rfl, rfl, rfl, trivial⟩ fun σ => ?_
              refine gseq fun N26 hN26 => ?_
              refine gcond (b := _) rfl (fun hc62 => ?_) (fun hc62 => ?_)
              · 
                replace hc62 := of_decide_eq_true hc62
                have hj1 : j < l.length := by omega
                obtain ⟨ad, rfl, -, hca⟩ := hl.at_ hj1
                obtain ⟨g24, rfl⟩ := hg24 (by omega)
                refine gskip ?_
                refine hN26 _ _ ?_
                refine gfrom [(0, .slice _ _ _), (1, .slice _ _ _), (9, .pointer _), (10, .slice _ _ _), (14, .slice Ov _ ov), (16, .string _), (17, .slice A55 _ c55), (18, .bool _), (47, .slice (some ⟨g47, 0, none⟩) _ c47), (48, .int _ _), (49, .int _ _), (59, .slice _ _ _), (60, .int _ _), (61, .int _ _)] ⟨rfl, rfl, rfl, rfl, rfl, rfl, rfl, rfl, rfl, rfl, rfl, rfl, rfl, rfl, trivial⟩ fun σ => ?_
                refine gseq fun N27 hN27 => ?_
                refine gblock ?_
                refine gseq fun N28 hN28 => ?_
                refine greg ?_
                refine gop (y_move (v := .int _ _) rfl) rfl rfl rfl ?_
                refine gop (y_indexAddr (m := j) Tryd.underlying26 Tryd.sizeOf36 rfl rfl (by omega) (by omega) (by omega)) rfl rfl rfl ?_
                refine gop (y_loads (cs := [_, _, _]) Tryd.isAgg36 Tryd.sizeOf36 rfl rfl (cells_base hca)) rfl rfl rfl ?_
                refine gop_alloc (cs := #[.int .i64 0, .string .empty, .int .i64 0]) Tryd.zeroValue36 rfl rfl (fun b20 hb20 => ?_)
                refine gop (y_assign (v := .int _ _) rfl) rfl rfl rfl ?_
                refine gop_store 10 (v := .agg #[_, _, _]) (cs' := #[_, _, _]) rfl rfl Tryd.sizeOf36 rfl rfl rfl rfl (Nat.le_of_ble_eq_true rfl) rfl rfl ?_
                refine gops_nil ?_
                refine hN28 _ _ ?_
                refine gT [box b6 _, box b7 _, box b9 _, rowl _ _ _ _ _ _, box b11 _, box b12 _, box b13 _, rowl _ _ _ _ _ _, rowl _ _ _ _ _ _, rowl _ _ _ _ _ _, box b20 _] rfl ?_
                refine gfrom [(0, .slice _ _ _), (1, .slice _ _ _), (9, .pointer _), (10, .slice _ _ _), (14, .slice Ov _ ov), (16, .string _), (17, .slice A55 _ c55), (18, .bool _), (19, .int _ _), (20, .pointer _), (47, .slice (some ⟨g47, 0, none⟩) _ c47), (48, .int _ _), (49, .int _ _), (59, .slice _ _ _), (60, .int _ _), (61, .int _ _)] ⟨rfl, rfl, rfl, rfl, rfl, rfl, rfl, rfl, rfl, rfl, rfl, rfl, rfl, rfl, rfl, rfl, trivial⟩ fun σ => ?_
                refine greg ?_
                refine gop (y_move (v := .bool _) rfl) rfl rfl rfl ?_
                refine gop (y_move (v := .bool _) rfl) rfl rfl rfl ?_
                refine gop_if (want := false) rfl rfl rfl rfl rfl rfl (fun hg67 => ?_) (fun hg67 => ?_)
                · 
                  have hd0 : doneTo (rls rs) l (fpl gs) (chgL (fpl fs) (fpl gs))[k] j = false := hg67
                  refine gop (y_bare (y_move (v := .slice _ _ _) rfl)) rfl rfl rfl ?_
                  refine gop_on rfl rfl rfl rfl hg67 ?_
                  refine gop (y_bare (y_move (v := .int _ _) rfl)) rfl rfl rfl ?_
                  refine gop_on rfl rfl rfl rfl hg67 ?_
                  refine gop (y_bare (y_indexAddr (m := j) Tryd.underlying42 Tryd.sizeOf4 rfl rfl (by omega) (by omega) (by omega))) rfl rfl rfl ?_
                  refine gop_on rfl rfl rfl rfl hg67 ?_
                  refine gop (y_bare (y_load Tryd.isAgg4 rfl (cells_rowl 3 (f := boolCells) (l := validV l (fpl gs)) rfl rfl (fun _ => rfl) (validV_get hvz hj1) 0 _ rfl))) rfl rfl rfl ?_
                  refine gop_on rfl rfl rfl rfl hg67 ?_
                  refine gop (y_bare (y_move (v := .bool _) rfl)) rfl rfl rfl ?_
                  refine gop_if (want := true) rfl rfl rfl rfl rfl rfl (fun hg72 => ?_) (fun hg72 => ?_)
                  · 
                    have hk72 : decide (l[j].dig = descP (fpl gs) l[j].path) = true := hg72
                    refine gop (y_bare (y_fieldAddr_box fa36_1 rfl)) rfl rfl rfl ?_
                    refine gop_on rfl rfl rfl rfl hg72 ?_
                    refine gop (y_bare (y_load Tryd.isAgg9 rfl (cell_box 10 rfl rfl))) rfl rfl rfl ?_
                    refine gop_on rfl rfl rfl rfl hg72 ?_
                    refine gop (y_bare (y_move (v := .string _) rfl)) rfl rfl rfl ?_
                    refine gop_on rfl rfl rfl rfl hg72 ?_
                    refine gop (y_bare (y_eqls rfl rfl)) rfl rfl rfl ?_
                    refine gop_on rfl rfl rfl rfl hg67 ?_
                    refine gop (y_bare (y_pick_t (v := .bool _) rfl hg72 rfl)) rfl rfl rfl ?_
                    refine gop_on rfl rfl rfl rfl hg67 ?_
                    refine gop (y_bare (y_move (v := .bool _) rfl)) rfl rfl rfl ?_
                    refine gop_if (want := true) rfl rfl rfl rfl rfl rfl (fun hg78 => ?_) (fun hg78 => ?_)
                    · 
                      have hk78 : (l[j].path.toList == ((chgL (fpl fs) (fpl gs))[k]).toList) = true := hg78
                      refine gop (y_bare (y_move (v := .slice A55 _ c55) rfl)) rfl rfl rfl ?_
                      refine gop_on rfl rfl rfl rfl hg78 ?_
                      refine gop (y_bare (y_fieldAddr_box fa36_0 rfl)) rfl rfl rfl ?_
                      refine gop_on rfl rfl rfl rfl hg78 ?_
                      refine gop (y_bare (y_load Tryd.isAgg3 rfl (cell_box 10 rfl rfl))) rfl rfl rfl ?_
                      refine gop_on rfl rfl rfl rfl hg78 ?_
                      refine gop_pure (e_call (vs := [.slice A55 _ c55, .int _ _]) Tryd.func32 rfl (by kernel_rfl) rfl) (fun w hM => by have h1 : Rdl w 0 1 intCells A55 (findU (rls rs) (chgL (fpl fs) (fpl gs))[k]) := ((row_rdl (f := intCells) (fun _ => rfl) (hM.ok _ (List.mem_of_getElem? (i := 9) rfl))).mono (Nat.zero_le _)); have hc := containsI_any w A55 c55 (findU (rls rs) (chgL (fpl fs) (fpl gs))[k]) h1 (Nat.le_trans hc55 hm55) l[j].user; exact hc) rfl rfl rfl ?_
                      refine gop_on rfl rfl rfl rfl hg67 ?_
                      refine gop (y_bare (y_pick_t (v := .bool _) rfl hg78 rfl)) rfl rfl rfl ?_
                      refine gop (y_pick_f (v := .bool _) rfl hg67 rfl) rfl rfl rfl ?_
                      refine gop (y_assign (v := .bool _) rfl) rfl rfl rfl ?_
                      refine gops_nil ?_
                      refine hN27 _ _ ?_
                      refine gfrom [(0, .slice _ _ _), (1, .slice _ _ _), (9, .pointer _), (10, .slice _ _ _), (14, .slice Ov _ ov), (16, .string _), (17, .slice A55 _ c55), (18, .bool _), (47, .slice (some ⟨g47, 0, none⟩) _ c47), (48, .int _ _), (49, .int _ _), (59, .slice _ _ _), (60, .int _ _), (61, .int _ _)] ⟨rfl, rfl, rfl, rfl, rfl, rfl, rfl, rfl, rfl, rfl, rfl, rfl, rfl, rfl, trivial⟩ fun σ => ?_
                      refine greg ?_
                      refine gop (y_add rfl rfl ⟨by omega, by omega⟩) rfl rfl rfl ?_
                      refine gop (y_move (v := .int _ _) rfl) rfl rfl rfl ?_
                      refine gops_nil ?_
                      refine gnext2 (j + 1) (by omega) (show j + 1 ≤ _ by omega) ⟨(congrArg Value.bool (done_yes hj1 hd0 hk72 hk78)), rfl, trivial⟩ ⟨rfl, rfl, rfl, rfl, rfl, rfl, rfl, rfl, rfl, rfl, rfl, rfl, trivial⟩ ⟨_, rfl⟩
                    · 
                      have hk78 : (l[j].path.toList == ((chgL (fpl fs) (fpl gs))[k]).toList) = false := hg78
                      refine gop_off rfl rfl rfl rfl hg78 rfl rfl ?_
                      refine gop_off rfl rfl rfl rfl hg78 rfl rfl ?_
                      refine gop_off rfl rfl rfl rfl hg78 rfl rfl ?_
                      refine gop_on rfl rfl rfl rfl hg67 ?_
                      refine gop (y_bare (y_pick_f (v := .bool _) rfl hg78 rfl)) rfl rfl rfl ?_
                      refine gop (y_pick_f (v := .bool _) rfl hg67 rfl) rfl rfl rfl ?_
                      refine gop (y_assign (v := .bool _) rfl) rfl rfl rfl ?_
                      refine gops_nil ?_
                      refine hN27 _ _ ?_
                      refine gfrom [(0, .slice _ _ _), (1, .slice _ _ _), (9, .pointer _), (10, .slice _ _ _), (14, .slice Ov _ ov), (16, .string _), (17, .slice A55 _ c55), (18, .bool _), (47, .slice (some ⟨g47, 0, none⟩) _ c47), (48, .int _ _), (49, .int _ _), (59, .slice _ _ _), (60, .int _ _), (61, .int _ _)] ⟨rfl, rfl, rfl, rfl, rfl, rfl, rfl, rfl, rfl, rfl, rfl, rfl, rfl, rfl, trivial⟩ fun σ => ?_
                      refine greg ?_
                      refine gop (y_add rfl rfl ⟨by omega, by omega⟩) rfl rfl rfl ?_
                      refine gop (y_move (v := .int _ _) rfl) rfl rfl rfl ?_
                      refine gops_nil ?_
                      refine gnext2 (j + 1) (by omega) (show j + 1 ≤ _ by omega) ⟨(congrArg Value.bool (done_no2 hj1 hd0 hk78)), rfl, trivial⟩ ⟨rfl, rfl, rfl, rfl, rfl, rfl, rfl, rfl, rfl, rfl, rfl, rfl, trivial⟩ ⟨_, rfl⟩
                  · 
                    have hk72 : decide (l[j].dig = descP (fpl gs) l[j].path) = false := hg72
                    refine gop_off rfl rfl rfl rfl hg72 rfl rfl ?_
                    refine gop_off rfl rfl rfl rfl hg72 rfl rfl ?_
                    refine gop_off rfl rfl rfl rfl hg72 rfl rfl ?_
                    refine gop_on rfl rfl rfl rfl hg67 ?_
                    refine gop (y_bare (y_pick_f (v := .bool _) rfl hg72 rfl)) rfl rfl rfl ?_
                    refine gop_on rfl rfl rfl rfl hg67 ?_
                    refine gop (y_bare (y_move (v := .bool _) rfl)) rfl rfl rfl ?_
                    refine gop_off rfl rfl rfl rfl rfl rfl rfl ?_
                    refine gop_off rfl rfl rfl rfl rfl rfl rfl ?_
                    refine gop_off rfl rfl rfl rfl rfl rfl rfl ?_
                    refine gop_off rfl rfl rfl rfl rfl rfl rfl ?_
                    refine gop_on rfl rfl rfl rfl hg67 ?_
                    refine gop (y_bare (y_pick_f (v := .bool _) rfl rfl rfl)) rfl rfl rfl ?_
                    refine gop (y_pick_f (v := .bool _) rfl hg67 rfl) rfl rfl rfl ?_
                    refine gop (y_assign (v := .bool _) rfl) rfl rfl rfl ?_
                    refine gops_nil ?_
                    refine hN27 _ _ ?_
                    refine gfrom [(0, .slice _ _ _), (1, .slice _ _ _), (9, .pointer _), (10, .slice _ _ _), (14, .slice Ov _ ov), (16, .string _), (17, .slice A55 _ c55), (18, .bool _), (47, .slice (some ⟨g47, 0, none⟩) _ c47), (48, .int _ _), (49, .int _ _), (59, .slice _ _ _), (60, .int _ _), (61, .int _ _)] ⟨rfl, rfl, rfl, rfl, rfl, rfl, rfl, rfl, rfl, rfl, rfl, rfl, rfl, rfl, trivial⟩ fun σ => ?_
                    refine greg ?_
                    refine gop (y_add rfl rfl ⟨by omega, by omega⟩) rfl rfl rfl ?_
                    refine gop (y_move (v := .int _ _) rfl) rfl rfl rfl ?_
                    refine gops_nil ?_
                    refine gnext2 (j + 1) (by omega) (show j + 1 ≤ _ by omega) ⟨(congrArg Value.bool (done_no1 hj1 hd0 hk72)), rfl, trivial⟩ ⟨rfl, rfl, rfl, rfl, rfl, rfl, rfl, rfl, rfl, rfl, rfl, rfl, trivial⟩ ⟨_, rfl⟩
                · 
                  have hd0 : doneTo (rls rs) l (fpl gs) (chgL (fpl fs) (fpl gs))[k] j = true := hg67
                  refine gop_off rfl rfl rfl rfl hg67 rfl rfl ?_
                  refine gop_off rfl rfl rfl rfl hg67 rfl rfl ?_
                  refine gop_off rfl rfl rfl rfl hg67 rfl rfl ?_
                  refine gop_off rfl rfl rfl rfl hg67 rfl rfl ?_
                  refine gop_offu rfl rfl rfl rfl rfl rfl ?_
                  refine gop_offu rfl rfl rfl rfl rfl rfl ?_
                  refine gop_offu rfl rfl rfl rfl rfl rfl ?_
                  refine gop_offu rfl rfl rfl rfl rfl rfl ?_
                  refine gop_off rfl rfl rfl rfl hg67 rfl rfl ?_
                  refine gop_off rfl rfl rfl rfl hg67 rfl rfl ?_
                  refine gop_offu rfl rfl rfl rfl rfl rfl ?_
                  refine gop_offu rfl rfl rfl rfl rfl rfl ?_
                  refine gop_offu rfl rfl rfl rfl rfl rfl ?_
                  refine gop_offu rfl rfl rfl rfl rfl rfl ?_
                  refine gop_off rfl rfl rfl rfl hg67 rfl rfl ?_
                  refine gop (y_pick_t (v := .bool _) rfl hg67 rfl) rfl rfl rfl ?_
                  refine gop (y_assign (v := .bool _) rfl) rfl rfl rfl ?_
                  refine gops_nil ?_
                  refine hN27 _ _ ?_
                  refine gfrom [(0, .slice _ _ _), (1, .slice _ _ _), (9, .pointer _), (10, .slice _ _ _), (14, .slice Ov _ ov), (16, .string _), (17, .slice A55 _ c55), (18, .bool _), (47, .slice (some ⟨g47, 0, none⟩) _ c47), (48, .int _ _), (49, .int _ _), (59, .slice _ _ _), (60, .int _ _), (61, .int _ _)] ⟨rfl, rfl, rfl, rfl, rfl, rfl, rfl, rfl, rfl, rfl, rfl, rfl, rfl, rfl, trivial⟩ fun σ => ?_
                  refine greg ?_
                  refine gop (y_add rfl rfl ⟨by omega, by omega⟩) rfl rfl rfl ?_
                  refine gop (y_move (v := .int _ _) rfl) rfl rfl rfl ?_
                  refine gops_nil ?_
                  refine gnext2 (j + 1) (by omega) (show j + 1 ≤ _ by omega) ⟨(congrArg Value.bool (done_old hj1 hd0)), rfl, trivial⟩ ⟨rfl, rfl, rfl, rfl, rfl, rfl, rfl, rfl, rfl, rfl, rfl, rfl, trivial⟩ ⟨_, rfl⟩
              · 
                replace hc62 := of_decide_eq_false hc62
                have hdA : doneTo (rls rs) l (fpl gs) (chgL (fpl fs) (fpl gs))[k] j = doneB (rls rs) l (fpl gs) (chgL (fpl fs) (fpl gs))[k] := doneTo_all (by omega)
                refine gexit ?_
                refine hN23 _ _ ?_
                refine gfrom [(0, .slice _ _ _), (1, .slice _ _ _), (9, .pointer _), (10, .slice _ _ _), (14, .slice Ov _ ov), (16, .string _), (18, .bool _), (47, .slice (some ⟨g47, 0, none⟩) _ c47), (48, .int _ _), (49, .int _ _)] ⟨rfl, rfl, rfl, rfl, rfl, rfl, rfl, rfl, rfl, rfl, trivial⟩ fun σ => ?_
                refine gseq fun N29 hN29 => ?_
                refine greg ?_
                refine gop (y_move (v := .bool _) rfl) rfl rfl rfl ?_
                refine gop (y_not rfl) rfl rfl rfl ?_
                refine gops_nil ?_
                refine hN29 _ _ ?_
                refine gfrom [(0, .slice _ _ _), (1, .slice _ _ _), (9, .pointer _), (10, .slice _ _ _), (14, .slice Ov _ ov), (16, .string _), (47, .slice (some ⟨g47, 0, none⟩) _ c47), (48, .int _ _), (49, .int _ _), (87, .bool _)] ⟨rfl, rfl, rfl, rfl, rfl, rfl, rfl, rfl, rfl, rfl, trivial⟩ fun σ => ?_
                refine gcond (b := _) rfl (fun hc87 => ?_) (fun hc87 => ?_)
                · 
                  rw [hdA] at hc87
                  refine greg ?_
                  refine gop (y_move (v := .slice Ov _ ov) rfl) rfl rfl rfl ?_
                  refine gop (y_move (v := .string _) rfl) rfl rfl rfl ?_
                  refine gop_lit (vs := [.string _]) (cells := #[_]) Tryd.underlying25 Tryd.sizeOf9 Tryd.zeroValue9 rfl (by decide) (by decide) rfl rfl rfl rfl (fun b90 hb90 => ?_)
                  refine gop_append 8 (f := strCells) (l2 := [(chgL (fpl fs) (fpl gs))[k]]) Tryd.underlying25 el9 wide_str (v := .slice Ov _ ov) rfl rfl rfl rfl (fun h => by cases h) (by simp [maxLen]; omega) (by simp; omega) (src_box 10 rfl rfl) rfl (fun v91 => ?_)
                  refine gops_fact (fun w hM => own_form (hM.own 8 rfl)) ?_
                  rintro ⟨A91, c91, rfl, hc91, hm91⟩
                  refine gop (y_assign (v := .slice A91 _ c91) rfl) rfl rfl rfl ?_
                  refine gops_nil ?_
                  refine hN19 _ _ ?_
                  refine gT [box b6 _, box b7 _, box b9 _, rowl _ _ _ _ _ _, box b11 _, box b12 _, box b13 _, rowl _ _ _ _ _ _, rowl _ _ _ _ _ _, rowl _ _ _ _ _ _, box b90 _] rfl ?_
                  refine gfrom [(0, .slice _ _ _), (1, .slice _ _ _), (9, .pointer _), (10, .slice _ _ _), (14, .slice A91 _ c91), (47, .slice (some ⟨g47, 0, none⟩) _ c47), (48, .int _ _), (49, .int _ _)] ⟨rfl, rfl, rfl, rfl, rfl, rfl, rfl, rfl, trivial⟩ fun σ => ?_
                  refine greg ?_
                  refine gop (y_add rfl rfl ⟨by omega, by omega⟩) rfl rfl rfl ?_
                  refine gop (y_move (v := .int _ _) rfl) rfl rfl rfl ?_
                  refine gops_nil ?_
                  rw [← missTo_yes hk1 hc87]
                  refine gnext2 ((k + 1, A91, c91)) (by show (chgL (fpl fs) (fpl gs)).length - (k + 1) < (chgL (fpl fs) (fpl gs)).length - k; omega) (show k + 1 ≤ _ by omega) ⟨(by rw [missTo_yes hk1 hc87]; rfl), rfl, trivial⟩ ⟨rfl, rfl, rfl, rfl, rfl, rfl, trivial⟩ ⟨_, rfl⟩
                · 
                  rw [hdA] at hc87
                  refine gskip ?_
                  refine hN19 _ _ ?_
                  refine gfrom [(0, .slice _ _ _), (1, .slice _ _ _), (9, .pointer _), (10, .slice _ _ _), (14, .slice Ov _ ov), (47, .slice (some ⟨g47, 0, none⟩) _ c47), (48, .int _ _), (49, .int _ _)] ⟨rfl, rfl, rfl, rfl, rfl, rfl, rfl, rfl, trivial⟩ fun σ => ?_
                  refine greg ?_
                  refine gop (y_add rfl rfl ⟨by omega, by omega⟩) rfl rfl rfl ?_
                  refine gop (y_move (v := .int _ _) rfl) rfl rfl rfl ?_
                  refine gops_nil ?_
                  rw [← missTo_no hk1 hc87]
                  refine gnext2 ((k + 1, Ov, ov)) (by show (chgL (fpl fs) (fpl gs)).length - (k + 1) < (chgL (fpl fs) (fpl gs)).length - k; omega) (show k + 1 ≤ _ by omega) ⟨rfl, rfl, trivial⟩ ⟨rfl, rfl, rfl, rfl, rfl, rfl, trivial⟩ ⟨_, rfl⟩
          · 
            replace hc50 := of_decide_eq_false hc50
            refine gexit ?_
            refine hN15 _ _ ?_
            refine gfrom [(9, .pointer _), (14, .slice Ov _ ov)] ⟨rfl, rfl, trivial⟩ fun σ => ?_
            refine gseq fun N30 hN30 => ?_
            refine greg ?_
            refine gop (y_move (v := .slice Ov _ ov) rfl) rfl rfl rfl ?_
            refine gop (y_build (vs := []) (cells := #[.int .i64 0, .int .i64 0]) rfl bd28_) rfl rfl rfl ?_
            refine gop (y_assign (v := .slice Ov _ ov) rfl) rfl rfl rfl ?_
            refine gop_store 2 (v := .agg #[_, _]) (cs' := #[_, _]) rfl rfl Tryd.sizeOf28 rfl rfl rfl rfl (Nat.le_of_ble_eq_true rfl) rfl rfl ?_
            refine gops_nil ?_
            refine hN30 _ _ ?_
            refine gT [box b6 _, box b7 _, box b9 _, rowl _ _ _ _ _ _, box b11 _, box b12 _, box b13 _, rowl _ _ _ _ _ _, rowl _ _ _ _ _ _] rfl ?_
            refine gfrom [(8, .slice Ov _ ov), (9, .pointer _)] ⟨rfl, rfl, trivial⟩ fun σ => ?_
            refine gret fun w1 hM => ?_
            refine ⟨_, res2 rfl (rt (v := .slice Ov _ ov) rfl) (rc 2 (cs := [_, _]) hM rfl rfl Tryd.isAgg28 Tryd.sizeOf28 rfl), ?_⟩
            have hmA := missTo_all (rs := rls rs) (l := l) (a := fpl fs) (b := fpl gs) (k := k) (by omega)
            rw [hmA] at hM
            exact ⟨_, _, by rw [hF, hmA], by rw [missV, if_pos hF]; rfl, hM.dropTo 8 rfl⟩
set_option maxHeartbeats 2000000 in
theorem fileIndex_any (w : World) (A : Option Addr) (c : Nat) (fs : List FileC) (hR : TreeR w 0 A c fs) (path : ByteArray) : Calls Tryd.prog 24 #[.agg #[.slice A fs.length c], .string path] w fun e w' => e = .returned (.int .i64 (fidx fs path)) ∧ Below w.heap.size w w' := by
  have hsl := hR.sb.len
  have hsm := hR.sb.max
  have hmx : maxLen = 9223372036854775807 := rfl
  refine gcalls Tryd.func24 rfl Tryd.ntmps24 (Nat.le_of_ble_eq_true rfl) ?_
  refine gfrom [(0, .agg #[_]), (1, .string _)] ⟨rfl, rfl, trivial⟩ fun σ => ?_
  refine gseq fun N1 hN1 => ?_
  refine greg ?_
  refine gop_box (v := .agg #[_]) (cs := #[_]) rfl rfl rfl (fun b2 hb2 => ?_)
  refine gop (y_assign (v := .int _ _) rfl) rfl rfl rfl ?_
  refine gops_nil ?_
  refine hN1 _ _ ?_
  refine gT [box b2 _] rfl ?_
  refine gfrom [(1, .string _), (2, .pointer _)] ⟨rfl, rfl, trivial⟩ fun σ => ?_
  refine gseq fun N2 hN2 => ?_
  refine gseq fun N3 hN3 => ?_
  refine greg ?_
  refine gop (y_assign (v := .int _ _) rfl) rfl rfl rfl ?_
  refine gops_nil ?_
  refine hN3 _ _ ?_
  refine gfrom [(1, .string _), (2, .pointer _), (5, .int _ _)] ⟨rfl, rfl, rfl, trivial⟩ fun σ => ?_
  refine gblock ?_
  refine gfrom2 [(5, .int _ _)] [(1, .string _), (2, .pointer _)] ⟨rfl, trivial⟩ ⟨rfl, rfl, trivial⟩ fun σ => ?_
  refine gloop2 (G := Nat) (fun k => k ≤ fs.length ∧ ∀ j (h : j < fs.length), j < k → fs[j].pl.path ≠ path) (fun k => fs.length - k) (fun k => [(5, .int .i64 (k : Int))]) (fun k => []) (0) ?h0 ⟨rfl, trivial⟩ ⟨rfl, rfl, trivial⟩ rfl ?round
  case h0 => exact ⟨Nat.zero_le _, fun _ _ h => absurd h (Nat.not_lt_zero _)⟩
  case round =>
    intro k hφ σ
    obtain ⟨hk, hz⟩ := hφ
    refine gseq fun N4 hN4 => ?_
    refine gseq fun N5 hN5 => ?_
    refine greg ?_
    refine gop (y_move (v := .int _ _) rfl) rfl rfl rfl ?_
    refine gop (y_fieldAddr_box fa24_0 rfl) rfl rfl rfl ?_
    refine gop (y_load Tryd.isAgg22 rfl (cell_box 0 rfl rfl)) rfl rfl rfl ?_
    refine gop (y_len Tryd.underlying22 rfl) rfl rfl rfl ?_
    refine gop (y_lss rfl rfl) rfl rfl rfl ?_
    refine gops_nil ?_
    refine hN5 _ _ ?_
    refine gfrom [(1, .string _), (2, .pointer _), (5, .int _ _), (10, .bool _)] ⟨rfl, rfl, rfl, rfl, trivial⟩ fun σ => ?_
    refine gcond (b := _) rfl (fun hc10 => ?_) (fun hc10 => ?_)
    · 
      replace hc10 := of_decide_eq_true hc10
      have hk1 : k < fs.length := by omega
      obtain ⟨ad, rfl, -, hca⟩ := hR.rd.at_ hk1
      refine gskip ?_
      refine hN4 _ _ ?_
      refine gfrom [(1, .string _), (2, .pointer _), (5, .int _ _)] ⟨rfl, rfl, rfl, trivial⟩ fun σ => ?_
      refine gseq fun N6 hN6 => ?_
      refine gblock ?_
      refine gseq fun N7 hN7 => ?_
      refine greg ?_
      refine gop (y_fieldAddr_box fa24_0 rfl) rfl rfl rfl ?_
      refine gop (y_load Tryd.isAgg22 rfl (cell_box 0 rfl rfl)) rfl rfl rfl ?_
      refine gop (y_move (v := .int _ _) rfl) rfl rfl rfl ?_
      refine gop (y_indexAddr (m := k) Tryd.underlying22 Tryd.sizeOf41 rfl rfl (by omega) (by omega) (by omega)) rfl rfl rfl ?_
      refine gop (y_fieldAddr_add fa41_0 rfl) rfl rfl rfl ?_
      refine gop (y_load Tryd.isAgg9 rfl (cell_base (hca 0 _ rfl))) rfl rfl rfl ?_
      refine gop (y_move (v := .string _) rfl) rfl rfl rfl ?_
      refine gop (y_eqls rfl rfl) rfl rfl rfl ?_
      refine gops_nil ?_
      refine hN7 _ _ ?_
      refine gfrom [(1, .string _), (2, .pointer _), (5, .int _ _), (20, .bool _)] ⟨rfl, rfl, rfl, rfl, trivial⟩ fun σ => ?_
      refine gcond (b := _) rfl (fun hc20 => ?_) (fun hc20 => ?_)
      · 
        replace hc20 := sb_eq_t hc20
        refine gseq fun N8 hN8 => ?_
        refine greg ?_
        refine gop (y_move (v := .int _ _) rfl) rfl rfl rfl ?_
        refine gop (y_assign (v := .int _ _) rfl) rfl rfl rfl ?_
        refine gops_nil ?_
        refine hN8 _ _ ?_
        refine gfrom [(4, .int _ _)] ⟨rfl, trivial⟩ fun σ => ?_
        refine gret fun w1 hM => ?_
        refine ⟨_, res1 rfl (rt (v := .int _ _) rfl), ?_⟩
        exact ⟨by rw [fidx_hit hk1 hz hc20], hM.low⟩
      · 
        replace hc20 := sb_ne_f hc20
        refine gskip ?_
        refine hN6 _ _ ?_
        refine gfrom [(1, .string _), (2, .pointer _), (5, .int _ _)] ⟨rfl, rfl, rfl, trivial⟩ fun σ => ?_
        refine greg ?_
        refine gop (y_move (v := .int _ _) rfl) rfl rfl rfl ?_
        refine gop (y_add rfl rfl ⟨by omega, by omega⟩) rfl rfl rfl ?_
        refine gop (y_assign (v := .int _ _) rfl) rfl rfl rfl ?_
        refine gops_nil ?_
        refine gnext2 (k + 1) (by omega) (⟨by omega, fun j h hj => by rcases Nat.lt_succ_iff_lt_or_eq.1 hj with h1 | rfl; exact hz j h h1; exact hc20⟩) ⟨rfl, trivial⟩ ⟨rfl, rfl, trivial⟩ ⟨_, rfl⟩
    · 
      replace hc10 := of_decide_eq_false hc10
      refine gexit ?_
      refine hN2 _ _ ?_
      refine gfrom [] trivial fun σ => ?_
      refine gseq fun N9 hN9 => ?_
      refine greg ?_
      refine gop (y_assign (v := .int _ _) rfl) rfl rfl rfl ?_
      refine gops_nil ?_
      refine hN9 _ _ ?_
      refine gfrom [(4, .int _ _)] ⟨rfl, trivial⟩ fun σ => ?_
      refine gret fun w1 hM => ?_
      refine ⟨_, res1 rfl (rt (v := .int _ _) rfl), ?_⟩
      exact ⟨by rw [fidx_none (fun j hj => hz j hj (by omega))], hM.low⟩
set_option maxHeartbeats 2000000 in
theorem seen_any (w : World) (A : Option Addr) (c : Nat) (fs : List FileC) (hR : TreeR w 0 A c fs) (v : VTree (fpl fs)) (path : ByteArray) : Calls Tryd.prog 12 #[.agg #[.slice A fs.length c], .string path] w fun e w' => e = .returned (.int .i64 (descP (fpl fs) path)) ∧ Below w.heap.size w w' := by
  have hsl := hR.sb.len
  have hsm := hR.sb.max
  have hmx : maxLen = 9223372036854775807 := rfl
  refine gcalls Tryd.func12 rfl Tryd.ntmps12 (Nat.le_of_ble_eq_true rfl) ?_
  refine gfrom [(0, .agg #[_]), (1, .string _)] ⟨rfl, rfl, trivial⟩ fun σ => ?_
  refine gseq fun N1 hN1 => ?_
  refine greg ?_
  refine gop_box (v := .agg #[_]) (cs := #[_]) rfl rfl rfl (fun b2 hb2 => ?_)
  refine gop (y_assign (v := .int _ _) rfl) rfl rfl rfl ?_
  refine gops_nil ?_
  refine hN1 _ _ ?_
  refine gT [box b2 _] rfl ?_
  refine gfrom [(1, .string _), (2, .pointer _)] ⟨rfl, rfl, trivial⟩ fun σ => ?_
  refine gseq fun N2 hN2 => ?_
  refine greg ?_
  refine gop (y_loads (cs := [_]) Tryd.isAgg24 Tryd.sizeOf24 rfl rfl (cells_box 0 rfl)) rfl rfl rfl ?_
  refine gop (y_move (v := .string _) rfl) rfl rfl rfl ?_
  refine gop_pure (e_call (vs := [.agg #[_], .string _]) Tryd.func24 rfl (by kernel_rfl) rfl) (fun w hM => fileIndex_any w A c fs (hR.base hM) path) rfl rfl rfl ?_
  refine gop (y_assign (v := .int _ _) rfl) rfl rfl rfl ?_
  refine gops_nil ?_
  refine hN2 _ _ ?_
  refine gfrom [(2, .pointer _), (5, .int _ _)] ⟨rfl, rfl, trivial⟩ fun σ => ?_
  refine gseq fun N3 hN3 => ?_
  refine gseq fun N4 hN4 => ?_
  refine greg ?_
  refine gop (y_move (v := .int _ _) rfl) rfl rfl rfl ?_
  refine gop (y_lss rfl rfl) rfl rfl rfl ?_
  refine gops_nil ?_
  refine hN4 _ _ ?_
  refine gfrom [(2, .pointer _), (5, .int _ _), (12, .bool _)] ⟨rfl, rfl, rfl, trivial⟩ fun σ => ?_
  refine gcond (b := _) rfl (fun hc12 => ?_) (fun hc12 => ?_)
  · 
    replace hc12 := of_decide_eq_true hc12
    have hD : descP (fpl fs) path = -1 := desc_none (fidx_neg hc12)
    refine gseq fun N5 hN5 => ?_
    refine greg ?_
    refine gop (y_assign (v := .int _ _) rfl) rfl rfl rfl ?_
    refine gops_nil ?_
    refine hN5 _ _ ?_
    refine gfrom [(4, .int _ _)] ⟨rfl, trivial⟩ fun σ => ?_
    refine gret fun w1 hM => ?_
    refine ⟨_, res1 rfl (rt (v := .int _ _) rfl), ?_⟩
    exact ⟨by rw [hD], hM.low⟩
  · 
    replace hc12 := of_decide_eq_false hc12
    obtain ⟨k, hk1, hki, hkp⟩ := fidx_pos hc12
    obtain ⟨ad, rfl, -, hca⟩ := hR.rd.at_ hk1
    have hRk := hR.each _ (List.getElem_mem hk1)
    have hlz : linesF fs[k].pl.lines = ⟨0, 0⟩ := v.lines _ (List.mem_map_of_mem (List.getElem_mem hk1))
    have hD : descP (fpl fs) path = strD fs[k].pl.lines := desc_at v hk1 hkp
    refine gskip ?_
    refine hN3 _ _ ?_
    refine gfrom [(2, .pointer _), (5, .int _ _)] ⟨rfl, rfl, trivial⟩ fun σ => ?_
    refine gseq fun N6 hN6 => ?_
    refine greg ?_
    refine gop (y_fieldAddr_box fa24_0 rfl) rfl rfl rfl ?_
    refine gop (y_load Tryd.isAgg22 rfl (cell_box 0 rfl rfl)) rfl rfl rfl ?_
    refine gop (y_move (v := .int _ _) rfl) rfl rfl rfl ?_
    refine gop (y_indexAddr (m := k) Tryd.underlying22 Tryd.sizeOf41 rfl rfl (by omega) (by omega) (by omega)) rfl rfl rfl ?_
    refine gop (y_fieldAddr_add fa41_1 rfl) rfl rfl rfl ?_
    refine gop (y_load Tryd.isAgg25 rfl (cell_base (hca 1 _ rfl))) rfl rfl rfl ?_
    refine gop_pure (e_call (vs := [.slice _ _ _]) Tryd.func25 rfl (by kernel_rfl) rfl) (fun w hM => dStr_any w _ _ fs[k].pl.lines (hRk.rd.base hM) (linesF_len hlz) (linesF_sizes hlz)) rfl rfl rfl ?_
    refine gop (y_move (v := .tuple #[.int _ _, .agg #[_, _]]) rfl) rfl rfl rfl ?_
    refine gop (y_extract (v := .int _ _) rfl rfl) rfl rfl rfl ?_
    refine gop (y_extract (v := .agg #[_, _]) rfl rfl) rfl rfl rfl ?_
    refine gop_alloc (cs := #[.int .i64 0, .int .i64 0]) Tryd.zeroValue28 rfl rfl (fun b7 hb7 => ?_)
    refine gop (y_assign (v := .int _ _) rfl) rfl rfl rfl ?_
    refine gop_store 1 (v := .agg #[_, _]) (cs' := #[_, _]) rfl rfl Tryd.sizeOf28 rfl rfl rfl rfl (Nat.le_of_ble_eq_true rfl) rfl rfl ?_
    refine gops_nil ?_
    refine hN6 _ _ ?_
    refine gT [box b2 _, box b7 _] rfl ?_
    refine gfrom [(6, .int _ _)] ⟨rfl, trivial⟩ fun σ => ?_
    refine gseq fun N7 hN7 => ?_
    refine greg ?_
    refine gop (y_move (v := .int _ _) rfl) rfl rfl rfl ?_
    refine gop (y_assign (v := .int _ _) rfl) rfl rfl rfl ?_
    refine gops_nil ?_
    refine hN7 _ _ ?_
    refine gfrom [(4, .int _ _)] ⟨rfl, trivial⟩ fun σ => ?_
    refine gret fun w1 hM => ?_
    refine ⟨_, res1 rfl (rt (v := .int _ _) rfl), ?_⟩
    exact ⟨by rw [hD], hM.low⟩
set_option maxHeartbeats 2000000 in
theorem treeCode_any (w : World) (A : Option Addr) (c : Nat) (fs : List FileC) (hR : TreeR w 0 A c fs) (i : Int) : Calls Tryd.prog 9 #[.agg #[.slice A fs.length c], .int .i64 i] w fun e w' => e = .returned (fv (secondF (treeF (fpl fs)) i)) ∧ Below w.heap.size w w' := by
  refine gcalls Tryd.func9 rfl Tryd.ntmps9 (Nat.le_of_ble_eq_true rfl) ?_
  refine gfrom [(0, .agg #[_]), (1, .int _ _)] ⟨rfl, rfl, trivial⟩ fun σ => ?_
  refine gseq fun N1 hN1 => ?_
  refine greg ?_
  refine gop_box (v := .agg #[_]) (cs := #[_]) rfl rfl rfl (fun b2 hb2 => ?_)
  refine gop_alloc (cs := #[.int .i64 0, .int .i64 0]) Tryd.zeroValue28 rfl rfl (fun b4 hb4 => ?_)
  refine gops_nil ?_
  refine hN1 _ _ ?_
  refine gT [box b2 _, box b4 _] rfl ?_
  refine gfrom [(1, .int _ _), (2, .pointer _), (4, .pointer _)] ⟨rfl, rfl, rfl, trivial⟩ fun σ => ?_
  refine gseq fun N2 hN2 => ?_
  refine gseq fun N3 hN3 => ?_
  refine greg ?_
  refine gop (y_loads (cs := [_]) Tryd.isAgg24 Tryd.sizeOf24 rfl rfl (cells_box 0 rfl)) rfl rfl rfl ?_
  refine gop_pure (e_call (vs := [.agg #[_]]) Tryd.func13 rfl (by kernel_rfl) rfl) (fun w hM => treeValidate_any w A c fs (hR.base hM)) rfl rfl rfl ?_
  refine gop (y_field (cs := #[_, _]) rfl (fd28_0 _ _)) rfl rfl rfl ?_
  refine gop (y_neq rfl rfl) rfl rfl rfl ?_
  refine gops_nil ?_
  refine hN3 _ _ ?_
  refine gfrom [(1, .int _ _), (2, .pointer _), (4, .pointer _), (8, .bool _)] ⟨rfl, rfl, rfl, rfl, trivial⟩ fun σ => ?_
  refine gcond (b := _) rfl (fun hc8 => ?_) (fun hc8 => ?_)
  · 
    replace hc8 := of_decide_eq_true hc8
    have hne : treeF (fpl fs) ≠ ⟨0, 0⟩ := fun h9 => hc8 (by rw [h9])
    refine gseq fun N4 hN4 => ?_
    refine greg ?_
    refine gop (y_loads (cs := [_]) Tryd.isAgg24 Tryd.sizeOf24 rfl rfl (cells_box 0 rfl)) rfl rfl rfl ?_
    refine gop_pure (e_call (vs := [.agg #[_]]) Tryd.func13 rfl (by kernel_rfl) rfl) (fun w hM => treeValidate_any w A c fs (hR.base hM)) rfl rfl rfl ?_
    refine gop (y_field (cs := #[_, _]) rfl (fd28_0 _ _)) rfl rfl rfl ?_
    refine gop (y_move (v := .int _ _) rfl) rfl rfl rfl ?_
    refine gop_pure (e_call (vs := [.int _ _, .int _ _]) Tryd.func10 rfl (by kernel_rfl) rfl) (fun w hM => fault_any w _ _) rfl rfl rfl ?_
    refine gop_store 1 (v := .agg #[_, _]) (cs' := #[_, _]) rfl rfl Tryd.sizeOf28 rfl rfl rfl rfl (Nat.le_of_ble_eq_true rfl) rfl rfl ?_
    refine gops_nil ?_
    refine hN4 _ _ ?_
    refine gT [box b2 _, box b4 _] rfl ?_
    refine gfrom [(4, .pointer _)] ⟨rfl, trivial⟩ fun σ => ?_
    refine gret fun w1 hM => ?_
    refine ⟨_, res1 rfl (rc 1 (cs := [_, _]) hM rfl rfl Tryd.isAgg28 Tryd.sizeOf28 rfl), ?_⟩
    exact ⟨by rw [secondF, if_pos hne], hM.low⟩
  · 
    replace hc8 := Decidable.not_not.1 (of_decide_eq_false hc8)
    have heq := treeF_code hc8
    refine gskip ?_
    refine hN2 _ _ ?_
    refine gfrom [(4, .pointer _)] ⟨rfl, trivial⟩ fun σ => ?_
    refine gseq fun N5 hN5 => ?_
    refine greg ?_
    refine gop (y_build (vs := []) (cells := #[.int .i64 0, .int .i64 0]) rfl bd28_) rfl rfl rfl ?_
    refine gop_store 1 (v := .agg #[_, _]) (cs' := #[_, _]) rfl rfl Tryd.sizeOf28 rfl rfl rfl rfl (Nat.le_of_ble_eq_true rfl) rfl rfl ?_
    refine gops_nil ?_
    refine hN5 _ _ ?_
    refine gT [box b2 _, box b4 _] rfl ?_
    refine gfrom [(4, .pointer _)] ⟨rfl, trivial⟩ fun σ => ?_
    refine gret fun w1 hM => ?_
    refine ⟨_, res1 rfl (rc 1 (cs := [_, _]) hM rfl rfl Tryd.isAgg28 Tryd.sizeOf28 rfl), ?_⟩
    exact ⟨by rw [heq]; rfl, hM.low⟩
set_option maxHeartbeats 1000000 in
theorem equalStrings_any (w : World) (A B : Option Addr) (c c' : Nat) (l m : List ByteArray) (hA : Rdl w 0 1 strCells A l) (hB : Rdl w 0 1 strCells B m) (hl : l.length ≤ maxLen) :
    Calls Tryd.prog 21 #[.slice A l.length c, .slice B m.length c'] w fun e w' => e = .returned (.bool (decide (l = m))) ∧ Below w.heap.size w w' := by
  unfold maxLen at hl
  refine gcalls Tryd.func21 rfl Tryd.ntmps21 (Nat.le_of_ble_eq_true rfl) ?_
  refine gfrom [(0, .slice _ _ _), (1, .slice _ _ _)] ⟨rfl, rfl, trivial⟩ fun σ => ?_
  refine gseq fun N1 hN1 => ?_
  refine greg ?_
  refine gop (y_assign (v := .bool _) rfl) rfl rfl rfl ?_
  refine gops_nil ?_
  refine hN1 _ _ ?_
  refine gfrom [(0, .slice _ _ _), (1, .slice _ _ _)] ⟨rfl, rfl, trivial⟩ fun σ => ?_
  refine gseq fun N2 hN2 => ?_
  refine gseq fun N3 hN3 => ?_
  refine greg ?_
  refine gop (y_move (v := .slice _ _ _) rfl) rfl rfl rfl ?_
  refine gop (y_len Tryd.underlying25 rfl) rfl rfl rfl ?_
  refine gop (y_move (v := .slice _ _ _) rfl) rfl rfl rfl ?_
  refine gop (y_len Tryd.underlying25 rfl) rfl rfl rfl ?_
  refine gop (y_neq rfl rfl) rfl rfl rfl ?_
  refine gops_nil ?_
  refine hN3 _ _ ?_
  refine gfrom [(0, .slice _ _ _), (1, .slice _ _ _), (10, .bool _)] ⟨rfl, rfl, rfl, trivial⟩ fun σ => ?_
  refine gcond (b := _) rfl (fun hc10 => ?_) (fun hc10 => ?_)
  · 
    replace hc10 := of_decide_eq_true hc10
    refine gseq fun N4 hN4 => ?_
    refine greg ?_
    refine gop (y_assign (v := .bool _) rfl) rfl rfl rfl ?_
    refine gops_nil ?_
    refine hN4 _ _ ?_
    refine gfrom [(4, .bool _)] ⟨rfl, trivial⟩ fun σ => ?_
    refine gret fun w1 hM => ?_
    refine ⟨_, res1 rfl (rt (v := .bool _) rfl), ?_⟩
    exact ⟨by rw [decide_eq_false (fun e => by subst e; omega)], hM.low⟩
  · 
    replace hc10 := Decidable.not_not.1 (of_decide_eq_false hc10)
    refine gskip ?_
    refine hN2 _ _ ?_
    refine gfrom [(0, .slice _ _ _), (1, .slice _ _ _)] ⟨rfl, rfl, trivial⟩ fun σ => ?_
    refine gseq fun N5 hN5 => ?_
    refine gseq fun N6 hN6 => ?_
    refine greg ?_
    refine gop (y_assign (v := .int _ _) rfl) rfl rfl rfl ?_
    refine gops_nil ?_
    refine hN6 _ _ ?_
    refine gfrom [(0, .slice _ _ _), (1, .slice _ _ _), (5, .int _ _)] ⟨rfl, rfl, rfl, trivial⟩ fun σ => ?_
    refine gblock ?_
    refine gfrom2 [(5, .int _ _)] [(0, .slice _ _ _), (1, .slice _ _ _)] ⟨rfl, trivial⟩ ⟨rfl, rfl, trivial⟩ fun σ => ?_
    refine gloop2 (G := Nat) (fun k => k ≤ l.length ∧ l.length = m.length ∧ l.take k = m.take k) (fun k => l.length - k) (fun k => [(5, .int .i64 (k : Int))]) (fun k => []) (0) ?h0 ⟨rfl, trivial⟩ ⟨rfl, rfl, trivial⟩ rfl ?round
    case h0 => exact ⟨Nat.zero_le _, by omega, by simp⟩
    case round =>
      intro k hφ σ
      obtain ⟨hk, hlm, htk⟩ := hφ
      refine gseq fun N7 hN7 => ?_
      refine gseq fun N8 hN8 => ?_
      refine greg ?_
      refine gop (y_move (v := .int _ _) rfl) rfl rfl rfl ?_
      refine gop (y_move (v := .slice _ _ _) rfl) rfl rfl rfl ?_
      refine gop (y_len Tryd.underlying25 rfl) rfl rfl rfl ?_
      refine gop (y_lss rfl rfl) rfl rfl rfl ?_
      refine gops_nil ?_
      refine hN8 _ _ ?_
      refine gfrom [(0, .slice _ _ _), (1, .slice _ _ _), (5, .int _ _), (14, .bool _)] ⟨rfl, rfl, rfl, rfl, trivial⟩ fun σ => ?_
      refine gcond (b := _) rfl (fun hc14 => ?_) (fun hc14 => ?_)
      · 
        replace hc14 := of_decide_eq_true hc14
        have hk1 : k < l.length := by omega
        obtain ⟨ad, rfl, -, hca⟩ := hA.at_ hk1
        obtain ⟨ad', rfl, -, hcb⟩ := hB.at_ (k := k) (by omega)
        refine gskip ?_
        refine hN7 _ _ ?_
        refine gfrom [(0, .slice _ _ _), (1, .slice _ _ _), (5, .int _ _)] ⟨rfl, rfl, rfl, trivial⟩ fun σ => ?_
        refine gseq fun N9 hN9 => ?_
        refine gblock ?_
        refine gseq fun N10 hN10 => ?_
        refine greg_q (by kernel_rfl) (by kernel_rfl) ?_
        refine gq (y_move (v := .slice _ _ _) rfl) rfl rfl rfl ?_
        refine gq (y_move (v := .int _ _) rfl) rfl rfl rfl ?_
        refine gq (y_indexAddr Tryd.underlying25 Tryd.sizeOf9 rfl rfl rfl (by omega) (by omega)) rfl rfl rfl ?_
        refine gq (y_load Tryd.isAgg9 rfl (cell_base (hca 0 _ rfl))) rfl rfl rfl ?_
        refine gq (y_move (v := .slice _ _ _) rfl) rfl rfl rfl ?_
        refine gq (y_move (v := .int _ _) rfl) rfl rfl rfl ?_
        refine gq (y_indexAddr Tryd.underlying25 Tryd.sizeOf9 rfl rfl rfl (by omega) (by omega)) rfl rfl rfl ?_
        refine gq (y_load Tryd.isAgg9 rfl (cell_base (hcb 0 _ rfl))) rfl rfl rfl ?_
        refine gq (y_neqs rfl rfl) rfl rfl rfl ?_
        refine gqs_nil ?_
        refine hN10 _ _ ?_
        refine gfrom [(0, .slice _ _ _), (1, .slice _ _ _), (5, .int _ _), (25, .bool _)] ⟨rfl, rfl, rfl, rfl, trivial⟩ fun σ => ?_
        refine gcond (b := _) rfl (fun hc25 => ?_) (fun hc25 => ?_)
        · 
          replace hc25 := strEq_ne2 hc25
          refine gseq fun N11 hN11 => ?_
          refine greg ?_
          refine gop (y_assign (v := .bool _) rfl) rfl rfl rfl ?_
          refine gops_nil ?_
          refine hN11 _ _ ?_
          refine gfrom [(4, .bool _)] ⟨rfl, trivial⟩ fun σ => ?_
          refine gret fun w1 hM => ?_
          refine ⟨_, res1 rfl (rt (v := .bool _) rfl), ?_⟩
          exact ⟨by rw [decide_eq_false (ne_of_at hk1 (by omega) hc25)], hM.low⟩
        · 
          replace hc25 := sb_eq_t (by simpa using hc25)
          refine gskip ?_
          refine hN9 _ _ ?_
          refine gfrom [(0, .slice _ _ _), (1, .slice _ _ _), (5, .int _ _)] ⟨rfl, rfl, rfl, trivial⟩ fun σ => ?_
          refine greg ?_
          refine gop (y_move (v := .int _ _) rfl) rfl rfl rfl ?_
          refine gop (y_add rfl rfl ⟨by omega, by omega⟩) rfl rfl rfl ?_
          refine gop (y_assign (v := .int _ _) rfl) rfl rfl rfl ?_
          refine gops_nil ?_
          refine gnext2 (k + 1) (by omega) (⟨by omega, hlm, take_next l m k (by omega) (by omega) htk hc25⟩) ⟨rfl, trivial⟩ ⟨rfl, rfl, trivial⟩ ⟨_, rfl⟩
      · 
        replace hc14 := of_decide_eq_false hc14
        refine gexit ?_
        refine hN5 _ _ ?_
        refine gfrom [] trivial fun σ => ?_
        refine gseq fun N12 hN12 => ?_
        refine greg ?_
        refine gop (y_assign (v := .bool _) rfl) rfl rfl rfl ?_
        refine gops_nil ?_
        refine hN12 _ _ ?_
        refine gfrom [(4, .bool _)] ⟨rfl, trivial⟩ fun σ => ?_
        refine gret fun w1 hM => ?_
        refine ⟨_, res1 rfl (rt (v := .bool _) rfl), ?_⟩
        exact ⟨by rw [decide_eq_true (eq_of_takes hlm (by omega) htk)], hM.low⟩
end Go.Proofs.YtbkameioedmlkaaDoor
namespace Go.Proofs.YtbkameioedmlkaaDoor
open Go.RowKit Go.Cf
set_option maxRecDepth 10000
theorem bd41_0_1 (x1 : ByteArray) (x2 : Option Addr) (x2l x2c : Nat) : Tryd.prog.built 41 [(0, .string x1), (1, .slice x2 x2l x2c)] = some #[.string x1, .slice x2 x2l x2c] := by kernel_rfl
theorem bd24_0 (x1 : Option Addr) (x1l x1c : Nat) : Tryd.prog.built 24 [(0, .slice x1 x1l x1c)] = some #[.slice x1 x1l x1c] := by kernel_rfl
theorem bd56_0_1 (x1 : ByteArray) (x2 : Option Addr) (x2l x2c : Nat) : Tryd.prog.built 56 [(0, .string x1), (1, .slice x2 x2l x2c)] = some #[.string x1, .slice x2 x2l x2c] := by kernel_rfl
theorem bd24_  : Tryd.prog.built 24 [] = some #[.slice none 0 0] := by kernel_rfl
set_option maxHeartbeats 8000000 in
theorem approvalsExample_any (w : World) : Calls Tryd.prog 8 #[] w fun e w' => e = .returned (.bool true) ∧ Below w.heap.size w w' := by
  refine gcalls Tryd.func8 rfl Tryd.ntmps8 (Nat.le_of_ble_eq_true rfl) ?_
  refine gfrom [] trivial fun σ => ?_
  refine gseq fun N1 hN1 => ?_
  refine greg ?_
  refine gop (y_assign (v := .bool _) rfl) rfl rfl rfl ?_
  refine gops_nil ?_
  refine hN1 _ _ ?_
  refine gfrom [] trivial fun σ => ?_
  refine gseq fun N2 hN2 => ?_
  refine greg ?_
  refine gop_lit (vs := [.string _]) (cells := #[_]) Tryd.underlying25 Tryd.sizeOf9 Tryd.zeroValue9 rfl (by decide) (by decide) rfl rfl rfl rfl (fun b11 hb11 => ?_)
  refine gop (y_build (vs := [(0, _), (1, .slice (some _) _ _)]) (cells := #[_, _]) rfl (bd41_0_1 _ _ _ _)) rfl rfl rfl ?_
  refine gop_lit (vs := [.agg #[_, _]]) (cells := #[_, _]) Tryd.underlying22 Tryd.sizeOf41 Tryd.zeroValue41 rfl (by decide) (by decide) rfl rfl rfl rfl (fun b13 hb13 => ?_)
  refine gop (y_build (vs := [(0, .slice (some _) _ _)]) (cells := #[_]) rfl (bd24_0 _ _ _)) rfl rfl rfl ?_
  refine gop_alloc (cs := #[.slice none 0 0]) Tryd.zeroValue24 rfl rfl (fun b1 hb1 => ?_)
  refine gop_store 2 (v := .agg #[_]) (cs' := #[_]) rfl rfl Tryd.sizeOf24 rfl rfl rfl rfl (Nat.le_of_ble_eq_true rfl) rfl rfl ?_
  refine gops_nil ?_
  refine hN2 _ _ ?_
  refine gT [box b11 _, box b13 _, box b1 _] rfl ?_
  refine gfrom [(1, .pointer _)] ⟨rfl, trivial⟩ fun σ => ?_
  refine gseq fun N3 hN3 => ?_
  refine greg ?_
  refine gop_lit (vs := [.int _ _]) (cells := #[_]) Tryd.underlying50 Tryd.sizeOf3 Tryd.zeroValue3 rfl (by decide) (by decide) rfl rfl rfl rfl (fun b15 hb15 => ?_)
  refine gop (y_build (vs := [(0, _), (1, .slice (some _) _ _)]) (cells := #[_, _]) rfl (bd56_0_1 _ _ _ _)) rfl rfl rfl ?_
  refine gop_lit (vs := [.agg #[_, _]]) (cells := #[_, _]) Tryd.underlying46 Tryd.sizeOf56 Tryd.zeroValue56 rfl (by decide) (by decide) rfl rfl rfl rfl (fun b17 hb17 => ?_)
  refine gop (y_assign (v := .slice (some _) _ _) rfl) rfl rfl rfl ?_
  refine gops_nil ?_
  refine hN3 _ _ ?_
  refine gT [box b11 _, box b13 _, box b1 _, box b15 _, box b17 _] rfl ?_
  refine gfrom [(1, .pointer _), (2, .slice (some _) _ _)] ⟨rfl, rfl, trivial⟩ fun σ => ?_
  refine gseq fun N4 hN4 => ?_
  refine greg ?_
  refine gop (y_move (v := .slice (some _) _ _) rfl) rfl rfl rfl ?_
  refine gop (y_build (vs := []) (cells := #[.slice none 0 0]) rfl bd24_) rfl rfl rfl ?_
  refine gop (y_loads (cs := [_]) Tryd.isAgg24 Tryd.sizeOf24 rfl rfl (cells_box 2 rfl)) rfl rfl rfl ?_
  refine gop_got (fun v T' => ∃ lo u, v = .tuple #[u, fv ⟨0, 0⟩] ∧ w.heap.size ≤ lo ∧ T' = [rowl strCells lo 9 1 (u) ([xA])]) (e_call (vs := [.slice (some _) _ _, _, .agg #[_], .agg #[_]]) Tryd.func15 rfl (by kernel_rfl) rfl) (fun w hM => by have ht : TreeR w 0 (some ⟨b13, 0, none⟩) 1 [⟨⟨xA, [⟨#[120]⟩]⟩, some ⟨b11, 0, none⟩, 1⟩] := ⟨(Rdl.of_box 1 (f := fileCells) (fun _ => rfl) hM rfl rfl).mono (Nat.zero_le _), fun f hf => (by obtain rfl := List.mem_singleton.1 hf; exact ⟨(Rdl.of_box 0 (f := strCells) (fun _ => rfl) hM rfl rfl).mono (Nat.zero_le _), ⟨Nat.le_refl _, by simp [maxLen], fun h => (by cases h), (by first | (show 1 * 40 ≤ reachBytes; decide) | (show 1 * 16 ≤ reachBytes; decide) | (show 1 * 8 ≤ reachBytes; decide))⟩⟩), ⟨Nat.le_refl _, by simp [maxLen], fun h => (by cases h), (by first | (show 1 * 40 ≤ reachBytes; decide) | (show 1 * 16 ≤ reachBytes; decide) | (show 1 * 8 ≤ reachBytes; decide))⟩⟩; have hr : RulesR w 0 (some ⟨b17, 0, none⟩) 1 [⟨⟨⟨#[42, 42]⟩, [1]⟩, some ⟨b15, 0, none⟩, 1⟩] := ⟨(Rdl.of_box 4 (f := ruleCells) (fun _ => rfl) hM rfl rfl).mono (Nat.zero_le _), fun f hf => (by obtain rfl := List.mem_singleton.1 hf; exact ⟨(Rdl.of_box 3 (f := intCells) (fun _ => rfl) hM rfl rfl).mono (Nat.zero_le _), ⟨Nat.le_refl _, by simp [maxLen], fun h => (by cases h), (by first | (show 1 * 40 ≤ reachBytes; decide) | (show 1 * 16 ≤ reachBytes; decide) | (show 1 * 8 ≤ reachBytes; decide))⟩⟩), ⟨Nat.le_refl _, by simp [maxLen], fun h => (by cases h), (by first | (show 1 * 40 ≤ reachBytes; decide) | (show 1 * 16 ≤ reachBytes; decide) | (show 1 * 8 ≤ reachBytes; decide))⟩⟩; have h0 : TreeR w 0 none 0 [] := ⟨Rdl.nil, fun _ h => (by cases h), ⟨Nat.le_refl _, Nat.zero_le _, fun _ => rfl, by decide⟩⟩; have hc : Calls Tryd.prog 15 #[.slice (some ⟨b17, 0, none⟩) 1 1, .slice none [].length 0, .agg #[.slice none 0 0], .agg #[.slice (some ⟨b13, 0, none⟩) 1 1]] w fun e w' => ∃ v T', e = .returned (.tuple #[v, fv (missF xRules [] [] xTree)]) ∧ T' = [rowl strCells w.heap.size 9 1 (v) (missV xRules [] [] xTree)] ∧ Mem w T' w' := missing_any w _ 1 [⟨⟨⟨#[42, 42]⟩, [1]⟩, some ⟨b15, 0, none⟩, 1⟩] hr none 0 [] Rdl.nil (Nat.le_refl _) (Nat.zero_le _) none 0 [] h0 _ 1 [⟨⟨xA, [⟨#[120]⟩]⟩, some ⟨b11, 0, none⟩, 1⟩] ht; rw [aex_f1, aex_m1] at hc; exact hc.mono fun _ _ ⟨v, T1, h1, h2, h3⟩ => ⟨_, T1, h1, ⟨_, v, rfl, hM.low.size, h2⟩, h3⟩) rfl rfl rfl ?_
  rintro _ _ ⟨lo22, u22, rfl, hlo22, rfl⟩
  refine gops_fact (fun w hM => row_form (hM.ok _ (List.mem_of_getElem? (i := 5) rfl))) ?_
  rintro ⟨A22, c22, rfl, hc22, hm22, hn22⟩
  refine gop (y_move (v := .tuple #[.slice A22 _ c22, .agg #[_, _]]) rfl) rfl rfl rfl ?_
  refine gop (y_extract (v := .slice _ _ _) rfl rfl) rfl rfl rfl ?_
  refine gop (y_extract (v := .agg #[_, _]) rfl rfl) rfl rfl rfl ?_
  refine gop_alloc (cs := #[.int .i64 0, .int .i64 0]) Tryd.zeroValue28 rfl rfl (fun b4 hb4 => ?_)
  refine gop (y_assign (v := .slice _ _ _) rfl) rfl rfl rfl ?_
  refine gop_store 6 (v := .agg #[_, _]) (cs' := #[_, _]) rfl rfl Tryd.sizeOf28 rfl rfl rfl rfl (Nat.le_of_ble_eq_true rfl) rfl rfl ?_
  refine gops_nil ?_
  refine hN4 _ _ ?_
  refine gT [box b11 _, box b13 _, box b1 _, box b15 _, box b17 _, rowl _ _ _ _ _ _, box b4 _] rfl ?_
  refine gfrom [(1, .pointer _), (2, .slice (some _) _ _), (3, .slice _ _ _), (4, .pointer _)] ⟨rfl, rfl, rfl, rfl, trivial⟩ fun σ => ?_
  refine gseq fun N5 hN5 => ?_
  refine greg ?_
  refine gop (y_loads (cs := [_]) Tryd.isAgg24 Tryd.sizeOf24 rfl rfl (cells_box 2 rfl)) rfl rfl rfl ?_
  refine gop_lit (vs := [.string _, .string _]) (cells := #[_, _]) Tryd.underlying25 Tryd.sizeOf9 Tryd.zeroValue9 rfl (by decide) (by decide) rfl rfl rfl rfl (fun b27 hb27 => ?_)
  refine gop_got (fun v T' => ∃ lo u, v = .tuple #[u, fv ⟨0, 0⟩] ∧ w.heap.size ≤ lo ∧ T' = [rowl apprCells lo 36 3 (u) (([⟨1, xA, descP xTree xA⟩, ⟨1, xB, -1⟩] : List Appr))]) (e_call (vs := [.agg #[_], _, .slice (some _) _ _]) Tryd.func7 rfl (by kernel_rfl) rfl) (fun w hM => by have ht : TreeR w 0 (some ⟨b13, 0, none⟩) 1 [⟨⟨xA, [⟨#[120]⟩]⟩, some ⟨b11, 0, none⟩, 1⟩] := ⟨(Rdl.of_box 1 (f := fileCells) (fun _ => rfl) hM rfl rfl).mono (Nat.zero_le _), fun f hf => (by obtain rfl := List.mem_singleton.1 hf; exact ⟨(Rdl.of_box 0 (f := strCells) (fun _ => rfl) hM rfl rfl).mono (Nat.zero_le _), ⟨Nat.le_refl _, by simp [maxLen], fun h => (by cases h), (by first | (show 1 * 40 ≤ reachBytes; decide) | (show 1 * 16 ≤ reachBytes; decide) | (show 1 * 8 ≤ reachBytes; decide))⟩⟩), ⟨Nat.le_refl _, by simp [maxLen], fun h => (by cases h), (by first | (show 1 * 40 ≤ reachBytes; decide) | (show 1 * 16 ≤ reachBytes; decide) | (show 1 * 8 ≤ reachBytes; decide))⟩⟩; have hp : Rdl w 0 1 strCells (some ⟨b27, 0, none⟩) [xA, xB] := (Rdl.of_box 7 (f := strCells) (fun _ => rfl) hM rfl rfl).mono (Nat.zero_le _); have hc : Calls Tryd.prog 7 #[.agg #[.slice (some ⟨b13, 0, none⟩) 1 1], .int .i64 1, .slice (some ⟨b27, 0, none⟩) 2 2] w fun e w' => ∃ v T', e = .returned (.tuple #[v, fv (approveF xTree 1 [xA, xB])]) ∧ T' = [rowl apprCells w.heap.size 36 3 (v) (approveV xTree 1 [xA, xB])] ∧ Mem w T' w' := approve_any w _ 1 [⟨⟨xA, [⟨#[120]⟩]⟩, some ⟨b11, 0, none⟩, 1⟩] ht 1 _ 2 [xA, xB] hp (Nat.le_refl _) (by simp [maxLen]); rw [aex_app, aex_l] at hc; exact hc.mono fun _ _ ⟨v, T1, h1, h2, h3⟩ => ⟨_, T1, h1, ⟨_, v, rfl, hM.low.size, h2⟩, h3⟩) rfl rfl rfl ?_
  rintro _ _ ⟨lo28, u28, rfl, hlo28, rfl⟩
  refine gops_fact (fun w hM => row_form (hM.ok _ (List.mem_of_getElem? (i := 8) rfl))) ?_
  rintro ⟨A28, c28, rfl, hc28, hm28, hn28⟩
  refine gops_fact (fun w hM => row_g2 (hM.ok _ (List.mem_of_getElem? (i := 8) rfl)) (by simp)) ?_
  rintro ⟨g28, rfl⟩
  refine gop (y_move (v := .tuple #[.slice (some ⟨g28, 0, none⟩) _ c28, .agg #[_, _]]) rfl) rfl rfl rfl ?_
  refine gop (y_extract (v := .slice _ _ _) rfl rfl) rfl rfl rfl ?_
  refine gop (y_extract (v := .agg #[_, _]) rfl rfl) rfl rfl rfl ?_
  refine gop_alloc (cs := #[.int .i64 0, .int .i64 0]) Tryd.zeroValue28 rfl rfl (fun b6 hb6 => ?_)
  refine gop (y_assign (v := .slice _ _ _) rfl) rfl rfl rfl ?_
  refine gop_store 9 (v := .agg #[_, _]) (cs' := #[_, _]) rfl rfl Tryd.sizeOf28 rfl rfl rfl rfl (Nat.le_of_ble_eq_true rfl) rfl rfl ?_
  refine gops_nil ?_
  refine hN5 _ _ ?_
  refine gT [box b11 _, box b13 _, box b1 _, box b15 _, box b17 _, rowl _ _ _ _ _ _, box b4 _, box b27 _, rowl _ _ _ _ _ _, box b6 _] rfl ?_
  refine gfrom [(1, .pointer _), (2, .slice (some _) _ _), (3, .slice _ _ _), (4, .pointer _), (5, .slice _ _ _), (6, .pointer _)] ⟨rfl, rfl, rfl, rfl, rfl, rfl, trivial⟩ fun σ => ?_
  refine gseq fun N6 hN6 => ?_
  refine greg ?_
  refine gop (y_move (v := .slice _ _ _) rfl) rfl rfl rfl ?_
  refine gop (y_loads (cs := [_]) Tryd.isAgg24 Tryd.sizeOf24 rfl rfl (cells_box 2 rfl)) rfl rfl rfl ?_
  refine gop_got (fun v T' => ∃ lo u, v = .tuple #[u, fv ⟨0, 0⟩] ∧ w.heap.size ≤ lo ∧ T' = [rowl boolCells lo 4 1 (u) ([true, true])]) (e_call (vs := [.slice _ _ _, .agg #[_]]) Tryd.func14 rfl (by kernel_rfl) rfl) (fun w hM => by have ht : TreeR w 0 (some ⟨b13, 0, none⟩) 1 [⟨⟨xA, [⟨#[120]⟩]⟩, some ⟨b11, 0, none⟩, 1⟩] := ⟨(Rdl.of_box 1 (f := fileCells) (fun _ => rfl) hM rfl rfl).mono (Nat.zero_le _), fun f hf => (by obtain rfl := List.mem_singleton.1 hf; exact ⟨(Rdl.of_box 0 (f := strCells) (fun _ => rfl) hM rfl rfl).mono (Nat.zero_le _), ⟨Nat.le_refl _, by simp [maxLen], fun h => (by cases h), (by first | (show 1 * 40 ≤ reachBytes; decide) | (show 1 * 16 ≤ reachBytes; decide) | (show 1 * 8 ≤ reachBytes; decide))⟩⟩), ⟨Nat.le_refl _, by simp [maxLen], fun h => (by cases h), (by first | (show 1 * 40 ≤ reachBytes; decide) | (show 1 * 16 ≤ reachBytes; decide) | (show 1 * 8 ≤ reachBytes; decide))⟩⟩; have hc : Calls Tryd.prog 14 #[.slice (some ⟨g28, 0, none⟩) ([⟨1, xA, descP xTree xA⟩, ⟨1, xB, -1⟩] : List Appr).length c28, .agg #[.slice (some ⟨b13, 0, none⟩) 1 1]] w fun e w' => ∃ v T', e = .returned (.tuple #[v, fv (validF ([⟨1, xA, descP xTree xA⟩, ⟨1, xB, -1⟩] : List Appr) xTree)]) ∧ T' = [rowl boolCells w.heap.size 4 1 (v) (validV ([⟨1, xA, descP xTree xA⟩, ⟨1, xB, -1⟩] : List Appr) xTree)] ∧ Mem w T' w' := valid_any w _ c28 ([⟨1, xA, descP xTree xA⟩, ⟨1, xB, -1⟩] : List Appr) ((row_rdl (f := apprCells) (fun _ => rfl) (hM.ok _ (List.mem_of_getElem? (i := 8) rfl))).mono (Nat.zero_le _)) hc28 hm28 _ 1 [⟨⟨xA, [⟨#[120]⟩]⟩, some ⟨b11, 0, none⟩, 1⟩] ht; rw [aex_vf, aex_v] at hc; exact hc.mono fun _ _ ⟨v, T1, h1, h2, h3⟩ => ⟨_, T1, h1, ⟨_, v, rfl, hM.low.size, h2⟩, h3⟩) rfl rfl rfl ?_
  rintro _ _ ⟨lo34, u34, rfl, hlo34, rfl⟩
  refine gops_fact (fun w hM => row_form (hM.ok _ (List.mem_of_getElem? (i := 10) rfl))) ?_
  rintro ⟨A34, c34, rfl, hc34, hm34, hn34⟩
  refine gops_fact (fun w hM => row_g2 (hM.ok _ (List.mem_of_getElem? (i := 10) rfl)) (by simp)) ?_
  rintro ⟨g34, rfl⟩
  refine gop (y_move (v := .tuple #[.slice (some ⟨g34, 0, none⟩) _ c34, .agg #[_, _]]) rfl) rfl rfl rfl ?_
  refine gop (y_extract (v := .slice _ _ _) rfl rfl) rfl rfl rfl ?_
  refine gop (y_extract (v := .agg #[_, _]) rfl rfl) rfl rfl rfl ?_
  refine gop_alloc (cs := #[.int .i64 0, .int .i64 0]) Tryd.zeroValue28 rfl rfl (fun b8 hb8 => ?_)
  refine gop (y_assign (v := .slice _ _ _) rfl) rfl rfl rfl ?_
  refine gop_store 11 (v := .agg #[_, _]) (cs' := #[_, _]) rfl rfl Tryd.sizeOf28 rfl rfl rfl rfl (Nat.le_of_ble_eq_true rfl) rfl rfl ?_
  refine gops_nil ?_
  refine hN6 _ _ ?_
  refine gT [box b11 _, box b13 _, box b1 _, box b15 _, box b17 _, rowl _ _ _ _ _ _, box b4 _, box b27 _, rowl _ _ _ _ _ _, box b6 _, rowl _ _ _ _ _ _, box b8 _] rfl ?_
  refine gfrom [(1, .pointer _), (2, .slice (some _) _ _), (3, .slice _ _ _), (4, .pointer _), (5, .slice _ _ _), (6, .pointer _), (7, .slice _ _ _), (8, .pointer _)] ⟨rfl, rfl, rfl, rfl, rfl, rfl, rfl, rfl, trivial⟩ fun σ => ?_
  refine gseq fun N7 hN7 => ?_
  refine greg ?_
  refine gop (y_move (v := .slice (some _) _ _) rfl) rfl rfl rfl ?_
  refine gop (y_move (v := .slice _ _ _) rfl) rfl rfl rfl ?_
  refine gop (y_build (vs := []) (cells := #[.slice none 0 0]) rfl bd24_) rfl rfl rfl ?_
  refine gop (y_loads (cs := [_]) Tryd.isAgg24 Tryd.sizeOf24 rfl rfl (cells_box 2 rfl)) rfl rfl rfl ?_
  refine gop_got (fun v T' => ∃ lo u, v = .tuple #[u, fv ⟨0, 0⟩] ∧ w.heap.size ≤ lo ∧ T' = [rowl strCells lo 9 1 (u) ([])]) (e_call (vs := [.slice (some _) _ _, .slice _ _ _, .agg #[_], .agg #[_]]) Tryd.func15 rfl (by kernel_rfl) rfl) (fun w hM => by have ht : TreeR w 0 (some ⟨b13, 0, none⟩) 1 [⟨⟨xA, [⟨#[120]⟩]⟩, some ⟨b11, 0, none⟩, 1⟩] := ⟨(Rdl.of_box 1 (f := fileCells) (fun _ => rfl) hM rfl rfl).mono (Nat.zero_le _), fun f hf => (by obtain rfl := List.mem_singleton.1 hf; exact ⟨(Rdl.of_box 0 (f := strCells) (fun _ => rfl) hM rfl rfl).mono (Nat.zero_le _), ⟨Nat.le_refl _, by simp [maxLen], fun h => (by cases h), (by first | (show 1 * 40 ≤ reachBytes; decide) | (show 1 * 16 ≤ reachBytes; decide) | (show 1 * 8 ≤ reachBytes; decide))⟩⟩), ⟨Nat.le_refl _, by simp [maxLen], fun h => (by cases h), (by first | (show 1 * 40 ≤ reachBytes; decide) | (show 1 * 16 ≤ reachBytes; decide) | (show 1 * 8 ≤ reachBytes; decide))⟩⟩; have hr : RulesR w 0 (some ⟨b17, 0, none⟩) 1 [⟨⟨⟨#[42, 42]⟩, [1]⟩, some ⟨b15, 0, none⟩, 1⟩] := ⟨(Rdl.of_box 4 (f := ruleCells) (fun _ => rfl) hM rfl rfl).mono (Nat.zero_le _), fun f hf => (by obtain rfl := List.mem_singleton.1 hf; exact ⟨(Rdl.of_box 3 (f := intCells) (fun _ => rfl) hM rfl rfl).mono (Nat.zero_le _), ⟨Nat.le_refl _, by simp [maxLen], fun h => (by cases h), (by first | (show 1 * 40 ≤ reachBytes; decide) | (show 1 * 16 ≤ reachBytes; decide) | (show 1 * 8 ≤ reachBytes; decide))⟩⟩), ⟨Nat.le_refl _, by simp [maxLen], fun h => (by cases h), (by first | (show 1 * 40 ≤ reachBytes; decide) | (show 1 * 16 ≤ reachBytes; decide) | (show 1 * 8 ≤ reachBytes; decide))⟩⟩; have h0 : TreeR w 0 none 0 [] := ⟨Rdl.nil, fun _ h => (by cases h), ⟨Nat.le_refl _, Nat.zero_le _, fun _ => rfl, by decide⟩⟩; have hc : Calls Tryd.prog 15 #[.slice (some ⟨b17, 0, none⟩) 1 1, .slice (some ⟨g28, 0, none⟩) ([⟨1, xA, descP xTree xA⟩, ⟨1, xB, -1⟩] : List Appr).length c28, .agg #[.slice none 0 0], .agg #[.slice (some ⟨b13, 0, none⟩) 1 1]] w fun e w' => ∃ v T', e = .returned (.tuple #[v, fv (missF xRules ([⟨1, xA, descP xTree xA⟩, ⟨1, xB, -1⟩] : List Appr) [] xTree)]) ∧ T' = [rowl strCells w.heap.size 9 1 (v) (missV xRules ([⟨1, xA, descP xTree xA⟩, ⟨1, xB, -1⟩] : List Appr) [] xTree)] ∧ Mem w T' w' := missing_any w _ 1 [⟨⟨⟨#[42, 42]⟩, [1]⟩, some ⟨b15, 0, none⟩, 1⟩] hr (some ⟨g28, 0, none⟩) c28 ([⟨1, xA, descP xTree xA⟩, ⟨1, xB, -1⟩] : List Appr) ((row_rdl (f := apprCells) (fun _ => rfl) (hM.ok _ (List.mem_of_getElem? (i := 8) rfl))).mono (Nat.zero_le _)) hc28 hm28 none 0 [] h0 _ 1 [⟨⟨xA, [⟨#[120]⟩]⟩, some ⟨b11, 0, none⟩, 1⟩] ht; rw [aex_f2, aex_m2] at hc; exact hc.mono fun _ _ ⟨v, T1, h1, h2, h3⟩ => ⟨_, T1, h1, ⟨_, v, rfl, hM.low.size, h2⟩, h3⟩) rfl rfl rfl ?_
  rintro _ _ ⟨lo42, u42, rfl, hlo42, rfl⟩
  refine gops_fact (fun w hM => row_form (hM.ok _ (List.mem_of_getElem? (i := 12) rfl))) ?_
  rintro ⟨A42, c42, rfl, hc42, hm42, hn42⟩
  refine gop (y_move (v := .tuple #[.slice A42 _ c42, .agg #[_, _]]) rfl) rfl rfl rfl ?_
  refine gop (y_extract (v := .slice _ _ _) rfl rfl) rfl rfl rfl ?_
  refine gop (y_extract (v := .agg #[_, _]) rfl rfl) rfl rfl rfl ?_
  refine gop_alloc (cs := #[.int .i64 0, .int .i64 0]) Tryd.zeroValue28 rfl rfl (fun b10 hb10 => ?_)
  refine gop (y_assign (v := .slice _ _ _) rfl) rfl rfl rfl ?_
  refine gop_store 13 (v := .agg #[_, _]) (cs' := #[_, _]) rfl rfl Tryd.sizeOf28 rfl rfl rfl rfl (Nat.le_of_ble_eq_true rfl) rfl rfl ?_
  refine gops_nil ?_
  refine hN7 _ _ ?_
  refine gT [box b11 _, box b13 _, box b1 _, box b15 _, box b17 _, rowl _ _ _ _ _ _, box b4 _, box b27 _, rowl _ _ _ _ _ _, box b6 _, rowl _ _ _ _ _ _, box b8 _, rowl _ _ _ _ _ _, box b10 _] rfl ?_
  refine gfrom [(3, .slice _ _ _), (4, .pointer _), (5, .slice _ _ _), (6, .pointer _), (7, .slice _ _ _), (8, .pointer _), (9, .slice _ _ _), (10, .pointer _)] ⟨rfl, rfl, rfl, rfl, rfl, rfl, rfl, rfl, trivial⟩ fun σ => ?_
  refine gseq fun N8 hN8 => ?_
  refine greg ?_
  refine gop (y_fieldAddr_box fa28_0 rfl) rfl rfl rfl ?_
  refine gop (y_load Tryd.isAgg3 rfl (cell_box 6 rfl rfl)) rfl rfl rfl ?_
  refine gop (y_eql rfl rfl) rfl rfl rfl ?_
  refine gop (y_move (v := .bool _) rfl) rfl rfl rfl ?_
  refine gop_if (want := true) rfl rfl rfl rfl rfl rfl (fun hg48 => ?_) (fun hg48 => ?_)
  · 
    have hg48d := of_decide_eq_true hg48
    refine gop (y_bare (y_fieldAddr_box fa28_0 rfl)) rfl rfl rfl ?_
    refine gop_on rfl rfl rfl rfl hg48 ?_
    refine gop (y_bare (y_load Tryd.isAgg3 rfl (cell_box 9 rfl rfl))) rfl rfl rfl ?_
    refine gop_on rfl rfl rfl rfl hg48 ?_
    refine gop (y_bare (y_eql rfl rfl)) rfl rfl rfl ?_
    refine gop (y_pick_t (v := .bool _) rfl hg48 rfl) rfl rfl rfl ?_
    refine gop (y_move (v := .bool _) rfl) rfl rfl rfl ?_
    refine gop_if (want := true) rfl rfl rfl rfl rfl rfl (fun hg53 => ?_) (fun hg53 => ?_)
    · 
      have hg53d := of_decide_eq_true hg53
      refine gop (y_bare (y_fieldAddr_box fa28_0 rfl)) rfl rfl rfl ?_
      refine gop_on rfl rfl rfl rfl hg53 ?_
      refine gop (y_bare (y_load Tryd.isAgg3 rfl (cell_box 11 rfl rfl))) rfl rfl rfl ?_
      refine gop_on rfl rfl rfl rfl hg53 ?_
      refine gop (y_bare (y_eql rfl rfl)) rfl rfl rfl ?_
      refine gop (y_pick_t (v := .bool _) rfl hg53 rfl) rfl rfl rfl ?_
      refine gop (y_move (v := .bool _) rfl) rfl rfl rfl ?_
      refine gop_if (want := true) rfl rfl rfl rfl rfl rfl (fun hg58 => ?_) (fun hg58 => ?_)
      · 
        have hg58d := of_decide_eq_true hg58
        refine gop (y_bare (y_fieldAddr_box fa28_0 rfl)) rfl rfl rfl ?_
        refine gop_on rfl rfl rfl rfl hg58 ?_
        refine gop (y_bare (y_load Tryd.isAgg3 rfl (cell_box 13 rfl rfl))) rfl rfl rfl ?_
        refine gop_on rfl rfl rfl rfl hg58 ?_
        refine gop (y_bare (y_eql rfl rfl)) rfl rfl rfl ?_
        refine gop (y_pick_t (v := .bool _) rfl hg58 rfl) rfl rfl rfl ?_
        refine gop (y_move (v := .bool _) rfl) rfl rfl rfl ?_
        refine gop_if (want := true) rfl rfl rfl rfl rfl rfl (fun hg63 => ?_) (fun hg63 => ?_)
        · 
          have hg63d := of_decide_eq_true hg63
          refine gop (y_bare (y_move (v := .slice _ _ _) rfl)) rfl rfl rfl ?_
          refine gop_on rfl rfl rfl rfl hg63 ?_
          refine gop_lit (vs := [.string _]) (cells := #[_]) Tryd.underlying25 Tryd.sizeOf9 Tryd.zeroValue9 rfl (by decide) (by decide) rfl rfl rfl rfl (fun b65 hb65 => ?_)
          refine gop_on rfl rfl rfl rfl hg63 ?_
          refine gop_pure (e_call (vs := [.slice _ _ _, .slice (some _) _ _]) Tryd.func21 rfl (by kernel_rfl) rfl) (fun w hM => by have h1 : Rdl w 0 1 strCells A22 [xA] := ((row_rdl (f := strCells) (fun _ => rfl) (hM.ok _ (List.mem_of_getElem? (i := 5) rfl))).mono (Nat.zero_le _)); have h2 : Rdl w 0 1 strCells (some ⟨b65, 0, none⟩) [xA] := ((Rdl.of_box 14 (f := strCells) (fun _ => rfl) hM rfl rfl).mono (Nat.zero_le _)); have hc := equalStrings_any w A22 (some ⟨b65, 0, none⟩) c22 1 [xA] [xA] h1 h2 (by simp [maxLen]); exact hc) rfl rfl rfl ?_
          refine gop (y_pick_t (v := .bool _) rfl hg63 rfl) rfl rfl rfl ?_
          refine gop (y_move (v := .bool _) rfl) rfl rfl rfl ?_
          refine gop_if (want := true) rfl rfl rfl rfl rfl rfl (fun hg68 => ?_) (fun hg68 => ?_)
          · 
            have hg68d := hg68
            refine gop (y_bare (y_move (v := .slice _ _ _) rfl)) rfl rfl rfl ?_
            refine gop_on rfl rfl rfl rfl hg68 ?_
            refine gop (y_bare (y_len Tryd.underlying26 rfl)) rfl rfl rfl ?_
            refine gop_on rfl rfl rfl rfl hg68 ?_
            refine gop (y_bare (y_eql rfl rfl)) rfl rfl rfl ?_
            refine gop (y_pick_t (v := .bool _) rfl hg68 rfl) rfl rfl rfl ?_
            refine gop (y_move (v := .bool _) rfl) rfl rfl rfl ?_
            refine gop_if (want := true) rfl rfl rfl rfl rfl rfl (fun hg73 => ?_) (fun hg73 => ?_)
            · 
              have hg73d := of_decide_eq_true hg73
              refine gop (y_bare (y_move (v := .slice _ _ _) rfl)) rfl rfl rfl ?_
              refine gop_on rfl rfl rfl rfl hg73 ?_
              refine gop (y_bare (y_indexAddr (m := 1) Tryd.underlying26 Tryd.sizeOf36 rfl rfl (by omega) (by decide) (by decide))) rfl rfl rfl ?_
              refine gop_on rfl rfl rfl rfl hg73 ?_
              refine gop (y_bare (y_fieldAddr_add fa36_2 rfl)) rfl rfl rfl ?_
              refine gop_on rfl rfl rfl rfl hg73 ?_
              refine gop (y_bare (y_load Tryd.isAgg3 rfl (cells_rowl 8 (f := apprCells) (l := ([⟨1, xA, descP xTree xA⟩, ⟨1, xB, -1⟩] : List Appr)) rfl rfl (fun _ => rfl) (k := 1) (a := ⟨1, xB, -1⟩) rfl 2 _ rfl))) rfl rfl rfl ?_
              refine gop_on rfl rfl rfl rfl hg73 ?_
              refine gop (y_bare (y_eql rfl rfl)) rfl rfl rfl ?_
              refine gop (y_pick_t (v := .bool _) rfl hg73 rfl) rfl rfl rfl ?_
              refine gop (y_move (v := .bool _) rfl) rfl rfl rfl ?_
              refine gop_if (want := true) rfl rfl rfl rfl rfl rfl (fun hg80 => ?_) (fun hg80 => ?_)
              · 
                have hg80d := of_decide_eq_true hg80
                refine gop (y_bare (y_move (v := .slice _ _ _) rfl)) rfl rfl rfl ?_
                refine gop_on rfl rfl rfl rfl hg80 ?_
                refine gop (y_bare (y_len Tryd.underlying42 rfl)) rfl rfl rfl ?_
                refine gop_on rfl rfl rfl rfl hg80 ?_
                refine gop (y_bare (y_eql rfl rfl)) rfl rfl rfl ?_
                refine gop (y_pick_t (v := .bool _) rfl hg80 rfl) rfl rfl rfl ?_
                refine gop (y_move (v := .bool _) rfl) rfl rfl rfl ?_
                refine gop_if (want := true) rfl rfl rfl rfl rfl rfl (fun hg85 => ?_) (fun hg85 => ?_)
                · 
                  have hg85d := of_decide_eq_true hg85
                  refine gop (y_bare (y_move (v := .slice _ _ _) rfl)) rfl rfl rfl ?_
                  refine gop_on rfl rfl rfl rfl hg85 ?_
                  refine gop (y_bare (y_indexAddr (m := 0) Tryd.underlying42 Tryd.sizeOf4 rfl rfl (by omega) (by decide) (by decide))) rfl rfl rfl ?_
                  refine gop_on rfl rfl rfl rfl hg85 ?_
                  refine gop (y_bare (y_load Tryd.isAgg4 rfl (cells_rowl 10 (f := boolCells) (l := [true, true]) rfl rfl (fun _ => rfl) (k := 0) (a := true) rfl 0 _ rfl))) rfl rfl rfl ?_
                  refine gop (y_pick_t (v := .bool _) rfl hg85 rfl) rfl rfl rfl ?_
                  refine gop (y_move (v := .bool _) rfl) rfl rfl rfl ?_
                  refine gop_if (want := true) rfl rfl rfl rfl rfl rfl (fun hg90 => ?_) (fun hg90 => ?_)
                  · 
                    have hg90d := hg90
                    refine gop (y_bare (y_move (v := .slice _ _ _) rfl)) rfl rfl rfl ?_
                    refine gop_on rfl rfl rfl rfl hg90 ?_
                    refine gop (y_bare (y_indexAddr (m := 1) Tryd.underlying42 Tryd.sizeOf4 rfl rfl (by omega) (by decide) (by decide))) rfl rfl rfl ?_
                    refine gop_on rfl rfl rfl rfl hg90 ?_
                    refine gop (y_bare (y_load Tryd.isAgg4 rfl (cells_rowl 10 (f := boolCells) (l := [true, true]) rfl rfl (fun _ => rfl) (k := 1) (a := true) rfl 0 _ rfl))) rfl rfl rfl ?_
                    refine gop (y_pick_t (v := .bool _) rfl hg90 rfl) rfl rfl rfl ?_
                    refine gop (y_move (v := .bool _) rfl) rfl rfl rfl ?_
                    refine gop_if (want := true) rfl rfl rfl rfl rfl rfl (fun hg95 => ?_) (fun hg95 => ?_)
                    · 
                      have hg95d := hg95
                      refine gop (y_bare (y_move (v := .slice _ _ _) rfl)) rfl rfl rfl ?_
                      refine gop_on rfl rfl rfl rfl hg95 ?_
                      refine gop (y_bare (y_len Tryd.underlying25 rfl)) rfl rfl rfl ?_
                      refine gop_on rfl rfl rfl rfl hg95 ?_
                      refine gop (y_bare (y_eql rfl rfl)) rfl rfl rfl ?_
                      refine gop (y_pick_t (v := .bool _) rfl hg95 rfl) rfl rfl rfl ?_
                      refine gop (y_assign (v := .bool _) rfl) rfl rfl rfl ?_
                      refine gops_nil ?_
                      refine hN8 _ _ ?_
                      refine gT [box b11 _, box b13 _, box b1 _, box b15 _, box b17 _, rowl _ _ _ _ _ _, box b4 _, box b27 _, rowl _ _ _ _ _ _, box b6 _, rowl _ _ _ _ _ _, box b8 _, rowl _ _ _ _ _ _, box b10 _, box b65 _] rfl ?_
                      refine gfrom [(0, .bool _)] ⟨rfl, trivial⟩ fun σ => ?_
                      refine gret fun w1 hM => ?_
                      refine ⟨_, res1 rfl (rt (v := .bool _) rfl), ?_⟩
                      exact ⟨rfl, hM.low⟩
                    · 
                       exact absurd hg95 (by first | decide | simp)
                  · 
                     exact absurd hg90 (by first | decide | simp)
                · 
                   exact absurd hg85 (by first | decide | simp)
              · 
                 exact absurd hg80 (by first | decide | simp)
            · 
               exact absurd hg73 (by first | decide | simp)
          · 
             exact absurd hg68 (by first | decide | simp)
        · 
           exact absurd hg63 (by first | decide | simp)
      · 
         exact absurd hg58 (by first | decide | simp)
    · 
       exact absurd hg53 (by first | decide | simp)
  · 
     exact absurd hg48 (by first | decide | simp)
end Go.Proofs.YtbkameioedmlkaaDoor
namespace Go.Proofs.YtbkameioedmlkaaDoor
open Go.RowKit Go.Cf
set_option maxRecDepth 10000
theorem eq28 (a0 b0 : Int) (a1 b1 : Int) (w : World) : (binOp .eql 28 (.agg #[.int .i64 a0, .int .i64 a1]) (.agg #[.int .i64 b0, .int .i64 b1])).run Tryd.prog w = .ok (.bool ((decide (a0 = b0) && decide (a1 = b1)))) w := by
  simp [run_eql_struct, run_equalIn_agg, Tryd.underlying28, Tryd.stoodInHeld28, Program.fieldsOf, go_sem]
  (repeat' split) <;> simp_all
set_option maxHeartbeats 16000000 in
theorem law35_any (w : World) (A : Option Addr) (c : Nat) (fs : List FileC) (hR : TreeR w 0 A c fs) (u : Int) (PA : Option Addr) (pc : Nat) (ps : List ByteArray) (hps : Rdl w 0 1 strCells PA ps) (hpl : ps.length ≤ pc) (hpm : pc ≤ maxLen) (hpz : ∀ p ∈ ps, p.size ≤ 4000000) : Calls Tryd.prog 3 #[.agg #[.slice A fs.length c], .int .i64 u, .slice PA ps.length pc] w fun e w' => e = .returned (.bool true) ∧ Below w.heap.size w w' := by
  have hsl := hR.sb.len
  have hsm := hR.sb.max
  have hmx : maxLen = 9223372036854775807 := rfl
  refine gcalls Tryd.func3 rfl Tryd.ntmps3 (Nat.le_of_ble_eq_true rfl) ?_
  refine gfrom [(0, .agg #[_]), (1, .int _ _), (2, .slice _ _ _)] ⟨rfl, rfl, rfl, trivial⟩ fun σ => ?_
  refine gseq fun N1 hN1 => ?_
  refine greg ?_
  refine gop_box (v := .agg #[_]) (cs := #[_]) rfl rfl rfl (fun b3 hb3 => ?_)
  refine gop (y_assign (v := .bool _) rfl) rfl rfl rfl ?_
  refine gops_nil ?_
  refine hN1 _ _ ?_
  refine gT [box b3 _] rfl ?_
  refine gfrom [(1, .int _ _), (2, .slice _ _ _), (3, .pointer _)] ⟨rfl, rfl, rfl, trivial⟩ fun σ => ?_
  refine gseq fun N2 hN2 => ?_
  refine greg ?_
  refine gop (y_loads (cs := [_]) Tryd.isAgg24 Tryd.sizeOf24 rfl rfl (cells_box 0 rfl)) rfl rfl rfl ?_
  refine gop (y_move (v := .int _ _) rfl) rfl rfl rfl ?_
  refine gop (y_move (v := .slice _ _ _) rfl) rfl rfl rfl ?_
  refine gop_got (fun v T' => ∃ lo u1, v = .tuple #[u1, fv (approveF (fpl fs) u ps)] ∧ w.heap.size ≤ lo ∧ T' = [rowl apprCells lo 36 3 (u1) (approveV (fpl fs) u ps)]) (e_call (vs := [.agg #[_], .int _ _, .slice _ _ _]) Tryd.func7 rfl (by kernel_rfl) rfl) (fun w hM => by have hc := approve_any w A c fs (hR.base hM) u PA pc ps (hps.base hM) hpl hpm; exact hc.mono fun _ _ ⟨v, T1, h1, h2, h3⟩ => ⟨_, T1, h1, ⟨_, v, rfl, hM.low.size, h2⟩, h3⟩) rfl rfl rfl ?_
  rintro _ _ ⟨lo16, u16, rfl, hlo16, rfl⟩
  refine gops_fact (fun w hM => row_form (hM.ok _ (List.mem_of_getElem? (i := 1) rfl))) ?_
  rintro ⟨A16, c16, rfl, hc16, hm16, hn16⟩
  refine gops_fact (Φ := 0 < (approveV (fpl fs) u ps).length → ∃ g, A16 = some ⟨g, 0, none⟩) (fun w hM h9 => row_g2 (hM.ok _ (List.mem_of_getElem? (i := 1) rfl)) h9) ?_
  intro hg16
  refine gop (y_move (v := .tuple #[.slice A16 _ c16, .agg #[_, _]]) rfl) rfl rfl rfl ?_
  refine gop (y_extract (v := .slice _ _ _) rfl rfl) rfl rfl rfl ?_
  refine gop (y_extract (v := .agg #[_, _]) rfl rfl) rfl rfl rfl ?_
  refine gop_alloc (cs := #[.int .i64 0, .int .i64 0]) Tryd.zeroValue28 rfl rfl (fun b8 hb8 => ?_)
  refine gop (y_assign (v := .slice _ _ _) rfl) rfl rfl rfl ?_
  refine gop_store 2 (v := .agg #[_, _]) (cs' := #[_, _]) rfl rfl Tryd.sizeOf28 rfl rfl rfl rfl (Nat.le_of_ble_eq_true rfl) rfl rfl ?_
  refine gops_nil ?_
  refine hN2 _ _ ?_
  refine gT [box b3 _, rowl _ _ _ _ _ _, box b8 _] rfl ?_
  refine gfrom [(1, .int _ _), (2, .slice _ _ _), (3, .pointer _), (7, .slice _ _ _), (8, .pointer _)] ⟨rfl, rfl, rfl, rfl, rfl, trivial⟩ fun σ => ?_
  refine gseq fun N3 hN3 => ?_
  refine gseq fun N4 hN4 => ?_
  refine greg ?_
  refine gop_pure (e_call (vs := []) Tryd.func8 rfl (by kernel_rfl) rfl) (fun w hM => approvalsExample_any w) rfl rfl rfl ?_
  refine gop (y_not rfl) rfl rfl rfl ?_
  refine gops_nil ?_
  refine hN4 _ _ ?_
  refine gfrom [(1, .int _ _), (2, .slice _ _ _), (3, .pointer _), (7, .slice _ _ _), (8, .pointer _), (20, .bool _)] ⟨rfl, rfl, rfl, rfl, rfl, rfl, trivial⟩ fun σ => ?_
  refine gcond (b := _) rfl (fun hc20 => ?_) (fun hc20 => ?_)
  · 
     exact absurd hc20 (by decide)
  · 
    replace hc20 := not_f hc20
    refine gskip ?_
    refine hN3 _ _ ?_
    refine gfrom [(1, .int _ _), (2, .slice _ _ _), (3, .pointer _), (7, .slice _ _ _), (8, .pointer _)] ⟨rfl, rfl, rfl, rfl, rfl, trivial⟩ fun σ => ?_
    refine gseq fun N5 hN5 => ?_
    refine greg ?_
    refine gop (y_loads (cs := [_]) Tryd.isAgg24 Tryd.sizeOf24 rfl rfl (cells_box 0 rfl)) rfl rfl rfl ?_
    refine gop_pure (e_call (vs := [.agg #[_], _]) Tryd.func9 rfl (by kernel_rfl) rfl) (fun w hM => treeCode_any w A c fs (hR.base hM) (-2)) rfl rfl rfl ?_
    refine gop_alloc (cs := #[.int .i64 0, .int .i64 0]) Tryd.zeroValue28 rfl rfl (fun b9 hb9 => ?_)
    refine gop_store 3 (v := .agg #[_, _]) (cs' := #[_, _]) rfl rfl Tryd.sizeOf28 rfl rfl rfl rfl (Nat.le_of_ble_eq_true rfl) rfl rfl ?_
    refine gops_nil ?_
    refine hN5 _ _ ?_
    refine gT [box b3 _, rowl _ _ _ _ _ _, box b8 _, box b9 _] rfl ?_
    refine gfrom [(1, .int _ _), (2, .slice _ _ _), (3, .pointer _), (7, .slice _ _ _), (8, .pointer _), (9, .pointer _)] ⟨rfl, rfl, rfl, rfl, rfl, rfl, trivial⟩ fun σ => ?_
    refine gseq fun N6 hN6 => ?_
    refine gfrom [(1, .int _ _), (2, .slice _ _ _), (3, .pointer _), (7, .slice _ _ _), (8, .pointer _), (9, .pointer _)] ⟨rfl, rfl, rfl, rfl, rfl, rfl, trivial⟩ fun σ => ?_
    refine gcut3 (Lf := [(1, .int _ _), (2, .slice _ _ _), (3, .pointer _), (7, .slice _ _ _), (8, .pointer _), (9, .pointer _)]) (G := Fault) (fun q => AppC1 (fpl fs) u ps q) (fun q => []) (fun q => [(3, box b9 (.cells #[.int .i64 q.code, .int .i64 q.index] 28))]) ⟨rfl, rfl, rfl, rfl, rfl, rfl, trivial⟩ ?_ ?_
    ·
      refine gseq fun N7 hN7 => ?_
      refine greg ?_
      refine gop (y_fieldAddr_box fa28_0 rfl) rfl rfl rfl ?_
      refine gop (y_load Tryd.isAgg3 rfl (cell_box 3 rfl rfl)) rfl rfl rfl ?_
      refine gop (y_eql rfl rfl) rfl rfl rfl ?_
      refine gop (y_move (v := .bool _) rfl) rfl rfl rfl ?_
      refine gop_if (want := true) rfl rfl rfl rfl rfl rfl (fun hg26 => ?_) (fun hg26 => ?_)
      · 
        have hg26d := of_decide_eq_true hg26
        refine gop (y_bare (y_move (v := .int _ _) rfl)) rfl rfl rfl ?_
        refine gop_on rfl rfl rfl rfl hg26 ?_
        refine gop (y_bare (y_lss rfl rfl)) rfl rfl rfl ?_
        refine gop_on rfl rfl rfl rfl hg26 ?_
        refine gop (y_bare (y_move (v := .bool _) rfl)) rfl rfl rfl ?_
        refine gop_if (want := false) rfl rfl rfl rfl rfl rfl (fun hg29 => ?_) (fun hg29 => ?_)
        · 
          have hg29d := of_decide_eq_false hg29
          refine gop (y_bare (y_move (v := .int _ _) rfl)) rfl rfl rfl ?_
          refine gop_on rfl rfl rfl rfl hg29 ?_
          refine gop (y_bare (y_gtr rfl rfl)) rfl rfl rfl ?_
          refine gop_on rfl rfl rfl rfl hg26 ?_
          refine gop (y_bare (y_pick_f (v := .bool _) rfl hg29 rfl)) rfl rfl rfl ?_
          refine gop (y_pick_t (v := .bool _) rfl hg26 rfl) rfl rfl rfl ?_
          refine gops_nil ?_
          refine hN7 _ _ ?_
          refine gfrom [(1, .int _ _), (2, .slice _ _ _), (3, .pointer _), (7, .slice _ _ _), (8, .pointer _), (9, .pointer _), (33, .bool _)] ⟨rfl, rfl, rfl, rfl, rfl, rfl, rfl, trivial⟩ fun σ => ?_
          refine gcond (b := _) rfl (fun hc33 => ?_) (fun hc33 => ?_)
          · 
            replace hc33 := of_decide_eq_true hc33
            refine greg ?_
            refine gop_pure (e_call (vs := [_, _]) Tryd.func10 rfl (by kernel_rfl) rfl) (fun w hM => fault_any w _ _) rfl rfl rfl ?_
            refine gop_store 3 (v := .agg #[_, _]) (cs' := #[_, _]) rfl rfl Tryd.sizeOf28 rfl rfl rfl rfl (Nat.le_of_ble_eq_true rfl) rfl rfl ?_
            refine gops_nil ?_
            refine gcut3_end (⟨3, -3⟩) (chk1_u hg26d (by omega)) trivial ⟨rfl, rfl, rfl, rfl, rfl, rfl, trivial⟩ ⟨_, rfl⟩
          · 
            replace hc33 := of_decide_eq_false hc33
            refine gskip ?_
            refine gcut3_end (secondF (treeF (fpl fs)) (-2)) (chk1_ok hg26d (by omega)) trivial ⟨rfl, rfl, rfl, rfl, rfl, rfl, trivial⟩ ⟨_, rfl⟩
        · 
          have hg29d := of_decide_eq_true hg29
          refine gop_off rfl rfl rfl rfl hg29 rfl rfl ?_
          refine gop_on rfl rfl rfl rfl hg26 ?_
          refine gop (y_bare (y_pick_t (v := .bool _) rfl hg29 rfl)) rfl rfl rfl ?_
          refine gop (y_pick_t (v := .bool _) rfl hg26 rfl) rfl rfl rfl ?_
          refine gops_nil ?_
          refine hN7 _ _ ?_
          refine gfrom [(1, .int _ _), (2, .slice _ _ _), (3, .pointer _), (7, .slice _ _ _), (8, .pointer _), (9, .pointer _), (33, .bool _)] ⟨rfl, rfl, rfl, rfl, rfl, rfl, rfl, trivial⟩ fun σ => ?_
          refine gcond (b := _) rfl (fun hc33 => ?_) (fun hc33 => ?_)
          · 
            refine greg ?_
            refine gop_pure (e_call (vs := [_, _]) Tryd.func10 rfl (by kernel_rfl) rfl) (fun w hM => fault_any w _ _) rfl rfl rfl ?_
            refine gop_store 3 (v := .agg #[_, _]) (cs' := #[_, _]) rfl rfl Tryd.sizeOf28 rfl rfl rfl rfl (Nat.le_of_ble_eq_true rfl) rfl rfl ?_
            refine gops_nil ?_
            refine gcut3_end (⟨3, -3⟩) (chk1_u hg26d (by omega)) trivial ⟨rfl, rfl, rfl, rfl, rfl, rfl, trivial⟩ ⟨_, rfl⟩
          · 
            cases hc33
      · 
        have hg26d := of_decide_eq_false hg26
        refine gop_off rfl rfl rfl rfl hg26 rfl rfl ?_
        refine gop_off rfl rfl rfl rfl hg26 rfl rfl ?_
        refine gop_offu rfl rfl rfl rfl rfl rfl ?_
        refine gop_offu rfl rfl rfl rfl rfl rfl ?_
        refine gop_off rfl rfl rfl rfl hg26 rfl rfl ?_
        refine gop (y_pick_f (v := .bool _) rfl hg26 rfl) rfl rfl rfl ?_
        refine gops_nil ?_
        refine hN7 _ _ ?_
        refine gfrom [(1, .int _ _), (2, .slice _ _ _), (3, .pointer _), (7, .slice _ _ _), (8, .pointer _), (9, .pointer _), (33, .bool _)] ⟨rfl, rfl, rfl, rfl, rfl, rfl, rfl, trivial⟩ fun σ => ?_
        refine gcond (b := _) rfl (fun hc33 => ?_) (fun hc33 => ?_)
        · 
          cases hc33
        · 
          refine gskip ?_
          refine gcut3_end (secondF (treeF (fpl fs)) (-2)) (chk1_t hg26d) trivial ⟨rfl, rfl, rfl, rfl, rfl, rfl, trivial⟩ ⟨_, rfl⟩
    ·
      intro q hcut σ
      refine hN6 _ _ ?_
      have hC1 := hcut
      refine gseq fun N8 hN8 => ?_
      refine gT [box b3 _, rowl _ _ _ _ _ _, box b8 _, box b9 _] rfl ?_
      refine gfrom [(1, .int _ _), (2, .slice _ _ _), (3, .pointer _), (7, .slice _ _ _), (8, .pointer _), (9, .pointer _)] ⟨rfl, rfl, rfl, rfl, rfl, rfl, trivial⟩ fun σ => ?_
      refine gcut3 (Lf := [(1, .int _ _), (2, .slice _ _ _), (3, .pointer _), (7, .slice _ _ _), (8, .pointer _), (9, .pointer _)]) (G := Fault) (fun q => AppChk (fpl fs) u ps 0 q) (fun q => []) (fun q => [(3, box b9 (.cells #[.int .i64 q.code, .int .i64 q.index] 28))]) ⟨rfl, rfl, rfl, rfl, rfl, rfl, trivial⟩ ?_ ?_
      ·
        refine gseq fun N9 hN9 => ?_
        refine greg ?_
        refine gop (y_fieldAddr_box fa28_0 rfl) rfl rfl rfl ?_
        refine gop (y_load Tryd.isAgg3 rfl (cell_box 3 rfl rfl)) rfl rfl rfl ?_
        refine gop (y_eql rfl rfl) rfl rfl rfl ?_
        refine gop (y_move (v := .bool _) rfl) rfl rfl rfl ?_
        refine gop_if (want := true) rfl rfl rfl rfl rfl rfl (fun hg38 => ?_) (fun hg38 => ?_)
        · 
          have hg38d := of_decide_eq_true hg38
          refine gop (y_bare (y_move (v := .slice _ _ _) rfl)) rfl rfl rfl ?_
          refine gop_on rfl rfl rfl rfl hg38 ?_
          refine gop (y_bare (y_len Tryd.underlying25 rfl)) rfl rfl rfl ?_
          refine gop_on rfl rfl rfl rfl hg38 ?_
          refine gop (y_bare (y_gtr rfl rfl)) rfl rfl rfl ?_
          refine gop (y_pick_t (v := .bool _) rfl hg38 rfl) rfl rfl rfl ?_
          refine gops_nil ?_
          refine hN9 _ _ ?_
          refine gfrom [(1, .int _ _), (2, .slice _ _ _), (3, .pointer _), (7, .slice _ _ _), (8, .pointer _), (9, .pointer _), (42, .bool _)] ⟨rfl, rfl, rfl, rfl, rfl, rfl, rfl, trivial⟩ fun σ => ?_
          refine gcond (b := _) rfl (fun hc42 => ?_) (fun hc42 => ?_)
          · 
            replace hc42 := of_decide_eq_true hc42
            refine greg ?_
            refine gop_pure (e_call (vs := [_, _]) Tryd.func10 rfl (by kernel_rfl) rfl) (fun w hM => fault_any w _ _) rfl rfl rfl ?_
            refine gop_store 3 (v := .agg #[_, _]) (cs' := #[_, _]) rfl rfl Tryd.sizeOf28 rfl rfl rfl rfl (Nat.le_of_ble_eq_true rfl) rfl rfl ?_
            refine gops_nil ?_
            refine gcut3_end (⟨2, -1⟩) (chk2_long hC1 hg38d (by omega)) trivial ⟨rfl, rfl, rfl, rfl, rfl, rfl, trivial⟩ ⟨_, rfl⟩
          · 
            replace hc42 := of_decide_eq_false hc42
            refine gskip ?_
            refine gcut3_end (q) (chk2_ok hC1 hg38d (by omega)) trivial ⟨rfl, rfl, rfl, rfl, rfl, rfl, trivial⟩ ⟨_, rfl⟩
        · 
          have hg38d := of_decide_eq_false hg38
          refine gop_off rfl rfl rfl rfl hg38 rfl rfl ?_
          refine gop_off rfl rfl rfl rfl hg38 rfl rfl ?_
          refine gop (y_pick_f (v := .bool _) rfl hg38 rfl) rfl rfl rfl ?_
          refine gops_nil ?_
          refine hN9 _ _ ?_
          refine gfrom [(1, .int _ _), (2, .slice _ _ _), (3, .pointer _), (7, .slice _ _ _), (8, .pointer _), (9, .pointer _), (42, .bool _)] ⟨rfl, rfl, rfl, rfl, rfl, rfl, rfl, trivial⟩ fun σ => ?_
          refine gcond (b := _) rfl (fun hc42 => ?_) (fun hc42 => ?_)
          · 
            cases hc42
          · 
            refine gskip ?_
            refine gcut3_end (q) (chk2_bad hC1 hg38d) trivial ⟨rfl, rfl, rfl, rfl, rfl, rfl, trivial⟩ ⟨_, rfl⟩
      ·
        intro q hcut σ
        refine hN8 _ _ ?_
        have hC2 := hcut
        refine gseq fun N10 hN10 => ?_
        refine gT [box b3 _, rowl _ _ _ _ _ _, box b8 _, box b9 _] rfl ?_
        refine gfrom [(1, .int _ _), (2, .slice _ _ _), (3, .pointer _), (7, .slice _ _ _), (8, .pointer _), (9, .pointer _)] ⟨rfl, rfl, rfl, rfl, rfl, rfl, trivial⟩ fun σ => ?_
        refine gcut3 (Lf := [(1, .int _ _), (2, .slice _ _ _), (3, .pointer _), (7, .slice _ _ _), (8, .pointer _), (9, .pointer _)]) (G := Fault) (fun q => approveF (fpl fs) u ps = q) (fun q => []) (fun q => [(3, box b9 (.cells #[.int .i64 q.code, .int .i64 q.index] 28))]) ⟨rfl, rfl, rfl, rfl, rfl, rfl, trivial⟩ ?_ ?_
        ·
          refine gseq fun N11 hN11 => ?_
          refine greg ?_
          refine gop (y_assign (v := .int _ _) rfl) rfl rfl rfl ?_
          refine gops_nil ?_
          refine hN11 _ _ ?_
          refine gfrom [(1, .int _ _), (2, .slice _ _ _), (3, .pointer _), (7, .slice _ _ _), (8, .pointer _), (9, .pointer _), (10, .int _ _)] ⟨rfl, rfl, rfl, rfl, rfl, rfl, rfl, trivial⟩ fun σ => ?_
          refine gblock ?_
          refine gfrom2 [(10, .int _ _)] [(1, .int _ _), (2, .slice _ _ _), (3, .pointer _), (7, .slice _ _ _), (8, .pointer _), (9, .pointer _)] ⟨rfl, trivial⟩ ⟨rfl, rfl, rfl, rfl, rfl, rfl, trivial⟩ fun σ => ?_
          refine gloop2 (G := Nat × Fault) (fun (k, q) => k ≤ ps.length ∧ AppChk (fpl fs) u ps k q) (fun (k, q) => ps.length - k) (fun (k, q) => [(10, .int .i64 (k : Int))]) (fun (k, q) => [(3, box b9 (.cells #[.int .i64 q.code, .int .i64 q.index] 28))]) ((0, q)) ?h0 ⟨rfl, trivial⟩ ⟨rfl, rfl, rfl, rfl, rfl, rfl, trivial⟩ rfl ?round
          case h0 => exact ⟨Nat.zero_le _, hC2⟩
          case round =>
            rintro ⟨k, q⟩ hφ σ
            obtain ⟨hk, hchk⟩ : k ≤ ps.length ∧ AppChk (fpl fs) u ps k q := hφ
            refine gT [box b3 _, rowl _ _ _ _ _ _, box b8 _, box _ _] rfl ?_
            refine gseq fun N12 hN12 => ?_
            refine gseq fun N13 hN13 => ?_
            refine greg ?_
            refine gop (y_move (v := .int _ _) rfl) rfl rfl rfl ?_
            refine gop (y_move (v := .slice _ _ _) rfl) rfl rfl rfl ?_
            refine gop (y_len Tryd.underlying25 rfl) rfl rfl rfl ?_
            refine gop (y_lss rfl rfl) rfl rfl rfl ?_
            refine gop (y_move (v := .bool _) rfl) rfl rfl rfl ?_
            refine gop_if (want := true) rfl rfl rfl rfl rfl rfl (fun hg48 => ?_) (fun hg48 => ?_)
            · 
              have hg48d := of_decide_eq_true hg48
              refine gop (y_bare (y_fieldAddr_box fa28_0 rfl)) rfl rfl rfl ?_
              refine gop_on rfl rfl rfl rfl hg48 ?_
              refine gop (y_bare (y_load Tryd.isAgg3 rfl (cell_box 3 rfl rfl))) rfl rfl rfl ?_
              refine gop_on rfl rfl rfl rfl hg48 ?_
              refine gop (y_bare (y_eql rfl rfl)) rfl rfl rfl ?_
              refine gop (y_pick_t (v := .bool _) rfl hg48 rfl) rfl rfl rfl ?_
              refine gops_nil ?_
              refine hN13 _ _ ?_
              refine gfrom [(1, .int _ _), (2, .slice _ _ _), (3, .pointer _), (7, .slice _ _ _), (8, .pointer _), (9, .pointer _), (10, .int _ _), (52, .bool _)] ⟨rfl, rfl, rfl, rfl, rfl, rfl, rfl, rfl, trivial⟩ fun σ => ?_
              refine gcond (b := _) rfl (fun hc52 => ?_) (fun hc52 => ?_)
              · 
                replace hc52 := of_decide_eq_true hc52
                have hk1 : k < ps.length := by omega
                obtain ⟨ad, rfl, -, hca⟩ := hps.at_ hk1
                refine gskip ?_
                refine hN12 _ _ ?_
                refine gfrom [(1, .int _ _), (2, .slice _ _ _), (3, .pointer _), (7, .slice _ _ _), (8, .pointer _), (9, .pointer _), (10, .int _ _)] ⟨rfl, rfl, rfl, rfl, rfl, rfl, rfl, trivial⟩ fun σ => ?_
                refine gseq fun N14 hN14 => ?_
                refine gblock ?_
                refine gseq fun N15 hN15 => ?_
                refine greg ?_
                refine gop (y_move (v := .slice _ _ _) rfl) rfl rfl rfl ?_
                refine gop (y_move (v := .int _ _) rfl) rfl rfl rfl ?_
                refine gop (y_indexAddr (m := k) Tryd.underlying25 Tryd.sizeOf9 rfl rfl (by omega) (by omega) (by omega)) rfl rfl rfl ?_
                refine gop (y_load Tryd.isAgg9 rfl (cell_base (hca 0 _ rfl))) rfl rfl rfl ?_
                refine gop_pure (e_call (vs := [.string _]) Tryd.func11 rfl (by kernel_rfl) rfl) (fun w hM => isPath_any w _ (hpz _ (List.getElem_mem hk1))) rfl rfl rfl ?_
                refine gop (y_not rfl) rfl rfl rfl ?_
                refine gops_nil ?_
                refine hN15 _ _ ?_
                refine gfrom [(1, .int _ _), (2, .slice _ _ _), (3, .pointer _), (7, .slice _ _ _), (8, .pointer _), (9, .pointer _), (10, .int _ _), (60, .bool _)] ⟨rfl, rfl, rfl, rfl, rfl, rfl, rfl, rfl, trivial⟩ fun σ => ?_
                refine gcond (b := _) rfl (fun hc60 => ?_) (fun hc60 => ?_)
                · 
                  have hp : pathOk ps[k] = false := by simpa using hc60
                  refine greg ?_
                  refine gop (y_move (v := .int _ _) rfl) rfl rfl rfl ?_
                  refine gop_pure (e_call (vs := [_, .int _ _]) Tryd.func10 rfl (by kernel_rfl) rfl) (fun w hM => fault_any w _ _) rfl rfl rfl ?_
                  refine gop_store 3 (v := .agg #[_, _]) (cs' := #[_, _]) rfl rfl Tryd.sizeOf28 rfl rfl rfl rfl (Nat.le_of_ble_eq_true rfl) rfl rfl ?_
                  refine gops_nil ?_
                  refine hN14 _ _ ?_
                  refine gT [box b3 _, rowl _ _ _ _ _ _, box b8 _, box _ _] rfl ?_
                  refine gfrom [(1, .int _ _), (2, .slice _ _ _), (3, .pointer _), (7, .slice _ _ _), (8, .pointer _), (9, .pointer _), (10, .int _ _)] ⟨rfl, rfl, rfl, rfl, rfl, rfl, rfl, trivial⟩ fun σ => ?_
                  refine greg ?_
                  refine gop (y_move (v := .int _ _) rfl) rfl rfl rfl ?_
                  refine gop (y_add rfl rfl ⟨by omega, by omega⟩) rfl rfl rfl ?_
                  refine gop (y_assign (v := .int _ _) rfl) rfl rfl rfl ?_
                  refine gops_nil ?_
                  refine gnext2 ((k + 1, ⟨12, k⟩)) (by show ps.length - (k + 1) < ps.length - k; omega) (⟨by show k + 1 ≤ _; omega, hchk.bad hc52 hk1 hp⟩) ⟨rfl, trivial⟩ ⟨rfl, rfl, rfl, rfl, rfl, rfl, trivial⟩ ⟨_, rfl⟩
                · 
                  have hp : pathOk ps[k] = true := by simpa using hc60
                  refine gskip ?_
                  refine hN14 _ _ ?_
                  refine gfrom [(1, .int _ _), (2, .slice _ _ _), (3, .pointer _), (7, .slice _ _ _), (8, .pointer _), (9, .pointer _), (10, .int _ _)] ⟨rfl, rfl, rfl, rfl, rfl, rfl, rfl, trivial⟩ fun σ => ?_
                  refine greg ?_
                  refine gop (y_move (v := .int _ _) rfl) rfl rfl rfl ?_
                  refine gop (y_add rfl rfl ⟨by omega, by omega⟩) rfl rfl rfl ?_
                  refine gop (y_assign (v := .int _ _) rfl) rfl rfl rfl ?_
                  refine gops_nil ?_
                  refine gnext2 ((k + 1, q)) (by show ps.length - (k + 1) < ps.length - k; omega) (⟨by show k + 1 ≤ _; omega, hchk.ok hc52 hk1 hp⟩) ⟨rfl, trivial⟩ ⟨rfl, rfl, rfl, rfl, rfl, rfl, trivial⟩ ⟨_, rfl⟩
              · 
                replace hc52 := of_decide_eq_false hc52
                have hst : ¬ (k < ps.length ∧ q.code = 0) := by first | exact fun h9 => hc52 h9.2 | exact fun h9 => absurd h9.1 (by omega)
                refine gexit ?_
                refine gcut3_end (q) (hchk.done hst) trivial ⟨rfl, rfl, rfl, rfl, rfl, rfl, trivial⟩ ⟨_, rfl⟩
            · 
              have hg48d := of_decide_eq_false hg48
              refine gop_off rfl rfl rfl rfl hg48 rfl rfl ?_
              refine gop_off rfl rfl rfl rfl hg48 rfl rfl ?_
              refine gop (y_pick_f (v := .bool _) rfl hg48 rfl) rfl rfl rfl ?_
              refine gops_nil ?_
              refine hN13 _ _ ?_
              refine gfrom [(1, .int _ _), (2, .slice _ _ _), (3, .pointer _), (7, .slice _ _ _), (8, .pointer _), (9, .pointer _), (10, .int _ _), (52, .bool _)] ⟨rfl, rfl, rfl, rfl, rfl, rfl, rfl, rfl, trivial⟩ fun σ => ?_
              refine gcond (b := _) rfl (fun hc52 => ?_) (fun hc52 => ?_)
              · 
                cases hc52
              · 
                have hst : ¬ (k < ps.length ∧ q.code = 0) := by first | exact fun h9 => hc52 h9.2 | exact fun h9 => absurd h9.1 (by omega)
                refine gexit ?_
                refine gcut3_end (q) (hchk.done hst) trivial ⟨rfl, rfl, rfl, rfl, rfl, rfl, trivial⟩ ⟨_, rfl⟩
        ·
          intro q hcut σ
          refine hN10 _ _ ?_
          have hF := hcut
          refine gseq fun N16 hN16 => ?_
          refine gseq fun N17 hN17 => ?_
          refine greg ?_
          refine gop (y_fieldAddr_box fa28_0 rfl) rfl rfl rfl ?_
          refine gop (y_load Tryd.isAgg3 rfl (cell_box 3 rfl rfl)) rfl rfl rfl ?_
          refine gop (y_neq rfl rfl) rfl rfl rfl ?_
          refine gops_nil ?_
          refine hN17 _ _ ?_
          refine gT [box b3 _, rowl _ _ _ _ _ _, box b8 _, box b9 _] rfl ?_
          refine gfrom [(1, .int _ _), (2, .slice _ _ _), (3, .pointer _), (7, .slice _ _ _), (8, .pointer _), (9, .pointer _), (65, .bool _)] ⟨rfl, rfl, rfl, rfl, rfl, rfl, rfl, trivial⟩ fun σ => ?_
          refine gcond (b := _) rfl (fun hc65 => ?_) (fun hc65 => ?_)
          · 
            replace hc65 := of_decide_eq_true hc65
            have hnil : approveV (fpl fs) u ps = [] := approveV_bad (by rw [hF]; exact hc65)
            refine gseq fun N18 hN18 => ?_
            refine greg ?_
            refine gop (y_loads (cs := [_, _]) Tryd.isAgg28 Tryd.sizeOf28 rfl rfl (cells_box 2 rfl)) rfl rfl rfl ?_
            refine gop (y_loads (cs := [_, _]) Tryd.isAgg28 Tryd.sizeOf28 rfl rfl (cells_box 3 rfl)) rfl rfl rfl ?_
            refine gop (y_bin (vx := .agg #[_, _]) (vy := .agg #[_, _]) rfl rfl (fun w => eg28 _ _ _ _ _ w) (fun w => eq28 _ _ _ _ w)) rfl rfl rfl ?_
            refine gop (y_move (v := .bool _) rfl) rfl rfl rfl ?_
            refine gop_if (want := true) rfl rfl rfl rfl rfl rfl (fun hg69 => ?_) (fun hg69 => ?_)
            · 
              have hg69d := hg69
              refine gop (y_bare (y_move (v := .slice _ _ _) rfl)) rfl rfl rfl ?_
              refine gop_on rfl rfl rfl rfl hg69 ?_
              refine gop (y_bare (y_len Tryd.underlying26 rfl)) rfl rfl rfl ?_
              refine gop_on rfl rfl rfl rfl hg69 ?_
              refine gop (y_bare (y_eql rfl rfl)) rfl rfl rfl ?_
              refine gop (y_pick_t (v := .bool _) rfl hg69 rfl) rfl rfl rfl ?_
              refine gop (y_assign (v := .bool _) rfl) rfl rfl rfl ?_
              refine gops_nil ?_
              refine hN18 _ _ ?_
              refine gfrom [(6, .bool _)] ⟨rfl, trivial⟩ fun σ => ?_
              refine gret fun w1 hM => ?_
              refine ⟨_, res1 rfl (rt (v := .bool _) rfl), ?_⟩
              exact ⟨by rw [hnil]; rfl, hM.low⟩
            · 
               rw [hF] at hg69; exact absurd hg69 (by simp)
          · 
            replace hc65 := Decidable.not_not.1 (of_decide_eq_false hc65)
            obtain ⟨hFz, htz, hu, h24, -⟩ := approveF_code (fs := fpl fs) (u := u) (ps := ps) (by rw [hF]; omega)
            have v := treeF_valid htz
            have hal := approveV_len hFz
            refine gskip ?_
            refine hN16 _ _ ?_
            refine gfrom [(1, .int _ _), (2, .slice _ _ _), (3, .pointer _), (7, .slice _ _ _), (8, .pointer _)] ⟨rfl, rfl, rfl, rfl, rfl, trivial⟩ fun σ => ?_
            refine gseq fun N19 hN19 => ?_
            refine gseq fun N20 hN20 => ?_
            refine greg ?_
            refine gop (y_fieldAddr_box fa28_0 rfl) rfl rfl rfl ?_
            refine gop (y_load Tryd.isAgg3 rfl (cell_box 2 rfl rfl)) rfl rfl rfl ?_
            refine gop (y_neq rfl rfl) rfl rfl rfl ?_
            refine gop (y_move (v := .bool _) rfl) rfl rfl rfl ?_
            refine gop_if (want := false) rfl rfl rfl rfl rfl rfl (fun hg77 => ?_) (fun hg77 => ?_)
            · 
              have hg77d := Decidable.not_not.1 (of_decide_eq_false hg77)
              refine gop (y_bare (y_move (v := .slice _ _ _) rfl)) rfl rfl rfl ?_
              refine gop_on rfl rfl rfl rfl hg77 ?_
              refine gop (y_bare (y_len Tryd.underlying26 rfl)) rfl rfl rfl ?_
              refine gop_on rfl rfl rfl rfl hg77 ?_
              refine gop (y_bare (y_move (v := .slice _ _ _) rfl)) rfl rfl rfl ?_
              refine gop_on rfl rfl rfl rfl hg77 ?_
              refine gop (y_bare (y_len Tryd.underlying25 rfl)) rfl rfl rfl ?_
              refine gop_on rfl rfl rfl rfl hg77 ?_
              refine gop (y_bare (y_neq rfl rfl)) rfl rfl rfl ?_
              refine gop (y_pick_f (v := .bool _) rfl hg77 rfl) rfl rfl rfl ?_
              refine gops_nil ?_
              refine hN20 _ _ ?_
              refine gfrom [(1, .int _ _), (2, .slice _ _ _), (3, .pointer _), (7, .slice _ _ _), (83, .bool _)] ⟨rfl, rfl, rfl, rfl, rfl, trivial⟩ fun σ => ?_
              refine gcond (b := _) rfl (fun hc83 => ?_) (fun hc83 => ?_)
              · 
                 first | exact absurd (of_decide_eq_true hc83) (by rw [hal]; simp) | (rw [hal] at hc83; simp at hc83)
              · 
                replace hc83 := Decidable.not_not.1 (of_decide_eq_false hc83)
                refine gskip ?_
                refine hN19 _ _ ?_
                refine gfrom [(1, .int _ _), (2, .slice _ _ _), (3, .pointer _), (7, .slice _ _ _)] ⟨rfl, rfl, rfl, rfl, trivial⟩ fun σ => ?_
                refine gseq fun N21 hN21 => ?_
                refine gseq fun N22 hN22 => ?_
                refine greg ?_
                refine gop (y_assign (v := .int _ _) rfl) rfl rfl rfl ?_
                refine gops_nil ?_
                refine hN22 _ _ ?_
                refine gfrom [(1, .int _ _), (2, .slice _ _ _), (3, .pointer _), (7, .slice _ _ _), (11, .int _ _)] ⟨rfl, rfl, rfl, rfl, rfl, trivial⟩ fun σ => ?_
                refine gblock ?_
                refine gfrom2 [(11, .int _ _)] [(1, .int _ _), (2, .slice _ _ _), (3, .pointer _), (7, .slice _ _ _)] ⟨rfl, trivial⟩ ⟨rfl, rfl, rfl, rfl, trivial⟩ fun σ => ?_
                refine gloop2 (G := Nat) (fun k => k ≤ ps.length) (fun k => ps.length - k) (fun k => [(11, .int .i64 (k : Int))]) (fun k => []) (0) ?h0 ⟨rfl, trivial⟩ ⟨rfl, rfl, rfl, rfl, trivial⟩ rfl ?round
                case h0 => exact Nat.zero_le _
                case round =>
                  intro k hφ σ
                  have hk : k ≤ ps.length := hφ
                  refine gseq fun N23 hN23 => ?_
                  refine gseq fun N24 hN24 => ?_
                  refine greg ?_
                  refine gop (y_move (v := .int _ _) rfl) rfl rfl rfl ?_
                  refine gop (y_move (v := .slice _ _ _) rfl) rfl rfl rfl ?_
                  refine gop (y_len Tryd.underlying26 rfl) rfl rfl rfl ?_
                  refine gop (y_lss rfl rfl) rfl rfl rfl ?_
                  refine gops_nil ?_
                  refine hN24 _ _ ?_
                  refine gfrom [(1, .int _ _), (2, .slice _ _ _), (3, .pointer _), (7, .slice _ _ _), (11, .int _ _), (87, .bool _)] ⟨rfl, rfl, rfl, rfl, rfl, rfl, trivial⟩ fun σ => ?_
                  refine gcond (b := _) rfl (fun hc87 => ?_) (fun hc87 => ?_)
                  · 
                    replace hc87 := of_decide_eq_true hc87
                    have hk1 : k < ps.length := by omega
                    obtain ⟨ad, rfl, -, hca⟩ := hps.at_ hk1
                    obtain ⟨g16, rfl⟩ := hg16 (by omega)
                    have hget := approveV_get hFz hk1
                    refine gskip ?_
                    refine hN23 _ _ ?_
                    refine gfrom [(1, .int _ _), (2, .slice _ _ _), (3, .pointer _), (7, .slice _ _ _), (11, .int _ _)] ⟨rfl, rfl, rfl, rfl, rfl, trivial⟩ fun σ => ?_
                    refine gseq fun N25 hN25 => ?_
                    refine gblock ?_
                    refine gseq fun N26 hN26 => ?_
                    refine greg_q (by kernel_rfl) (by kernel_rfl) ?_
                    refine gq (y_move (v := .slice _ _ _) rfl) rfl rfl rfl ?_
                    refine gq (y_move (v := .int _ _) rfl) rfl rfl rfl ?_
                    refine gq (y_indexAddr (m := k) Tryd.underlying26 Tryd.sizeOf36 rfl rfl (by omega) (by omega) (by omega)) rfl rfl rfl ?_
                    refine gq (y_fieldAddr_add fa36_0 rfl) rfl rfl rfl ?_
                    refine gq (y_load Tryd.isAgg3 rfl (cells_rowl 1 (f := apprCells) (l := approveV (fpl fs) u ps) rfl rfl (fun _ => rfl) hget 0 _ rfl)) rfl rfl rfl ?_
                    refine gq (y_move (v := .int _ _) rfl) rfl rfl rfl ?_
                    refine gq (y_neq rfl rfl) rfl rfl rfl ?_
                    refine gq (y_move (v := .bool _) rfl) rfl rfl rfl ?_
                    refine gq_if (want := false) rfl rfl rfl rfl rfl rfl (fun hg97 => ?_) (fun hg97 => ?_)
                    · 
                      have hg97d := Decidable.not_not.1 (of_decide_eq_false hg97)
                      refine gq (y_bare (y_move (v := .slice _ _ _) rfl)) rfl rfl rfl ?_
                      refine gq_on rfl rfl rfl rfl hg97 ?_
                      refine gq (y_bare (y_move (v := .int _ _) rfl)) rfl rfl rfl ?_
                      refine gq_on rfl rfl rfl rfl hg97 ?_
                      refine gq (y_bare (y_indexAddr (m := k) Tryd.underlying26 Tryd.sizeOf36 rfl rfl (by omega) (by omega) (by omega))) rfl rfl rfl ?_
                      refine gq_on rfl rfl rfl rfl hg97 ?_
                      refine gq (y_bare (y_fieldAddr_add fa36_1 rfl)) rfl rfl rfl ?_
                      refine gq_on rfl rfl rfl rfl hg97 ?_
                      refine gq (y_bare (y_load Tryd.isAgg9 rfl (cells_rowl 1 (f := apprCells) (l := approveV (fpl fs) u ps) rfl rfl (fun _ => rfl) hget 1 _ rfl))) rfl rfl rfl ?_
                      refine gq_on rfl rfl rfl rfl hg97 ?_
                      refine gq (y_bare (y_move (v := .slice _ _ _) rfl)) rfl rfl rfl ?_
                      refine gq_on rfl rfl rfl rfl hg97 ?_
                      refine gq (y_bare (y_move (v := .int _ _) rfl)) rfl rfl rfl ?_
                      refine gq_on rfl rfl rfl rfl hg97 ?_
                      refine gq (y_bare (y_indexAddr (m := k) Tryd.underlying25 Tryd.sizeOf9 rfl rfl (by omega) (by omega) (by omega))) rfl rfl rfl ?_
                      refine gq_on rfl rfl rfl rfl hg97 ?_
                      refine gq (y_bare (y_load Tryd.isAgg9 rfl (cell_base (hca 0 _ rfl)))) rfl rfl rfl ?_
                      refine gq_on rfl rfl rfl rfl hg97 ?_
                      refine gq (y_bare (y_neqs rfl rfl)) rfl rfl rfl ?_
                      refine gq (y_pick_f (v := .bool _) rfl hg97 rfl) rfl rfl rfl ?_
                      refine gq (y_move (v := .bool _) rfl) rfl rfl rfl ?_
                      refine gq_if (want := false) rfl rfl rfl rfl rfl rfl (fun hg109 => ?_) (fun hg109 => ?_)
                      · 
                        have hg109d := hg109
                        refine gq (y_bare (y_move (v := .slice _ _ _) rfl)) rfl rfl rfl ?_
                        refine gq_on rfl rfl rfl rfl hg109 ?_
                        refine gq (y_bare (y_move (v := .int _ _) rfl)) rfl rfl rfl ?_
                        refine gq_on rfl rfl rfl rfl hg109 ?_
                        refine gq (y_bare (y_indexAddr (m := k) Tryd.underlying26 Tryd.sizeOf36 rfl rfl (by omega) (by omega) (by omega))) rfl rfl rfl ?_
                        refine gq_on rfl rfl rfl rfl hg109 ?_
                        refine gq (y_bare (y_fieldAddr_add fa36_2 rfl)) rfl rfl rfl ?_
                        refine gq_on rfl rfl rfl rfl hg109 ?_
                        refine gq (y_bare (y_load Tryd.isAgg3 rfl (cells_rowl 1 (f := apprCells) (l := approveV (fpl fs) u ps) rfl rfl (fun _ => rfl) hget 2 _ rfl))) rfl rfl rfl ?_
                        refine gq_on rfl rfl rfl rfl hg109 ?_
                        refine gq (y_bare (y_loads (cs := [_]) Tryd.isAgg24 Tryd.sizeOf24 rfl rfl (cells_box 0 rfl))) rfl rfl rfl ?_
                        refine gq_on rfl rfl rfl rfl hg109 ?_
                        refine gq (y_bare (y_move (v := .slice _ _ _) rfl)) rfl rfl rfl ?_
                        refine gq_on rfl rfl rfl rfl hg109 ?_
                        refine gq (y_bare (y_move (v := .int _ _) rfl)) rfl rfl rfl ?_
                        refine gq_on rfl rfl rfl rfl hg109 ?_
                        refine gq (y_bare (y_indexAddr (m := k) Tryd.underlying25 Tryd.sizeOf9 rfl rfl (by omega) (by omega) (by omega))) rfl rfl rfl ?_
                        refine gq_on rfl rfl rfl rfl hg109 ?_
                        refine gq (y_bare (y_load Tryd.isAgg9 rfl (cell_base (hca 0 _ rfl)))) rfl rfl rfl ?_
                        refine gq_on rfl rfl rfl rfl hg109 ?_
                        refine gq_pure (e_call (vs := [.agg #[_], .string _]) Tryd.func12 rfl (by kernel_rfl) rfl) (fun w hM => seen_any w A c fs (hR.base hM) v ps[k]) rfl rfl rfl ?_
                        refine gq_on rfl rfl rfl rfl hg109 ?_
                        refine gq (y_bare (y_neq rfl rfl)) rfl rfl rfl ?_
                        refine gq (y_pick_f (v := .bool _) rfl hg109 rfl) rfl rfl rfl ?_
                        refine gqs_nil ?_
                        refine hN26 _ _ ?_
                        refine gfrom [(1, .int _ _), (2, .slice _ _ _), (3, .pointer _), (7, .slice _ _ _), (11, .int _ _), (122, .bool _)] ⟨rfl, rfl, rfl, rfl, rfl, rfl, trivial⟩ fun σ => ?_
                        refine gcond (b := _) rfl (fun hc122 => ?_) (fun hc122 => ?_)
                        · 
                           exact absurd hc122 (by simp)
                        · 
                          replace hc122 := Decidable.not_not.1 (of_decide_eq_false hc122)
                          refine gskip ?_
                          refine hN25 _ _ ?_
                          refine gfrom [(1, .int _ _), (2, .slice _ _ _), (3, .pointer _), (7, .slice _ _ _), (11, .int _ _)] ⟨rfl, rfl, rfl, rfl, rfl, trivial⟩ fun σ => ?_
                          refine greg ?_
                          refine gop (y_move (v := .int _ _) rfl) rfl rfl rfl ?_
                          refine gop (y_add rfl rfl ⟨by omega, by omega⟩) rfl rfl rfl ?_
                          refine gop (y_assign (v := .int _ _) rfl) rfl rfl rfl ?_
                          refine gops_nil ?_
                          refine gnext2 (k + 1) (by omega) (show k + 1 ≤ _ by omega) ⟨rfl, trivial⟩ ⟨rfl, rfl, rfl, rfl, trivial⟩ ⟨_, rfl⟩
                      · 
                         exact absurd hg109 (by simp)
                    · 
                       exact absurd hg97 (by simp)
                  · 
                    replace hc87 := of_decide_eq_false hc87
                    refine gexit ?_
                    refine hN21 _ _ ?_
                    refine gfrom [] trivial fun σ => ?_
                    refine gseq fun N27 hN27 => ?_
                    refine greg ?_
                    refine gop (y_assign (v := .bool _) rfl) rfl rfl rfl ?_
                    refine gops_nil ?_
                    refine hN27 _ _ ?_
                    refine gfrom [(6, .bool _)] ⟨rfl, trivial⟩ fun σ => ?_
                    refine gret fun w1 hM => ?_
                    refine ⟨_, res1 rfl (rt (v := .bool _) rfl), ?_⟩
                    exact ⟨rfl, hM.low⟩
            · 
               rw [hFz] at hg77; exact absurd hg77 (by decide)
end Go.Proofs.YtbkameioedmlkaaDoor
namespace Go.Cf
open Go.ChangeShapes Go.WideShapes Go.ChangeAt Go.RowKit Go.Deep
theorem law_lift_row {H : Type} {enc : TypeId × Value → H} {C : Checked} {os : Os} {f : FuncId} {fn : Func} {s : OpenSpec} {F : Stop.Interp} {conds : List PathCond} {tb : TypeId} {laid : List (String × DataW Unit)}
    (own : ownKnob C.prog.godebug = none) (started : os.Started) (noInit : C.prog.inits.idxOf? f = none) (hfn : C.prog.funcs[f]? = some fn)
    (witness : ∃ (w : World) (tape : Tape) (i : Input), w.os = os ∧ (w.forCall tape i).Shaped C.prog ∧ i.vars = [] ∧ Input.okWide C.prog (w.forCall tape i) .any w.heap.size f i ∧
      s.preRow enc C.prog fn conds false laid (w.forCall tape i).memory i.args ∧ Assume.holds {} C.prog (lone (Frame.enter C.prog f i.args .normal) [] (w.forCall tape i)))
    (hl : laidOutB C.prog = true) (hread : (fn.params.toList.all fun t => C.prog.readableRec t && decide (t < C.prog.types.size)) = true) (hres : fn.resultTypes = #[tb]) (htb : C.prog.underlying tb = some .bool) (hvars : s.vars = []) (hvars0 : (s.at F).vars = []) (hvt : s.bare.plain.varTypes C.prog = [])
    (hspec : ∀ ds : List (DataW H), ds.length = fn.params.size → ((s.at F).fn H (ds ++ [])).results = [.lit (.bool true)] ∧ ((s.at F).fn H (ds ++ [])).args = ds ∧ ((s.at F).fn H (ds ++ [])).vars = [])
    (contract : ∀ (W : World) (base : Nat) (args : Array Value) (ds : List (DataW H)) (p : List MemPlace),
      (∀ (j : Nat) t v, fn.params[j]? = some t → args[j]? = some v → Value.okWide C.prog W .any base t v) → DataW.TrodAll enc C.prog W 0 (fun _ => true) true fn.params.toList args.toList ds p →
      (DataW.weightsEach C.prog fn.params.toList ds).all (· ≤ reachBytes) = true → (∀ k, s.cond = some k → k H ds = true) → laidMetH C.prog laid W →
      Calls C.prog f args W fun e W' => e = .returned (.bool true) ∧ Below W.heap.size W W') :
    ReturnsInHanded {} C os f .any (s.preRow enc C.prog fn conds false laid) ((s.at F).post enc C.prog fn false true false false) := by
  refine returnsInHanded_of_row own started noInit hfn witness ?_
  intro W base args ds gs before hval hW _ hkk hsz hL _ _
  have hW' := hW
  obtain ⟨p, q, hA, hV, rfl, _, _⟩ := hW
  rw [hvars] at hV
  obtain ⟨rfl, rfl⟩ := trodVars_none hV
  have hlen : ds.length = fn.params.size := by
    have key : ∀ (ts : List TypeId) (vs : List Value) (ds : List (DataW H)) (p : List MemPlace), DataW.TrodAll enc C.prog W 0 (fun _ => true) true ts vs ds p → ds.length = ts.length := by
      intro ts
      induction ts with
      | nil => intro vs ds p h; obtain ⟨_, rfl, _⟩ := trodAll_nil h; rfl
      | cons t ts ih => intro vs ds p h; obtain ⟨v, vs', d, ds', p, q, rfl, rfl, rfl, _, h2⟩ := trodAll_cons h; simp [ih _ _ _ h2]
    rw [key _ _ _ _ hA]; simp
  have hw : (DataW.weightsEach C.prog fn.params.toList ds).all (· ≤ reachBytes) = true := by
    simpa [hvt] using hsz
  refine (contract W base args ds p hval hA hw (fun k hk => by simpa using hkk k hk) hL).mono fun e W' ⟨he, bel⟩ => ?_
  subst he
  obtain ⟨h1, h2, h3⟩ := hspec ds hlen
  have hr : ∀ t ∈ fn.params.toList, C.prog.readableRec t = true ∧ t < C.prog.types.size := by
    intro t ht
    have := List.all_eq_true.1 hread t ht
    simpa using this
  refine ⟨_, rfl, ds, [], p ++ [], [], p, [], hW', ?_, ?_, ?_, World.keptBut_mono (fun x hx => ⟨hx, ?_⟩) (bel.frame (· ∈ p ++ [])), fun h => by cases h⟩
  · rw [h1, hres]; exact trodAll_mk1 (shut_bool htb _)
  · rw [h2]; exact trodAll_below hl bel hr hA
  · rw [h3, hvars0]; rfl
  · right; left; simpa using hx
end Go.Cf
namespace Go.Proofs.YtbkameioedmlkaaDoor
open Go.ChangeShapes Go.WideShapes Go.ChangeAt Go.RowKit Go.Cf
set_option maxRecDepth 10000
theorem ce_str : Tryd.prog.cellsOf 9 = 1 := by kernel_rfl
theorem by_str : Tryd.prog.bytesOf 9 = 16 := by kernel_rfl
end Go.Proofs.YtbkameioedmlkaaDoor
namespace Go.Proofs.YtbkameioedmlkaaDoor
open Go.ChangeShapes Go.WideShapes Go.ChangeAt Go.RowKit Go.Cf
set_option maxRecDepth 10000
theorem ce_strs : Tryd.prog.cellsOf 25 = 1 := by kernel_rfl
theorem ce_files : Tryd.prog.cellsOf 22 = 1 := by kernel_rfl
theorem by_file : Tryd.prog.bytesOf 41 = 40 := by kernel_rfl
theorem el_file {H : Type} {enc : TypeId × Value → H} {w : World} : ∀ (n : Nat) (cs : List Value) (x : DataW H × List MemPlace), DataW.trod enc Tryd.prog w 0 (fun _ => true) true n 41 cs = some x →
    (x.1.weights Tryd.prog 41).all (· ≤ reachBytes) = true → ∃ a : FileC, cs = fileCells a ∧ FileR w 0 a := by
  intro n cs x h hw
  obtain ⟨m, hlen, hf⟩ := rd_struct Tryd.underlying41 h hw
  have hl : cs.length = 2 := hlen.trans (by kernel_rfl)
  match cs, hl with
  | [c0, c1], _ =>
    obtain ⟨y0, f0, w0⟩ := hf 0 _ rfl
    obtain ⟨y1, f1, w1⟩ := hf 1 _ rfl
    simp [ce_str, ce_strs] at f0 f1
    obtain ⟨a0, e0, _⟩ := el_str Tryd.underlying9 m _ _ f0 w0
    obtain ⟨A1, c1', l1, e1, r1, s1, m1, n1, t1, _⟩ := rd_cells Tryd.underlying25 (by kernel_rfl) (el_str Tryd.underlying9) f1 w1
    simp at e0 e1
    subst e0 e1
    rw [by_str] at t1
    exact ⟨⟨⟨a0, l1⟩, A1, c1'⟩, rfl, ⟨r1, ⟨s1, m1, n1, Nat.le_trans (Nat.mul_le_mul_right _ s1) t1⟩⟩⟩
structure FsC' where
  A : Option Addr
  c : Nat
  fs : List FileC
abbrev treeCells (x : FsC') : List Value := [.slice x.A x.fs.length x.c]
theorem el_tree {H : Type} {enc : TypeId × Value → H} {w : World} : ∀ (n : Nat) (cs : List Value) (x : DataW H × List MemPlace), DataW.trod enc Tryd.prog w 0 (fun _ => true) true n 24 cs = some x →
    (x.1.weights Tryd.prog 24).all (· ≤ reachBytes) = true → ∃ a : FsC', cs = treeCells a ∧ TreeR w 0 a.A a.c a.fs := by
  intro n cs x h hw
  obtain ⟨m, hlen, hf⟩ := rd_struct Tryd.underlying24 h hw
  have hl : cs.length = 1 := hlen.trans (by kernel_rfl)
  match cs, hl with
  | [c0], _ =>
    obtain ⟨y0, f0, w0⟩ := hf 0 _ rfl
    simp [ce_files] at f0
    obtain ⟨A1, c1', l1, e1, r1, s1, m1, n1, t1, q1⟩ := rd_cells Tryd.underlying22 (by kernel_rfl) el_file f0 w0
    simp at e1
    subst e1
    rw [by_file] at t1
    exact ⟨⟨A1, c1', l1⟩, rfl, ⟨r1, q1, ⟨s1, m1, n1, Nat.le_trans (Nat.mul_le_mul_right _ s1) t1⟩⟩⟩
end Go.Proofs.YtbkameioedmlkaaDoor
namespace Go.Proofs.YtbkameioedmlkaaDoor
open Go.ChangeShapes Go.WideShapes Go.ChangeAt Go.RowKit Go.Cf
set_option maxRecDepth 100000 in
theorem approvalsApproveMatchesSpec_lifted (os : Os) (started : os.Started) (H : Type) (enc : TypeId × Value → H) (F : Stop.Interp) :
    ReturnsInHanded {} Tryd.checked os 3 .any ((Rows.OpenSpec.upto Rows.approvalsApproveMatchesSpecSpec).preRow enc Tryd.prog Tryd.f3 Rows.approvalsApproveMatchesSpecUptoRow.domain false Rows.approvalsApproveMatchesSpecUptoRow.laid) (((Rows.OpenSpec.upto Rows.approvalsApproveMatchesSpecSpec).at F).post enc Tryd.prog Tryd.f3 false true false false) := by
  refine law_lift_row (C := Tryd.checked) (s := Rows.OpenSpec.upto Rows.approvalsApproveMatchesSpecSpec) (tb := 4) (by kernel_rfl) started (by kernel_rfl) Tryd.func3
    (witness_row_at (enc := enc) (C := Tryd.checked) false ({ (World.holding Tryd.prog os ⟨#[], #[], []⟩) with heap := ((World.holding Tryd.prog os ⟨#[], #[], []⟩).heap.modify 1 fun | .cells _ t fz => .cells (Go.Pinned.utf8FirstZ.map fun n : Nat => Value.int .u8 (n : Int)).toArray t fz | o => o).modify 2 fun | .cells _ t fz => .cells (([128, 191, 160, 191, 128, 159, 144, 191, 128, 143, 0, 0, 0, 0, 0, 0, 0, 0, 0, 0, 0, 0, 0, 0, 0, 0, 0, 0, 0, 0, 0, 0] : List Nat).map fun n : Nat => Value.int .u8 (n : Int)).toArray t fz | o => o } : World) #[.agg #[.slice none 0 0], .int .i64 0, .slice none 0 0] rfl (by kernel_rfl) (by kernel_rfl) (by kernel_rfl)
      (OpenSpec.preRow_of_cond 8 (show DataW.whole enc Tryd.prog _ Tryd.f3.params.toList _ false _ 8 = some ([.agg [.nil], .lit (.int .i64 0), .nil], [], []) by kernel_rfl) (by kernel_rfl) (fun k hk => by cases hk; kernel_rfl) (by kernel_rfl) (laidMet_of_run' 8 (by kernel_rfl) (by kernel_rfl))))
    (by kernel_rfl) (by kernel_rfl) (by kernel_rfl) Tryd.underlying4 rfl rfl rfl ?_ ?_
  · intro ds hds
    rw [show Tryd.f3.params.size = 3 from by rw [Tryd.params3]; rfl] at hds
    match ds, hds with
    | [d0, d1, d2], _ => exact ⟨rfl, rfl, rfl⟩
  · intro W base args ds p hval hA hw hk hL
    rw [show Tryd.f3.params.toList = [24, 3, 25] from by rw [Tryd.params3]] at hA hw
    rw [Tryd.params3] at hval
    obtain ⟨v0, vs0, d0, ds0, p0, q0, hargs, rfl, rfl, h0, r0⟩ := trodAll_cons hA
    obtain ⟨v1, vs1, d1, ds1, p1, q1, rfl, rfl, rfl, h1, r1⟩ := trodAll_cons r0
    obtain ⟨v2, vs2, d2, ds2, p2, q2, rfl, rfl, rfl, h2, r2⟩ := trodAll_cons r1
    obtain ⟨rfl, rfl, rfl⟩ := trodAll_nil r2
    obtain rfl : args = #[v0, v1, v2] := by cases args; simp_all
    obtain ⟨w0, hw⟩ := weights_each hw
    obtain ⟨w1, hw⟩ := weights_each hw
    obtain ⟨w2, hw⟩ := weights_each hw
    have hb : Rows.uptoBulkAll [d0, d1, d2] ≤ 1048576 := of_decide_eq_true (hk _ rfl)
    simp only [Rows.uptoBulkAll] at hb
    obtain ⟨⟨A0, c0, l0⟩, rfl, hT0⟩ := rd_agg Tryd.underlying24 el_tree (hval 0 24 v0 rfl rfl) h0 w0
    obtain ⟨n1, rfl, hi1⟩ := rd_int Tryd.underlying3 (hval 1 3 v1 rfl rfl) h1
    obtain ⟨A2, c2, l2, rfl, hv2, hlc2, hcm2, hA2, hcb2, hQ2⟩ := rd_slice_b (N := 1048576) Tryd.underlying25 (by kernel_rfl) (el_str_b Tryd.underlying9) (hval 2 25 v2 rfl rfl) h2 w2 (by omega)
    exact law35_any W A0 c0 l0 hT0 n1 A2 c2 l2 hv2 hlc2 hcm2 (fun p hp => Nat.le_trans (hQ2 p hp) (by decide))
theorem approvalsApproveMatchesSpec_said : Rows.ApprovalsApproveMatchesSpecUptoSaid :=
  OpenClaim.holds_of_cond 3 Tryd.f3 rfl rfl rfl rfl rfl rfl rfl ⟨rfl, rfl, rfl, rfl, rfl⟩ rfl rfl rfl rfl rfl (by kernel_rfl) Tryd.func3 (by kernel_rfl)
    (of_decide_eq_true (by kernel_rfl)) (by unfold Func.isWrapper; first | (rw [if_pos (by decide +kernel)]; kernel_rfl) | (rw [if_neg (by decide +kernel)]; exact ⟨rfl, rfl⟩))
    (fun os started H enc _ F => by rw [OpenClaim.pre_eq_preRow]; exact approvalsApproveMatchesSpec_lifted os started H enc F)
theorem approvalsApproveMatchesSpec_plain (f : FuncId) (fn : Func) (hf : Tryd.pinned.checked.prog.funcNamed "changeforge/changeforgelaw7.ApprovalsApproveMatchesSpec" = some f) (hfn : Tryd.pinned.checked.prog.funcs[f]? = some fn) :
    false = Tryd.pinned.checked.prog.looks [] ∧ ∀ (j : Nat) t, fn.params[j]? = some t → Tryd.pinned.checked.prog.wantsStandIn t = false := by
  obtain rfl : f = 3 := Option.some.inj ((show Tryd.prog.funcNamed "changeforge/changeforgelaw7.ApprovalsApproveMatchesSpec" = some 3 by kernel_rfl).symm.trans hf) |>.symm
  obtain rfl : fn = Tryd.f3 := (Option.some.inj (Tryd.func3.symm.trans hfn)).symm
  refine ⟨by kernel_rfl, fun j t ht => ?_⟩
  rw [Tryd.params3] at ht
  have hm : t ∈ [24, 3, 25] := by simpa using Array.mem_of_getElem? ht
  have hall : ([24, 3, 25].all fun u => !Tryd.prog.wantsStandIn u) = true := by kernel_rfl
  exact (show Tryd.prog.wantsStandIn t = false by simpa using List.all_eq_true.1 hall t hm)
theorem approvalsApproveMatchesSpec_holds : Rows.ApprovalsApproveMatchesSpecUptoCardSaid :=
  Claim7.holds_tied_plain_at .later [] _ _ _ _ approvalsApproveMatchesSpec_said (fun _ h => by cases h) (by kernel_rfl) (fun _ h => by cases h) approvalsApproveMatchesSpecUpto_row_tie rfl ⟨rfl, rfl⟩ (by kernel_rfl) rfl approvalsApproveMatchesSpec_plain (by kernel_rfl)
end Go.Proofs.YtbkameioedmlkaaDoor
