/-
  TopUnanimousChangesMayLand: for all policies, facts and lists of trivial revisions the law returns true (the tied card).
-/
import Derived.Test.YtbkameioedmlkaaGreatDoorP21f
import Derived.Deep.DeepHandedRow
import Derived.LaidLaws
import Derived.Lib.LaidTab
import Derived.MakeChecks
import Derived.Stop.LaidErr
import Derived.Test.YtbkameioedmlkaaGreatDoorCards
import Derived.Test.YtbkameioedmlkaaGreatDoorProg
import Derived.Test.YtbkameioedmlkaaGreatDoorRows
import Derived.Test.YtbkameioedmlkaaGreatDoorTie
namespace Go.Proofs.YtbkameioedmlkaaGreatDoor
open Go.RowKit Go.Cf
set_option maxRecDepth 10000
theorem bd51_0_1_2 (x1 : Int) (x2 : Int) (x3 : Int) : Tryz.prog.built 51 [(0, .int .i64 x1), (1, .int .i64 x2), (2, .int .i64 x3)] = some #[.int .i64 x1, .int .i64 x2, .int .i64 x3] := by kernel_rfl
theorem el51 : Elem Tryz.prog 51 3 24 := elem_of (z := .agg #[.int .i64 0, .int .i64 0, .int .i64 0]) (by kernel_rfl) rfl (by decide)
theorem bd45_0_1_2_3 (x1 : Int) (x2 : Bool) (x3 : Bool) (x4 : Int) : Tryz.prog.built 45 [(0, .int .i64 x1), (1, .bool x2), (2, .bool x3), (3, .int .i64 x4)] = some #[.int .i64 x1, .bool x2, .bool x3, .int .i64 x4] := by kernel_rfl
set_option maxHeartbeats 16000000 in
theorem law21_any (w : World) (A : Option Addr) (c : Nat) (l : List PN) (hl : Rdl w 0 4 pnCells A l) (hlc : l.length ≤ c) (hcm : c ≤ maxLen) (F : PFacts) (B : Option Addr) (c2 : Nat) (tr : List Bool) (ht : Rdl w 0 1 boolCells B tr) (htc : tr.length ≤ c2) (htm : c2 ≤ maxLen) (hL : LaidP w) :
    Calls Tryz.prog 4 #[.agg #[.slice A l.length c], factsV F, .slice B tr.length c2] w fun e w' => e = .returned (.bool true) ∧ Below w.heap.size w w' := by
  have hmx : maxLen = 9223372036854775807 := rfl
  refine gcalls Tryz.func4 rfl Tryz.ntmps4 (Nat.le_of_ble_eq_true rfl) ?_
  refine gfrom [(0, .agg #[_]), (1, factsV F), (2, .slice _ _ _)] ⟨rfl, rfl, rfl, trivial⟩ fun σ => ?_
  refine gseq fun N1 hN1 => ?_
  refine greg ?_
  refine gop_box (v := .agg #[_]) (cs := #[_]) rfl rfl rfl (fun b3 hb3 => ?_)
  refine gop_box (v := factsV F) (cs := #[_, _, _, _]) rfl rfl rfl (fun b4 hb4 => ?_)
  refine gop (y_assign (v := .bool _) rfl) rfl rfl rfl ?_
  refine gops_nil ?_
  refine hN1 _ _ ?_
  refine gT [box b3 _, box b4 _] rfl ?_
  refine gfrom [(2, .slice _ _ _), (3, .pointer _), (4, .pointer _)] ⟨rfl, rfl, rfl, trivial⟩ fun σ => ?_
  refine gseq fun N2 hN2 => ?_
  refine gseq fun N3 hN3 => ?_
  refine greg ?_
  refine gop_pure (e_call (vs := []) Tryz.func7 rfl (by kernel_rfl) rfl) (fun w hM => nReviews_any w (hL.base hM)) rfl rfl rfl ?_
  refine gop (y_not rfl) rfl rfl rfl ?_
  refine gops_nil ?_
  refine hN3 _ _ ?_
  refine gfrom [(2, .slice _ _ _), (3, .pointer _), (4, .pointer _), (18, .bool _)] ⟨rfl, rfl, rfl, rfl, trivial⟩ fun σ => ?_
  refine gcond (b := _) rfl (fun hc18 => ?_) (fun hc18 => ?_)
  · 
     exact absurd hc18 (by decide)
  · 
    replace hc18 := not_f hc18
    refine gskip ?_
    refine hN2 _ _ ?_
    refine gfrom [(2, .slice _ _ _), (3, .pointer _), (4, .pointer _)] ⟨rfl, rfl, rfl, trivial⟩ fun σ => ?_
    refine gseq fun N4 hN4 => ?_
    refine gseq fun N5 hN5 => ?_
    refine greg ?_
    refine gop (y_assign (v := .int _ _) rfl) rfl rfl rfl ?_
    refine gops_nil ?_
    refine hN5 _ _ ?_
    refine gfrom [(2, .slice _ _ _), (3, .pointer _), (4, .pointer _), (7, .int _ _)] ⟨rfl, rfl, rfl, rfl, trivial⟩ fun σ => ?_
    refine gblock ?_
    refine gfrom2 [(7, .int _ _)] [(2, .slice _ _ _), (3, .pointer _), (4, .pointer _)] ⟨rfl, trivial⟩ ⟨rfl, rfl, rfl, trivial⟩ fun σ => ?_
    refine gloop2 (G := Nat) (fun k => k ≤ l.length ∧ ∀ j (h : j < l.length), j < k → l[j].kind ≠ 5) (fun k => l.length - k) (fun k => [(7, .int .i64 (k : Int))]) (fun k => []) (0) ?h0 ⟨rfl, trivial⟩ ⟨rfl, rfl, rfl, trivial⟩ rfl ?round
    case h0 => exact ⟨Nat.zero_le _, fun _ _ h => absurd h (Nat.not_lt_zero _)⟩
    case round =>
      intro k hφ σ
      obtain ⟨hk, hz⟩ := hφ
      refine gseq fun N6 hN6 => ?_
      refine gseq fun N7 hN7 => ?_
      refine greg ?_
      refine gop (y_move (v := .int _ _) rfl) rfl rfl rfl ?_
      refine gop (y_fieldAddr_box fa43_0 rfl) rfl rfl rfl ?_
      refine gop (y_load Tryz.isAgg41 rfl (cell_box 0 rfl rfl)) rfl rfl rfl ?_
      refine gop (y_len Tryz.underlying41 rfl) rfl rfl rfl ?_
      refine gop (y_lss rfl rfl) rfl rfl rfl ?_
      refine gops_nil ?_
      refine hN7 _ _ ?_
      refine gfrom [(2, .slice _ _ _), (3, .pointer _), (4, .pointer _), (7, .int _ _), (23, .bool _)] ⟨rfl, rfl, rfl, rfl, rfl, trivial⟩ fun σ => ?_
      refine gcond (b := _) rfl (fun hc23 => ?_) (fun hc23 => ?_)
      · 
        replace hc23 := of_decide_eq_true hc23
        have hk1 : k < l.length := by omega
        obtain ⟨ad, rfl, -, hca⟩ := hl.at_ hk1
        refine gskip ?_
        refine hN6 _ _ ?_
        refine gfrom [(2, .slice _ _ _), (3, .pointer _), (4, .pointer _), (7, .int _ _)] ⟨rfl, rfl, rfl, rfl, trivial⟩ fun σ => ?_
        refine gseq fun N8 hN8 => ?_
        refine gblock ?_
        refine gseq fun N9 hN9 => ?_
        refine greg ?_
        refine gop (y_fieldAddr_box fa43_0 rfl) rfl rfl rfl ?_
        refine gop (y_load Tryz.isAgg41 rfl (cell_box 0 rfl rfl)) rfl rfl rfl ?_
        refine gop (y_move (v := .int _ _) rfl) rfl rfl rfl ?_
        refine gop (y_indexAddr (m := k) Tryz.underlying41 Tryz.sizeOf48 rfl rfl (by omega) (by omega) (by omega)) rfl rfl rfl ?_
        refine gop (y_fieldAddr_add fa48_0 rfl) rfl rfl rfl ?_
        refine gop (y_load Tryz.isAgg3 rfl (cell_base (hca 0 _ rfl))) rfl rfl rfl ?_
        refine gop (y_eql rfl rfl) rfl rfl rfl ?_
        refine gops_nil ?_
        refine hN9 _ _ ?_
        refine gfrom [(2, .slice _ _ _), (3, .pointer _), (4, .pointer _), (7, .int _ _), (32, .bool _)] ⟨rfl, rfl, rfl, rfl, rfl, trivial⟩ fun σ => ?_
        refine gcond (b := _) rfl (fun hc32 => ?_) (fun hc32 => ?_)
        · 
          replace hc32 := of_decide_eq_true hc32
          refine gseq fun N10 hN10 => ?_
          refine greg ?_
          refine gop (y_assign (v := .bool _) rfl) rfl rfl rfl ?_
          refine gops_nil ?_
          refine hN10 _ _ ?_
          refine gfrom [(6, .bool _)] ⟨rfl, trivial⟩ fun σ => ?_
          refine gret fun w1 hM => ?_
          refine ⟨_, res1 rfl (rt (v := .bool _) rfl), ?_⟩
          exact ⟨rfl, hM.low⟩
        · 
          replace hc32 := of_decide_eq_false hc32
          refine gskip ?_
          refine hN8 _ _ ?_
          refine gfrom [(2, .slice _ _ _), (3, .pointer _), (4, .pointer _), (7, .int _ _)] ⟨rfl, rfl, rfl, rfl, trivial⟩ fun σ => ?_
          refine greg ?_
          refine gop (y_move (v := .int _ _) rfl) rfl rfl rfl ?_
          refine gop (y_add rfl rfl ⟨by omega, by omega⟩) rfl rfl rfl ?_
          refine gop (y_assign (v := .int _ _) rfl) rfl rfl rfl ?_
          refine gops_nil ?_
          refine gnext2 (k + 1) (by omega) (⟨by omega, fun j h hj => by rcases Nat.lt_succ_iff_lt_or_eq.1 hj with h1 | rfl; exact hz j h h1; exact hc32⟩) ⟨rfl, trivial⟩ ⟨rfl, rfl, rfl, trivial⟩ ⟨_, rfl⟩
      · 
        replace hc23 := of_decide_eq_false hc23
        have hneg : ∀ i (h : i < l.length), l[i].kind ≠ 5 := fun i hi => hz i hi (by omega)
        refine gexit ?_
        refine hN4 _ _ ?_
        refine gfrom [(2, .slice _ _ _), (3, .pointer _), (4, .pointer _)] ⟨rfl, rfl, rfl, trivial⟩ fun σ => ?_
        refine gseq fun N11 hN11 => ?_
        refine greg ?_
        refine gop (y_assign (v := .slice _ _ _) rfl) rfl rfl rfl ?_
        refine gops_nil ?_
        refine hN11 _ _ ?_
        refine gfrom [(2, .slice _ _ _), (3, .pointer _), (4, .pointer _), (8, .slice _ _ _)] ⟨rfl, rfl, rfl, rfl, trivial⟩ fun σ => ?_
        refine gseq fun N12 hN12 => ?_
        refine gseq fun N13 hN13 => ?_
        refine greg ?_
        refine gop (y_assign (v := .int _ _) rfl) rfl rfl rfl ?_
        refine gops_nil ?_
        refine hN13 _ _ ?_
        refine gfrom [(2, .slice _ _ _), (3, .pointer _), (4, .pointer _), (8, .slice _ _ _), (9, .int _ _)] ⟨rfl, rfl, rfl, rfl, rfl, trivial⟩ fun σ => ?_
        refine gblock ?_
        refine gnilrow voteCells 51 3 ?_
        refine gfrom2 [(8, .slice _ _ _), (9, .int _ _)] [(2, .slice _ _ _), (3, .pointer _), (4, .pointer _)] ⟨rfl, rfl, trivial⟩ ⟨rfl, rfl, rfl, trivial⟩ fun σ => ?_
        refine gloop2 (G := Nat × Option Addr × Nat) (fun (k, Av, cv) => k ≤ 8) (fun (k, Av, cv) => 8 - k) (fun (k, Av, cv) => [(8, .slice Av (votesTo ((tr.length : Int) - 1) k).length cv), (9, .int .i64 (k : Int))]) (fun (k, Av, cv) => [(2, rowl voteCells w.heap.size 51 3 (.slice Av (votesTo ((tr.length : Int) - 1) k).length cv) (votesTo ((tr.length : Int) - 1) k))]) ((0, none, 0)) ?h0 ⟨rfl, rfl, trivial⟩ ⟨rfl, rfl, rfl, trivial⟩ rfl ?round
        case h0 => exact Nat.zero_le _
        case round =>
          rintro ⟨k, Av, cv⟩ hφ σ
          have hk : k ≤ 8 := hφ
          refine gT [box b3 _, box b4 _, rowl _ _ _ _ _ _] rfl ?_
          refine gseq fun N14 hN14 => ?_
          refine gseq fun N15 hN15 => ?_
          refine greg ?_
          refine gop (y_move (v := .int _ _) rfl) rfl rfl rfl ?_
          refine gop (y_leq rfl rfl) rfl rfl rfl ?_
          refine gops_nil ?_
          refine hN15 _ _ ?_
          refine gfrom [(2, .slice _ _ _), (3, .pointer _), (4, .pointer _), (8, .slice Av _ cv), (9, .int _ _), (34, .bool _)] ⟨rfl, rfl, rfl, rfl, rfl, rfl, trivial⟩ fun σ => ?_
          refine gcond (b := _) rfl (fun hc34 => ?_) (fun hc34 => ?_)
          · 
            replace hc34 := of_decide_eq_true hc34
            refine gskip ?_
            refine hN14 _ _ ?_
            refine gfrom [(2, .slice _ _ _), (3, .pointer _), (4, .pointer _), (8, .slice Av _ cv), (9, .int _ _)] ⟨rfl, rfl, rfl, rfl, rfl, trivial⟩ fun σ => ?_
            refine gseq fun N16 hN16 => ?_
            refine gblock ?_
            refine greg ?_
            refine gop (y_move (v := .slice Av _ cv) rfl) rfl rfl rfl ?_
            refine gop (y_move (v := .int _ _) rfl) rfl rfl rfl ?_
            refine gop (y_move (v := .slice _ _ _) rfl) rfl rfl rfl ?_
            refine gop (y_len Tryz.underlying46 rfl) rfl rfl rfl ?_
            refine gop (y_sub rfl rfl ⟨by omega, by omega⟩) rfl rfl rfl ?_
            refine gop (y_build (vs := [(0, .int _ _), (1, .int _ _), (2, _)]) (cells := #[_, _, _]) rfl (bd51_0_1_2 _ _ _)) rfl rfl rfl ?_
            refine gop_lit (vs := [.agg #[_, _, _]]) (cells := #[_, _, _]) Tryz.underlying49 Tryz.sizeOf51 Tryz.zeroValue51 rfl (by decide) (by decide) rfl rfl rfl rfl (fun b43 hb43 => ?_)
            refine gop_append 2 (f := voteCells) (l2 := [⟨(k : Int), ((tr.length : Int) - 1), 2⟩]) Tryz.underlying49 el51 wide_vote (v := .slice Av _ cv) rfl rfl rfl rfl (fun h => by cases h) (by rw [votesTo_len]; simp [maxLen]; omega) (by rw [votesTo_len]; simp; omega) (src_box 3 rfl rfl) rfl (fun v44 => ?_)
            refine gops_fact (fun w hM => own_form (hM.own 2 rfl)) ?_
            rintro ⟨A44, c44, rfl, hc44, hm44⟩
            refine gop (y_assign (v := .slice A44 _ c44) rfl) rfl rfl rfl ?_
            refine gops_nil ?_
            refine hN16 _ _ ?_
            refine gT [box b3 _, box b4 _, rowl _ _ _ _ _ _, box b43 _] rfl ?_
            refine gfrom [(2, .slice _ _ _), (3, .pointer _), (4, .pointer _), (8, .slice A44 _ c44), (9, .int _ _)] ⟨rfl, rfl, rfl, rfl, rfl, trivial⟩ fun σ => ?_
            refine greg ?_
            refine gop (y_move (v := .int _ _) rfl) rfl rfl rfl ?_
            refine gop (y_add rfl rfl ⟨by omega, by omega⟩) rfl rfl rfl ?_
            refine gop (y_assign (v := .int _ _) rfl) rfl rfl rfl ?_
            refine gops_nil ?_
            rw [← votesTo_succ]
            refine gnext2 ((k + 1, A44, c44)) (by show 8 - (k + 1) < 8 - k; omega) (show k + 1 ≤ 8 by omega) ⟨(by rw [votesTo_succ]; rfl), rfl, trivial⟩ ⟨rfl, rfl, rfl, trivial⟩ ⟨_, rfl⟩
          · 
            replace hc34 := of_decide_eq_false hc34
            obtain rfl : k = 8 := by omega
            refine gexit ?_
            refine hN12 _ _ ?_
            refine gfrom [(2, .slice _ _ _), (3, .pointer _), (4, .pointer _), (8, .slice Av _ cv)] ⟨rfl, rfl, rfl, rfl, trivial⟩ fun σ => ?_
            refine gseq fun N17 hN17 => ?_
            refine greg ?_
            refine gop (y_move (v := .slice Av _ cv) rfl) rfl rfl rfl ?_
            refine gop (y_move (v := .slice _ _ _) rfl) rfl rfl rfl ?_
            refine gop (y_move (v := .slice _ _ _) rfl) rfl rfl rfl ?_
            refine gop (y_len Tryz.underlying46 rfl) rfl rfl rfl ?_
            refine gop (y_sub rfl rfl ⟨by omega, by omega⟩) rfl rfl rfl ?_
            refine gop_pure (e_call (vs := [.slice Av _ cv, .slice _ _ _, .int _ _]) Tryz.func10 rfl (by kernel_rfl) rfl) (fun w hM => by have h1 : Rdl w 0 3 voteCells Av (votesTo ((tr.length : Int) - 1) 8) := ((row_rdl (f := voteCells) (fun _ => rfl) (hM.ok _ (List.mem_of_getElem? (i := 2) rfl))).mono (Nat.zero_le _)); have hc := score_any w Av cv (votesTo ((tr.length : Int) - 1) 8) B c2 tr h1 (ht.base hM) (by rw [votesTo_len]; omega) (by omega) htc ((tr.length : Int) - 1); exact hc) rfl rfl rfl ?_
            refine gop (y_move (v := .tuple #[.int _ _, .bool _, .agg #[_, _]]) rfl) rfl rfl rfl ?_
            refine gop (y_extract (v := .int _ _) rfl rfl) rfl rfl rfl ?_
            refine gop (y_extract (v := .bool _) rfl rfl) rfl rfl rfl ?_
            refine gop (y_extract (v := .agg #[_, _]) rfl rfl) rfl rfl rfl ?_
            refine gop_alloc (cs := #[.int .i64 0, .int .i64 0]) Tryz.zeroValue33 rfl rfl (fun b12 hb12 => ?_)
            refine gop (y_assign (v := .int _ _) rfl) rfl rfl rfl ?_
            refine gop (y_assign (v := .bool _) rfl) rfl rfl rfl ?_
            refine gop_store 3 (v := .agg #[_, _]) (cs' := #[_, _]) rfl rfl Tryz.sizeOf33 rfl rfl rfl rfl (Nat.le_of_ble_eq_true rfl) rfl rfl ?_
            refine gops_nil ?_
            refine hN17 _ _ ?_
            refine gT [box b3 _, box b4 _, rowl _ _ _ _ _ _, box b12 _] rfl ?_
            refine gfrom [(3, .pointer _), (4, .pointer _), (10, .int _ _), (11, .bool _), (12, .pointer _)] ⟨rfl, rfl, rfl, rfl, rfl, trivial⟩ fun σ => ?_
            refine gseq fun N18 hN18 => ?_
            refine greg ?_
            refine gop (y_loads (cs := [_]) Tryz.isAgg43 Tryz.sizeOf43 rfl rfl (cells_box 0 rfl)) rfl rfl rfl ?_
            refine gop (y_loads (cs := [_, _, _, _]) Tryz.isAgg45 Tryz.sizeOf45 rfl rfl (cells_box 1 rfl)) rfl rfl rfl ?_
            refine gop_pure (e_call (vs := [.agg #[_], .agg #[_, _, _, _]]) Tryz.func11 rfl (by kernel_rfl) rfl) (fun w hM => polEval_any w A c l (hl.base hM) hlc hcm F) rfl rfl rfl ?_
            refine gop (y_move (v := .tuple #[.bool _, .agg #[_, _]]) rfl) rfl rfl rfl ?_
            refine gop (y_extract (v := .bool _) rfl rfl) rfl rfl rfl ?_
            refine gop (y_extract (v := .agg #[_, _]) rfl rfl) rfl rfl rfl ?_
            refine gop_alloc (cs := #[.int .i64 0, .int .i64 0]) Tryz.zeroValue33 rfl rfl (fun b14 hb14 => ?_)
            refine gop (y_assign (v := .bool _) rfl) rfl rfl rfl ?_
            refine gop_store 4 (v := .agg #[_, _]) (cs' := #[_, _]) rfl rfl Tryz.sizeOf33 rfl rfl rfl rfl (Nat.le_of_ble_eq_true rfl) rfl rfl ?_
            refine gops_nil ?_
            refine hN18 _ _ ?_
            refine gT [box b3 _, box b4 _, rowl _ _ _ _ _ _, box b12 _, box b14 _] rfl ?_
            refine gfrom [(3, .pointer _), (10, .int _ _), (11, .bool _), (12, .pointer _), (13, .bool _), (14, .pointer _)] ⟨rfl, rfl, rfl, rfl, rfl, rfl, trivial⟩ fun σ => ?_
            refine gseq fun N19 hN19 => ?_
            refine greg ?_
            refine gop (y_loads (cs := [_]) Tryz.isAgg43 Tryz.sizeOf43 rfl rfl (cells_box 0 rfl)) rfl rfl rfl ?_
            refine gop (y_move (v := .int _ _) rfl) rfl rfl rfl ?_
            refine gop (y_build (vs := [(0, .int _ _), (1, _), (2, _), (3, _)]) (cells := #[_, _, _, _]) rfl (bd45_0_1_2_3 _ _ _ _)) rfl rfl rfl ?_
            refine gop_pure (e_call (vs := [.agg #[_], .agg #[_, _, _, _]]) Tryz.func11 rfl (by kernel_rfl) rfl) (fun w hM => polEval_any w A c l (hl.base hM) hlc hcm ⟨Votes.scoreN (votesTo ((tr.length : Int) - 1) 8) tr ((tr.length : Int) - 1), true, true, 255⟩) rfl rfl rfl ?_
            refine gop (y_move (v := .tuple #[.bool _, .agg #[_, _]]) rfl) rfl rfl rfl ?_
            refine gop (y_extract (v := .bool _) rfl rfl) rfl rfl rfl ?_
            refine gop (y_extract (v := .agg #[_, _]) rfl rfl) rfl rfl rfl ?_
            refine gop_alloc (cs := #[.int .i64 0, .int .i64 0]) Tryz.zeroValue33 rfl rfl (fun b16 hb16 => ?_)
            refine gop (y_assign (v := .bool _) rfl) rfl rfl rfl ?_
            refine gop_store 5 (v := .agg #[_, _]) (cs' := #[_, _]) rfl rfl Tryz.sizeOf33 rfl rfl rfl rfl (Nat.le_of_ble_eq_true rfl) rfl rfl ?_
            refine gops_nil ?_
            refine hN19 _ _ ?_
            refine gT [box b3 _, box b4 _, rowl _ _ _ _ _ _, box b12 _, box b14 _, box b16 _] rfl ?_
            refine gfrom [(10, .int _ _), (11, .bool _), (12, .pointer _), (13, .bool _), (14, .pointer _), (15, .bool _), (16, .pointer _)] ⟨rfl, rfl, rfl, rfl, rfl, rfl, rfl, trivial⟩ fun σ => ?_
            refine gseq fun N20 hN20 => ?_
            refine gseq fun N21 hN21 => ?_
            refine greg ?_
            refine gop (y_fieldAddr_box fa33_0 rfl) rfl rfl rfl ?_
            refine gop (y_load Tryz.isAgg3 rfl (cell_box 3 rfl rfl)) rfl rfl rfl ?_
            refine gop (y_neq rfl rfl) rfl rfl rfl ?_
            refine gop (y_move (v := .bool _) rfl) rfl rfl rfl ?_
            refine gop_if (want := false) rfl rfl rfl rfl rfl rfl (fun hg71 => ?_) (fun hg71 => ?_)
            · 
              have hg71d := Decidable.not_not.1 (of_decide_eq_false hg71)
              refine gop (y_bare (y_fieldAddr_box fa33_0 rfl)) rfl rfl rfl ?_
              refine gop_on rfl rfl rfl rfl hg71 ?_
              refine gop (y_bare (y_load Tryz.isAgg3 rfl (cell_box 4 rfl rfl))) rfl rfl rfl ?_
              refine gop_on rfl rfl rfl rfl hg71 ?_
              refine gop (y_bare (y_neq rfl rfl)) rfl rfl rfl ?_
              refine gop (y_pick_f (v := .bool _) rfl hg71 rfl) rfl rfl rfl ?_
              refine gops_nil ?_
              refine hN21 _ _ ?_
              refine gfrom [(10, .int _ _), (11, .bool _), (13, .bool _), (15, .bool _), (16, .pointer _), (75, .bool _)] ⟨rfl, rfl, rfl, rfl, rfl, rfl, trivial⟩ fun σ => ?_
              refine gcond (b := _) rfl (fun hc75 => ?_) (fun hc75 => ?_)
              · 
                replace hc75 := of_decide_eq_true hc75
                refine gseq fun N22 hN22 => ?_
                refine greg ?_
                refine gop (y_assign (v := .bool _) rfl) rfl rfl rfl ?_
                refine gops_nil ?_
                refine hN22 _ _ ?_
                refine gfrom [(6, .bool _)] ⟨rfl, trivial⟩ fun σ => ?_
                refine gret fun w1 hM => ?_
                refine ⟨_, res1 rfl (rt (v := .bool _) rfl), ?_⟩
                exact ⟨rfl, hM.low⟩
              · 
                replace hc75 := Decidable.not_not.1 (of_decide_eq_false hc75)
                have hsf0 : (Votes.stateF (votesTo ((tr.length : Int) - 1) 8) tr ((tr.length : Int) - 1)).code = 0 := by omega
                obtain ⟨hsn, hsv⟩ := all_votes hsf0
                obtain ⟨hG, hGv⟩ := law21_pol hneg (show (evalF l F).code = 0 by omega)
                have hG2 : evalF l ⟨Votes.scoreN (votesTo ((tr.length : Int) - 1) 8) tr ((tr.length : Int) - 1), true, true, 255⟩ = ⟨0, 0⟩ := by rw [hsn]; exact hG
                have hGv2 : evalV l ⟨Votes.scoreN (votesTo ((tr.length : Int) - 1) 8) tr ((tr.length : Int) - 1), true, true, 255⟩ = true := by rw [hsn]; exact hGv
                refine gskip ?_
                refine hN20 _ _ ?_
                refine gfrom [(10, .int _ _), (11, .bool _), (13, .bool _), (15, .bool _), (16, .pointer _)] ⟨rfl, rfl, rfl, rfl, rfl, trivial⟩ fun σ => ?_
                refine gseq fun N23 hN23 => ?_
                refine greg ?_
                refine gop (y_move (v := .int _ _) rfl) rfl rfl rfl ?_
                refine gop (y_eql rfl rfl) rfl rfl rfl ?_
                refine gop (y_move (v := .bool _) rfl) rfl rfl rfl ?_
                refine gop_if (want := true) rfl rfl rfl rfl rfl rfl (fun hg78 => ?_) (fun hg78 => ?_)
                · 
                  have hg78d := of_decide_eq_true hg78
                  refine gop (y_bare (y_move (v := .bool _) rfl)) rfl rfl rfl ?_
                  refine gop_on rfl rfl rfl rfl hg78 ?_
                  refine gop (y_bare (y_not rfl)) rfl rfl rfl ?_
                  refine gop (y_pick_t (v := .bool _) rfl hg78 rfl) rfl rfl rfl ?_
                  refine gop (y_move (v := .bool _) rfl) rfl rfl rfl ?_
                  refine gop_if (want := true) rfl rfl rfl rfl rfl rfl (fun hg82 => ?_) (fun hg82 => ?_)
                  · 
                    have hg82d := not_t hg82
                    refine gop (y_bare (y_fieldAddr_box fa33_0 rfl)) rfl rfl rfl ?_
                    refine gop_on rfl rfl rfl rfl hg82 ?_
                    refine gop (y_bare (y_load Tryz.isAgg3 rfl (cell_box 5 rfl rfl))) rfl rfl rfl ?_
                    refine gop_on rfl rfl rfl rfl hg82 ?_
                    refine gop (y_bare (y_eql rfl rfl)) rfl rfl rfl ?_
                    refine gop (y_pick_t (v := .bool _) rfl hg82 rfl) rfl rfl rfl ?_
                    refine gop (y_move (v := .bool _) rfl) rfl rfl rfl ?_
                    refine gop_if (want := true) rfl rfl rfl rfl rfl rfl (fun hg87 => ?_) (fun hg87 => ?_)
                    · 
                      have hg87d := of_decide_eq_true hg87
                      refine gop (y_bare (y_move (v := .bool _) rfl)) rfl rfl rfl ?_
                      refine gop_on rfl rfl rfl rfl hg87 ?_
                      refine gop (y_bare (y_not rfl)) rfl rfl rfl ?_
                      refine gop_on rfl rfl rfl rfl hg87 ?_
                      refine gop (y_bare (y_move (v := .bool _) rfl)) rfl rfl rfl ?_
                      refine gop_if (want := false) rfl rfl rfl rfl rfl rfl (fun hg90 => ?_) (fun hg90 => ?_)
                      · 
                        have hg90d := not_f hg90
                        refine gop (y_bare (y_move (v := .bool _) rfl)) rfl rfl rfl ?_
                        refine gop_on rfl rfl rfl rfl hg87 ?_
                        refine gop (y_bare (y_pick_f (v := .bool _) rfl hg90 rfl)) rfl rfl rfl ?_
                        refine gop (y_pick_t (v := .bool _) rfl hg87 rfl) rfl rfl rfl ?_
                        refine gop (y_assign (v := .bool _) rfl) rfl rfl rfl ?_
                        refine gops_nil ?_
                        refine hN23 _ _ ?_
                        refine gfrom [(6, .bool _)] ⟨rfl, trivial⟩ fun σ => ?_
                        refine gret fun w1 hM => ?_
                        refine ⟨_, res1 rfl (rt (v := .bool _) rfl), ?_⟩
                        first | exact ⟨rfl, hM.low⟩ | exact ⟨by rw [hGv2], hM.low⟩
                      · 
                        have hg90d := not_t hg90
                        refine gop_on rfl rfl rfl rfl hg87 ?_
                        refine gop (y_bare (y_pick_t (v := .bool _) rfl hg90 rfl)) rfl rfl rfl ?_
                        refine gop (y_pick_t (v := .bool _) rfl hg87 rfl) rfl rfl rfl ?_
                        refine gop (y_assign (v := .bool _) rfl) rfl rfl rfl ?_
                        refine gops_nil ?_
                        refine hN23 _ _ ?_
                        refine gfrom [(6, .bool _)] ⟨rfl, trivial⟩ fun σ => ?_
                        refine gret fun w1 hM => ?_
                        refine ⟨_, res1 rfl (rt (v := .bool _) rfl), ?_⟩
                        first | exact ⟨rfl, hM.low⟩ | exact ⟨by rw [hGv2], hM.low⟩
                    · 
                       rw [hG2] at hg87; exact absurd hg87 (by decide)
                  · 
                     rw [hsv] at hg82; exact absurd hg82 (by decide)
                · 
                   rw [hsn] at hg78; exact absurd hg78 (by decide)
            · 
              have hg71d := of_decide_eq_true hg71
              refine gop_off rfl rfl rfl rfl hg71 rfl rfl ?_
              refine gop_off rfl rfl rfl rfl hg71 rfl rfl ?_
              refine gop (y_pick_t (v := .bool _) rfl hg71 rfl) rfl rfl rfl ?_
              refine gops_nil ?_
              refine hN21 _ _ ?_
              refine gfrom [(10, .int _ _), (11, .bool _), (13, .bool _), (15, .bool _), (16, .pointer _), (75, .bool _)] ⟨rfl, rfl, rfl, rfl, rfl, rfl, trivial⟩ fun σ => ?_
              refine gcond (b := _) rfl (fun hc75 => ?_) (fun hc75 => ?_)
              · 
                refine gseq fun N24 hN24 => ?_
                refine greg ?_
                refine gop (y_assign (v := .bool _) rfl) rfl rfl rfl ?_
                refine gops_nil ?_
                refine hN24 _ _ ?_
                refine gfrom [(6, .bool _)] ⟨rfl, trivial⟩ fun σ => ?_
                refine gret fun w1 hM => ?_
                refine ⟨_, res1 rfl (rt (v := .bool _) rfl), ?_⟩
                exact ⟨rfl, hM.low⟩
              · 
                cases hc75
end Go.Proofs.YtbkameioedmlkaaGreatDoor
namespace Go.Cf
structure PolC where
  A : Option Addr
  c : Nat
  l : List PN
abbrev polCells (a : PolC) : List Value := [.slice a.A a.l.length a.c]
abbrev factCells (F : PFacts) : List Value := [.int .i64 F.score, .bool F.owners, .bool F.tests, .int .i64 F.users]
end Go.Cf
namespace Go.Proofs.YtbkameioedmlkaaGreatDoor
open Go.ChangeShapes Go.WideShapes Go.ChangeAt Go.RowKit Go.Cf
set_option maxRecDepth 100000
theorem cp_int : Tryz.prog.cellsOf 3 = 1 := by kernel_rfl
theorem cp_bool : Tryz.prog.cellsOf 4 = 1 := by kernel_rfl
theorem cp_nodes : Tryz.prog.cellsOf 41 = 1 := by kernel_rfl
theorem el_node {H : Type} {enc : TypeId × Value → H} {w : World} : ∀ (n : Nat) (cs : List Value) (x : DataW H × List MemPlace), DataW.trod enc Tryz.prog w 0 (fun _ => true) true n 48 cs = some x →
    (x.1.weights Tryz.prog 48).all (· ≤ reachBytes) = true → ∃ a : PN, cs = pnCells a ∧ True := by
  intro n cs x h hw
  obtain ⟨m, hlen, hf⟩ := rd_struct Tryz.underlying48 h hw
  have hl : cs.length = 4 := hlen.trans (by kernel_rfl)
  match cs, hl with
  | [c0, c1, c2, c3], _ =>
    obtain ⟨y0, f0, _⟩ := hf 0 _ rfl
    obtain ⟨y1, f1, _⟩ := hf 1 _ rfl
    obtain ⟨y2, f2, _⟩ := hf 2 _ rfl
    obtain ⟨y3, f3, _⟩ := hf 3 _ rfl
    simp [cp_int] at f0 f1 f2 f3
    obtain ⟨a0, e0, _, b0⟩ := DataW.trod_int Tryz.underlying3 f0
    obtain ⟨a1, e1, _, b1⟩ := DataW.trod_int Tryz.underlying3 f1
    obtain ⟨a2, e2, _, b2⟩ := DataW.trod_int Tryz.underlying3 f2
    obtain ⟨a3, e3, _, b3⟩ := DataW.trod_int Tryz.underlying3 f3
    simp at e0 e1 e2 e3
    subst e0 e1 e2 e3
    exact ⟨⟨a0, a1, a2, a3⟩, rfl, trivial⟩
theorem el_pol {H : Type} {enc : TypeId × Value → H} {w : World} : ∀ (n : Nat) (cs : List Value) (x : DataW H × List MemPlace), DataW.trod enc Tryz.prog w 0 (fun _ => true) true n 43 cs = some x →
    (x.1.weights Tryz.prog 43).all (· ≤ reachBytes) = true → ∃ a : PolC, cs = polCells a ∧ (Rdl w 0 4 pnCells a.A a.l ∧ a.l.length ≤ a.c ∧ a.c ≤ maxLen) := by
  intro n cs x h hw
  obtain ⟨m, hlen, hf⟩ := rd_struct Tryz.underlying43 h hw
  have hl : cs.length = 1 := hlen.trans (by kernel_rfl)
  match cs, hl with
  | [c0], _ =>
    obtain ⟨y0, f0, w0⟩ := hf 0 _ rfl
    simp [cp_nodes] at f0
    obtain ⟨A1, c1', l1, e1, r1, s1, m1, n1, t1, q1⟩ := rd_cells Tryz.underlying41 (by kernel_rfl) el_node f0 w0
    simp at e1
    subst e1
    exact ⟨⟨A1, c1', l1⟩, rfl, r1, s1, m1⟩
theorem el_facts {H : Type} {enc : TypeId × Value → H} {w : World} : ∀ (n : Nat) (cs : List Value) (x : DataW H × List MemPlace), DataW.trod enc Tryz.prog w 0 (fun _ => true) true n 45 cs = some x →
    (x.1.weights Tryz.prog 45).all (· ≤ reachBytes) = true → ∃ a : PFacts, cs = factCells a ∧ True := by
  intro n cs x h hw
  obtain ⟨m, hlen, hf⟩ := rd_struct Tryz.underlying45 h hw
  have hl : cs.length = 4 := hlen.trans (by kernel_rfl)
  match cs, hl with
  | [c0, c1, c2, c3], _ =>
    obtain ⟨y0, f0, _⟩ := hf 0 _ rfl
    obtain ⟨y1, f1, _⟩ := hf 1 _ rfl
    obtain ⟨y2, f2, _⟩ := hf 2 _ rfl
    obtain ⟨y3, f3, _⟩ := hf 3 _ rfl
    simp [cp_int, cp_bool] at f0 f1 f2 f3
    obtain ⟨a0, e0, _, b0⟩ := DataW.trod_int Tryz.underlying3 f0
    obtain ⟨a1, e1, _⟩ := DataW.trod_bool Tryz.underlying4 f1
    obtain ⟨a2, e2, _⟩ := DataW.trod_bool Tryz.underlying4 f2
    obtain ⟨a3, e3, _, b3⟩ := DataW.trod_int Tryz.underlying3 f3
    simp at e0 e1 e2 e3
    subst e0 e1 e2 e3
    exact ⟨⟨a0, a1, a2, a3⟩, rfl, trivial⟩
end Go.Proofs.YtbkameioedmlkaaGreatDoor
namespace Go.Proofs.YtbkameioedmlkaaGreatDoor
open Go.RowKit Go.Cf
theorem errRow (u : TypeId) (h : Tryz.prog.typeName? 3 u = some "*errors.errorString") : u = 252 := by
  have star : "*" ++ "errors.errorString" = "*errors.errorString" := by decide
  exact typeName_ptr_named (nm := "errors.errorString") (by rw [star]; kernel_rfl) (by kernel_rfl) (by decide) u (by rw [star]; exact h)
theorem laidP_of {W : World} (h : laidMetH Tryz.prog [("math/bits.deBruijn32tab", Rows.laid_math_bits_deBruijn32tab), ("math/bits.deBruijn64tab", Rows.laid_math_bits_deBruijn64tab), ("internal/strconv.uint64pow10", Rows.laid_internal_strconv_uint64pow10), ("unicode/utf8.acceptRanges", Rows.laid_unicode_utf8_acceptRanges), ("strconv.ErrRange", Rows.laid_strconv_ErrRange), ("strconv.ErrSyntax", Rows.laid_strconv_ErrSyntax), ("unicode/utf8.first", Rows.laid_unicode_utf8_first)] W) : LaidP W := by
  rw [MakeChecks.laidMetH_plain _ _ _ (by kernel_rfl)] at h
  have h2 := h.tail.tail
  have gT : Tryz.prog.globalNamed "internal/strconv.uint64pow10" = some 5 := by kernel_rfl
  have gR : Tryz.prog.globalNamed "strconv.ErrRange" = some 4 := by kernel_rfl
  have gS : Tryz.prog.globalNamed "strconv.ErrSyntax" = some 3 := by kernel_rfl
  have hT : Lib.TabIs Tryz.prog W "internal/strconv.uint64pow10" .u64 Lib.pow10Tab := Lib.tabIs_of_head gT (t := 256) (by kernel_rfl) Tryz.underlying256 Tryz.underlying201 (by kernel_rfl) (by kernel_rfl) h2
  obtain ⟨a1, s1, hv1, -, -, -⟩ := laid_sentinel h2.tail.tail gR (by kernel_rfl) Tryz.underlying211 errRow Tryz.underlying252 Tryz.underlying254 rfl rfl Tryz.underlying9 (by kernel_rfl) (by kernel_rfl)
  obtain ⟨a2, s2, hv2, -, -, -⟩ := laid_sentinel h2.tail.tail.tail gS (by kernel_rfl) Tryz.underlying211 errRow Tryz.underlying252 Tryz.underlying254 rfl rfl Tryz.underlying9 (by kernel_rfl) (by kernel_rfl)
  have c1 : W.cell? ⟨4, 0, none⟩ = some (.iface 252 (.pointer (some a1))) := by have h0 := World.var?_cell gR hv1 0; simpa using h0
  have c2 : W.cell? ⟨3, 0, none⟩ = some (.iface 252 (.pointer (some a2))) := by have h0 := World.var?_cell gS hv2 0; simpa using h0
  have c3 := hT.cell gT 0 (by decide)
  have b1 := World.block_lt_of_cell? W _ c1
  have b2 := World.block_lt_of_cell? W _ c2
  have b3 := World.block_lt_of_cell? W _ c3
  simp only at b1 b2 b3
  exact ⟨hT, ⟨_, _, c2⟩, ⟨_, _, c1⟩, by omega⟩
end Go.Proofs.YtbkameioedmlkaaGreatDoor
namespace Go.Cf
open Go.ChangeShapes Go.WideShapes Go.ChangeAt Go.RowKit Go.Deep
theorem law_lift_row {H : Type} {enc : TypeId × Value → H} {C : Checked} {os : Os} {f : FuncId} {fn : Func} {s : OpenSpec} {F : Stop.Interp} {conds : List PathCond} {tb : TypeId} {laid : List (String × DataW Unit)}
    (own : ownKnob C.prog.godebug = none) (started : os.Started) (noInit : C.prog.inits.idxOf? f = none) (hfn : C.prog.funcs[f]? = some fn)
    (witness : ∃ (w : World) (tape : Tape) (i : Input), w.os = os ∧ (w.forCall tape i).Shaped C.prog ∧ i.vars = [] ∧ Input.okWide C.prog (w.forCall tape i) .any w.heap.size f i ∧
      s.preRow enc C.prog fn conds false laid (w.forCall tape i).memory i.args ∧ Assume.holds {} C.prog (lone (Frame.enter C.prog f i.args .normal) [] (w.forCall tape i)))
    (hl : laidOutB C.prog = true) (hread : (fn.params.toList.all fun t => C.prog.readableRec t && decide (t < C.prog.types.size)) = true) (hres : fn.resultTypes = #[tb]) (htb : C.prog.underlying tb = some .bool) (hvars : s.vars = []) (hvars0 : (s.at F).vars = []) (hvt : s.bare.plain.varTypes C.prog = [])
    (hspec : ∀ ds : List (DataW H), ds.length = fn.params.size → ((s.at F).fn H (ds ++ [])).results = [.lit (.bool true)] ∧ ((s.at F).fn H (ds ++ [])).args = ds ∧ ((s.at F).fn H (ds ++ [])).vars = [])
    (contract : ∀ (W : World) (base : Nat) (args : Array Value) (ds : List (DataW H)) (p : List MemPlace),
      (∀ (j : Nat) t v, fn.params[j]? = some t → args[j]? = some v → Value.okWide C.prog W .any base t v) → DataW.TrodAll enc C.prog W 0 (fun _ => true) true fn.params.toList args.toList ds p →
      (DataW.weightsEach C.prog fn.params.toList ds).all (· ≤ reachBytes) = true → (∀ k, s.cond = some k → k H ds = true) → laidMetH C.prog laid W →
      Calls C.prog f args W fun e W' => e = .returned (.bool true) ∧ Below W.heap.size W W') :
    ReturnsInHanded {} C os f .any (s.preRow enc C.prog fn conds false laid) ((s.at F).post enc C.prog fn false true false false) := by
  refine returnsInHanded_of_row own started noInit hfn witness ?_
  intro W base args ds gs before hval hW _ hkk hsz hL _ _
  have hW' := hW
  obtain ⟨p, q, hA, hV, rfl, _, _⟩ := hW
  rw [hvars] at hV
  obtain ⟨rfl, rfl⟩ := trodVars_none hV
  have hlen : ds.length = fn.params.size := by
    have key : ∀ (ts : List TypeId) (vs : List Value) (ds : List (DataW H)) (p : List MemPlace), DataW.TrodAll enc C.prog W 0 (fun _ => true) true ts vs ds p → ds.length = ts.length := by
      intro ts
      induction ts with
      | nil => intro vs ds p h; obtain ⟨_, rfl, _⟩ := trodAll_nil h; rfl
      | cons t ts ih => intro vs ds p h; obtain ⟨v, vs', d, ds', p, q, rfl, rfl, rfl, _, h2⟩ := trodAll_cons h; simp [ih _ _ _ h2]
    rw [key _ _ _ _ hA]; simp
  have hw : (DataW.weightsEach C.prog fn.params.toList ds).all (· ≤ reachBytes) = true := by
    simpa [hvt] using hsz
  refine (contract W base args ds p hval hA hw (fun k hk => by simpa using hkk k hk) hL).mono fun e W' ⟨he, bel⟩ => ?_
  subst he
  obtain ⟨h1, h2, h3⟩ := hspec ds hlen
  have hr : ∀ t ∈ fn.params.toList, C.prog.readableRec t = true ∧ t < C.prog.types.size := by
    intro t ht
    have := List.all_eq_true.1 hread t ht
    simpa using this
  refine ⟨_, rfl, ds, [], p ++ [], [], p, [], hW', ?_, ?_, ?_, World.keptBut_mono (fun x hx => ⟨hx, ?_⟩) (bel.frame (· ∈ p ++ [])), fun h => by cases h⟩
  · rw [h1, hres]; exact trodAll_mk1 (shut_bool htb _)
  · rw [h2]; exact trodAll_below hl bel hr hA
  · rw [h3, hvars0]; rfl
  · right; left; simpa using hx
end Go.Cf
namespace Go.Proofs.YtbkameioedmlkaaGreatDoor
open Go.ChangeShapes Go.WideShapes Go.ChangeAt Go.RowKit Go.Cf
set_option maxRecDepth 100000 in
theorem topUnanimousChangesMayLand_lifted (os : Os) (started : os.Started) (H : Type) (enc : TypeId × Value → H) (F : Stop.Interp) :
    ReturnsInHanded {} Tryz.checked os 4 .any ((OpenSpec.ofChange Rows.topUnanimousChangesMayLandSpec).preRow enc Tryz.prog Tryz.f4 Rows.topUnanimousChangesMayLandRow.domain false Rows.topUnanimousChangesMayLandRow.laid) (((OpenSpec.ofChange Rows.topUnanimousChangesMayLandSpec).at F).post enc Tryz.prog Tryz.f4 false true false false) := by
  refine law_lift_row (C := Tryz.checked) (s := OpenSpec.ofChange Rows.topUnanimousChangesMayLandSpec) (tb := 4) (by kernel_rfl) started (by kernel_rfl) Tryz.func4
    (witness_row_at (enc := enc) (C := Tryz.checked) false ({ (World.holding Tryz.prog os ⟨#[.cells #[.string ⟨#[118, 97, 108, 117, 101, 32, 111, 117, 116, 32, 111, 102, 32, 114, 97, 110, 103, 101]⟩] 254, .cells #[.string ⟨#[105, 110, 118, 97, 108, 105, 100, 32, 115, 121, 110, 116, 97, 120]⟩] 254], #[], []⟩) with heap := ((((((((World.holding Tryz.prog os ⟨#[.cells #[.string ⟨#[118, 97, 108, 117, 101, 32, 111, 117, 116, 32, 111, 102, 32, 114, 97, 110, 103, 101]⟩] 254, .cells #[.string ⟨#[105, 110, 118, 97, 108, 105, 100, 32, 115, 121, 110, 116, 97, 120]⟩] 254], #[], []⟩).heap).modify 1 (fun | .cells _ t fz => .cells ((Go.Pinned.utf8FirstZ.map fun n : Nat => Value.int .u8 (n : Int)).toArray) t fz | o => o)).modify 2 (fun | .cells _ t fz => .cells ((([128, 191, 160, 191, 128, 159, 144, 191, 128, 143, 0, 0, 0, 0, 0, 0, 0, 0, 0, 0, 0, 0, 0, 0, 0, 0, 0, 0, 0, 0, 0, 0] : List Nat).map fun n : Nat => Value.int .u8 (n : Int)).toArray) t fz | o => o)).modify 6 (fun | .cells _ t fz => .cells ((([0, 1, 28, 2, 29, 14, 24, 3, 30, 22, 20, 15, 25, 17, 4, 8, 31, 27, 13, 23, 21, 19, 16, 7, 26, 12, 18, 6, 11, 5, 10, 9] : List Nat).map fun n : Nat => Value.int .u8 (n : Int)).toArray) t fz | o => o)).modify 7 (fun | .cells _ t fz => .cells ((([0, 1, 56, 2, 57, 49, 28, 3, 61, 58, 42, 50, 38, 29, 17, 4, 62, 47, 59, 36, 45, 43, 51, 22, 53, 39, 33, 30, 24, 18, 12, 5, 63, 55, 48, 27, 60, 41, 37, 16, 46, 35, 44, 21, 52, 32, 23, 11, 54, 26, 40, 15, 34, 20, 31, 10, 25, 14, 19, 9, 13, 8, 7, 6] : List Nat).map fun n : Nat => Value.int .u8 (n : Int)).toArray) t fz | o => o)).modify 5 (fun | .cells _ t fz => .cells ((([1, 10, 100, 1000, 10000, 100000, 1000000, 10000000, 100000000, 1000000000, 10000000000, 100000000000, 1000000000000, 10000000000000, 100000000000000, 1000000000000000, 10000000000000000, 100000000000000000, 1000000000000000000, 10000000000000000000] : List Nat).map fun n : Nat => Value.int .u64 (n : Int)).toArray) t fz | o => o)).modify 4 (fun | .cells _ t fz => .cells (#[.iface 252 (.pointer (some ⟨13, 0, none⟩))]) t fz | o => o)).modify 3 (fun | .cells _ t fz => .cells (#[.iface 252 (.pointer (some ⟨14, 0, none⟩))]) t fz | o => o) } : World) #[.agg #[.slice none 0 0], .agg #[.int .i64 0, .bool false, .bool false, .int .i64 0], .slice none 0 0] rfl (by kernel_rfl) (by kernel_rfl) (by kernel_rfl)
      (OpenSpec.preRow_of_cond 8 (show DataW.whole enc Tryz.prog _ Tryz.f4.params.toList _ false _ 8 = some ([.agg [.nil], .agg [.lit (.int .i64 0), .lit (.bool false), .lit (.bool false), .lit (.int .i64 0)], .nil], [], []) by kernel_rfl) (by kernel_rfl) (fun k hk => by cases hk) (by kernel_rfl) (laidMet_of_run' 8 (by kernel_rfl) (by kernel_rfl))))
    (by kernel_rfl) (by kernel_rfl) (by kernel_rfl) Tryz.underlying4 rfl rfl rfl ?_ ?_
  · intro ds hds
    rw [show Tryz.f4.params.size = 3 from by rw [Tryz.params4]; rfl] at hds
    match ds, hds with
    | [d0, d1, d2], _ => exact ⟨rfl, rfl, rfl⟩
  · intro W base args ds p hval hA hw hk hL
    rw [show Tryz.f4.params.toList = [43, 45, 46] from by rw [Tryz.params4]] at hA hw
    rw [Tryz.params4] at hval
    obtain ⟨v0, vs0, d0, ds0, p0, q0, hargs, rfl, rfl, h0, r0⟩ := trodAll_cons hA
    obtain ⟨v1, vs1, d1, ds1, p1, q1, rfl, rfl, rfl, h1, r1⟩ := trodAll_cons r0
    obtain ⟨v2, vs2, d2, ds2, p2, q2, rfl, rfl, rfl, h2, r2⟩ := trodAll_cons r1
    obtain ⟨rfl, rfl, rfl⟩ := trodAll_nil r2
    obtain rfl : args = #[v0, v1, v2] := by cases args; simp_all
    obtain ⟨w0, hw⟩ := weights_each hw
    obtain ⟨w1, hw⟩ := weights_each hw
    obtain ⟨w2, hw⟩ := weights_each hw
    obtain ⟨⟨A0, c0, l0⟩, rfl, hv0, hlc0, hcm0⟩ := rd_agg Tryz.underlying43 el_pol (hval 0 43 v0 rfl rfl) h0 w0
    obtain ⟨F1, rfl, -⟩ := rd_agg Tryz.underlying45 el_facts (hval 1 45 v1 rfl rfl) h1 w1
    obtain ⟨A2, c2, l2, rfl, hv2, hlc2, hcm2, hA2, hcb2, hQ2⟩ := rd_slice Tryz.underlying46 (by kernel_rfl) (el_bool Tryz.underlying4) (hval 2 46 v2 rfl rfl) h2 w2
    exact law21_any W A0 c0 l0 hv0 hlc0 hcm0 F1 A2 c2 l2 hv2 hlc2 hcm2 (laidP_of hL)
theorem topUnanimousChangesMayLand_said : Rows.TopUnanimousChangesMayLandSaid :=
  OpenClaim.holds_of_cond 4 Tryz.f4 rfl rfl rfl rfl rfl rfl rfl ⟨rfl, rfl, rfl, rfl, rfl⟩ rfl rfl rfl rfl rfl (by kernel_rfl) Tryz.func4 (by kernel_rfl)
    (of_decide_eq_true (by kernel_rfl)) (by unfold Func.isWrapper; first | (rw [if_pos (by decide +kernel)]; kernel_rfl) | (rw [if_neg (by decide +kernel)]; exact ⟨rfl, rfl⟩))
    (fun os started H enc _ F => by rw [OpenClaim.pre_eq_preRow]; exact topUnanimousChangesMayLand_lifted os started H enc F)
theorem topUnanimousChangesMayLand_plain (f : FuncId) (fn : Func) (hf : Tryz.pinned.checked.prog.funcNamed "changeforge/changeforgetop.TopUnanimousChangesMayLand" = some f) (hfn : Tryz.pinned.checked.prog.funcs[f]? = some fn) :
    true = Tryz.pinned.checked.prog.looks [] ∧ ∀ (j : Nat) t, fn.params[j]? = some t → Tryz.pinned.checked.prog.wantsStandIn t = false := by
  obtain rfl : f = 4 := Option.some.inj ((show Tryz.prog.funcNamed "changeforge/changeforgetop.TopUnanimousChangesMayLand" = some 4 by kernel_rfl).symm.trans hf) |>.symm
  obtain rfl : fn = Tryz.f4 := (Option.some.inj (Tryz.func4.symm.trans hfn)).symm
  refine ⟨by kernel_rfl, fun j t ht => ?_⟩
  rw [Tryz.params4] at ht
  have hm : t ∈ [43, 45, 46] := by simpa using Array.mem_of_getElem? ht
  have hall : ([43, 45, 46].all fun u => !Tryz.prog.wantsStandIn u) = true := by kernel_rfl
  exact (show Tryz.prog.wantsStandIn t = false by simpa using List.all_eq_true.1 hall t hm)
theorem topUnanimousChangesMayLand_holds : Rows.TopUnanimousChangesMayLandCardSaid :=
  Claim7.holds_tied_plain_at .later [] _ _ _ _ topUnanimousChangesMayLand_said (fun _ h => by cases h) (by kernel_rfl) (fun _ h => by cases h) topUnanimousChangesMayLand_row_tie rfl ⟨rfl, rfl⟩ (by kernel_rfl) rfl topUnanimousChangesMayLand_plain (by kernel_rfl)
end Go.Proofs.YtbkameioedmlkaaGreatDoor
