/-
  PolicyFunctionsMatchSpec: for all policies and facts the law returns true (the tied card).
-/
import Derived.Test.YtllblbkbglifjaaDoorP30d
import Derived.Carry
import Derived.ChangeOld
import Derived.Deep.CondSized
import Derived.Deep.DeepHandedRow
import Derived.Deep.Slices
import Derived.LaidLaws
import Derived.Lib.LaidTab
import Derived.MakeChecks
import Derived.OpenShut
import Derived.ProofKit
import Derived.SizedLaws
import Derived.Stop.LaidErr
import Derived.Test.YtllblbkbglifjaaDoorCards
import Derived.Test.YtllblbkbglifjaaDoorProg
import Derived.Test.YtllblbkbglifjaaDoorRows
import Derived.Test.YtllblbkbglifjaaDoorTie
namespace Go.Proofs.YtllblbkbglifjaaDoor
open Go.RowKit Go.Cf
set_option maxRecDepth 10000
theorem eq28 (a0 b0 : Int) (a1 b1 : Int) (w : World) : (binOp .eql 28 (.agg #[.int .i64 a0, .int .i64 a1]) (.agg #[.int .i64 b0, .int .i64 b1])).run Tryd.prog w = .ok (.bool ((decide (a0 = b0) && decide (a1 = b1)))) w := by
  simp [run_eql_struct, run_equalIn_agg, Tryd.underlying28, Tryd.stoodInHeld28, Program.fieldsOf, go_sem]
  (repeat' split) <;> simp_all
theorem fd28_0 (x0 x1 : Value) (w : World) : (Instr.field 28 (.agg #[x0, x1]) 0).run Tryd.prog w = .ok x0 w := by kernel_rfl
set_option maxHeartbeats 16000000 in
theorem law30_any (w : World) (A : Option Addr) (c : Nat) (l : List PN) (hl : Rdl w 0 4 pnCells A l) (hlc : l.length ≤ c) (hcm : c ≤ maxLen) (F : PFacts) (hL : LaidP w) :
    Calls Tryd.prog 3 #[.agg #[.slice A l.length c], factsV F] w fun e w' => e = .returned (.bool true) ∧ Below w.heap.size w w' := by
  have hlm : l.length ≤ 9223372036854775807 := by have h9 := Nat.le_trans hlc hcm; unfold maxLen at h9; omega
  refine gcalls Tryd.func3 rfl Tryd.ntmps3 (Nat.le_of_ble_eq_true rfl) ?_
  refine gfrom [(0, .agg #[_]), (1, factsV F)] ⟨rfl, rfl, trivial⟩ fun σ => ?_
  refine gseq fun N1 hN1 => ?_
  refine greg ?_
  refine gop_box (v := .agg #[_]) (cs := #[_]) rfl rfl rfl (fun b2 hb2 => ?_)
  refine gop_box (v := factsV F) (cs := #[_, _, _, _]) rfl rfl rfl (fun b3 hb3 => ?_)
  refine gop (y_assign (v := .bool _) rfl) rfl rfl rfl ?_
  refine gops_nil ?_
  refine hN1 _ _ ?_
  refine gT [box b2 _, box b3 _] rfl ?_
  refine gfrom [(2, .pointer _), (3, .pointer _)] ⟨rfl, rfl, trivial⟩ fun σ => ?_
  refine gseq fun N2 hN2 => ?_
  refine greg ?_
  refine gop (y_loads (cs := [_]) Tryd.isAgg24 Tryd.sizeOf24 rfl rfl (cells_box 0 rfl)) rfl rfl rfl ?_
  refine gop_pure (e_call (vs := [.agg #[_]]) Tryd.func8 rfl (by kernel_rfl) rfl) (fun w hM => polFault_any w A c l (hl.base hM) hlc hcm) rfl rfl rfl ?_
  refine gop_alloc (cs := #[.int .i64 0, .int .i64 0]) Tryd.zeroValue28 rfl rfl (fun b5 hb5 => ?_)
  refine gop_store 2 (v := .agg #[_, _]) (cs' := #[_, _]) rfl rfl Tryd.sizeOf28 rfl rfl rfl rfl (Nat.le_of_ble_eq_true rfl) rfl rfl ?_
  refine gops_nil ?_
  refine hN2 _ _ ?_
  refine gT [box b2 _, box b3 _, box b5 _] rfl ?_
  refine gfrom [(2, .pointer _), (3, .pointer _), (5, .pointer _)] ⟨rfl, rfl, rfl, trivial⟩ fun σ => ?_
  refine gseq fun N3 hN3 => ?_
  refine greg ?_
  refine gop (y_loads (cs := [_]) Tryd.isAgg24 Tryd.sizeOf24 rfl rfl (cells_box 0 rfl)) rfl rfl rfl ?_
  refine gop_pure (e_call (vs := [.agg #[_]]) Tryd.func9 rfl (by kernel_rfl) rfl) (fun w hM => polFormat_any w A c l (hl.base hM) hlc hcm) rfl rfl rfl ?_
  refine gop (y_move (v := .tuple #[.string _, .agg #[_, _]]) rfl) rfl rfl rfl ?_
  refine gop (y_extract (v := .string _) rfl rfl) rfl rfl rfl ?_
  refine gop (y_extract (v := .agg #[_, _]) rfl rfl) rfl rfl rfl ?_
  refine gop_alloc (cs := #[.int .i64 0, .int .i64 0]) Tryd.zeroValue28 rfl rfl (fun b7 hb7 => ?_)
  refine gop (y_assign (v := .string _) rfl) rfl rfl rfl ?_
  refine gop_store 3 (v := .agg #[_, _]) (cs' := #[_, _]) rfl rfl Tryd.sizeOf28 rfl rfl rfl rfl (Nat.le_of_ble_eq_true rfl) rfl rfl ?_
  refine gops_nil ?_
  refine hN3 _ _ ?_
  refine gT [box b2 _, box b3 _, box b5 _, box b7 _] rfl ?_
  refine gfrom [(2, .pointer _), (3, .pointer _), (5, .pointer _), (6, .string _), (7, .pointer _)] ⟨rfl, rfl, rfl, rfl, rfl, trivial⟩ fun σ => ?_
  refine gseq fun N4 hN4 => ?_
  refine greg ?_
  refine gop (y_loads (cs := [_]) Tryd.isAgg24 Tryd.sizeOf24 rfl rfl (cells_box 0 rfl)) rfl rfl rfl ?_
  refine gop (y_loads (cs := [_, _, _, _]) Tryd.isAgg26 Tryd.sizeOf26 rfl rfl (cells_box 1 rfl)) rfl rfl rfl ?_
  refine gop_pure (e_call (vs := [.agg #[_], .agg #[_, _, _, _]]) Tryd.func10 rfl (by kernel_rfl) rfl) (fun w hM => polEval_any w A c l (hl.base hM) hlc hcm F) rfl rfl rfl ?_
  refine gop (y_move (v := .tuple #[.bool _, .agg #[_, _]]) rfl) rfl rfl rfl ?_
  refine gop (y_extract (v := .bool _) rfl rfl) rfl rfl rfl ?_
  refine gop (y_extract (v := .agg #[_, _]) rfl rfl) rfl rfl rfl ?_
  refine gop_alloc (cs := #[.int .i64 0, .int .i64 0]) Tryd.zeroValue28 rfl rfl (fun b9 hb9 => ?_)
  refine gop (y_assign (v := .bool _) rfl) rfl rfl rfl ?_
  refine gop_store 4 (v := .agg #[_, _]) (cs' := #[_, _]) rfl rfl Tryd.sizeOf28 rfl rfl rfl rfl (Nat.le_of_ble_eq_true rfl) rfl rfl ?_
  refine gops_nil ?_
  refine hN4 _ _ ?_
  refine gT [box b2 _, box b3 _, box b5 _, box b7 _, box b9 _] rfl ?_
  refine gfrom [(2, .pointer _), (3, .pointer _), (5, .pointer _), (6, .string _), (7, .pointer _), (8, .bool _), (9, .pointer _)] ⟨rfl, rfl, rfl, rfl, rfl, rfl, rfl, trivial⟩ fun σ => ?_
  refine gseq fun N5 hN5 => ?_
  refine greg ?_
  refine gop (y_loads (cs := [_]) Tryd.isAgg24 Tryd.sizeOf24 rfl rfl (cells_box 0 rfl)) rfl rfl rfl ?_
  refine gop_new (fun lo ws v => ∃ v1, v = .tuple #[.agg #[v1], fv (norR l).1] ∧ NewL 4 pnCells (norR l).2 lo ws v1) (e_call (vs := [.agg #[_]]) Tryd.func11 rfl (by kernel_rfl) rfl) (fun w hM => by have hc := polNormal_any w A c l (hl.base hM) hlc hcm; exact hc.mono fun _ _ ⟨v1, h1, h2, h3⟩ => ⟨_, h1, h2, v1, rfl, h3⟩) rfl rfl rfl ?_
  rintro _ lo31 ws31 hlo31 ⟨_, rfl, A31, c31, rfl, hcc31, hcm31, hr31⟩
  refine gop (y_move (v := .tuple #[.agg #[.slice _ _ _], .agg #[_, _]]) rfl) rfl rfl rfl ?_
  refine gop (y_extract (v := .agg #[_]) rfl rfl) rfl rfl rfl ?_
  refine gop (y_extract (v := .agg #[_, _]) rfl rfl) rfl rfl rfl ?_
  refine gop_alloc (cs := #[.slice none 0 0]) Tryd.zeroValue24 rfl rfl (fun b10 hb10 => ?_)
  refine gop_alloc (cs := #[.int .i64 0, .int .i64 0]) Tryd.zeroValue28 rfl rfl (fun b11 hb11 => ?_)
  refine gop_store 6 (v := .agg #[_]) (cs' := #[_]) rfl rfl Tryd.sizeOf24 rfl rfl rfl rfl (Nat.le_of_ble_eq_true rfl) rfl rfl ?_
  refine gop_store 7 (v := .agg #[_, _]) (cs' := #[_, _]) rfl rfl Tryd.sizeOf28 rfl rfl rfl rfl (Nat.le_of_ble_eq_true rfl) rfl rfl ?_
  refine gops_nil ?_
  refine hN5 _ _ ?_
  refine gT [box b2 _, box b3 _, box b5 _, box b7 _, box b9 _, seal_ _ _, box b10 _, box b11 _] rfl ?_
  refine gfrom [(2, .pointer _), (3, .pointer _), (5, .pointer _), (6, .string _), (7, .pointer _), (8, .bool _), (9, .pointer _), (10, .pointer _), (11, .pointer _)] ⟨rfl, rfl, rfl, rfl, rfl, rfl, rfl, rfl, rfl, trivial⟩ fun σ => ?_
  refine gseq fun N6 hN6 => ?_
  refine greg ?_
  refine gop (y_build (vs := []) (cells := #[.slice none 0 0]) rfl bd24_) rfl rfl rfl ?_
  refine gop_alloc (cs := #[.slice none 0 0]) Tryd.zeroValue24 rfl rfl (fun b12 hb12 => ?_)
  refine gop_store 8 (v := .agg #[_]) (cs' := #[_]) rfl rfl Tryd.sizeOf24 rfl rfl rfl rfl (Nat.le_of_ble_eq_true rfl) rfl rfl ?_
  refine gops_nil ?_
  refine hN6 _ _ ?_
  refine gT [box b2 _, box b3 _, box b5 _, box b7 _, box b9 _, seal_ _ _, box b10 _, box b11 _, box b12 _] rfl ?_
  refine gfrom [(2, .pointer _), (3, .pointer _), (5, .pointer _), (6, .string _), (7, .pointer _), (8, .bool _), (9, .pointer _), (10, .pointer _), (11, .pointer _), (12, .pointer _)] ⟨rfl, rfl, rfl, rfl, rfl, rfl, rfl, rfl, rfl, rfl, trivial⟩ fun σ => ?_
  refine gseq fun N7 hN7 => ?_
  refine gseq fun N8 hN8 => ?_
  refine greg_q (by kernel_rfl) (by kernel_rfl) ?_
  refine gq_pure (e_call (vs := []) Tryd.func12 rfl (by kernel_rfl) rfl) (fun w hM => policyExample_any w (hL.base hM)) rfl rfl rfl ?_
  refine gq (y_not rfl) rfl rfl rfl ?_
  refine gq (y_move (v := .bool _) rfl) rfl rfl rfl ?_
  refine gq_if (want := false) rfl rfl rfl rfl rfl rfl (fun hg37 => ?_) (fun hg37 => ?_)
  · 
    have hg37d := not_f hg37
    refine gq (y_bare (y_loads (cs := [_]) Tryd.isAgg24 Tryd.sizeOf24 rfl rfl (cells_box 0 rfl))) rfl rfl rfl ?_
    refine gq_on rfl rfl rfl rfl hg37 ?_
    refine gq_pure (e_call (vs := [.agg #[_]]) Tryd.func13 rfl (by kernel_rfl) rfl) (fun w hM => polValidate_any w A c l (hl.base hM) hlc hcm) rfl rfl rfl ?_
    refine gq_on rfl rfl rfl rfl hg37 ?_
    refine gq (y_bare (y_loads (cs := [_, _]) Tryd.isAgg28 Tryd.sizeOf28 rfl rfl (cells_box 2 rfl))) rfl rfl rfl ?_
    refine gq_on rfl rfl rfl rfl hg37 ?_
    refine gq (y_bare (y_bin (vx := .agg #[_, _]) (vy := .agg #[_, _]) rfl rfl (fun w => eg28 _ _ _ _ _ w) (fun w => ne28 _ _ _ _ w))) rfl rfl rfl ?_
    refine gq (y_pick_f (v := .bool _) rfl hg37 rfl) rfl rfl rfl ?_
    refine gqs_nil ?_
    refine hN8 _ _ ?_
    refine gfrom [(2, .pointer _), (3, .pointer _), (5, .pointer _), (6, .string _), (7, .pointer _), (8, .bool _), (9, .pointer _), (10, .pointer _), (11, .pointer _), (12, .pointer _), (42, .bool _)] ⟨rfl, rfl, rfl, rfl, rfl, rfl, rfl, rfl, rfl, rfl, rfl, trivial⟩ fun σ => ?_
    refine gcond (b := _) rfl (fun hc42 => ?_) (fun hc42 => ?_)
    · 
       exact absurd hc42 (by simp)
    · 
      refine gskip ?_
      refine hN7 _ _ ?_
      refine gfrom [(2, .pointer _), (3, .pointer _), (5, .pointer _), (6, .string _), (7, .pointer _), (8, .bool _), (9, .pointer _), (10, .pointer _), (11, .pointer _), (12, .pointer _)] ⟨rfl, rfl, rfl, rfl, rfl, rfl, rfl, rfl, rfl, rfl, trivial⟩ fun σ => ?_
      refine gseq fun N9 hN9 => ?_
      refine gseq fun N10 hN10 => ?_
      refine greg ?_
      refine gop (y_fieldAddr_box fa28_0 rfl) rfl rfl rfl ?_
      refine gop (y_load Tryd.isAgg3 rfl (cell_box 2 rfl rfl)) rfl rfl rfl ?_
      refine gop (y_neq rfl rfl) rfl rfl rfl ?_
      refine gops_nil ?_
      refine hN10 _ _ ?_
      refine gfrom [(2, .pointer _), (3, .pointer _), (5, .pointer _), (6, .string _), (7, .pointer _), (8, .bool _), (9, .pointer _), (10, .pointer _), (11, .pointer _), (12, .pointer _), (45, .bool _)] ⟨rfl, rfl, rfl, rfl, rfl, rfl, rfl, rfl, rfl, rfl, rfl, trivial⟩ fun σ => ?_
      refine gcond (b := _) rfl (fun hc45 => ?_) (fun hc45 => ?_)
      · 
        replace hc45 := of_decide_eq_true hc45
        have hp : polF l ≠ ⟨0, 0⟩ := fun h => hc45 (by rw [h])
        have hF : fmtR l = (polF l, []) := by rw [fmtR, if_pos hp]
        obtain ⟨hE, hV⟩ := evalF_bad (F := F) hp
        have hN : norR l = (polF l, []) := by rw [norR, if_pos hp]
        refine gseq fun N11 hN11 => ?_
        refine greg ?_
        refine gop (y_loads (cs := [_, _]) Tryd.isAgg28 Tryd.sizeOf28 rfl rfl (cells_box 3 rfl)) rfl rfl rfl ?_
        refine gop (y_loads (cs := [_, _]) Tryd.isAgg28 Tryd.sizeOf28 rfl rfl (cells_box 2 rfl)) rfl rfl rfl ?_
        refine gop (y_bin (vx := .agg #[_, _]) (vy := .agg #[_, _]) rfl rfl (fun w => eg28 _ _ _ _ _ w) (fun w => eq28 _ _ _ _ w)) rfl rfl rfl ?_
        refine gop (y_move (v := .bool _) rfl) rfl rfl rfl ?_
        refine gop_if (want := true) rfl rfl rfl rfl rfl rfl (fun hg49 => ?_) (fun hg49 => ?_)
        · 
          have hg49d := hg49
          refine gop (y_bare (y_loads (cs := [_, _]) Tryd.isAgg28 Tryd.sizeOf28 rfl rfl (cells_box 4 rfl))) rfl rfl rfl ?_
          refine gop_on rfl rfl rfl rfl hg49 ?_
          refine gop (y_bare (y_loads (cs := [_, _]) Tryd.isAgg28 Tryd.sizeOf28 rfl rfl (cells_box 2 rfl))) rfl rfl rfl ?_
          refine gop_on rfl rfl rfl rfl hg49 ?_
          refine gop (y_bare (y_bin (vx := .agg #[_, _]) (vy := .agg #[_, _]) rfl rfl (fun w => eg28 _ _ _ _ _ w) (fun w => eq28 _ _ _ _ w))) rfl rfl rfl ?_
          refine gop (y_pick_t (v := .bool _) rfl hg49 rfl) rfl rfl rfl ?_
          refine gop (y_move (v := .bool _) rfl) rfl rfl rfl ?_
          refine gop_if (want := true) rfl rfl rfl rfl rfl rfl (fun hg54 => ?_) (fun hg54 => ?_)
          · 
            have hg54d := hg54
            refine gop (y_bare (y_loads (cs := [_, _]) Tryd.isAgg28 Tryd.sizeOf28 rfl rfl (cells_box 7 rfl))) rfl rfl rfl ?_
            refine gop_on rfl rfl rfl rfl hg54 ?_
            refine gop (y_bare (y_loads (cs := [_, _]) Tryd.isAgg28 Tryd.sizeOf28 rfl rfl (cells_box 2 rfl))) rfl rfl rfl ?_
            refine gop_on rfl rfl rfl rfl hg54 ?_
            refine gop (y_bare (y_bin (vx := .agg #[_, _]) (vy := .agg #[_, _]) rfl rfl (fun w => eg28 _ _ _ _ _ w) (fun w => eq28 _ _ _ _ w))) rfl rfl rfl ?_
            refine gop (y_pick_t (v := .bool _) rfl hg54 rfl) rfl rfl rfl ?_
            refine gop (y_move (v := .bool _) rfl) rfl rfl rfl ?_
            refine gop_if (want := true) rfl rfl rfl rfl rfl rfl (fun hg59 => ?_) (fun hg59 => ?_)
            · 
              have hg59d := hg59
              refine gop (y_bare (y_move (v := .string _) rfl)) rfl rfl rfl ?_
              refine gop_on rfl rfl rfl rfl hg59 ?_
              refine gop (y_bare (y_eqls rfl rfl)) rfl rfl rfl ?_
              refine gop (y_pick_t (v := .bool _) rfl hg59 rfl) rfl rfl rfl ?_
              refine gop (y_move (v := .bool _) rfl) rfl rfl rfl ?_
              refine gop_if (want := true) rfl rfl rfl rfl rfl rfl (fun hg63 => ?_) (fun hg63 => ?_)
              · 
                have hg63d := hg63
                refine gop (y_bare (y_move (v := .bool _) rfl)) rfl rfl rfl ?_
                refine gop_on rfl rfl rfl rfl hg63 ?_
                refine gop (y_bare (y_not rfl)) rfl rfl rfl ?_
                refine gop (y_pick_t (v := .bool _) rfl hg63 rfl) rfl rfl rfl ?_
                refine gop (y_move (v := .bool _) rfl) rfl rfl rfl ?_
                refine gop_if (want := true) rfl rfl rfl rfl rfl rfl (fun hg67 => ?_) (fun hg67 => ?_)
                · 
                  have hg67d := not_t hg67
                  refine gop (y_bare (y_loads (cs := [_]) Tryd.isAgg24 Tryd.sizeOf24 rfl rfl (cells_box 6 rfl))) rfl rfl rfl ?_
                  refine gop_on rfl rfl rfl rfl hg67 ?_
                  refine gop (y_bare (y_loads (cs := [_]) Tryd.isAgg24 Tryd.sizeOf24 rfl rfl (cells_box 8 rfl))) rfl rfl rfl ?_
                  refine gop_on rfl rfl rfl rfl hg67 ?_
                  refine gop_pure (e_call (vs := [.agg #[_], .agg #[_]]) Tryd.func14 rfl (by kernel_rfl) rfl) (fun w hM => refEqPol_any w _ _ _ _ (norR l).2 [] ((hr31.seal_ 5 rfl (Nat.le_refl _) hM).mono (Nat.zero_le _)) Rdl.nil (Nat.le_trans hcc31 hcm31)) rfl rfl rfl ?_
                  refine gop (y_pick_t (v := .bool _) rfl hg67 rfl) rfl rfl rfl ?_
                  refine gop (y_assign (v := .bool _) rfl) rfl rfl rfl ?_
                  refine gops_nil ?_
                  refine hN11 _ _ ?_
                  refine gfrom [(4, .bool _)] ⟨rfl, trivial⟩ fun σ => ?_
                  refine gret fun w1 hM => ?_
                  refine ⟨_, res1 rfl (rt (v := .bool _) rfl), ?_⟩
                  exact ⟨by rw [hN]; simp, hM.low⟩
                · 
                   exact absurd hg67 (by rw [hV]; simp)
              · 
                 exact absurd hg63 (by rw [hF]; simp [baL])
            · 
               exact absurd hg59 (by rw [hN]; simp)
          · 
             exact absurd hg54 (by rw [hE]; simp)
        · 
           exact absurd hg49 (by rw [hF]; simp)
      · 
        replace hc45 := Decidable.not_not.1 (of_decide_eq_false hc45)
        have hp : polF l = ⟨0, 0⟩ := polF_code (fun h9 => h9 hc45)
        obtain ⟨hn0, hn24, -⟩ := pol_ok hp
        have ht := tree_of hp
        have htl := ht.len
        have hF0 : fmtR l = if 200 < (showB (treeOf l) 0).length then (⟨10, -1⟩, []) else (⟨0, 0⟩, showB (treeOf l) 0) := by rw [fmtR, if_neg (fun h => h hp)]
        have hbs := baL_size (showB (treeOf l) 0)
        have hN0 : norR l = madeR (nrm (treeOf l) false) := by rw [norR, if_neg (fun h => h hp)]
        obtain ⟨hmk1, hmk2⟩ := polF_made (nrm_ok _ false ht.ok).1
        refine gskip ?_
        refine hN9 _ _ ?_
        refine gfrom [(2, .pointer _), (3, .pointer _), (6, .string _), (7, .pointer _), (8, .bool _), (9, .pointer _), (10, .pointer _), (11, .pointer _), (12, .pointer _)] ⟨rfl, rfl, rfl, rfl, rfl, rfl, rfl, rfl, rfl, trivial⟩ fun σ => ?_
        refine gseq fun N12 hN12 => ?_
        refine greg ?_
        refine gop (y_fieldAddr_box fa24_0 rfl) rfl rfl rfl ?_
        refine gop (y_load Tryd.isAgg22 rfl (cell_box 0 rfl rfl)) rfl rfl rfl ?_
        refine gop (y_len Tryd.underlying22 rfl) rfl rfl rfl ?_
        refine gop (y_sub rfl rfl ⟨by omega, by omega⟩) rfl rfl rfl ?_
        refine gop (y_assign (v := .int _ _) rfl) rfl rfl rfl ?_
        refine gops_nil ?_
        refine hN12 _ _ ?_
        refine gfrom [(2, .pointer _), (3, .pointer _), (6, .string _), (7, .pointer _), (8, .bool _), (9, .pointer _), (10, .pointer _), (11, .pointer _), (12, .pointer _), (13, .int _ _)] ⟨rfl, rfl, rfl, rfl, rfl, rfl, rfl, rfl, rfl, rfl, trivial⟩ fun σ => ?_
        refine gseq fun N13 hN13 => ?_
        refine greg ?_
        refine gop (y_loads (cs := [_]) Tryd.isAgg24 Tryd.sizeOf24 rfl rfl (cells_box 0 rfl)) rfl rfl rfl ?_
        refine gop (y_move (v := .int _ _) rfl) rfl rfl rfl ?_
        refine gop_pure (e_call (vs := [.agg #[_], .int _ _, _]) Tryd.func15 rfl (by kernel_rfl) rfl) (fun w hM => refWritten_any A c l hlc hcm (by omega) (treeOf l).size (treeOf l) 0 _ _ (l.length - 1) w (by omega) (by omega) rfl (by omega) (hl.base hM) ht.ok ht.at_) rfl rfl rfl ?_
        refine gop (y_assign (v := .string _) rfl) rfl rfl rfl ?_
        refine gops_nil ?_
        refine hN13 _ _ ?_
        refine gfrom [(2, .pointer _), (3, .pointer _), (6, .string _), (7, .pointer _), (8, .bool _), (9, .pointer _), (10, .pointer _), (11, .pointer _), (12, .pointer _), (13, .int _ _), (14, .string _)] ⟨rfl, rfl, rfl, rfl, rfl, rfl, rfl, rfl, rfl, rfl, rfl, trivial⟩ fun σ => ?_
        refine gseq fun N14 hN14 => ?_
        refine gseq fun N15 hN15 => ?_
        refine greg ?_
        refine gop (y_move (v := .string _) rfl) rfl rfl rfl ?_
        refine gop (y_lens Tryd.underlying9 rfl) rfl rfl rfl ?_
        refine gop (y_gtr rfl rfl) rfl rfl rfl ?_
        refine gops_nil ?_
        refine hN15 _ _ ?_
        refine gfrom [(2, .pointer _), (3, .pointer _), (6, .string _), (7, .pointer _), (8, .bool _), (9, .pointer _), (10, .pointer _), (11, .pointer _), (12, .pointer _), (13, .int _ _), (14, .string _), (81, .bool _)] ⟨rfl, rfl, rfl, rfl, rfl, rfl, rfl, rfl, rfl, rfl, rfl, rfl, trivial⟩ fun σ => ?_
        refine gcond (b := _) rfl (fun hc81 => ?_) (fun hc81 => ?_)
        · 
          replace hc81 := of_decide_eq_true hc81
          have hF : fmtR l = (⟨10, -1⟩, []) := by rw [hF0, if_pos (by omega)]
          refine gseq fun N16 hN16 => ?_
          refine greg_q (by kernel_rfl) (by kernel_rfl) ?_
          refine gq (y_loads (cs := [_, _]) Tryd.isAgg28 Tryd.sizeOf28 rfl rfl (cells_box 3 rfl)) rfl rfl rfl ?_
          refine gq_pure (e_call (vs := [_, _]) Tryd.func16 rfl (by kernel_rfl) rfl) (fun w hM => fault_any w _ _) rfl rfl rfl ?_
          refine gq (y_bin (vx := .agg #[_, _]) (vy := .agg #[_, _]) rfl rfl (fun w => eg28 _ _ _ _ _ w) (fun w => ne28 _ _ _ _ w)) rfl rfl rfl ?_
          refine gq (y_move (v := .bool _) rfl) rfl rfl rfl ?_
          refine gq_if (want := false) rfl rfl rfl rfl rfl rfl (fun hg85 => ?_) (fun hg85 => ?_)
          · 
            have hg85d := hg85
            refine gq (y_bare (y_move (v := .string _) rfl)) rfl rfl rfl ?_
            refine gq_on rfl rfl rfl rfl hg85 ?_
            refine gq (y_bare (y_neqs rfl rfl)) rfl rfl rfl ?_
            refine gq (y_pick_f (v := .bool _) rfl hg85 rfl) rfl rfl rfl ?_
            refine gqs_nil ?_
            refine hN16 _ _ ?_
            refine gfrom [(2, .pointer _), (3, .pointer _), (8, .bool _), (9, .pointer _), (10, .pointer _), (11, .pointer _), (12, .pointer _), (13, .int _ _), (88, .bool _)] ⟨rfl, rfl, rfl, rfl, rfl, rfl, rfl, rfl, rfl, trivial⟩ fun σ => ?_
            refine gcond (b := _) rfl (fun hc88 => ?_) (fun hc88 => ?_)
            · 
               exact absurd hc88 (by rw [hF]; simp [baL])
            · 
              refine gskip ?_
              refine hN14 _ _ ?_
              refine gfrom [(2, .pointer _), (3, .pointer _), (8, .bool _), (9, .pointer _), (10, .pointer _), (11, .pointer _), (12, .pointer _), (13, .int _ _)] ⟨rfl, rfl, rfl, rfl, rfl, rfl, rfl, rfl, trivial⟩ fun σ => ?_
              refine gseq fun N17 hN17 => ?_
              refine gseq fun N18 hN18 => ?_
              refine greg ?_
              refine gop (y_fieldAddr_box fa26_0 rfl) rfl rfl rfl ?_
              refine gop (y_load Tryd.isAgg3 rfl (cell_box 1 rfl rfl)) rfl rfl rfl ?_
              refine gop (y_lss rfl rfl) rfl rfl rfl ?_
              refine gop (y_move (v := .bool _) rfl) rfl rfl rfl ?_
              refine gop_if (want := false) rfl rfl rfl rfl rfl rfl (fun hg100 => ?_) (fun hg100 => ?_)
              · 
                have hg100d := of_decide_eq_false hg100
                refine gop (y_bare (y_fieldAddr_box fa26_0 rfl)) rfl rfl rfl ?_
                refine gop_on rfl rfl rfl rfl hg100 ?_
                refine gop (y_bare (y_load Tryd.isAgg3 rfl (cell_box 1 rfl rfl))) rfl rfl rfl ?_
                refine gop_on rfl rfl rfl rfl hg100 ?_
                refine gop (y_bare (y_gtr rfl rfl)) rfl rfl rfl ?_
                refine gop (y_pick_f (v := .bool _) rfl hg100 rfl) rfl rfl rfl ?_
                refine gop (y_move (v := .bool _) rfl) rfl rfl rfl ?_
                refine gop_if (want := false) rfl rfl rfl rfl rfl rfl (fun hg105 => ?_) (fun hg105 => ?_)
                · 
                  have hg105d := of_decide_eq_false hg105
                  refine gop (y_bare (y_fieldAddr_box fa26_3 rfl)) rfl rfl rfl ?_
                  refine gop_on rfl rfl rfl rfl hg105 ?_
                  refine gop (y_bare (y_load Tryd.isAgg3 rfl (cell_box 1 rfl rfl))) rfl rfl rfl ?_
                  refine gop_on rfl rfl rfl rfl hg105 ?_
                  refine gop (y_bare (y_lss rfl rfl)) rfl rfl rfl ?_
                  refine gop (y_pick_f (v := .bool _) rfl hg105 rfl) rfl rfl rfl ?_
                  refine gop (y_move (v := .bool _) rfl) rfl rfl rfl ?_
                  refine gop_if (want := false) rfl rfl rfl rfl rfl rfl (fun hg110 => ?_) (fun hg110 => ?_)
                  · 
                    have hg110d := of_decide_eq_false hg110
                    refine gop (y_bare (y_fieldAddr_box fa26_3 rfl)) rfl rfl rfl ?_
                    refine gop_on rfl rfl rfl rfl hg110 ?_
                    refine gop (y_bare (y_load Tryd.isAgg3 rfl (cell_box 1 rfl rfl))) rfl rfl rfl ?_
                    refine gop_on rfl rfl rfl rfl hg110 ?_
                    refine gop (y_bare (y_gtr rfl rfl)) rfl rfl rfl ?_
                    refine gop (y_pick_f (v := .bool _) rfl hg110 rfl) rfl rfl rfl ?_
                    refine gops_nil ?_
                    refine hN18 _ _ ?_
                    refine gfrom [(2, .pointer _), (3, .pointer _), (8, .bool _), (9, .pointer _), (10, .pointer _), (11, .pointer _), (12, .pointer _), (13, .int _ _), (114, .bool _)] ⟨rfl, rfl, rfl, rfl, rfl, rfl, rfl, rfl, rfl, trivial⟩ fun σ => ?_
                    refine gcond (b := _) rfl (fun hc114 => ?_) (fun hc114 => ?_)
                    · 
                      replace hc114 := of_decide_eq_true hc114
                      obtain ⟨hE, hV⟩ := evalF_range hp (F := F) (by unfold factsBad; omega)
                      refine gseq fun N19 hN19 => ?_
                      refine greg_q (by kernel_rfl) (by kernel_rfl) ?_
                      refine gq (y_loads (cs := [_, _]) Tryd.isAgg28 Tryd.sizeOf28 rfl rfl (cells_box 4 rfl)) rfl rfl rfl ?_
                      refine gq_pure (e_call (vs := [_, _]) Tryd.func16 rfl (by kernel_rfl) rfl) (fun w hM => fault_any w _ _) rfl rfl rfl ?_
                      refine gq (y_bin (vx := .agg #[_, _]) (vy := .agg #[_, _]) rfl rfl (fun w => eg28 _ _ _ _ _ w) (fun w => ne28 _ _ _ _ w)) rfl rfl rfl ?_
                      refine gq (y_move (v := .bool _) rfl) rfl rfl rfl ?_
                      refine gq_if (want := false) rfl rfl rfl rfl rfl rfl (fun hg118 => ?_) (fun hg118 => ?_)
                      · 
                        have hg118d := hg118
                        refine gq (y_bare (y_move (v := .bool _) rfl)) rfl rfl rfl ?_
                        refine gq (y_pick_f (v := .bool _) rfl hg118 rfl) rfl rfl rfl ?_
                        refine gqs_nil ?_
                        refine hN19 _ _ ?_
                        refine gfrom [(2, .pointer _), (10, .pointer _), (11, .pointer _), (12, .pointer _), (13, .int _ _), (120, .bool _)] ⟨rfl, rfl, rfl, rfl, rfl, rfl, trivial⟩ fun σ => ?_
                        refine gcond (b := _) rfl (fun hc120 => ?_) (fun hc120 => ?_)
                        · 
                           exact absurd hc120 (by rw [hV]; simp)
                        · 
                          refine gskip ?_
                          refine hN17 _ _ ?_
                          refine gfrom [(2, .pointer _), (10, .pointer _), (11, .pointer _), (12, .pointer _), (13, .int _ _)] ⟨rfl, rfl, rfl, rfl, rfl, trivial⟩ fun σ => ?_
                          refine gseq fun N20 hN20 => ?_
                          refine greg ?_
                          refine gop (y_loads (cs := [_]) Tryd.isAgg24 Tryd.sizeOf24 rfl rfl (cells_box 0 rfl)) rfl rfl rfl ?_
                          refine gop (y_move (v := .int _ _) rfl) rfl rfl rfl ?_
                          refine gops_nilrow pnCells 47 4 ?_
                          refine gop_does1 9 (fun v r G => ∃ B' bc', v = .slice B' (post (nrm (treeOf l) false) 0).length bc' ∧ r = rowl pnCells w.heap.size 47 4 (.slice B' (post (nrm (treeOf l) false) 0).length bc') (post (nrm (treeOf l) false) 0) ∧ G = []) (e_call (vs := [.agg #[_], .int _ _, _, _]) Tryd.func18 rfl (by kernel_rfl) rfl) rfl (fun w fr1 hfr hM => (refNegated_any _ A c l hl hlc hcm (treeOf l).size (treeOf l) false _ (l.length - 1) w _ _ [] fr1 rfl (by omega) ht.ok ht.at_ (by simp; omega) hM).mono fun _ _ ⟨B', bc', h1, h2⟩ => ⟨_, _, [], h1, ⟨B', bc', rfl, rfl, rfl⟩, h2⟩) rfl rfl rfl ?_
                          rintro _ _ _ ⟨B134, bc134, rfl, rfl, rfl⟩
                          refine gops_fact (fun w hM => row_form (hM.ok _ (List.mem_of_getElem? (i := 9) rfl))) ?_
                          rintro ⟨A134, c134, hv134, hc134, hm134, hn134⟩
                          simp only [Value.slice.injEq] at hv134
                          obtain ⟨rfl, -, rfl⟩ := hv134
                          refine gop (y_build (vs := [(0, .slice _ _ _)]) (cells := #[_]) rfl (bd24_0 _ _ _)) rfl rfl rfl ?_
                          refine gop_alloc (cs := #[.slice none 0 0]) Tryd.zeroValue24 rfl rfl (fun b15 hb15 => ?_)
                          refine gop_store 10 (v := .agg #[_]) (cs' := #[_]) rfl rfl Tryd.sizeOf24 rfl rfl rfl rfl (Nat.le_of_ble_eq_true rfl) rfl rfl ?_
                          refine gops_nil ?_
                          refine hN20 _ _ ?_
                          refine gT [box b2 _, box b3 _, box b5 _, box b7 _, box b9 _, seal_ _ _, box b10 _, box b11 _, box b12 _, rowl _ _ _ _ _ _, box b15 _] rfl ?_
                          refine gfrom [(10, .pointer _), (11, .pointer _), (12, .pointer _), (15, .pointer _)] ⟨rfl, rfl, rfl, rfl, trivial⟩ fun σ => ?_
                          refine gseq fun N21 hN21 => ?_
                          refine gseq fun N22 hN22 => ?_
                          refine greg ?_
                          refine gop (y_loads (cs := [_]) Tryd.isAgg24 Tryd.sizeOf24 rfl rfl (cells_box 10 rfl)) rfl rfl rfl ?_
                          refine gop_pure (e_call (vs := [.agg #[_]]) Tryd.func8 rfl (by kernel_rfl) rfl) (fun w hM => polFault_any w _ _ (post (nrm (treeOf l) false) 0) ((row_rdl (f := pnCells) (fun _ => rfl) (hM.ok _ (List.mem_of_getElem? (i := 9) rfl))).mono (Nat.zero_le _)) hc134 hm134) rfl rfl rfl ?_
                          refine gop (y_field (cs := #[_, _]) rfl (fd28_0 _ _)) rfl rfl rfl ?_
                          refine gop (y_neq rfl rfl) rfl rfl rfl ?_
                          refine gops_nil ?_
                          refine hN22 _ _ ?_
                          refine gfrom [(10, .pointer _), (11, .pointer _), (12, .pointer _), (15, .pointer _), (139, .bool _)] ⟨rfl, rfl, rfl, rfl, rfl, trivial⟩ fun σ => ?_
                          refine gcond (b := _) rfl (fun hc139 => ?_) (fun hc139 => ?_)
                          · 
                            replace hc139 := of_decide_eq_true hc139
                            have hN : norR l = (⟨10, -1⟩, []) := by rw [hN0, madeR, if_pos (hmk1.1 hc139)]
                            refine gseq fun N23 hN23 => ?_
                            refine greg_q (by kernel_rfl) (by kernel_rfl) ?_
                            refine gq (y_loads (cs := [_, _]) Tryd.isAgg28 Tryd.sizeOf28 rfl rfl (cells_box 7 rfl)) rfl rfl rfl ?_
                            refine gq_pure (e_call (vs := [_, _]) Tryd.func16 rfl (by kernel_rfl) rfl) (fun w hM => fault_any w _ _) rfl rfl rfl ?_
                            refine gq (y_bin (vx := .agg #[_, _]) (vy := .agg #[_, _]) rfl rfl (fun w => eg28 _ _ _ _ _ w) (fun w => eq28 _ _ _ _ w)) rfl rfl rfl ?_
                            refine gq (y_move (v := .bool _) rfl) rfl rfl rfl ?_
                            refine gq_if (want := true) rfl rfl rfl rfl rfl rfl (fun hg143 => ?_) (fun hg143 => ?_)
                            · 
                              have hg143d := hg143
                              refine gq (y_bare (y_loads (cs := [_]) Tryd.isAgg24 Tryd.sizeOf24 rfl rfl (cells_box 6 rfl))) rfl rfl rfl ?_
                              refine gq_on rfl rfl rfl rfl hg143 ?_
                              refine gq (y_bare (y_loads (cs := [_]) Tryd.isAgg24 Tryd.sizeOf24 rfl rfl (cells_box 8 rfl))) rfl rfl rfl ?_
                              refine gq_on rfl rfl rfl rfl hg143 ?_
                              refine gq_pure (e_call (vs := [.agg #[_], .agg #[_]]) Tryd.func14 rfl (by kernel_rfl) rfl) (fun w hM => refEqPol_any w _ _ _ _ (norR l).2 [] ((hr31.seal_ 5 rfl (Nat.le_refl _) hM).mono (Nat.zero_le _)) Rdl.nil (Nat.le_trans hcc31 hcm31)) rfl rfl rfl ?_
                              refine gq (y_pick_t (v := .bool _) rfl hg143 rfl) rfl rfl rfl ?_
                              refine gq (y_assign (v := .bool _) rfl) rfl rfl rfl ?_
                              refine gqs_nil ?_
                              refine hN23 _ _ ?_
                              refine gfrom [(4, .bool _)] ⟨rfl, trivial⟩ fun σ => ?_
                              refine gret fun w1 hM => ?_
                              refine ⟨_, res1 rfl (rt (v := .bool _) rfl), ?_⟩
                              exact ⟨by rw [hN]; simp, hM.low⟩
                            · 
                               exact absurd hg143 (by rw [hN]; simp)
                          · 
                            replace hc139 := Decidable.not_not.1 (of_decide_eq_false hc139)
                            have hB : ¬ (24 < (nrm (treeOf l) false).size ∨ 12 < (nrm (treeOf l) false).depth) := fun h => absurd (hmk1.2 h) (by omega)
                            have hN : norR l = (⟨0, 0⟩, post (nrm (treeOf l) false) 0) := by rw [hN0, madeR, if_neg hB]
                            refine gskip ?_
                            refine hN21 _ _ ?_
                            refine gfrom [(10, .pointer _), (11, .pointer _), (15, .pointer _)] ⟨rfl, rfl, rfl, trivial⟩ fun σ => ?_
                            refine gseq fun N24 hN24 => ?_
                            refine greg ?_
                            refine gop (y_fieldAddr_box fa28_0 rfl) rfl rfl rfl ?_
                            refine gop (y_load Tryd.isAgg3 rfl (cell_box 7 rfl rfl)) rfl rfl rfl ?_
                            refine gop (y_eql rfl rfl) rfl rfl rfl ?_
                            refine gop (y_move (v := .bool _) rfl) rfl rfl rfl ?_
                            refine gop_if (want := true) rfl rfl rfl rfl rfl rfl (fun hg151 => ?_) (fun hg151 => ?_)
                            · 
                              have hg151d := of_decide_eq_true hg151
                              refine gop (y_bare (y_loads (cs := [_]) Tryd.isAgg24 Tryd.sizeOf24 rfl rfl (cells_box 6 rfl))) rfl rfl rfl ?_
                              refine gop_on rfl rfl rfl rfl hg151 ?_
                              refine gop (y_bare (y_loads (cs := [_]) Tryd.isAgg24 Tryd.sizeOf24 rfl rfl (cells_box 10 rfl))) rfl rfl rfl ?_
                              refine gop_on rfl rfl rfl rfl hg151 ?_
                              refine gop_pure (e_call (vs := [.agg #[_], .agg #[_]]) Tryd.func14 rfl (by kernel_rfl) rfl) (fun w hM => refEqPol_any w _ _ _ _ (norR l).2 (post (nrm (treeOf l) false) 0) ((hr31.seal_ 5 rfl (Nat.le_refl _) hM).mono (Nat.zero_le _)) ((row_rdl (f := pnCells) (fun _ => rfl) (hM.ok _ (List.mem_of_getElem? (i := 9) rfl))).mono (Nat.zero_le _)) (Nat.le_trans hcc31 hcm31)) rfl rfl rfl ?_
                              refine gop (y_pick_t (v := .bool _) rfl hg151 rfl) rfl rfl rfl ?_
                              refine gop (y_assign (v := .bool _) rfl) rfl rfl rfl ?_
                              refine gops_nil ?_
                              refine hN24 _ _ ?_
                              refine gfrom [(4, .bool _)] ⟨rfl, trivial⟩ fun σ => ?_
                              refine gret fun w1 hM => ?_
                              refine ⟨_, res1 rfl (rt (v := .bool _) rfl), ?_⟩
                              exact ⟨by rw [hN]; simp, hM.low⟩
                            · 
                               exact absurd hg151 (by rw [hN]; simp)
                      · 
                         exact absurd hg118 (by rw [hE]; simp)
                    · 
                      replace hc114 := of_decide_eq_false hc114
                      obtain ⟨hE, hV⟩ := evalF_ok hp (F := F) (by unfold factsBad; omega)
                      refine gseq fun N25 hN25 => ?_
                      refine greg ?_
                      refine gop (y_fieldAddr_box fa28_0 rfl) rfl rfl rfl ?_
                      refine gop (y_load Tryd.isAgg3 rfl (cell_box 4 rfl rfl)) rfl rfl rfl ?_
                      refine gop (y_neq rfl rfl) rfl rfl rfl ?_
                      refine gop (y_move (v := .bool _) rfl) rfl rfl rfl ?_
                      refine gop_if (want := false) rfl rfl rfl rfl rfl rfl (fun hg124 => ?_) (fun hg124 => ?_)
                      · 
                        have hg124d := Decidable.not_not.1 (of_decide_eq_false hg124)
                        refine gop (y_bare (y_move (v := .bool _) rfl)) rfl rfl rfl ?_
                        refine gop_on rfl rfl rfl rfl hg124 ?_
                        refine gop (y_bare (y_loads (cs := [_]) Tryd.isAgg24 Tryd.sizeOf24 rfl rfl (cells_box 0 rfl))) rfl rfl rfl ?_
                        refine gop_on rfl rfl rfl rfl hg124 ?_
                        refine gop (y_bare (y_move (v := .int _ _) rfl)) rfl rfl rfl ?_
                        refine gop_on rfl rfl rfl rfl hg124 ?_
                        refine gop (y_bare (y_loads (cs := [_, _, _, _]) Tryd.isAgg26 Tryd.sizeOf26 rfl rfl (cells_box 1 rfl))) rfl rfl rfl ?_
                        refine gop_on rfl rfl rfl rfl hg124 ?_
                        refine gop_pure (e_call (vs := [.agg #[_], .int _ _, .agg #[_, _, _, _]]) Tryd.func17 rfl (by kernel_rfl) rfl) (fun w hM => refTrue_any A c l hlc hcm F (by omega) (by omega) (treeOf l).size (treeOf l) _ (l.length - 1) w rfl (by omega) (hl.base hM) ht.ok ht.at_) rfl rfl rfl ?_
                        refine gop_on rfl rfl rfl rfl hg124 ?_
                        refine gop (y_bare (y_neqb rfl rfl Tryd.underlying4)) rfl rfl rfl ?_
                        refine gop (y_pick_f (v := .bool _) rfl hg124 rfl) rfl rfl rfl ?_
                        refine gops_nil ?_
                        refine hN25 _ _ ?_
                        refine gfrom [(2, .pointer _), (10, .pointer _), (11, .pointer _), (12, .pointer _), (13, .int _ _), (131, .bool _)] ⟨rfl, rfl, rfl, rfl, rfl, rfl, trivial⟩ fun σ => ?_
                        refine gcond (b := _) rfl (fun hc131 => ?_) (fun hc131 => ?_)
                        · 
                           exact absurd hc131 (by rw [hV]; simp)
                        · 
                          refine gskip ?_
                          refine hN17 _ _ ?_
                          refine gfrom [(2, .pointer _), (10, .pointer _), (11, .pointer _), (12, .pointer _), (13, .int _ _)] ⟨rfl, rfl, rfl, rfl, rfl, trivial⟩ fun σ => ?_
                          refine gseq fun N26 hN26 => ?_
                          refine greg ?_
                          refine gop (y_loads (cs := [_]) Tryd.isAgg24 Tryd.sizeOf24 rfl rfl (cells_box 0 rfl)) rfl rfl rfl ?_
                          refine gop (y_move (v := .int _ _) rfl) rfl rfl rfl ?_
                          refine gops_nilrow pnCells 47 4 ?_
                          refine gop_does1 9 (fun v r G => ∃ B' bc', v = .slice B' (post (nrm (treeOf l) false) 0).length bc' ∧ r = rowl pnCells w.heap.size 47 4 (.slice B' (post (nrm (treeOf l) false) 0).length bc') (post (nrm (treeOf l) false) 0) ∧ G = []) (e_call (vs := [.agg #[_], .int _ _, _, _]) Tryd.func18 rfl (by kernel_rfl) rfl) rfl (fun w fr1 hfr hM => (refNegated_any _ A c l hl hlc hcm (treeOf l).size (treeOf l) false _ (l.length - 1) w _ _ [] fr1 rfl (by omega) ht.ok ht.at_ (by simp; omega) hM).mono fun _ _ ⟨B', bc', h1, h2⟩ => ⟨_, _, [], h1, ⟨B', bc', rfl, rfl, rfl⟩, h2⟩) rfl rfl rfl ?_
                          rintro _ _ _ ⟨B134, bc134, rfl, rfl, rfl⟩
                          refine gops_fact (fun w hM => row_form (hM.ok _ (List.mem_of_getElem? (i := 9) rfl))) ?_
                          rintro ⟨A134, c134, hv134, hc134, hm134, hn134⟩
                          simp only [Value.slice.injEq] at hv134
                          obtain ⟨rfl, -, rfl⟩ := hv134
                          refine gop (y_build (vs := [(0, .slice _ _ _)]) (cells := #[_]) rfl (bd24_0 _ _ _)) rfl rfl rfl ?_
                          refine gop_alloc (cs := #[.slice none 0 0]) Tryd.zeroValue24 rfl rfl (fun b15 hb15 => ?_)
                          refine gop_store 10 (v := .agg #[_]) (cs' := #[_]) rfl rfl Tryd.sizeOf24 rfl rfl rfl rfl (Nat.le_of_ble_eq_true rfl) rfl rfl ?_
                          refine gops_nil ?_
                          refine hN26 _ _ ?_
                          refine gT [box b2 _, box b3 _, box b5 _, box b7 _, box b9 _, seal_ _ _, box b10 _, box b11 _, box b12 _, rowl _ _ _ _ _ _, box b15 _] rfl ?_
                          refine gfrom [(10, .pointer _), (11, .pointer _), (12, .pointer _), (15, .pointer _)] ⟨rfl, rfl, rfl, rfl, trivial⟩ fun σ => ?_
                          refine gseq fun N27 hN27 => ?_
                          refine gseq fun N28 hN28 => ?_
                          refine greg ?_
                          refine gop (y_loads (cs := [_]) Tryd.isAgg24 Tryd.sizeOf24 rfl rfl (cells_box 10 rfl)) rfl rfl rfl ?_
                          refine gop_pure (e_call (vs := [.agg #[_]]) Tryd.func8 rfl (by kernel_rfl) rfl) (fun w hM => polFault_any w _ _ (post (nrm (treeOf l) false) 0) ((row_rdl (f := pnCells) (fun _ => rfl) (hM.ok _ (List.mem_of_getElem? (i := 9) rfl))).mono (Nat.zero_le _)) hc134 hm134) rfl rfl rfl ?_
                          refine gop (y_field (cs := #[_, _]) rfl (fd28_0 _ _)) rfl rfl rfl ?_
                          refine gop (y_neq rfl rfl) rfl rfl rfl ?_
                          refine gops_nil ?_
                          refine hN28 _ _ ?_
                          refine gfrom [(10, .pointer _), (11, .pointer _), (12, .pointer _), (15, .pointer _), (139, .bool _)] ⟨rfl, rfl, rfl, rfl, rfl, trivial⟩ fun σ => ?_
                          refine gcond (b := _) rfl (fun hc139 => ?_) (fun hc139 => ?_)
                          · 
                            replace hc139 := of_decide_eq_true hc139
                            have hN : norR l = (⟨10, -1⟩, []) := by rw [hN0, madeR, if_pos (hmk1.1 hc139)]
                            refine gseq fun N29 hN29 => ?_
                            refine greg_q (by kernel_rfl) (by kernel_rfl) ?_
                            refine gq (y_loads (cs := [_, _]) Tryd.isAgg28 Tryd.sizeOf28 rfl rfl (cells_box 7 rfl)) rfl rfl rfl ?_
                            refine gq_pure (e_call (vs := [_, _]) Tryd.func16 rfl (by kernel_rfl) rfl) (fun w hM => fault_any w _ _) rfl rfl rfl ?_
                            refine gq (y_bin (vx := .agg #[_, _]) (vy := .agg #[_, _]) rfl rfl (fun w => eg28 _ _ _ _ _ w) (fun w => eq28 _ _ _ _ w)) rfl rfl rfl ?_
                            refine gq (y_move (v := .bool _) rfl) rfl rfl rfl ?_
                            refine gq_if (want := true) rfl rfl rfl rfl rfl rfl (fun hg143 => ?_) (fun hg143 => ?_)
                            · 
                              have hg143d := hg143
                              refine gq (y_bare (y_loads (cs := [_]) Tryd.isAgg24 Tryd.sizeOf24 rfl rfl (cells_box 6 rfl))) rfl rfl rfl ?_
                              refine gq_on rfl rfl rfl rfl hg143 ?_
                              refine gq (y_bare (y_loads (cs := [_]) Tryd.isAgg24 Tryd.sizeOf24 rfl rfl (cells_box 8 rfl))) rfl rfl rfl ?_
                              refine gq_on rfl rfl rfl rfl hg143 ?_
                              refine gq_pure (e_call (vs := [.agg #[_], .agg #[_]]) Tryd.func14 rfl (by kernel_rfl) rfl) (fun w hM => refEqPol_any w _ _ _ _ (norR l).2 [] ((hr31.seal_ 5 rfl (Nat.le_refl _) hM).mono (Nat.zero_le _)) Rdl.nil (Nat.le_trans hcc31 hcm31)) rfl rfl rfl ?_
                              refine gq (y_pick_t (v := .bool _) rfl hg143 rfl) rfl rfl rfl ?_
                              refine gq (y_assign (v := .bool _) rfl) rfl rfl rfl ?_
                              refine gqs_nil ?_
                              refine hN29 _ _ ?_
                              refine gfrom [(4, .bool _)] ⟨rfl, trivial⟩ fun σ => ?_
                              refine gret fun w1 hM => ?_
                              refine ⟨_, res1 rfl (rt (v := .bool _) rfl), ?_⟩
                              exact ⟨by rw [hN]; simp, hM.low⟩
                            · 
                               exact absurd hg143 (by rw [hN]; simp)
                          · 
                            replace hc139 := Decidable.not_not.1 (of_decide_eq_false hc139)
                            have hB : ¬ (24 < (nrm (treeOf l) false).size ∨ 12 < (nrm (treeOf l) false).depth) := fun h => absurd (hmk1.2 h) (by omega)
                            have hN : norR l = (⟨0, 0⟩, post (nrm (treeOf l) false) 0) := by rw [hN0, madeR, if_neg hB]
                            refine gskip ?_
                            refine hN27 _ _ ?_
                            refine gfrom [(10, .pointer _), (11, .pointer _), (15, .pointer _)] ⟨rfl, rfl, rfl, trivial⟩ fun σ => ?_
                            refine gseq fun N30 hN30 => ?_
                            refine greg ?_
                            refine gop (y_fieldAddr_box fa28_0 rfl) rfl rfl rfl ?_
                            refine gop (y_load Tryd.isAgg3 rfl (cell_box 7 rfl rfl)) rfl rfl rfl ?_
                            refine gop (y_eql rfl rfl) rfl rfl rfl ?_
                            refine gop (y_move (v := .bool _) rfl) rfl rfl rfl ?_
                            refine gop_if (want := true) rfl rfl rfl rfl rfl rfl (fun hg151 => ?_) (fun hg151 => ?_)
                            · 
                              have hg151d := of_decide_eq_true hg151
                              refine gop (y_bare (y_loads (cs := [_]) Tryd.isAgg24 Tryd.sizeOf24 rfl rfl (cells_box 6 rfl))) rfl rfl rfl ?_
                              refine gop_on rfl rfl rfl rfl hg151 ?_
                              refine gop (y_bare (y_loads (cs := [_]) Tryd.isAgg24 Tryd.sizeOf24 rfl rfl (cells_box 10 rfl))) rfl rfl rfl ?_
                              refine gop_on rfl rfl rfl rfl hg151 ?_
                              refine gop_pure (e_call (vs := [.agg #[_], .agg #[_]]) Tryd.func14 rfl (by kernel_rfl) rfl) (fun w hM => refEqPol_any w _ _ _ _ (norR l).2 (post (nrm (treeOf l) false) 0) ((hr31.seal_ 5 rfl (Nat.le_refl _) hM).mono (Nat.zero_le _)) ((row_rdl (f := pnCells) (fun _ => rfl) (hM.ok _ (List.mem_of_getElem? (i := 9) rfl))).mono (Nat.zero_le _)) (Nat.le_trans hcc31 hcm31)) rfl rfl rfl ?_
                              refine gop (y_pick_t (v := .bool _) rfl hg151 rfl) rfl rfl rfl ?_
                              refine gop (y_assign (v := .bool _) rfl) rfl rfl rfl ?_
                              refine gops_nil ?_
                              refine hN30 _ _ ?_
                              refine gfrom [(4, .bool _)] ⟨rfl, trivial⟩ fun σ => ?_
                              refine gret fun w1 hM => ?_
                              refine ⟨_, res1 rfl (rt (v := .bool _) rfl), ?_⟩
                              exact ⟨by rw [hN]; simp, hM.low⟩
                            · 
                               exact absurd hg151 (by rw [hN]; simp)
                      · 
                         exact absurd hg124 (by rw [hE]; simp)
                  · 
                    have hg110d := of_decide_eq_true hg110
                    refine gop_off rfl rfl rfl rfl hg110 rfl rfl ?_
                    refine gop_off rfl rfl rfl rfl hg110 rfl rfl ?_
                    refine gop (y_pick_t (v := .bool _) rfl hg110 rfl) rfl rfl rfl ?_
                    refine gops_nil ?_
                    refine hN18 _ _ ?_
                    refine gfrom [(2, .pointer _), (3, .pointer _), (8, .bool _), (9, .pointer _), (10, .pointer _), (11, .pointer _), (12, .pointer _), (13, .int _ _), (114, .bool _)] ⟨rfl, rfl, rfl, rfl, rfl, rfl, rfl, rfl, rfl, trivial⟩ fun σ => ?_
                    refine gcond (b := _) rfl (fun hc114 => ?_) (fun hc114 => ?_)
                    · 
                      obtain ⟨hE, hV⟩ := evalF_range hp (F := F) (by unfold factsBad; omega)
                      refine gseq fun N31 hN31 => ?_
                      refine greg_q (by kernel_rfl) (by kernel_rfl) ?_
                      refine gq (y_loads (cs := [_, _]) Tryd.isAgg28 Tryd.sizeOf28 rfl rfl (cells_box 4 rfl)) rfl rfl rfl ?_
                      refine gq_pure (e_call (vs := [_, _]) Tryd.func16 rfl (by kernel_rfl) rfl) (fun w hM => fault_any w _ _) rfl rfl rfl ?_
                      refine gq (y_bin (vx := .agg #[_, _]) (vy := .agg #[_, _]) rfl rfl (fun w => eg28 _ _ _ _ _ w) (fun w => ne28 _ _ _ _ w)) rfl rfl rfl ?_
                      refine gq (y_move (v := .bool _) rfl) rfl rfl rfl ?_
                      refine gq_if (want := false) rfl rfl rfl rfl rfl rfl (fun hg118 => ?_) (fun hg118 => ?_)
                      · 
                        have hg118d := hg118
                        refine gq (y_bare (y_move (v := .bool _) rfl)) rfl rfl rfl ?_
                        refine gq (y_pick_f (v := .bool _) rfl hg118 rfl) rfl rfl rfl ?_
                        refine gqs_nil ?_
                        refine hN31 _ _ ?_
                        refine gfrom [(2, .pointer _), (10, .pointer _), (11, .pointer _), (12, .pointer _), (13, .int _ _), (120, .bool _)] ⟨rfl, rfl, rfl, rfl, rfl, rfl, trivial⟩ fun σ => ?_
                        refine gcond (b := _) rfl (fun hc120 => ?_) (fun hc120 => ?_)
                        · 
                           exact absurd hc120 (by rw [hV]; simp)
                        · 
                          refine gskip ?_
                          refine hN17 _ _ ?_
                          refine gfrom [(2, .pointer _), (10, .pointer _), (11, .pointer _), (12, .pointer _), (13, .int _ _)] ⟨rfl, rfl, rfl, rfl, rfl, trivial⟩ fun σ => ?_
                          refine gseq fun N32 hN32 => ?_
                          refine greg ?_
                          refine gop (y_loads (cs := [_]) Tryd.isAgg24 Tryd.sizeOf24 rfl rfl (cells_box 0 rfl)) rfl rfl rfl ?_
                          refine gop (y_move (v := .int _ _) rfl) rfl rfl rfl ?_
                          refine gops_nilrow pnCells 47 4 ?_
                          refine gop_does1 9 (fun v r G => ∃ B' bc', v = .slice B' (post (nrm (treeOf l) false) 0).length bc' ∧ r = rowl pnCells w.heap.size 47 4 (.slice B' (post (nrm (treeOf l) false) 0).length bc') (post (nrm (treeOf l) false) 0) ∧ G = []) (e_call (vs := [.agg #[_], .int _ _, _, _]) Tryd.func18 rfl (by kernel_rfl) rfl) rfl (fun w fr1 hfr hM => (refNegated_any _ A c l hl hlc hcm (treeOf l).size (treeOf l) false _ (l.length - 1) w _ _ [] fr1 rfl (by omega) ht.ok ht.at_ (by simp; omega) hM).mono fun _ _ ⟨B', bc', h1, h2⟩ => ⟨_, _, [], h1, ⟨B', bc', rfl, rfl, rfl⟩, h2⟩) rfl rfl rfl ?_
                          rintro _ _ _ ⟨B134, bc134, rfl, rfl, rfl⟩
                          refine gops_fact (fun w hM => row_form (hM.ok _ (List.mem_of_getElem? (i := 9) rfl))) ?_
                          rintro ⟨A134, c134, hv134, hc134, hm134, hn134⟩
                          simp only [Value.slice.injEq] at hv134
                          obtain ⟨rfl, -, rfl⟩ := hv134
                          refine gop (y_build (vs := [(0, .slice _ _ _)]) (cells := #[_]) rfl (bd24_0 _ _ _)) rfl rfl rfl ?_
                          refine gop_alloc (cs := #[.slice none 0 0]) Tryd.zeroValue24 rfl rfl (fun b15 hb15 => ?_)
                          refine gop_store 10 (v := .agg #[_]) (cs' := #[_]) rfl rfl Tryd.sizeOf24 rfl rfl rfl rfl (Nat.le_of_ble_eq_true rfl) rfl rfl ?_
                          refine gops_nil ?_
                          refine hN32 _ _ ?_
                          refine gT [box b2 _, box b3 _, box b5 _, box b7 _, box b9 _, seal_ _ _, box b10 _, box b11 _, box b12 _, rowl _ _ _ _ _ _, box b15 _] rfl ?_
                          refine gfrom [(10, .pointer _), (11, .pointer _), (12, .pointer _), (15, .pointer _)] ⟨rfl, rfl, rfl, rfl, trivial⟩ fun σ => ?_
                          refine gseq fun N33 hN33 => ?_
                          refine gseq fun N34 hN34 => ?_
                          refine greg ?_
                          refine gop (y_loads (cs := [_]) Tryd.isAgg24 Tryd.sizeOf24 rfl rfl (cells_box 10 rfl)) rfl rfl rfl ?_
                          refine gop_pure (e_call (vs := [.agg #[_]]) Tryd.func8 rfl (by kernel_rfl) rfl) (fun w hM => polFault_any w _ _ (post (nrm (treeOf l) false) 0) ((row_rdl (f := pnCells) (fun _ => rfl) (hM.ok _ (List.mem_of_getElem? (i := 9) rfl))).mono (Nat.zero_le _)) hc134 hm134) rfl rfl rfl ?_
                          refine gop (y_field (cs := #[_, _]) rfl (fd28_0 _ _)) rfl rfl rfl ?_
                          refine gop (y_neq rfl rfl) rfl rfl rfl ?_
                          refine gops_nil ?_
                          refine hN34 _ _ ?_
                          refine gfrom [(10, .pointer _), (11, .pointer _), (12, .pointer _), (15, .pointer _), (139, .bool _)] ⟨rfl, rfl, rfl, rfl, rfl, trivial⟩ fun σ => ?_
                          refine gcond (b := _) rfl (fun hc139 => ?_) (fun hc139 => ?_)
                          · 
                            replace hc139 := of_decide_eq_true hc139
                            have hN : norR l = (⟨10, -1⟩, []) := by rw [hN0, madeR, if_pos (hmk1.1 hc139)]
                            refine gseq fun N35 hN35 => ?_
                            refine greg_q (by kernel_rfl) (by kernel_rfl) ?_
                            refine gq (y_loads (cs := [_, _]) Tryd.isAgg28 Tryd.sizeOf28 rfl rfl (cells_box 7 rfl)) rfl rfl rfl ?_
                            refine gq_pure (e_call (vs := [_, _]) Tryd.func16 rfl (by kernel_rfl) rfl) (fun w hM => fault_any w _ _) rfl rfl rfl ?_
                            refine gq (y_bin (vx := .agg #[_, _]) (vy := .agg #[_, _]) rfl rfl (fun w => eg28 _ _ _ _ _ w) (fun w => eq28 _ _ _ _ w)) rfl rfl rfl ?_
                            refine gq (y_move (v := .bool _) rfl) rfl rfl rfl ?_
                            refine gq_if (want := true) rfl rfl rfl rfl rfl rfl (fun hg143 => ?_) (fun hg143 => ?_)
                            · 
                              have hg143d := hg143
                              refine gq (y_bare (y_loads (cs := [_]) Tryd.isAgg24 Tryd.sizeOf24 rfl rfl (cells_box 6 rfl))) rfl rfl rfl ?_
                              refine gq_on rfl rfl rfl rfl hg143 ?_
                              refine gq (y_bare (y_loads (cs := [_]) Tryd.isAgg24 Tryd.sizeOf24 rfl rfl (cells_box 8 rfl))) rfl rfl rfl ?_
                              refine gq_on rfl rfl rfl rfl hg143 ?_
                              refine gq_pure (e_call (vs := [.agg #[_], .agg #[_]]) Tryd.func14 rfl (by kernel_rfl) rfl) (fun w hM => refEqPol_any w _ _ _ _ (norR l).2 [] ((hr31.seal_ 5 rfl (Nat.le_refl _) hM).mono (Nat.zero_le _)) Rdl.nil (Nat.le_trans hcc31 hcm31)) rfl rfl rfl ?_
                              refine gq (y_pick_t (v := .bool _) rfl hg143 rfl) rfl rfl rfl ?_
                              refine gq (y_assign (v := .bool _) rfl) rfl rfl rfl ?_
                              refine gqs_nil ?_
                              refine hN35 _ _ ?_
                              refine gfrom [(4, .bool _)] ⟨rfl, trivial⟩ fun σ => ?_
                              refine gret fun w1 hM => ?_
                              refine ⟨_, res1 rfl (rt (v := .bool _) rfl), ?_⟩
                              exact ⟨by rw [hN]; simp, hM.low⟩
                            · 
                               exact absurd hg143 (by rw [hN]; simp)
                          · 
                            replace hc139 := Decidable.not_not.1 (of_decide_eq_false hc139)
                            have hB : ¬ (24 < (nrm (treeOf l) false).size ∨ 12 < (nrm (treeOf l) false).depth) := fun h => absurd (hmk1.2 h) (by omega)
                            have hN : norR l = (⟨0, 0⟩, post (nrm (treeOf l) false) 0) := by rw [hN0, madeR, if_neg hB]
                            refine gskip ?_
                            refine hN33 _ _ ?_
                            refine gfrom [(10, .pointer _), (11, .pointer _), (15, .pointer _)] ⟨rfl, rfl, rfl, trivial⟩ fun σ => ?_
                            refine gseq fun N36 hN36 => ?_
                            refine greg ?_
                            refine gop (y_fieldAddr_box fa28_0 rfl) rfl rfl rfl ?_
                            refine gop (y_load Tryd.isAgg3 rfl (cell_box 7 rfl rfl)) rfl rfl rfl ?_
                            refine gop (y_eql rfl rfl) rfl rfl rfl ?_
                            refine gop (y_move (v := .bool _) rfl) rfl rfl rfl ?_
                            refine gop_if (want := true) rfl rfl rfl rfl rfl rfl (fun hg151 => ?_) (fun hg151 => ?_)
                            · 
                              have hg151d := of_decide_eq_true hg151
                              refine gop (y_bare (y_loads (cs := [_]) Tryd.isAgg24 Tryd.sizeOf24 rfl rfl (cells_box 6 rfl))) rfl rfl rfl ?_
                              refine gop_on rfl rfl rfl rfl hg151 ?_
                              refine gop (y_bare (y_loads (cs := [_]) Tryd.isAgg24 Tryd.sizeOf24 rfl rfl (cells_box 10 rfl))) rfl rfl rfl ?_
                              refine gop_on rfl rfl rfl rfl hg151 ?_
                              refine gop_pure (e_call (vs := [.agg #[_], .agg #[_]]) Tryd.func14 rfl (by kernel_rfl) rfl) (fun w hM => refEqPol_any w _ _ _ _ (norR l).2 (post (nrm (treeOf l) false) 0) ((hr31.seal_ 5 rfl (Nat.le_refl _) hM).mono (Nat.zero_le _)) ((row_rdl (f := pnCells) (fun _ => rfl) (hM.ok _ (List.mem_of_getElem? (i := 9) rfl))).mono (Nat.zero_le _)) (Nat.le_trans hcc31 hcm31)) rfl rfl rfl ?_
                              refine gop (y_pick_t (v := .bool _) rfl hg151 rfl) rfl rfl rfl ?_
                              refine gop (y_assign (v := .bool _) rfl) rfl rfl rfl ?_
                              refine gops_nil ?_
                              refine hN36 _ _ ?_
                              refine gfrom [(4, .bool _)] ⟨rfl, trivial⟩ fun σ => ?_
                              refine gret fun w1 hM => ?_
                              refine ⟨_, res1 rfl (rt (v := .bool _) rfl), ?_⟩
                              exact ⟨by rw [hN]; simp, hM.low⟩
                            · 
                               exact absurd hg151 (by rw [hN]; simp)
                      · 
                         exact absurd hg118 (by rw [hE]; simp)
                    · 
                      cases hc114
                · 
                  have hg105d := of_decide_eq_true hg105
                  refine gop_off rfl rfl rfl rfl hg105 rfl rfl ?_
                  refine gop_off rfl rfl rfl rfl hg105 rfl rfl ?_
                  refine gop (y_pick_t (v := .bool _) rfl hg105 rfl) rfl rfl rfl ?_
                  refine gop (y_move (v := .bool _) rfl) rfl rfl rfl ?_
                  refine gop_off rfl rfl rfl rfl rfl rfl rfl ?_
                  refine gop_off rfl rfl rfl rfl rfl rfl rfl ?_
                  refine gop_off rfl rfl rfl rfl rfl rfl rfl ?_
                  refine gop (y_pick_t (v := .bool _) rfl rfl rfl) rfl rfl rfl ?_
                  refine gops_nil ?_
                  refine hN18 _ _ ?_
                  refine gfrom [(2, .pointer _), (3, .pointer _), (8, .bool _), (9, .pointer _), (10, .pointer _), (11, .pointer _), (12, .pointer _), (13, .int _ _), (114, .bool _)] ⟨rfl, rfl, rfl, rfl, rfl, rfl, rfl, rfl, rfl, trivial⟩ fun σ => ?_
                  refine gcond (b := _) rfl (fun hc114 => ?_) (fun hc114 => ?_)
                  · 
                    obtain ⟨hE, hV⟩ := evalF_range hp (F := F) (by unfold factsBad; omega)
                    refine gseq fun N37 hN37 => ?_
                    refine greg_q (by kernel_rfl) (by kernel_rfl) ?_
                    refine gq (y_loads (cs := [_, _]) Tryd.isAgg28 Tryd.sizeOf28 rfl rfl (cells_box 4 rfl)) rfl rfl rfl ?_
                    refine gq_pure (e_call (vs := [_, _]) Tryd.func16 rfl (by kernel_rfl) rfl) (fun w hM => fault_any w _ _) rfl rfl rfl ?_
                    refine gq (y_bin (vx := .agg #[_, _]) (vy := .agg #[_, _]) rfl rfl (fun w => eg28 _ _ _ _ _ w) (fun w => ne28 _ _ _ _ w)) rfl rfl rfl ?_
                    refine gq (y_move (v := .bool _) rfl) rfl rfl rfl ?_
                    refine gq_if (want := false) rfl rfl rfl rfl rfl rfl (fun hg118 => ?_) (fun hg118 => ?_)
                    · 
                      have hg118d := hg118
                      refine gq (y_bare (y_move (v := .bool _) rfl)) rfl rfl rfl ?_
                      refine gq (y_pick_f (v := .bool _) rfl hg118 rfl) rfl rfl rfl ?_
                      refine gqs_nil ?_
                      refine hN37 _ _ ?_
                      refine gfrom [(2, .pointer _), (10, .pointer _), (11, .pointer _), (12, .pointer _), (13, .int _ _), (120, .bool _)] ⟨rfl, rfl, rfl, rfl, rfl, rfl, trivial⟩ fun σ => ?_
                      refine gcond (b := _) rfl (fun hc120 => ?_) (fun hc120 => ?_)
                      · 
                         exact absurd hc120 (by rw [hV]; simp)
                      · 
                        refine gskip ?_
                        refine hN17 _ _ ?_
                        refine gfrom [(2, .pointer _), (10, .pointer _), (11, .pointer _), (12, .pointer _), (13, .int _ _)] ⟨rfl, rfl, rfl, rfl, rfl, trivial⟩ fun σ => ?_
                        refine gseq fun N38 hN38 => ?_
                        refine greg ?_
                        refine gop (y_loads (cs := [_]) Tryd.isAgg24 Tryd.sizeOf24 rfl rfl (cells_box 0 rfl)) rfl rfl rfl ?_
                        refine gop (y_move (v := .int _ _) rfl) rfl rfl rfl ?_
                        refine gops_nilrow pnCells 47 4 ?_
                        refine gop_does1 9 (fun v r G => ∃ B' bc', v = .slice B' (post (nrm (treeOf l) false) 0).length bc' ∧ r = rowl pnCells w.heap.size 47 4 (.slice B' (post (nrm (treeOf l) false) 0).length bc') (post (nrm (treeOf l) false) 0) ∧ G = []) (e_call (vs := [.agg #[_], .int _ _, _, _]) Tryd.func18 rfl (by kernel_rfl) rfl) rfl (fun w fr1 hfr hM => (refNegated_any _ A c l hl hlc hcm (treeOf l).size (treeOf l) false _ (l.length - 1) w _ _ [] fr1 rfl (by omega) ht.ok ht.at_ (by simp; omega) hM).mono fun _ _ ⟨B', bc', h1, h2⟩ => ⟨_, _, [], h1, ⟨B', bc', rfl, rfl, rfl⟩, h2⟩) rfl rfl rfl ?_
                        rintro _ _ _ ⟨B134, bc134, rfl, rfl, rfl⟩
                        refine gops_fact (fun w hM => row_form (hM.ok _ (List.mem_of_getElem? (i := 9) rfl))) ?_
                        rintro ⟨A134, c134, hv134, hc134, hm134, hn134⟩
                        simp only [Value.slice.injEq] at hv134
                        obtain ⟨rfl, -, rfl⟩ := hv134
                        refine gop (y_build (vs := [(0, .slice _ _ _)]) (cells := #[_]) rfl (bd24_0 _ _ _)) rfl rfl rfl ?_
                        refine gop_alloc (cs := #[.slice none 0 0]) Tryd.zeroValue24 rfl rfl (fun b15 hb15 => ?_)
                        refine gop_store 10 (v := .agg #[_]) (cs' := #[_]) rfl rfl Tryd.sizeOf24 rfl rfl rfl rfl (Nat.le_of_ble_eq_true rfl) rfl rfl ?_
                        refine gops_nil ?_
                        refine hN38 _ _ ?_
                        refine gT [box b2 _, box b3 _, box b5 _, box b7 _, box b9 _, seal_ _ _, box b10 _, box b11 _, box b12 _, rowl _ _ _ _ _ _, box b15 _] rfl ?_
                        refine gfrom [(10, .pointer _), (11, .pointer _), (12, .pointer _), (15, .pointer _)] ⟨rfl, rfl, rfl, rfl, trivial⟩ fun σ => ?_
                        refine gseq fun N39 hN39 => ?_
                        refine gseq fun N40 hN40 => ?_
                        refine greg ?_
                        refine gop (y_loads (cs := [_]) Tryd.isAgg24 Tryd.sizeOf24 rfl rfl (cells_box 10 rfl)) rfl rfl rfl ?_
                        refine gop_pure (e_call (vs := [.agg #[_]]) Tryd.func8 rfl (by kernel_rfl) rfl) (fun w hM => polFault_any w _ _ (post (nrm (treeOf l) false) 0) ((row_rdl (f := pnCells) (fun _ => rfl) (hM.ok _ (List.mem_of_getElem? (i := 9) rfl))).mono (Nat.zero_le _)) hc134 hm134) rfl rfl rfl ?_
                        refine gop (y_field (cs := #[_, _]) rfl (fd28_0 _ _)) rfl rfl rfl ?_
                        refine gop (y_neq rfl rfl) rfl rfl rfl ?_
                        refine gops_nil ?_
                        refine hN40 _ _ ?_
                        refine gfrom [(10, .pointer _), (11, .pointer _), (12, .pointer _), (15, .pointer _), (139, .bool _)] ⟨rfl, rfl, rfl, rfl, rfl, trivial⟩ fun σ => ?_
                        refine gcond (b := _) rfl (fun hc139 => ?_) (fun hc139 => ?_)
                        · 
                          replace hc139 := of_decide_eq_true hc139
                          have hN : norR l = (⟨10, -1⟩, []) := by rw [hN0, madeR, if_pos (hmk1.1 hc139)]
                          refine gseq fun N41 hN41 => ?_
                          refine greg_q (by kernel_rfl) (by kernel_rfl) ?_
                          refine gq (y_loads (cs := [_, _]) Tryd.isAgg28 Tryd.sizeOf28 rfl rfl (cells_box 7 rfl)) rfl rfl rfl ?_
                          refine gq_pure (e_call (vs := [_, _]) Tryd.func16 rfl (by kernel_rfl) rfl) (fun w hM => fault_any w _ _) rfl rfl rfl ?_
                          refine gq (y_bin (vx := .agg #[_, _]) (vy := .agg #[_, _]) rfl rfl (fun w => eg28 _ _ _ _ _ w) (fun w => eq28 _ _ _ _ w)) rfl rfl rfl ?_
                          refine gq (y_move (v := .bool _) rfl) rfl rfl rfl ?_
                          refine gq_if (want := true) rfl rfl rfl rfl rfl rfl (fun hg143 => ?_) (fun hg143 => ?_)
                          · 
                            have hg143d := hg143
                            refine gq (y_bare (y_loads (cs := [_]) Tryd.isAgg24 Tryd.sizeOf24 rfl rfl (cells_box 6 rfl))) rfl rfl rfl ?_
                            refine gq_on rfl rfl rfl rfl hg143 ?_
                            refine gq (y_bare (y_loads (cs := [_]) Tryd.isAgg24 Tryd.sizeOf24 rfl rfl (cells_box 8 rfl))) rfl rfl rfl ?_
                            refine gq_on rfl rfl rfl rfl hg143 ?_
                            refine gq_pure (e_call (vs := [.agg #[_], .agg #[_]]) Tryd.func14 rfl (by kernel_rfl) rfl) (fun w hM => refEqPol_any w _ _ _ _ (norR l).2 [] ((hr31.seal_ 5 rfl (Nat.le_refl _) hM).mono (Nat.zero_le _)) Rdl.nil (Nat.le_trans hcc31 hcm31)) rfl rfl rfl ?_
                            refine gq (y_pick_t (v := .bool _) rfl hg143 rfl) rfl rfl rfl ?_
                            refine gq (y_assign (v := .bool _) rfl) rfl rfl rfl ?_
                            refine gqs_nil ?_
                            refine hN41 _ _ ?_
                            refine gfrom [(4, .bool _)] ⟨rfl, trivial⟩ fun σ => ?_
                            refine gret fun w1 hM => ?_
                            refine ⟨_, res1 rfl (rt (v := .bool _) rfl), ?_⟩
                            exact ⟨by rw [hN]; simp, hM.low⟩
                          · 
                             exact absurd hg143 (by rw [hN]; simp)
                        · 
                          replace hc139 := Decidable.not_not.1 (of_decide_eq_false hc139)
                          have hB : ¬ (24 < (nrm (treeOf l) false).size ∨ 12 < (nrm (treeOf l) false).depth) := fun h => absurd (hmk1.2 h) (by omega)
                          have hN : norR l = (⟨0, 0⟩, post (nrm (treeOf l) false) 0) := by rw [hN0, madeR, if_neg hB]
                          refine gskip ?_
                          refine hN39 _ _ ?_
                          refine gfrom [(10, .pointer _), (11, .pointer _), (15, .pointer _)] ⟨rfl, rfl, rfl, trivial⟩ fun σ => ?_
                          refine gseq fun N42 hN42 => ?_
                          refine greg ?_
                          refine gop (y_fieldAddr_box fa28_0 rfl) rfl rfl rfl ?_
                          refine gop (y_load Tryd.isAgg3 rfl (cell_box 7 rfl rfl)) rfl rfl rfl ?_
                          refine gop (y_eql rfl rfl) rfl rfl rfl ?_
                          refine gop (y_move (v := .bool _) rfl) rfl rfl rfl ?_
                          refine gop_if (want := true) rfl rfl rfl rfl rfl rfl (fun hg151 => ?_) (fun hg151 => ?_)
                          · 
                            have hg151d := of_decide_eq_true hg151
                            refine gop (y_bare (y_loads (cs := [_]) Tryd.isAgg24 Tryd.sizeOf24 rfl rfl (cells_box 6 rfl))) rfl rfl rfl ?_
                            refine gop_on rfl rfl rfl rfl hg151 ?_
                            refine gop (y_bare (y_loads (cs := [_]) Tryd.isAgg24 Tryd.sizeOf24 rfl rfl (cells_box 10 rfl))) rfl rfl rfl ?_
                            refine gop_on rfl rfl rfl rfl hg151 ?_
                            refine gop_pure (e_call (vs := [.agg #[_], .agg #[_]]) Tryd.func14 rfl (by kernel_rfl) rfl) (fun w hM => refEqPol_any w _ _ _ _ (norR l).2 (post (nrm (treeOf l) false) 0) ((hr31.seal_ 5 rfl (Nat.le_refl _) hM).mono (Nat.zero_le _)) ((row_rdl (f := pnCells) (fun _ => rfl) (hM.ok _ (List.mem_of_getElem? (i := 9) rfl))).mono (Nat.zero_le _)) (Nat.le_trans hcc31 hcm31)) rfl rfl rfl ?_
                            refine gop (y_pick_t (v := .bool _) rfl hg151 rfl) rfl rfl rfl ?_
                            refine gop (y_assign (v := .bool _) rfl) rfl rfl rfl ?_
                            refine gops_nil ?_
                            refine hN42 _ _ ?_
                            refine gfrom [(4, .bool _)] ⟨rfl, trivial⟩ fun σ => ?_
                            refine gret fun w1 hM => ?_
                            refine ⟨_, res1 rfl (rt (v := .bool _) rfl), ?_⟩
                            exact ⟨by rw [hN]; simp, hM.low⟩
                          · 
                             exact absurd hg151 (by rw [hN]; simp)
                    · 
                       exact absurd hg118 (by rw [hE]; simp)
                  · 
                    cases hc114
              · 
                have hg100d := of_decide_eq_true hg100
                refine gop_off rfl rfl rfl rfl hg100 rfl rfl ?_
                refine gop_off rfl rfl rfl rfl hg100 rfl rfl ?_
                refine gop (y_pick_t (v := .bool _) rfl hg100 rfl) rfl rfl rfl ?_
                refine gop (y_move (v := .bool _) rfl) rfl rfl rfl ?_
                refine gop_off rfl rfl rfl rfl rfl rfl rfl ?_
                refine gop_off rfl rfl rfl rfl rfl rfl rfl ?_
                refine gop_off rfl rfl rfl rfl rfl rfl rfl ?_
                refine gop (y_pick_t (v := .bool _) rfl rfl rfl) rfl rfl rfl ?_
                refine gop (y_move (v := .bool _) rfl) rfl rfl rfl ?_
                refine gop_off rfl rfl rfl rfl rfl rfl rfl ?_
                refine gop_off rfl rfl rfl rfl rfl rfl rfl ?_
                refine gop_off rfl rfl rfl rfl rfl rfl rfl ?_
                refine gop (y_pick_t (v := .bool _) rfl rfl rfl) rfl rfl rfl ?_
                refine gops_nil ?_
                refine hN18 _ _ ?_
                refine gfrom [(2, .pointer _), (3, .pointer _), (8, .bool _), (9, .pointer _), (10, .pointer _), (11, .pointer _), (12, .pointer _), (13, .int _ _), (114, .bool _)] ⟨rfl, rfl, rfl, rfl, rfl, rfl, rfl, rfl, rfl, trivial⟩ fun σ => ?_
                refine gcond (b := _) rfl (fun hc114 => ?_) (fun hc114 => ?_)
                · 
                  obtain ⟨hE, hV⟩ := evalF_range hp (F := F) (by unfold factsBad; omega)
                  refine gseq fun N43 hN43 => ?_
                  refine greg_q (by kernel_rfl) (by kernel_rfl) ?_
                  refine gq (y_loads (cs := [_, _]) Tryd.isAgg28 Tryd.sizeOf28 rfl rfl (cells_box 4 rfl)) rfl rfl rfl ?_
                  refine gq_pure (e_call (vs := [_, _]) Tryd.func16 rfl (by kernel_rfl) rfl) (fun w hM => fault_any w _ _) rfl rfl rfl ?_
                  refine gq (y_bin (vx := .agg #[_, _]) (vy := .agg #[_, _]) rfl rfl (fun w => eg28 _ _ _ _ _ w) (fun w => ne28 _ _ _ _ w)) rfl rfl rfl ?_
                  refine gq (y_move (v := .bool _) rfl) rfl rfl rfl ?_
                  refine gq_if (want := false) rfl rfl rfl rfl rfl rfl (fun hg118 => ?_) (fun hg118 => ?_)
                  · 
                    have hg118d := hg118
                    refine gq (y_bare (y_move (v := .bool _) rfl)) rfl rfl rfl ?_
                    refine gq (y_pick_f (v := .bool _) rfl hg118 rfl) rfl rfl rfl ?_
                    refine gqs_nil ?_
                    refine hN43 _ _ ?_
                    refine gfrom [(2, .pointer _), (10, .pointer _), (11, .pointer _), (12, .pointer _), (13, .int _ _), (120, .bool _)] ⟨rfl, rfl, rfl, rfl, rfl, rfl, trivial⟩ fun σ => ?_
                    refine gcond (b := _) rfl (fun hc120 => ?_) (fun hc120 => ?_)
                    · 
                       exact absurd hc120 (by rw [hV]; simp)
                    · 
                      refine gskip ?_
                      refine hN17 _ _ ?_
                      refine gfrom [(2, .pointer _), (10, .pointer _), (11, .pointer _), (12, .pointer _), (13, .int _ _)] ⟨rfl, rfl, rfl, rfl, rfl, trivial⟩ fun σ => ?_
                      refine gseq fun N44 hN44 => ?_
                      refine greg ?_
                      refine gop (y_loads (cs := [_]) Tryd.isAgg24 Tryd.sizeOf24 rfl rfl (cells_box 0 rfl)) rfl rfl rfl ?_
                      refine gop (y_move (v := .int _ _) rfl) rfl rfl rfl ?_
                      refine gops_nilrow pnCells 47 4 ?_
                      refine gop_does1 9 (fun v r G => ∃ B' bc', v = .slice B' (post (nrm (treeOf l) false) 0).length bc' ∧ r = rowl pnCells w.heap.size 47 4 (.slice B' (post (nrm (treeOf l) false) 0).length bc') (post (nrm (treeOf l) false) 0) ∧ G = []) (e_call (vs := [.agg #[_], .int _ _, _, _]) Tryd.func18 rfl (by kernel_rfl) rfl) rfl (fun w fr1 hfr hM => (refNegated_any _ A c l hl hlc hcm (treeOf l).size (treeOf l) false _ (l.length - 1) w _ _ [] fr1 rfl (by omega) ht.ok ht.at_ (by simp; omega) hM).mono fun _ _ ⟨B', bc', h1, h2⟩ => ⟨_, _, [], h1, ⟨B', bc', rfl, rfl, rfl⟩, h2⟩) rfl rfl rfl ?_
                      rintro _ _ _ ⟨B134, bc134, rfl, rfl, rfl⟩
                      refine gops_fact (fun w hM => row_form (hM.ok _ (List.mem_of_getElem? (i := 9) rfl))) ?_
                      rintro ⟨A134, c134, hv134, hc134, hm134, hn134⟩
                      simp only [Value.slice.injEq] at hv134
                      obtain ⟨rfl, -, rfl⟩ := hv134
                      refine gop (y_build (vs := [(0, .slice _ _ _)]) (cells := #[_]) rfl (bd24_0 _ _ _)) rfl rfl rfl ?_
                      refine gop_alloc (cs := #[.slice none 0 0]) Tryd.zeroValue24 rfl rfl (fun b15 hb15 => ?_)
                      refine gop_store 10 (v := .agg #[_]) (cs' := #[_]) rfl rfl Tryd.sizeOf24 rfl rfl rfl rfl (Nat.le_of_ble_eq_true rfl) rfl rfl ?_
                      refine gops_nil ?_
                      refine hN44 _ _ ?_
                      refine gT [box b2 _, box b3 _, box b5 _, box b7 _, box b9 _, seal_ _ _, box b10 _, box b11 _, box b12 _, rowl _ _ _ _ _ _, box b15 _] rfl ?_
                      refine gfrom [(10, .pointer _), (11, .pointer _), (12, .pointer _), (15, .pointer _)] ⟨rfl, rfl, rfl, rfl, trivial⟩ fun σ => ?_
                      refine gseq fun N45 hN45 => ?_
                      refine gseq fun N46 hN46 => ?_
                      refine greg ?_
                      refine gop (y_loads (cs := [_]) Tryd.isAgg24 Tryd.sizeOf24 rfl rfl (cells_box 10 rfl)) rfl rfl rfl ?_
                      refine gop_pure (e_call (vs := [.agg #[_]]) Tryd.func8 rfl (by kernel_rfl) rfl) (fun w hM => polFault_any w _ _ (post (nrm (treeOf l) false) 0) ((row_rdl (f := pnCells) (fun _ => rfl) (hM.ok _ (List.mem_of_getElem? (i := 9) rfl))).mono (Nat.zero_le _)) hc134 hm134) rfl rfl rfl ?_
                      refine gop (y_field (cs := #[_, _]) rfl (fd28_0 _ _)) rfl rfl rfl ?_
                      refine gop (y_neq rfl rfl) rfl rfl rfl ?_
                      refine gops_nil ?_
                      refine hN46 _ _ ?_
                      refine gfrom [(10, .pointer _), (11, .pointer _), (12, .pointer _), (15, .pointer _), (139, .bool _)] ⟨rfl, rfl, rfl, rfl, rfl, trivial⟩ fun σ => ?_
                      refine gcond (b := _) rfl (fun hc139 => ?_) (fun hc139 => ?_)
                      · 
                        replace hc139 := of_decide_eq_true hc139
                        have hN : norR l = (⟨10, -1⟩, []) := by rw [hN0, madeR, if_pos (hmk1.1 hc139)]
                        refine gseq fun N47 hN47 => ?_
                        refine greg_q (by kernel_rfl) (by kernel_rfl) ?_
                        refine gq (y_loads (cs := [_, _]) Tryd.isAgg28 Tryd.sizeOf28 rfl rfl (cells_box 7 rfl)) rfl rfl rfl ?_
                        refine gq_pure (e_call (vs := [_, _]) Tryd.func16 rfl (by kernel_rfl) rfl) (fun w hM => fault_any w _ _) rfl rfl rfl ?_
                        refine gq (y_bin (vx := .agg #[_, _]) (vy := .agg #[_, _]) rfl rfl (fun w => eg28 _ _ _ _ _ w) (fun w => eq28 _ _ _ _ w)) rfl rfl rfl ?_
                        refine gq (y_move (v := .bool _) rfl) rfl rfl rfl ?_
                        refine gq_if (want := true) rfl rfl rfl rfl rfl rfl (fun hg143 => ?_) (fun hg143 => ?_)
                        · 
                          have hg143d := hg143
                          refine gq (y_bare (y_loads (cs := [_]) Tryd.isAgg24 Tryd.sizeOf24 rfl rfl (cells_box 6 rfl))) rfl rfl rfl ?_
                          refine gq_on rfl rfl rfl rfl hg143 ?_
                          refine gq (y_bare (y_loads (cs := [_]) Tryd.isAgg24 Tryd.sizeOf24 rfl rfl (cells_box 8 rfl))) rfl rfl rfl ?_
                          refine gq_on rfl rfl rfl rfl hg143 ?_
                          refine gq_pure (e_call (vs := [.agg #[_], .agg #[_]]) Tryd.func14 rfl (by kernel_rfl) rfl) (fun w hM => refEqPol_any w _ _ _ _ (norR l).2 [] ((hr31.seal_ 5 rfl (Nat.le_refl _) hM).mono (Nat.zero_le _)) Rdl.nil (Nat.le_trans hcc31 hcm31)) rfl rfl rfl ?_
                          refine gq (y_pick_t (v := .bool _) rfl hg143 rfl) rfl rfl rfl ?_
                          refine gq (y_assign (v := .bool _) rfl) rfl rfl rfl ?_
                          refine gqs_nil ?_
                          refine hN47 _ _ ?_
                          refine gfrom [(4, .bool _)] ⟨rfl, trivial⟩ fun σ => ?_
                          refine gret fun w1 hM => ?_
                          refine ⟨_, res1 rfl (rt (v := .bool _) rfl), ?_⟩
                          exact ⟨by rw [hN]; simp, hM.low⟩
                        · 
                           exact absurd hg143 (by rw [hN]; simp)
                      · 
                        replace hc139 := Decidable.not_not.1 (of_decide_eq_false hc139)
                        have hB : ¬ (24 < (nrm (treeOf l) false).size ∨ 12 < (nrm (treeOf l) false).depth) := fun h => absurd (hmk1.2 h) (by omega)
                        have hN : norR l = (⟨0, 0⟩, post (nrm (treeOf l) false) 0) := by rw [hN0, madeR, if_neg hB]
                        refine gskip ?_
                        refine hN45 _ _ ?_
                        refine gfrom [(10, .pointer _), (11, .pointer _), (15, .pointer _)] ⟨rfl, rfl, rfl, trivial⟩ fun σ => ?_
                        refine gseq fun N48 hN48 => ?_
                        refine greg ?_
                        refine gop (y_fieldAddr_box fa28_0 rfl) rfl rfl rfl ?_
                        refine gop (y_load Tryd.isAgg3 rfl (cell_box 7 rfl rfl)) rfl rfl rfl ?_
                        refine gop (y_eql rfl rfl) rfl rfl rfl ?_
                        refine gop (y_move (v := .bool _) rfl) rfl rfl rfl ?_
                        refine gop_if (want := true) rfl rfl rfl rfl rfl rfl (fun hg151 => ?_) (fun hg151 => ?_)
                        · 
                          have hg151d := of_decide_eq_true hg151
                          refine gop (y_bare (y_loads (cs := [_]) Tryd.isAgg24 Tryd.sizeOf24 rfl rfl (cells_box 6 rfl))) rfl rfl rfl ?_
                          refine gop_on rfl rfl rfl rfl hg151 ?_
                          refine gop (y_bare (y_loads (cs := [_]) Tryd.isAgg24 Tryd.sizeOf24 rfl rfl (cells_box 10 rfl))) rfl rfl rfl ?_
                          refine gop_on rfl rfl rfl rfl hg151 ?_
                          refine gop_pure (e_call (vs := [.agg #[_], .agg #[_]]) Tryd.func14 rfl (by kernel_rfl) rfl) (fun w hM => refEqPol_any w _ _ _ _ (norR l).2 (post (nrm (treeOf l) false) 0) ((hr31.seal_ 5 rfl (Nat.le_refl _) hM).mono (Nat.zero_le _)) ((row_rdl (f := pnCells) (fun _ => rfl) (hM.ok _ (List.mem_of_getElem? (i := 9) rfl))).mono (Nat.zero_le _)) (Nat.le_trans hcc31 hcm31)) rfl rfl rfl ?_
                          refine gop (y_pick_t (v := .bool _) rfl hg151 rfl) rfl rfl rfl ?_
                          refine gop (y_assign (v := .bool _) rfl) rfl rfl rfl ?_
                          refine gops_nil ?_
                          refine hN48 _ _ ?_
                          refine gfrom [(4, .bool _)] ⟨rfl, trivial⟩ fun σ => ?_
                          refine gret fun w1 hM => ?_
                          refine ⟨_, res1 rfl (rt (v := .bool _) rfl), ?_⟩
                          exact ⟨by rw [hN]; simp, hM.low⟩
                        · 
                           exact absurd hg151 (by rw [hN]; simp)
                  · 
                     exact absurd hg118 (by rw [hE]; simp)
                · 
                  cases hc114
          · 
             exact absurd hg85 (by rw [hF]; simp)
        · 
          replace hc81 := of_decide_eq_false hc81
          have hF : fmtR l = (⟨0, 0⟩, showB (treeOf l) 0) := by rw [hF0, if_neg (by omega)]
          refine gseq fun N49 hN49 => ?_
          refine greg ?_
          refine gop (y_fieldAddr_box fa28_0 rfl) rfl rfl rfl ?_
          refine gop (y_load Tryd.isAgg3 rfl (cell_box 3 rfl rfl)) rfl rfl rfl ?_
          refine gop (y_neq rfl rfl) rfl rfl rfl ?_
          refine gop (y_move (v := .bool _) rfl) rfl rfl rfl ?_
          refine gop_if (want := false) rfl rfl rfl rfl rfl rfl (fun hg92 => ?_) (fun hg92 => ?_)
          · 
            have hg92d := Decidable.not_not.1 (of_decide_eq_false hg92)
            refine gop (y_bare (y_move (v := .string _) rfl)) rfl rfl rfl ?_
            refine gop_on rfl rfl rfl rfl hg92 ?_
            refine gop (y_bare (y_move (v := .string _) rfl)) rfl rfl rfl ?_
            refine gop_on rfl rfl rfl rfl hg92 ?_
            refine gop (y_bare (y_neqs rfl rfl)) rfl rfl rfl ?_
            refine gop (y_pick_f (v := .bool _) rfl hg92 rfl) rfl rfl rfl ?_
            refine gops_nil ?_
            refine hN49 _ _ ?_
            refine gfrom [(2, .pointer _), (3, .pointer _), (8, .bool _), (9, .pointer _), (10, .pointer _), (11, .pointer _), (12, .pointer _), (13, .int _ _), (96, .bool _)] ⟨rfl, rfl, rfl, rfl, rfl, rfl, rfl, rfl, rfl, trivial⟩ fun σ => ?_
            refine gcond (b := _) rfl (fun hc96 => ?_) (fun hc96 => ?_)
            · 
               exact absurd hc96 (by rw [hF]; simp)
            · 
              refine gskip ?_
              refine hN14 _ _ ?_
              refine gfrom [(2, .pointer _), (3, .pointer _), (8, .bool _), (9, .pointer _), (10, .pointer _), (11, .pointer _), (12, .pointer _), (13, .int _ _)] ⟨rfl, rfl, rfl, rfl, rfl, rfl, rfl, rfl, trivial⟩ fun σ => ?_
              refine gseq fun N50 hN50 => ?_
              refine gseq fun N51 hN51 => ?_
              refine greg ?_
              refine gop (y_fieldAddr_box fa26_0 rfl) rfl rfl rfl ?_
              refine gop (y_load Tryd.isAgg3 rfl (cell_box 1 rfl rfl)) rfl rfl rfl ?_
              refine gop (y_lss rfl rfl) rfl rfl rfl ?_
              refine gop (y_move (v := .bool _) rfl) rfl rfl rfl ?_
              refine gop_if (want := false) rfl rfl rfl rfl rfl rfl (fun hg100 => ?_) (fun hg100 => ?_)
              · 
                have hg100d := of_decide_eq_false hg100
                refine gop (y_bare (y_fieldAddr_box fa26_0 rfl)) rfl rfl rfl ?_
                refine gop_on rfl rfl rfl rfl hg100 ?_
                refine gop (y_bare (y_load Tryd.isAgg3 rfl (cell_box 1 rfl rfl))) rfl rfl rfl ?_
                refine gop_on rfl rfl rfl rfl hg100 ?_
                refine gop (y_bare (y_gtr rfl rfl)) rfl rfl rfl ?_
                refine gop (y_pick_f (v := .bool _) rfl hg100 rfl) rfl rfl rfl ?_
                refine gop (y_move (v := .bool _) rfl) rfl rfl rfl ?_
                refine gop_if (want := false) rfl rfl rfl rfl rfl rfl (fun hg105 => ?_) (fun hg105 => ?_)
                · 
                  have hg105d := of_decide_eq_false hg105
                  refine gop (y_bare (y_fieldAddr_box fa26_3 rfl)) rfl rfl rfl ?_
                  refine gop_on rfl rfl rfl rfl hg105 ?_
                  refine gop (y_bare (y_load Tryd.isAgg3 rfl (cell_box 1 rfl rfl))) rfl rfl rfl ?_
                  refine gop_on rfl rfl rfl rfl hg105 ?_
                  refine gop (y_bare (y_lss rfl rfl)) rfl rfl rfl ?_
                  refine gop (y_pick_f (v := .bool _) rfl hg105 rfl) rfl rfl rfl ?_
                  refine gop (y_move (v := .bool _) rfl) rfl rfl rfl ?_
                  refine gop_if (want := false) rfl rfl rfl rfl rfl rfl (fun hg110 => ?_) (fun hg110 => ?_)
                  · 
                    have hg110d := of_decide_eq_false hg110
                    refine gop (y_bare (y_fieldAddr_box fa26_3 rfl)) rfl rfl rfl ?_
                    refine gop_on rfl rfl rfl rfl hg110 ?_
                    refine gop (y_bare (y_load Tryd.isAgg3 rfl (cell_box 1 rfl rfl))) rfl rfl rfl ?_
                    refine gop_on rfl rfl rfl rfl hg110 ?_
                    refine gop (y_bare (y_gtr rfl rfl)) rfl rfl rfl ?_
                    refine gop (y_pick_f (v := .bool _) rfl hg110 rfl) rfl rfl rfl ?_
                    refine gops_nil ?_
                    refine hN51 _ _ ?_
                    refine gfrom [(2, .pointer _), (3, .pointer _), (8, .bool _), (9, .pointer _), (10, .pointer _), (11, .pointer _), (12, .pointer _), (13, .int _ _), (114, .bool _)] ⟨rfl, rfl, rfl, rfl, rfl, rfl, rfl, rfl, rfl, trivial⟩ fun σ => ?_
                    refine gcond (b := _) rfl (fun hc114 => ?_) (fun hc114 => ?_)
                    · 
                      replace hc114 := of_decide_eq_true hc114
                      obtain ⟨hE, hV⟩ := evalF_range hp (F := F) (by unfold factsBad; omega)
                      refine gseq fun N52 hN52 => ?_
                      refine greg_q (by kernel_rfl) (by kernel_rfl) ?_
                      refine gq (y_loads (cs := [_, _]) Tryd.isAgg28 Tryd.sizeOf28 rfl rfl (cells_box 4 rfl)) rfl rfl rfl ?_
                      refine gq_pure (e_call (vs := [_, _]) Tryd.func16 rfl (by kernel_rfl) rfl) (fun w hM => fault_any w _ _) rfl rfl rfl ?_
                      refine gq (y_bin (vx := .agg #[_, _]) (vy := .agg #[_, _]) rfl rfl (fun w => eg28 _ _ _ _ _ w) (fun w => ne28 _ _ _ _ w)) rfl rfl rfl ?_
                      refine gq (y_move (v := .bool _) rfl) rfl rfl rfl ?_
                      refine gq_if (want := false) rfl rfl rfl rfl rfl rfl (fun hg118 => ?_) (fun hg118 => ?_)
                      · 
                        have hg118d := hg118
                        refine gq (y_bare (y_move (v := .bool _) rfl)) rfl rfl rfl ?_
                        refine gq (y_pick_f (v := .bool _) rfl hg118 rfl) rfl rfl rfl ?_
                        refine gqs_nil ?_
                        refine hN52 _ _ ?_
                        refine gfrom [(2, .pointer _), (10, .pointer _), (11, .pointer _), (12, .pointer _), (13, .int _ _), (120, .bool _)] ⟨rfl, rfl, rfl, rfl, rfl, rfl, trivial⟩ fun σ => ?_
                        refine gcond (b := _) rfl (fun hc120 => ?_) (fun hc120 => ?_)
                        · 
                           exact absurd hc120 (by rw [hV]; simp)
                        · 
                          refine gskip ?_
                          refine hN50 _ _ ?_
                          refine gfrom [(2, .pointer _), (10, .pointer _), (11, .pointer _), (12, .pointer _), (13, .int _ _)] ⟨rfl, rfl, rfl, rfl, rfl, trivial⟩ fun σ => ?_
                          refine gseq fun N53 hN53 => ?_
                          refine greg ?_
                          refine gop (y_loads (cs := [_]) Tryd.isAgg24 Tryd.sizeOf24 rfl rfl (cells_box 0 rfl)) rfl rfl rfl ?_
                          refine gop (y_move (v := .int _ _) rfl) rfl rfl rfl ?_
                          refine gops_nilrow pnCells 47 4 ?_
                          refine gop_does1 9 (fun v r G => ∃ B' bc', v = .slice B' (post (nrm (treeOf l) false) 0).length bc' ∧ r = rowl pnCells w.heap.size 47 4 (.slice B' (post (nrm (treeOf l) false) 0).length bc') (post (nrm (treeOf l) false) 0) ∧ G = []) (e_call (vs := [.agg #[_], .int _ _, _, _]) Tryd.func18 rfl (by kernel_rfl) rfl) rfl (fun w fr1 hfr hM => (refNegated_any _ A c l hl hlc hcm (treeOf l).size (treeOf l) false _ (l.length - 1) w _ _ [] fr1 rfl (by omega) ht.ok ht.at_ (by simp; omega) hM).mono fun _ _ ⟨B', bc', h1, h2⟩ => ⟨_, _, [], h1, ⟨B', bc', rfl, rfl, rfl⟩, h2⟩) rfl rfl rfl ?_
                          rintro _ _ _ ⟨B134, bc134, rfl, rfl, rfl⟩
                          refine gops_fact (fun w hM => row_form (hM.ok _ (List.mem_of_getElem? (i := 9) rfl))) ?_
                          rintro ⟨A134, c134, hv134, hc134, hm134, hn134⟩
                          simp only [Value.slice.injEq] at hv134
                          obtain ⟨rfl, -, rfl⟩ := hv134
                          refine gop (y_build (vs := [(0, .slice _ _ _)]) (cells := #[_]) rfl (bd24_0 _ _ _)) rfl rfl rfl ?_
                          refine gop_alloc (cs := #[.slice none 0 0]) Tryd.zeroValue24 rfl rfl (fun b15 hb15 => ?_)
                          refine gop_store 10 (v := .agg #[_]) (cs' := #[_]) rfl rfl Tryd.sizeOf24 rfl rfl rfl rfl (Nat.le_of_ble_eq_true rfl) rfl rfl ?_
                          refine gops_nil ?_
                          refine hN53 _ _ ?_
                          refine gT [box b2 _, box b3 _, box b5 _, box b7 _, box b9 _, seal_ _ _, box b10 _, box b11 _, box b12 _, rowl _ _ _ _ _ _, box b15 _] rfl ?_
                          refine gfrom [(10, .pointer _), (11, .pointer _), (12, .pointer _), (15, .pointer _)] ⟨rfl, rfl, rfl, rfl, trivial⟩ fun σ => ?_
                          refine gseq fun N54 hN54 => ?_
                          refine gseq fun N55 hN55 => ?_
                          refine greg ?_
                          refine gop (y_loads (cs := [_]) Tryd.isAgg24 Tryd.sizeOf24 rfl rfl (cells_box 10 rfl)) rfl rfl rfl ?_
                          refine gop_pure (e_call (vs := [.agg #[_]]) Tryd.func8 rfl (by kernel_rfl) rfl) (fun w hM => polFault_any w _ _ (post (nrm (treeOf l) false) 0) ((row_rdl (f := pnCells) (fun _ => rfl) (hM.ok _ (List.mem_of_getElem? (i := 9) rfl))).mono (Nat.zero_le _)) hc134 hm134) rfl rfl rfl ?_
                          refine gop (y_field (cs := #[_, _]) rfl (fd28_0 _ _)) rfl rfl rfl ?_
                          refine gop (y_neq rfl rfl) rfl rfl rfl ?_
                          refine gops_nil ?_
                          refine hN55 _ _ ?_
                          refine gfrom [(10, .pointer _), (11, .pointer _), (12, .pointer _), (15, .pointer _), (139, .bool _)] ⟨rfl, rfl, rfl, rfl, rfl, trivial⟩ fun σ => ?_
                          refine gcond (b := _) rfl (fun hc139 => ?_) (fun hc139 => ?_)
                          · 
                            replace hc139 := of_decide_eq_true hc139
                            have hN : norR l = (⟨10, -1⟩, []) := by rw [hN0, madeR, if_pos (hmk1.1 hc139)]
                            refine gseq fun N56 hN56 => ?_
                            refine greg_q (by kernel_rfl) (by kernel_rfl) ?_
                            refine gq (y_loads (cs := [_, _]) Tryd.isAgg28 Tryd.sizeOf28 rfl rfl (cells_box 7 rfl)) rfl rfl rfl ?_
                            refine gq_pure (e_call (vs := [_, _]) Tryd.func16 rfl (by kernel_rfl) rfl) (fun w hM => fault_any w _ _) rfl rfl rfl ?_
                            refine gq (y_bin (vx := .agg #[_, _]) (vy := .agg #[_, _]) rfl rfl (fun w => eg28 _ _ _ _ _ w) (fun w => eq28 _ _ _ _ w)) rfl rfl rfl ?_
                            refine gq (y_move (v := .bool _) rfl) rfl rfl rfl ?_
                            refine gq_if (want := true) rfl rfl rfl rfl rfl rfl (fun hg143 => ?_) (fun hg143 => ?_)
                            · 
                              have hg143d := hg143
                              refine gq (y_bare (y_loads (cs := [_]) Tryd.isAgg24 Tryd.sizeOf24 rfl rfl (cells_box 6 rfl))) rfl rfl rfl ?_
                              refine gq_on rfl rfl rfl rfl hg143 ?_
                              refine gq (y_bare (y_loads (cs := [_]) Tryd.isAgg24 Tryd.sizeOf24 rfl rfl (cells_box 8 rfl))) rfl rfl rfl ?_
                              refine gq_on rfl rfl rfl rfl hg143 ?_
                              refine gq_pure (e_call (vs := [.agg #[_], .agg #[_]]) Tryd.func14 rfl (by kernel_rfl) rfl) (fun w hM => refEqPol_any w _ _ _ _ (norR l).2 [] ((hr31.seal_ 5 rfl (Nat.le_refl _) hM).mono (Nat.zero_le _)) Rdl.nil (Nat.le_trans hcc31 hcm31)) rfl rfl rfl ?_
                              refine gq (y_pick_t (v := .bool _) rfl hg143 rfl) rfl rfl rfl ?_
                              refine gq (y_assign (v := .bool _) rfl) rfl rfl rfl ?_
                              refine gqs_nil ?_
                              refine hN56 _ _ ?_
                              refine gfrom [(4, .bool _)] ⟨rfl, trivial⟩ fun σ => ?_
                              refine gret fun w1 hM => ?_
                              refine ⟨_, res1 rfl (rt (v := .bool _) rfl), ?_⟩
                              exact ⟨by rw [hN]; simp, hM.low⟩
                            · 
                               exact absurd hg143 (by rw [hN]; simp)
                          · 
                            replace hc139 := Decidable.not_not.1 (of_decide_eq_false hc139)
                            have hB : ¬ (24 < (nrm (treeOf l) false).size ∨ 12 < (nrm (treeOf l) false).depth) := fun h => absurd (hmk1.2 h) (by omega)
                            have hN : norR l = (⟨0, 0⟩, post (nrm (treeOf l) false) 0) := by rw [hN0, madeR, if_neg hB]
                            refine gskip ?_
                            refine hN54 _ _ ?_
                            refine gfrom [(10, .pointer _), (11, .pointer _), (15, .pointer _)] ⟨rfl, rfl, rfl, trivial⟩ fun σ => ?_
                            refine gseq fun N57 hN57 => ?_
                            refine greg ?_
                            refine gop (y_fieldAddr_box fa28_0 rfl) rfl rfl rfl ?_
                            refine gop (y_load Tryd.isAgg3 rfl (cell_box 7 rfl rfl)) rfl rfl rfl ?_
                            refine gop (y_eql rfl rfl) rfl rfl rfl ?_
                            refine gop (y_move (v := .bool _) rfl) rfl rfl rfl ?_
                            refine gop_if (want := true) rfl rfl rfl rfl rfl rfl (fun hg151 => ?_) (fun hg151 => ?_)
                            · 
                              have hg151d := of_decide_eq_true hg151
                              refine gop (y_bare (y_loads (cs := [_]) Tryd.isAgg24 Tryd.sizeOf24 rfl rfl (cells_box 6 rfl))) rfl rfl rfl ?_
                              refine gop_on rfl rfl rfl rfl hg151 ?_
                              refine gop (y_bare (y_loads (cs := [_]) Tryd.isAgg24 Tryd.sizeOf24 rfl rfl (cells_box 10 rfl))) rfl rfl rfl ?_
                              refine gop_on rfl rfl rfl rfl hg151 ?_
                              refine gop_pure (e_call (vs := [.agg #[_], .agg #[_]]) Tryd.func14 rfl (by kernel_rfl) rfl) (fun w hM => refEqPol_any w _ _ _ _ (norR l).2 (post (nrm (treeOf l) false) 0) ((hr31.seal_ 5 rfl (Nat.le_refl _) hM).mono (Nat.zero_le _)) ((row_rdl (f := pnCells) (fun _ => rfl) (hM.ok _ (List.mem_of_getElem? (i := 9) rfl))).mono (Nat.zero_le _)) (Nat.le_trans hcc31 hcm31)) rfl rfl rfl ?_
                              refine gop (y_pick_t (v := .bool _) rfl hg151 rfl) rfl rfl rfl ?_
                              refine gop (y_assign (v := .bool _) rfl) rfl rfl rfl ?_
                              refine gops_nil ?_
                              refine hN57 _ _ ?_
                              refine gfrom [(4, .bool _)] ⟨rfl, trivial⟩ fun σ => ?_
                              refine gret fun w1 hM => ?_
                              refine ⟨_, res1 rfl (rt (v := .bool _) rfl), ?_⟩
                              exact ⟨by rw [hN]; simp, hM.low⟩
                            · 
                               exact absurd hg151 (by rw [hN]; simp)
                      · 
                         exact absurd hg118 (by rw [hE]; simp)
                    · 
                      replace hc114 := of_decide_eq_false hc114
                      obtain ⟨hE, hV⟩ := evalF_ok hp (F := F) (by unfold factsBad; omega)
                      refine gseq fun N58 hN58 => ?_
                      refine greg ?_
                      refine gop (y_fieldAddr_box fa28_0 rfl) rfl rfl rfl ?_
                      refine gop (y_load Tryd.isAgg3 rfl (cell_box 4 rfl rfl)) rfl rfl rfl ?_
                      refine gop (y_neq rfl rfl) rfl rfl rfl ?_
                      refine gop (y_move (v := .bool _) rfl) rfl rfl rfl ?_
                      refine gop_if (want := false) rfl rfl rfl rfl rfl rfl (fun hg124 => ?_) (fun hg124 => ?_)
                      · 
                        have hg124d := Decidable.not_not.1 (of_decide_eq_false hg124)
                        refine gop (y_bare (y_move (v := .bool _) rfl)) rfl rfl rfl ?_
                        refine gop_on rfl rfl rfl rfl hg124 ?_
                        refine gop (y_bare (y_loads (cs := [_]) Tryd.isAgg24 Tryd.sizeOf24 rfl rfl (cells_box 0 rfl))) rfl rfl rfl ?_
                        refine gop_on rfl rfl rfl rfl hg124 ?_
                        refine gop (y_bare (y_move (v := .int _ _) rfl)) rfl rfl rfl ?_
                        refine gop_on rfl rfl rfl rfl hg124 ?_
                        refine gop (y_bare (y_loads (cs := [_, _, _, _]) Tryd.isAgg26 Tryd.sizeOf26 rfl rfl (cells_box 1 rfl))) rfl rfl rfl ?_
                        refine gop_on rfl rfl rfl rfl hg124 ?_
                        refine gop_pure (e_call (vs := [.agg #[_], .int _ _, .agg #[_, _, _, _]]) Tryd.func17 rfl (by kernel_rfl) rfl) (fun w hM => refTrue_any A c l hlc hcm F (by omega) (by omega) (treeOf l).size (treeOf l) _ (l.length - 1) w rfl (by omega) (hl.base hM) ht.ok ht.at_) rfl rfl rfl ?_
                        refine gop_on rfl rfl rfl rfl hg124 ?_
                        refine gop (y_bare (y_neqb rfl rfl Tryd.underlying4)) rfl rfl rfl ?_
                        refine gop (y_pick_f (v := .bool _) rfl hg124 rfl) rfl rfl rfl ?_
                        refine gops_nil ?_
                        refine hN58 _ _ ?_
                        refine gfrom [(2, .pointer _), (10, .pointer _), (11, .pointer _), (12, .pointer _), (13, .int _ _), (131, .bool _)] ⟨rfl, rfl, rfl, rfl, rfl, rfl, trivial⟩ fun σ => ?_
                        refine gcond (b := _) rfl (fun hc131 => ?_) (fun hc131 => ?_)
                        · 
                           exact absurd hc131 (by rw [hV]; simp)
                        · 
                          refine gskip ?_
                          refine hN50 _ _ ?_
                          refine gfrom [(2, .pointer _), (10, .pointer _), (11, .pointer _), (12, .pointer _), (13, .int _ _)] ⟨rfl, rfl, rfl, rfl, rfl, trivial⟩ fun σ => ?_
                          refine gseq fun N59 hN59 => ?_
                          refine greg ?_
                          refine gop (y_loads (cs := [_]) Tryd.isAgg24 Tryd.sizeOf24 rfl rfl (cells_box 0 rfl)) rfl rfl rfl ?_
                          refine gop (y_move (v := .int _ _) rfl) rfl rfl rfl ?_
                          refine gops_nilrow pnCells 47 4 ?_
                          refine gop_does1 9 (fun v r G => ∃ B' bc', v = .slice B' (post (nrm (treeOf l) false) 0).length bc' ∧ r = rowl pnCells w.heap.size 47 4 (.slice B' (post (nrm (treeOf l) false) 0).length bc') (post (nrm (treeOf l) false) 0) ∧ G = []) (e_call (vs := [.agg #[_], .int _ _, _, _]) Tryd.func18 rfl (by kernel_rfl) rfl) rfl (fun w fr1 hfr hM => (refNegated_any _ A c l hl hlc hcm (treeOf l).size (treeOf l) false _ (l.length - 1) w _ _ [] fr1 rfl (by omega) ht.ok ht.at_ (by simp; omega) hM).mono fun _ _ ⟨B', bc', h1, h2⟩ => ⟨_, _, [], h1, ⟨B', bc', rfl, rfl, rfl⟩, h2⟩) rfl rfl rfl ?_
                          rintro _ _ _ ⟨B134, bc134, rfl, rfl, rfl⟩
                          refine gops_fact (fun w hM => row_form (hM.ok _ (List.mem_of_getElem? (i := 9) rfl))) ?_
                          rintro ⟨A134, c134, hv134, hc134, hm134, hn134⟩
                          simp only [Value.slice.injEq] at hv134
                          obtain ⟨rfl, -, rfl⟩ := hv134
                          refine gop (y_build (vs := [(0, .slice _ _ _)]) (cells := #[_]) rfl (bd24_0 _ _ _)) rfl rfl rfl ?_
                          refine gop_alloc (cs := #[.slice none 0 0]) Tryd.zeroValue24 rfl rfl (fun b15 hb15 => ?_)
                          refine gop_store 10 (v := .agg #[_]) (cs' := #[_]) rfl rfl Tryd.sizeOf24 rfl rfl rfl rfl (Nat.le_of_ble_eq_true rfl) rfl rfl ?_
                          refine gops_nil ?_
                          refine hN59 _ _ ?_
                          refine gT [box b2 _, box b3 _, box b5 _, box b7 _, box b9 _, seal_ _ _, box b10 _, box b11 _, box b12 _, rowl _ _ _ _ _ _, box b15 _] rfl ?_
                          refine gfrom [(10, .pointer _), (11, .pointer _), (12, .pointer _), (15, .pointer _)] ⟨rfl, rfl, rfl, rfl, trivial⟩ fun σ => ?_
                          refine gseq fun N60 hN60 => ?_
                          refine gseq fun N61 hN61 => ?_
                          refine greg ?_
                          refine gop (y_loads (cs := [_]) Tryd.isAgg24 Tryd.sizeOf24 rfl rfl (cells_box 10 rfl)) rfl rfl rfl ?_
                          refine gop_pure (e_call (vs := [.agg #[_]]) Tryd.func8 rfl (by kernel_rfl) rfl) (fun w hM => polFault_any w _ _ (post (nrm (treeOf l) false) 0) ((row_rdl (f := pnCells) (fun _ => rfl) (hM.ok _ (List.mem_of_getElem? (i := 9) rfl))).mono (Nat.zero_le _)) hc134 hm134) rfl rfl rfl ?_
                          refine gop (y_field (cs := #[_, _]) rfl (fd28_0 _ _)) rfl rfl rfl ?_
                          refine gop (y_neq rfl rfl) rfl rfl rfl ?_
                          refine gops_nil ?_
                          refine hN61 _ _ ?_
                          refine gfrom [(10, .pointer _), (11, .pointer _), (12, .pointer _), (15, .pointer _), (139, .bool _)] ⟨rfl, rfl, rfl, rfl, rfl, trivial⟩ fun σ => ?_
                          refine gcond (b := _) rfl (fun hc139 => ?_) (fun hc139 => ?_)
                          · 
                            replace hc139 := of_decide_eq_true hc139
                            have hN : norR l = (⟨10, -1⟩, []) := by rw [hN0, madeR, if_pos (hmk1.1 hc139)]
                            refine gseq fun N62 hN62 => ?_
                            refine greg_q (by kernel_rfl) (by kernel_rfl) ?_
                            refine gq (y_loads (cs := [_, _]) Tryd.isAgg28 Tryd.sizeOf28 rfl rfl (cells_box 7 rfl)) rfl rfl rfl ?_
                            refine gq_pure (e_call (vs := [_, _]) Tryd.func16 rfl (by kernel_rfl) rfl) (fun w hM => fault_any w _ _) rfl rfl rfl ?_
                            refine gq (y_bin (vx := .agg #[_, _]) (vy := .agg #[_, _]) rfl rfl (fun w => eg28 _ _ _ _ _ w) (fun w => eq28 _ _ _ _ w)) rfl rfl rfl ?_
                            refine gq (y_move (v := .bool _) rfl) rfl rfl rfl ?_
                            refine gq_if (want := true) rfl rfl rfl rfl rfl rfl (fun hg143 => ?_) (fun hg143 => ?_)
                            · 
                              have hg143d := hg143
                              refine gq (y_bare (y_loads (cs := [_]) Tryd.isAgg24 Tryd.sizeOf24 rfl rfl (cells_box 6 rfl))) rfl rfl rfl ?_
                              refine gq_on rfl rfl rfl rfl hg143 ?_
                              refine gq (y_bare (y_loads (cs := [_]) Tryd.isAgg24 Tryd.sizeOf24 rfl rfl (cells_box 8 rfl))) rfl rfl rfl ?_
                              refine gq_on rfl rfl rfl rfl hg143 ?_
                              refine gq_pure (e_call (vs := [.agg #[_], .agg #[_]]) Tryd.func14 rfl (by kernel_rfl) rfl) (fun w hM => refEqPol_any w _ _ _ _ (norR l).2 [] ((hr31.seal_ 5 rfl (Nat.le_refl _) hM).mono (Nat.zero_le _)) Rdl.nil (Nat.le_trans hcc31 hcm31)) rfl rfl rfl ?_
                              refine gq (y_pick_t (v := .bool _) rfl hg143 rfl) rfl rfl rfl ?_
                              refine gq (y_assign (v := .bool _) rfl) rfl rfl rfl ?_
                              refine gqs_nil ?_
                              refine hN62 _ _ ?_
                              refine gfrom [(4, .bool _)] ⟨rfl, trivial⟩ fun σ => ?_
                              refine gret fun w1 hM => ?_
                              refine ⟨_, res1 rfl (rt (v := .bool _) rfl), ?_⟩
                              exact ⟨by rw [hN]; simp, hM.low⟩
                            · 
                               exact absurd hg143 (by rw [hN]; simp)
                          · 
                            replace hc139 := Decidable.not_not.1 (of_decide_eq_false hc139)
                            have hB : ¬ (24 < (nrm (treeOf l) false).size ∨ 12 < (nrm (treeOf l) false).depth) := fun h => absurd (hmk1.2 h) (by omega)
                            have hN : norR l = (⟨0, 0⟩, post (nrm (treeOf l) false) 0) := by rw [hN0, madeR, if_neg hB]
                            refine gskip ?_
                            refine hN60 _ _ ?_
                            refine gfrom [(10, .pointer _), (11, .pointer _), (15, .pointer _)] ⟨rfl, rfl, rfl, trivial⟩ fun σ => ?_
                            refine gseq fun N63 hN63 => ?_
                            refine greg ?_
                            refine gop (y_fieldAddr_box fa28_0 rfl) rfl rfl rfl ?_
                            refine gop (y_load Tryd.isAgg3 rfl (cell_box 7 rfl rfl)) rfl rfl rfl ?_
                            refine gop (y_eql rfl rfl) rfl rfl rfl ?_
                            refine gop (y_move (v := .bool _) rfl) rfl rfl rfl ?_
                            refine gop_if (want := true) rfl rfl rfl rfl rfl rfl (fun hg151 => ?_) (fun hg151 => ?_)
                            · 
                              have hg151d := of_decide_eq_true hg151
                              refine gop (y_bare (y_loads (cs := [_]) Tryd.isAgg24 Tryd.sizeOf24 rfl rfl (cells_box 6 rfl))) rfl rfl rfl ?_
                              refine gop_on rfl rfl rfl rfl hg151 ?_
                              refine gop (y_bare (y_loads (cs := [_]) Tryd.isAgg24 Tryd.sizeOf24 rfl rfl (cells_box 10 rfl))) rfl rfl rfl ?_
                              refine gop_on rfl rfl rfl rfl hg151 ?_
                              refine gop_pure (e_call (vs := [.agg #[_], .agg #[_]]) Tryd.func14 rfl (by kernel_rfl) rfl) (fun w hM => refEqPol_any w _ _ _ _ (norR l).2 (post (nrm (treeOf l) false) 0) ((hr31.seal_ 5 rfl (Nat.le_refl _) hM).mono (Nat.zero_le _)) ((row_rdl (f := pnCells) (fun _ => rfl) (hM.ok _ (List.mem_of_getElem? (i := 9) rfl))).mono (Nat.zero_le _)) (Nat.le_trans hcc31 hcm31)) rfl rfl rfl ?_
                              refine gop (y_pick_t (v := .bool _) rfl hg151 rfl) rfl rfl rfl ?_
                              refine gop (y_assign (v := .bool _) rfl) rfl rfl rfl ?_
                              refine gops_nil ?_
                              refine hN63 _ _ ?_
                              refine gfrom [(4, .bool _)] ⟨rfl, trivial⟩ fun σ => ?_
                              refine gret fun w1 hM => ?_
                              refine ⟨_, res1 rfl (rt (v := .bool _) rfl), ?_⟩
                              exact ⟨by rw [hN]; simp, hM.low⟩
                            · 
                               exact absurd hg151 (by rw [hN]; simp)
                      · 
                         exact absurd hg124 (by rw [hE]; simp)
                  · 
                    have hg110d := of_decide_eq_true hg110
                    refine gop_off rfl rfl rfl rfl hg110 rfl rfl ?_
                    refine gop_off rfl rfl rfl rfl hg110 rfl rfl ?_
                    refine gop (y_pick_t (v := .bool _) rfl hg110 rfl) rfl rfl rfl ?_
                    refine gops_nil ?_
                    refine hN51 _ _ ?_
                    refine gfrom [(2, .pointer _), (3, .pointer _), (8, .bool _), (9, .pointer _), (10, .pointer _), (11, .pointer _), (12, .pointer _), (13, .int _ _), (114, .bool _)] ⟨rfl, rfl, rfl, rfl, rfl, rfl, rfl, rfl, rfl, trivial⟩ fun σ => ?_
                    refine gcond (b := _) rfl (fun hc114 => ?_) (fun hc114 => ?_)
                    · 
                      obtain ⟨hE, hV⟩ := evalF_range hp (F := F) (by unfold factsBad; omega)
                      refine gseq fun N64 hN64 => ?_
                      refine greg_q (by kernel_rfl) (by kernel_rfl) ?_
                      refine gq (y_loads (cs := [_, _]) Tryd.isAgg28 Tryd.sizeOf28 rfl rfl (cells_box 4 rfl)) rfl rfl rfl ?_
                      refine gq_pure (e_call (vs := [_, _]) Tryd.func16 rfl (by kernel_rfl) rfl) (fun w hM => fault_any w _ _) rfl rfl rfl ?_
                      refine gq (y_bin (vx := .agg #[_, _]) (vy := .agg #[_, _]) rfl rfl (fun w => eg28 _ _ _ _ _ w) (fun w => ne28 _ _ _ _ w)) rfl rfl rfl ?_
                      refine gq (y_move (v := .bool _) rfl) rfl rfl rfl ?_
                      refine gq_if (want := false) rfl rfl rfl rfl rfl rfl (fun hg118 => ?_) (fun hg118 => ?_)
                      · 
                        have hg118d := hg118
                        refine gq (y_bare (y_move (v := .bool _) rfl)) rfl rfl rfl ?_
                        refine gq (y_pick_f (v := .bool _) rfl hg118 rfl) rfl rfl rfl ?_
                        refine gqs_nil ?_
                        refine hN64 _ _ ?_
                        refine gfrom [(2, .pointer _), (10, .pointer _), (11, .pointer _), (12, .pointer _), (13, .int _ _), (120, .bool _)] ⟨rfl, rfl, rfl, rfl, rfl, rfl, trivial⟩ fun σ => ?_
                        refine gcond (b := _) rfl (fun hc120 => ?_) (fun hc120 => ?_)
                        · 
                           exact absurd hc120 (by rw [hV]; simp)
                        · 
                          refine gskip ?_
                          refine hN50 _ _ ?_
                          refine gfrom [(2, .pointer _), (10, .pointer _), (11, .pointer _), (12, .pointer _), (13, .int _ _)] ⟨rfl, rfl, rfl, rfl, rfl, trivial⟩ fun σ => ?_
                          refine gseq fun N65 hN65 => ?_
                          refine greg ?_
                          refine gop (y_loads (cs := [_]) Tryd.isAgg24 Tryd.sizeOf24 rfl rfl (cells_box 0 rfl)) rfl rfl rfl ?_
                          refine gop (y_move (v := .int _ _) rfl) rfl rfl rfl ?_
                          refine gops_nilrow pnCells 47 4 ?_
                          refine gop_does1 9 (fun v r G => ∃ B' bc', v = .slice B' (post (nrm (treeOf l) false) 0).length bc' ∧ r = rowl pnCells w.heap.size 47 4 (.slice B' (post (nrm (treeOf l) false) 0).length bc') (post (nrm (treeOf l) false) 0) ∧ G = []) (e_call (vs := [.agg #[_], .int _ _, _, _]) Tryd.func18 rfl (by kernel_rfl) rfl) rfl (fun w fr1 hfr hM => (refNegated_any _ A c l hl hlc hcm (treeOf l).size (treeOf l) false _ (l.length - 1) w _ _ [] fr1 rfl (by omega) ht.ok ht.at_ (by simp; omega) hM).mono fun _ _ ⟨B', bc', h1, h2⟩ => ⟨_, _, [], h1, ⟨B', bc', rfl, rfl, rfl⟩, h2⟩) rfl rfl rfl ?_
                          rintro _ _ _ ⟨B134, bc134, rfl, rfl, rfl⟩
                          refine gops_fact (fun w hM => row_form (hM.ok _ (List.mem_of_getElem? (i := 9) rfl))) ?_
                          rintro ⟨A134, c134, hv134, hc134, hm134, hn134⟩
                          simp only [Value.slice.injEq] at hv134
                          obtain ⟨rfl, -, rfl⟩ := hv134
                          refine gop (y_build (vs := [(0, .slice _ _ _)]) (cells := #[_]) rfl (bd24_0 _ _ _)) rfl rfl rfl ?_
                          refine gop_alloc (cs := #[.slice none 0 0]) Tryd.zeroValue24 rfl rfl (fun b15 hb15 => ?_)
                          refine gop_store 10 (v := .agg #[_]) (cs' := #[_]) rfl rfl Tryd.sizeOf24 rfl rfl rfl rfl (Nat.le_of_ble_eq_true rfl) rfl rfl ?_
                          refine gops_nil ?_
                          refine hN65 _ _ ?_
                          refine gT [box b2 _, box b3 _, box b5 _, box b7 _, box b9 _, seal_ _ _, box b10 _, box b11 _, box b12 _, rowl _ _ _ _ _ _, box b15 _] rfl ?_
                          refine gfrom [(10, .pointer _), (11, .pointer _), (12, .pointer _), (15, .pointer _)] ⟨rfl, rfl, rfl, rfl, trivial⟩ fun σ => ?_
                          refine gseq fun N66 hN66 => ?_
                          refine gseq fun N67 hN67 => ?_
                          refine greg ?_
                          refine gop (y_loads (cs := [_]) Tryd.isAgg24 Tryd.sizeOf24 rfl rfl (cells_box 10 rfl)) rfl rfl rfl ?_
                          refine gop_pure (e_call (vs := [.agg #[_]]) Tryd.func8 rfl (by kernel_rfl) rfl) (fun w hM => polFault_any w _ _ (post (nrm (treeOf l) false) 0) ((row_rdl (f := pnCells) (fun _ => rfl) (hM.ok _ (List.mem_of_getElem? (i := 9) rfl))).mono (Nat.zero_le _)) hc134 hm134) rfl rfl rfl ?_
                          refine gop (y_field (cs := #[_, _]) rfl (fd28_0 _ _)) rfl rfl rfl ?_
                          refine gop (y_neq rfl rfl) rfl rfl rfl ?_
                          refine gops_nil ?_
                          refine hN67 _ _ ?_
                          refine gfrom [(10, .pointer _), (11, .pointer _), (12, .pointer _), (15, .pointer _), (139, .bool _)] ⟨rfl, rfl, rfl, rfl, rfl, trivial⟩ fun σ => ?_
                          refine gcond (b := _) rfl (fun hc139 => ?_) (fun hc139 => ?_)
                          · 
                            replace hc139 := of_decide_eq_true hc139
                            have hN : norR l = (⟨10, -1⟩, []) := by rw [hN0, madeR, if_pos (hmk1.1 hc139)]
                            refine gseq fun N68 hN68 => ?_
                            refine greg_q (by kernel_rfl) (by kernel_rfl) ?_
                            refine gq (y_loads (cs := [_, _]) Tryd.isAgg28 Tryd.sizeOf28 rfl rfl (cells_box 7 rfl)) rfl rfl rfl ?_
                            refine gq_pure (e_call (vs := [_, _]) Tryd.func16 rfl (by kernel_rfl) rfl) (fun w hM => fault_any w _ _) rfl rfl rfl ?_
                            refine gq (y_bin (vx := .agg #[_, _]) (vy := .agg #[_, _]) rfl rfl (fun w => eg28 _ _ _ _ _ w) (fun w => eq28 _ _ _ _ w)) rfl rfl rfl ?_
                            refine gq (y_move (v := .bool _) rfl) rfl rfl rfl ?_
                            refine gq_if (want := true) rfl rfl rfl rfl rfl rfl (fun hg143 => ?_) (fun hg143 => ?_)
                            · 
                              have hg143d := hg143
                              refine gq (y_bare (y_loads (cs := [_]) Tryd.isAgg24 Tryd.sizeOf24 rfl rfl (cells_box 6 rfl))) rfl rfl rfl ?_
                              refine gq_on rfl rfl rfl rfl hg143 ?_
                              refine gq (y_bare (y_loads (cs := [_]) Tryd.isAgg24 Tryd.sizeOf24 rfl rfl (cells_box 8 rfl))) rfl rfl rfl ?_
                              refine gq_on rfl rfl rfl rfl hg143 ?_
                              refine gq_pure (e_call (vs := [.agg #[_], .agg #[_]]) Tryd.func14 rfl (by kernel_rfl) rfl) (fun w hM => refEqPol_any w _ _ _ _ (norR l).2 [] ((hr31.seal_ 5 rfl (Nat.le_refl _) hM).mono (Nat.zero_le _)) Rdl.nil (Nat.le_trans hcc31 hcm31)) rfl rfl rfl ?_
                              refine gq (y_pick_t (v := .bool _) rfl hg143 rfl) rfl rfl rfl ?_
                              refine gq (y_assign (v := .bool _) rfl) rfl rfl rfl ?_
                              refine gqs_nil ?_
                              refine hN68 _ _ ?_
                              refine gfrom [(4, .bool _)] ⟨rfl, trivial⟩ fun σ => ?_
                              refine gret fun w1 hM => ?_
                              refine ⟨_, res1 rfl (rt (v := .bool _) rfl), ?_⟩
                              exact ⟨by rw [hN]; simp, hM.low⟩
                            · 
                               exact absurd hg143 (by rw [hN]; simp)
                          · 
                            replace hc139 := Decidable.not_not.1 (of_decide_eq_false hc139)
                            have hB : ¬ (24 < (nrm (treeOf l) false).size ∨ 12 < (nrm (treeOf l) false).depth) := fun h => absurd (hmk1.2 h) (by omega)
                            have hN : norR l = (⟨0, 0⟩, post (nrm (treeOf l) false) 0) := by rw [hN0, madeR, if_neg hB]
                            refine gskip ?_
                            refine hN66 _ _ ?_
                            refine gfrom [(10, .pointer _), (11, .pointer _), (15, .pointer _)] ⟨rfl, rfl, rfl, trivial⟩ fun σ => ?_
                            refine gseq fun N69 hN69 => ?_
                            refine greg ?_
                            refine gop (y_fieldAddr_box fa28_0 rfl) rfl rfl rfl ?_
                            refine gop (y_load Tryd.isAgg3 rfl (cell_box 7 rfl rfl)) rfl rfl rfl ?_
                            refine gop (y_eql rfl rfl) rfl rfl rfl ?_
                            refine gop (y_move (v := .bool _) rfl) rfl rfl rfl ?_
                            refine gop_if (want := true) rfl rfl rfl rfl rfl rfl (fun hg151 => ?_) (fun hg151 => ?_)
                            · 
                              have hg151d := of_decide_eq_true hg151
                              refine gop (y_bare (y_loads (cs := [_]) Tryd.isAgg24 Tryd.sizeOf24 rfl rfl (cells_box 6 rfl))) rfl rfl rfl ?_
                              refine gop_on rfl rfl rfl rfl hg151 ?_
                              refine gop (y_bare (y_loads (cs := [_]) Tryd.isAgg24 Tryd.sizeOf24 rfl rfl (cells_box 10 rfl))) rfl rfl rfl ?_
                              refine gop_on rfl rfl rfl rfl hg151 ?_
                              refine gop_pure (e_call (vs := [.agg #[_], .agg #[_]]) Tryd.func14 rfl (by kernel_rfl) rfl) (fun w hM => refEqPol_any w _ _ _ _ (norR l).2 (post (nrm (treeOf l) false) 0) ((hr31.seal_ 5 rfl (Nat.le_refl _) hM).mono (Nat.zero_le _)) ((row_rdl (f := pnCells) (fun _ => rfl) (hM.ok _ (List.mem_of_getElem? (i := 9) rfl))).mono (Nat.zero_le _)) (Nat.le_trans hcc31 hcm31)) rfl rfl rfl ?_
                              refine gop (y_pick_t (v := .bool _) rfl hg151 rfl) rfl rfl rfl ?_
                              refine gop (y_assign (v := .bool _) rfl) rfl rfl rfl ?_
                              refine gops_nil ?_
                              refine hN69 _ _ ?_
                              refine gfrom [(4, .bool _)] ⟨rfl, trivial⟩ fun σ => ?_
                              refine gret fun w1 hM => ?_
                              refine ⟨_, res1 rfl (rt (v := .bool _) rfl), ?_⟩
                              exact ⟨by rw [hN]; simp, hM.low⟩
                            · 
                               exact absurd hg151 (by rw [hN]; simp)
                      · 
                         exact absurd hg118 (by rw [hE]; simp)
                    · 
                      cases hc114
                · 
                  have hg105d := of_decide_eq_true hg105
                  refine gop_off rfl rfl rfl rfl hg105 rfl rfl ?_
                  refine gop_off rfl rfl rfl rfl hg105 rfl rfl ?_
                  refine gop (y_pick_t (v := .bool _) rfl hg105 rfl) rfl rfl rfl ?_
                  refine gop (y_move (v := .bool _) rfl) rfl rfl rfl ?_
                  refine gop_off rfl rfl rfl rfl rfl rfl rfl ?_
                  refine gop_off rfl rfl rfl rfl rfl rfl rfl ?_
                  refine gop_off rfl rfl rfl rfl rfl rfl rfl ?_
                  refine gop (y_pick_t (v := .bool _) rfl rfl rfl) rfl rfl rfl ?_
                  refine gops_nil ?_
                  refine hN51 _ _ ?_
                  refine gfrom [(2, .pointer _), (3, .pointer _), (8, .bool _), (9, .pointer _), (10, .pointer _), (11, .pointer _), (12, .pointer _), (13, .int _ _), (114, .bool _)] ⟨rfl, rfl, rfl, rfl, rfl, rfl, rfl, rfl, rfl, trivial⟩ fun σ => ?_
                  refine gcond (b := _) rfl (fun hc114 => ?_) (fun hc114 => ?_)
                  · 
                    obtain ⟨hE, hV⟩ := evalF_range hp (F := F) (by unfold factsBad; omega)
                    refine gseq fun N70 hN70 => ?_
                    refine greg_q (by kernel_rfl) (by kernel_rfl) ?_
                    refine gq (y_loads (cs := [_, _]) Tryd.isAgg28 Tryd.sizeOf28 rfl rfl (cells_box 4 rfl)) rfl rfl rfl ?_
                    refine gq_pure (e_call (vs := [_, _]) Tryd.func16 rfl (by kernel_rfl) rfl) (fun w hM => fault_any w _ _) rfl rfl rfl ?_
                    refine gq (y_bin (vx := .agg #[_, _]) (vy := .agg #[_, _]) rfl rfl (fun w => eg28 _ _ _ _ _ w) (fun w => ne28 _ _ _ _ w)) rfl rfl rfl ?_
                    refine gq (y_move (v := .bool _) rfl) rfl rfl rfl ?_
                    refine gq_if (want := false) rfl rfl rfl rfl rfl rfl (fun hg118 => ?_) (fun hg118 => ?_)
                    · 
                      have hg118d := hg118
                      refine gq (y_bare (y_move (v := .bool _) rfl)) rfl rfl rfl ?_
                      refine gq (y_pick_f (v := .bool _) rfl hg118 rfl) rfl rfl rfl ?_
                      refine gqs_nil ?_
                      refine hN70 _ _ ?_
                      refine gfrom [(2, .pointer _), (10, .pointer _), (11, .pointer _), (12, .pointer _), (13, .int _ _), (120, .bool _)] ⟨rfl, rfl, rfl, rfl, rfl, rfl, trivial⟩ fun σ => ?_
                      refine gcond (b := _) rfl (fun hc120 => ?_) (fun hc120 => ?_)
                      · 
                         exact absurd hc120 (by rw [hV]; simp)
                      · 
                        refine gskip ?_
                        refine hN50 _ _ ?_
                        refine gfrom [(2, .pointer _), (10, .pointer _), (11, .pointer _), (12, .pointer _), (13, .int _ _)] ⟨rfl, rfl, rfl, rfl, rfl, trivial⟩ fun σ => ?_
                        refine gseq fun N71 hN71 => ?_
                        refine greg ?_
                        refine gop (y_loads (cs := [_]) Tryd.isAgg24 Tryd.sizeOf24 rfl rfl (cells_box 0 rfl)) rfl rfl rfl ?_
                        refine gop (y_move (v := .int _ _) rfl) rfl rfl rfl ?_
                        refine gops_nilrow pnCells 47 4 ?_
                        refine gop_does1 9 (fun v r G => ∃ B' bc', v = .slice B' (post (nrm (treeOf l) false) 0).length bc' ∧ r = rowl pnCells w.heap.size 47 4 (.slice B' (post (nrm (treeOf l) false) 0).length bc') (post (nrm (treeOf l) false) 0) ∧ G = []) (e_call (vs := [.agg #[_], .int _ _, _, _]) Tryd.func18 rfl (by kernel_rfl) rfl) rfl (fun w fr1 hfr hM => (refNegated_any _ A c l hl hlc hcm (treeOf l).size (treeOf l) false _ (l.length - 1) w _ _ [] fr1 rfl (by omega) ht.ok ht.at_ (by simp; omega) hM).mono fun _ _ ⟨B', bc', h1, h2⟩ => ⟨_, _, [], h1, ⟨B', bc', rfl, rfl, rfl⟩, h2⟩) rfl rfl rfl ?_
                        rintro _ _ _ ⟨B134, bc134, rfl, rfl, rfl⟩
                        refine gops_fact (fun w hM => row_form (hM.ok _ (List.mem_of_getElem? (i := 9) rfl))) ?_
                        rintro ⟨A134, c134, hv134, hc134, hm134, hn134⟩
                        simp only [Value.slice.injEq] at hv134
                        obtain ⟨rfl, -, rfl⟩ := hv134
                        refine gop (y_build (vs := [(0, .slice _ _ _)]) (cells := #[_]) rfl (bd24_0 _ _ _)) rfl rfl rfl ?_
                        refine gop_alloc (cs := #[.slice none 0 0]) Tryd.zeroValue24 rfl rfl (fun b15 hb15 => ?_)
                        refine gop_store 10 (v := .agg #[_]) (cs' := #[_]) rfl rfl Tryd.sizeOf24 rfl rfl rfl rfl (Nat.le_of_ble_eq_true rfl) rfl rfl ?_
                        refine gops_nil ?_
                        refine hN71 _ _ ?_
                        refine gT [box b2 _, box b3 _, box b5 _, box b7 _, box b9 _, seal_ _ _, box b10 _, box b11 _, box b12 _, rowl _ _ _ _ _ _, box b15 _] rfl ?_
                        refine gfrom [(10, .pointer _), (11, .pointer _), (12, .pointer _), (15, .pointer _)] ⟨rfl, rfl, rfl, rfl, trivial⟩ fun σ => ?_
                        refine gseq fun N72 hN72 => ?_
                        refine gseq fun N73 hN73 => ?_
                        refine greg ?_
                        refine gop (y_loads (cs := [_]) Tryd.isAgg24 Tryd.sizeOf24 rfl rfl (cells_box 10 rfl)) rfl rfl rfl ?_
                        refine gop_pure (e_call (vs := [.agg #[_]]) Tryd.func8 rfl (by kernel_rfl) rfl) (fun w hM => polFault_any w _ _ (post (nrm (treeOf l) false) 0) ((row_rdl (f := pnCells) (fun _ => rfl) (hM.ok _ (List.mem_of_getElem? (i := 9) rfl))).mono (Nat.zero_le _)) hc134 hm134) rfl rfl rfl ?_
                        refine gop (y_field (cs := #[_, _]) rfl (fd28_0 _ _)) rfl rfl rfl ?_
                        refine gop (y_neq rfl rfl) rfl rfl rfl ?_
                        refine gops_nil ?_
                        refine hN73 _ _ ?_
                        refine gfrom [(10, .pointer _), (11, .pointer _), (12, .pointer _), (15, .pointer _), (139, .bool _)] ⟨rfl, rfl, rfl, rfl, rfl, trivial⟩ fun σ => ?_
                        refine gcond (b := _) rfl (fun hc139 => ?_) (fun hc139 => ?_)
                        · 
                          replace hc139 := of_decide_eq_true hc139
                          have hN : norR l = (⟨10, -1⟩, []) := by rw [hN0, madeR, if_pos (hmk1.1 hc139)]
                          refine gseq fun N74 hN74 => ?_
                          refine greg_q (by kernel_rfl) (by kernel_rfl) ?_
                          refine gq (y_loads (cs := [_, _]) Tryd.isAgg28 Tryd.sizeOf28 rfl rfl (cells_box 7 rfl)) rfl rfl rfl ?_
                          refine gq_pure (e_call (vs := [_, _]) Tryd.func16 rfl (by kernel_rfl) rfl) (fun w hM => fault_any w _ _) rfl rfl rfl ?_
                          refine gq (y_bin (vx := .agg #[_, _]) (vy := .agg #[_, _]) rfl rfl (fun w => eg28 _ _ _ _ _ w) (fun w => eq28 _ _ _ _ w)) rfl rfl rfl ?_
                          refine gq (y_move (v := .bool _) rfl) rfl rfl rfl ?_
                          refine gq_if (want := true) rfl rfl rfl rfl rfl rfl (fun hg143 => ?_) (fun hg143 => ?_)
                          · 
                            have hg143d := hg143
                            refine gq (y_bare (y_loads (cs := [_]) Tryd.isAgg24 Tryd.sizeOf24 rfl rfl (cells_box 6 rfl))) rfl rfl rfl ?_
                            refine gq_on rfl rfl rfl rfl hg143 ?_
                            refine gq (y_bare (y_loads (cs := [_]) Tryd.isAgg24 Tryd.sizeOf24 rfl rfl (cells_box 8 rfl))) rfl rfl rfl ?_
                            refine gq_on rfl rfl rfl rfl hg143 ?_
                            refine gq_pure (e_call (vs := [.agg #[_], .agg #[_]]) Tryd.func14 rfl (by kernel_rfl) rfl) (fun w hM => refEqPol_any w _ _ _ _ (norR l).2 [] ((hr31.seal_ 5 rfl (Nat.le_refl _) hM).mono (Nat.zero_le _)) Rdl.nil (Nat.le_trans hcc31 hcm31)) rfl rfl rfl ?_
                            refine gq (y_pick_t (v := .bool _) rfl hg143 rfl) rfl rfl rfl ?_
                            refine gq (y_assign (v := .bool _) rfl) rfl rfl rfl ?_
                            refine gqs_nil ?_
                            refine hN74 _ _ ?_
                            refine gfrom [(4, .bool _)] ⟨rfl, trivial⟩ fun σ => ?_
                            refine gret fun w1 hM => ?_
                            refine ⟨_, res1 rfl (rt (v := .bool _) rfl), ?_⟩
                            exact ⟨by rw [hN]; simp, hM.low⟩
                          · 
                             exact absurd hg143 (by rw [hN]; simp)
                        · 
                          replace hc139 := Decidable.not_not.1 (of_decide_eq_false hc139)
                          have hB : ¬ (24 < (nrm (treeOf l) false).size ∨ 12 < (nrm (treeOf l) false).depth) := fun h => absurd (hmk1.2 h) (by omega)
                          have hN : norR l = (⟨0, 0⟩, post (nrm (treeOf l) false) 0) := by rw [hN0, madeR, if_neg hB]
                          refine gskip ?_
                          refine hN72 _ _ ?_
                          refine gfrom [(10, .pointer _), (11, .pointer _), (15, .pointer _)] ⟨rfl, rfl, rfl, trivial⟩ fun σ => ?_
                          refine gseq fun N75 hN75 => ?_
                          refine greg ?_
                          refine gop (y_fieldAddr_box fa28_0 rfl) rfl rfl rfl ?_
                          refine gop (y_load Tryd.isAgg3 rfl (cell_box 7 rfl rfl)) rfl rfl rfl ?_
                          refine gop (y_eql rfl rfl) rfl rfl rfl ?_
                          refine gop (y_move (v := .bool _) rfl) rfl rfl rfl ?_
                          refine gop_if (want := true) rfl rfl rfl rfl rfl rfl (fun hg151 => ?_) (fun hg151 => ?_)
                          · 
                            have hg151d := of_decide_eq_true hg151
                            refine gop (y_bare (y_loads (cs := [_]) Tryd.isAgg24 Tryd.sizeOf24 rfl rfl (cells_box 6 rfl))) rfl rfl rfl ?_
                            refine gop_on rfl rfl rfl rfl hg151 ?_
                            refine gop (y_bare (y_loads (cs := [_]) Tryd.isAgg24 Tryd.sizeOf24 rfl rfl (cells_box 10 rfl))) rfl rfl rfl ?_
                            refine gop_on rfl rfl rfl rfl hg151 ?_
                            refine gop_pure (e_call (vs := [.agg #[_], .agg #[_]]) Tryd.func14 rfl (by kernel_rfl) rfl) (fun w hM => refEqPol_any w _ _ _ _ (norR l).2 (post (nrm (treeOf l) false) 0) ((hr31.seal_ 5 rfl (Nat.le_refl _) hM).mono (Nat.zero_le _)) ((row_rdl (f := pnCells) (fun _ => rfl) (hM.ok _ (List.mem_of_getElem? (i := 9) rfl))).mono (Nat.zero_le _)) (Nat.le_trans hcc31 hcm31)) rfl rfl rfl ?_
                            refine gop (y_pick_t (v := .bool _) rfl hg151 rfl) rfl rfl rfl ?_
                            refine gop (y_assign (v := .bool _) rfl) rfl rfl rfl ?_
                            refine gops_nil ?_
                            refine hN75 _ _ ?_
                            refine gfrom [(4, .bool _)] ⟨rfl, trivial⟩ fun σ => ?_
                            refine gret fun w1 hM => ?_
                            refine ⟨_, res1 rfl (rt (v := .bool _) rfl), ?_⟩
                            exact ⟨by rw [hN]; simp, hM.low⟩
                          · 
                             exact absurd hg151 (by rw [hN]; simp)
                    · 
                       exact absurd hg118 (by rw [hE]; simp)
                  · 
                    cases hc114
              · 
                have hg100d := of_decide_eq_true hg100
                refine gop_off rfl rfl rfl rfl hg100 rfl rfl ?_
                refine gop_off rfl rfl rfl rfl hg100 rfl rfl ?_
                refine gop (y_pick_t (v := .bool _) rfl hg100 rfl) rfl rfl rfl ?_
                refine gop (y_move (v := .bool _) rfl) rfl rfl rfl ?_
                refine gop_off rfl rfl rfl rfl rfl rfl rfl ?_
                refine gop_off rfl rfl rfl rfl rfl rfl rfl ?_
                refine gop_off rfl rfl rfl rfl rfl rfl rfl ?_
                refine gop (y_pick_t (v := .bool _) rfl rfl rfl) rfl rfl rfl ?_
                refine gop (y_move (v := .bool _) rfl) rfl rfl rfl ?_
                refine gop_off rfl rfl rfl rfl rfl rfl rfl ?_
                refine gop_off rfl rfl rfl rfl rfl rfl rfl ?_
                refine gop_off rfl rfl rfl rfl rfl rfl rfl ?_
                refine gop (y_pick_t (v := .bool _) rfl rfl rfl) rfl rfl rfl ?_
                refine gops_nil ?_
                refine hN51 _ _ ?_
                refine gfrom [(2, .pointer _), (3, .pointer _), (8, .bool _), (9, .pointer _), (10, .pointer _), (11, .pointer _), (12, .pointer _), (13, .int _ _), (114, .bool _)] ⟨rfl, rfl, rfl, rfl, rfl, rfl, rfl, rfl, rfl, trivial⟩ fun σ => ?_
                refine gcond (b := _) rfl (fun hc114 => ?_) (fun hc114 => ?_)
                · 
                  obtain ⟨hE, hV⟩ := evalF_range hp (F := F) (by unfold factsBad; omega)
                  refine gseq fun N76 hN76 => ?_
                  refine greg_q (by kernel_rfl) (by kernel_rfl) ?_
                  refine gq (y_loads (cs := [_, _]) Tryd.isAgg28 Tryd.sizeOf28 rfl rfl (cells_box 4 rfl)) rfl rfl rfl ?_
                  refine gq_pure (e_call (vs := [_, _]) Tryd.func16 rfl (by kernel_rfl) rfl) (fun w hM => fault_any w _ _) rfl rfl rfl ?_
                  refine gq (y_bin (vx := .agg #[_, _]) (vy := .agg #[_, _]) rfl rfl (fun w => eg28 _ _ _ _ _ w) (fun w => ne28 _ _ _ _ w)) rfl rfl rfl ?_
                  refine gq (y_move (v := .bool _) rfl) rfl rfl rfl ?_
                  refine gq_if (want := false) rfl rfl rfl rfl rfl rfl (fun hg118 => ?_) (fun hg118 => ?_)
                  · 
                    have hg118d := hg118
                    refine gq (y_bare (y_move (v := .bool _) rfl)) rfl rfl rfl ?_
                    refine gq (y_pick_f (v := .bool _) rfl hg118 rfl) rfl rfl rfl ?_
                    refine gqs_nil ?_
                    refine hN76 _ _ ?_
                    refine gfrom [(2, .pointer _), (10, .pointer _), (11, .pointer _), (12, .pointer _), (13, .int _ _), (120, .bool _)] ⟨rfl, rfl, rfl, rfl, rfl, rfl, trivial⟩ fun σ => ?_
                    refine gcond (b := _) rfl (fun hc120 => ?_) (fun hc120 => ?_)
                    · 
                       exact absurd hc120 (by rw [hV]; simp)
                    · 
                      refine gskip ?_
                      refine hN50 _ _ ?_
                      refine gfrom [(2, .pointer _), (10, .pointer _), (11, .pointer _), (12, .pointer _), (13, .int _ _)] ⟨rfl, rfl, rfl, rfl, rfl, trivial⟩ fun σ => ?_
                      refine gseq fun N77 hN77 => ?_
                      refine greg ?_
                      refine gop (y_loads (cs := [_]) Tryd.isAgg24 Tryd.sizeOf24 rfl rfl (cells_box 0 rfl)) rfl rfl rfl ?_
                      refine gop (y_move (v := .int _ _) rfl) rfl rfl rfl ?_
                      refine gops_nilrow pnCells 47 4 ?_
                      refine gop_does1 9 (fun v r G => ∃ B' bc', v = .slice B' (post (nrm (treeOf l) false) 0).length bc' ∧ r = rowl pnCells w.heap.size 47 4 (.slice B' (post (nrm (treeOf l) false) 0).length bc') (post (nrm (treeOf l) false) 0) ∧ G = []) (e_call (vs := [.agg #[_], .int _ _, _, _]) Tryd.func18 rfl (by kernel_rfl) rfl) rfl (fun w fr1 hfr hM => (refNegated_any _ A c l hl hlc hcm (treeOf l).size (treeOf l) false _ (l.length - 1) w _ _ [] fr1 rfl (by omega) ht.ok ht.at_ (by simp; omega) hM).mono fun _ _ ⟨B', bc', h1, h2⟩ => ⟨_, _, [], h1, ⟨B', bc', rfl, rfl, rfl⟩, h2⟩) rfl rfl rfl ?_
                      rintro _ _ _ ⟨B134, bc134, rfl, rfl, rfl⟩
                      refine gops_fact (fun w hM => row_form (hM.ok _ (List.mem_of_getElem? (i := 9) rfl))) ?_
                      rintro ⟨A134, c134, hv134, hc134, hm134, hn134⟩
                      simp only [Value.slice.injEq] at hv134
                      obtain ⟨rfl, -, rfl⟩ := hv134
                      refine gop (y_build (vs := [(0, .slice _ _ _)]) (cells := #[_]) rfl (bd24_0 _ _ _)) rfl rfl rfl ?_
                      refine gop_alloc (cs := #[.slice none 0 0]) Tryd.zeroValue24 rfl rfl (fun b15 hb15 => ?_)
                      refine gop_store 10 (v := .agg #[_]) (cs' := #[_]) rfl rfl Tryd.sizeOf24 rfl rfl rfl rfl (Nat.le_of_ble_eq_true rfl) rfl rfl ?_
                      refine gops_nil ?_
                      refine hN77 _ _ ?_
                      refine gT [box b2 _, box b3 _, box b5 _, box b7 _, box b9 _, seal_ _ _, box b10 _, box b11 _, box b12 _, rowl _ _ _ _ _ _, box b15 _] rfl ?_
                      refine gfrom [(10, .pointer _), (11, .pointer _), (12, .pointer _), (15, .pointer _)] ⟨rfl, rfl, rfl, rfl, trivial⟩ fun σ => ?_
                      refine gseq fun N78 hN78 => ?_
                      refine gseq fun N79 hN79 => ?_
                      refine greg ?_
                      refine gop (y_loads (cs := [_]) Tryd.isAgg24 Tryd.sizeOf24 rfl rfl (cells_box 10 rfl)) rfl rfl rfl ?_
                      refine gop_pure (e_call (vs := [.agg #[_]]) Tryd.func8 rfl (by kernel_rfl) rfl) (fun w hM => polFault_any w _ _ (post (nrm (treeOf l) false) 0) ((row_rdl (f := pnCells) (fun _ => rfl) (hM.ok _ (List.mem_of_getElem? (i := 9) rfl))).mono (Nat.zero_le _)) hc134 hm134) rfl rfl rfl ?_
                      refine gop (y_field (cs := #[_, _]) rfl (fd28_0 _ _)) rfl rfl rfl ?_
                      refine gop (y_neq rfl rfl) rfl rfl rfl ?_
                      refine gops_nil ?_
                      refine hN79 _ _ ?_
                      refine gfrom [(10, .pointer _), (11, .pointer _), (12, .pointer _), (15, .pointer _), (139, .bool _)] ⟨rfl, rfl, rfl, rfl, rfl, trivial⟩ fun σ => ?_
                      refine gcond (b := _) rfl (fun hc139 => ?_) (fun hc139 => ?_)
                      · 
                        replace hc139 := of_decide_eq_true hc139
                        have hN : norR l = (⟨10, -1⟩, []) := by rw [hN0, madeR, if_pos (hmk1.1 hc139)]
                        refine gseq fun N80 hN80 => ?_
                        refine greg_q (by kernel_rfl) (by kernel_rfl) ?_
                        refine gq (y_loads (cs := [_, _]) Tryd.isAgg28 Tryd.sizeOf28 rfl rfl (cells_box 7 rfl)) rfl rfl rfl ?_
                        refine gq_pure (e_call (vs := [_, _]) Tryd.func16 rfl (by kernel_rfl) rfl) (fun w hM => fault_any w _ _) rfl rfl rfl ?_
                        refine gq (y_bin (vx := .agg #[_, _]) (vy := .agg #[_, _]) rfl rfl (fun w => eg28 _ _ _ _ _ w) (fun w => eq28 _ _ _ _ w)) rfl rfl rfl ?_
                        refine gq (y_move (v := .bool _) rfl) rfl rfl rfl ?_
                        refine gq_if (want := true) rfl rfl rfl rfl rfl rfl (fun hg143 => ?_) (fun hg143 => ?_)
                        · 
                          have hg143d := hg143
                          refine gq (y_bare (y_loads (cs := [_]) Tryd.isAgg24 Tryd.sizeOf24 rfl rfl (cells_box 6 rfl))) rfl rfl rfl ?_
                          refine gq_on rfl rfl rfl rfl hg143 ?_
                          refine gq (y_bare (y_loads (cs := [_]) Tryd.isAgg24 Tryd.sizeOf24 rfl rfl (cells_box 8 rfl))) rfl rfl rfl ?_
                          refine gq_on rfl rfl rfl rfl hg143 ?_
                          refine gq_pure (e_call (vs := [.agg #[_], .agg #[_]]) Tryd.func14 rfl (by kernel_rfl) rfl) (fun w hM => refEqPol_any w _ _ _ _ (norR l).2 [] ((hr31.seal_ 5 rfl (Nat.le_refl _) hM).mono (Nat.zero_le _)) Rdl.nil (Nat.le_trans hcc31 hcm31)) rfl rfl rfl ?_
                          refine gq (y_pick_t (v := .bool _) rfl hg143 rfl) rfl rfl rfl ?_
                          refine gq (y_assign (v := .bool _) rfl) rfl rfl rfl ?_
                          refine gqs_nil ?_
                          refine hN80 _ _ ?_
                          refine gfrom [(4, .bool _)] ⟨rfl, trivial⟩ fun σ => ?_
                          refine gret fun w1 hM => ?_
                          refine ⟨_, res1 rfl (rt (v := .bool _) rfl), ?_⟩
                          exact ⟨by rw [hN]; simp, hM.low⟩
                        · 
                           exact absurd hg143 (by rw [hN]; simp)
                      · 
                        replace hc139 := Decidable.not_not.1 (of_decide_eq_false hc139)
                        have hB : ¬ (24 < (nrm (treeOf l) false).size ∨ 12 < (nrm (treeOf l) false).depth) := fun h => absurd (hmk1.2 h) (by omega)
                        have hN : norR l = (⟨0, 0⟩, post (nrm (treeOf l) false) 0) := by rw [hN0, madeR, if_neg hB]
                        refine gskip ?_
                        refine hN78 _ _ ?_
                        refine gfrom [(10, .pointer _), (11, .pointer _), (15, .pointer _)] ⟨rfl, rfl, rfl, trivial⟩ fun σ => ?_
                        refine gseq fun N81 hN81 => ?_
                        refine greg ?_
                        refine gop (y_fieldAddr_box fa28_0 rfl) rfl rfl rfl ?_
                        refine gop (y_load Tryd.isAgg3 rfl (cell_box 7 rfl rfl)) rfl rfl rfl ?_
                        refine gop (y_eql rfl rfl) rfl rfl rfl ?_
                        refine gop (y_move (v := .bool _) rfl) rfl rfl rfl ?_
                        refine gop_if (want := true) rfl rfl rfl rfl rfl rfl (fun hg151 => ?_) (fun hg151 => ?_)
                        · 
                          have hg151d := of_decide_eq_true hg151
                          refine gop (y_bare (y_loads (cs := [_]) Tryd.isAgg24 Tryd.sizeOf24 rfl rfl (cells_box 6 rfl))) rfl rfl rfl ?_
                          refine gop_on rfl rfl rfl rfl hg151 ?_
                          refine gop (y_bare (y_loads (cs := [_]) Tryd.isAgg24 Tryd.sizeOf24 rfl rfl (cells_box 10 rfl))) rfl rfl rfl ?_
                          refine gop_on rfl rfl rfl rfl hg151 ?_
                          refine gop_pure (e_call (vs := [.agg #[_], .agg #[_]]) Tryd.func14 rfl (by kernel_rfl) rfl) (fun w hM => refEqPol_any w _ _ _ _ (norR l).2 (post (nrm (treeOf l) false) 0) ((hr31.seal_ 5 rfl (Nat.le_refl _) hM).mono (Nat.zero_le _)) ((row_rdl (f := pnCells) (fun _ => rfl) (hM.ok _ (List.mem_of_getElem? (i := 9) rfl))).mono (Nat.zero_le _)) (Nat.le_trans hcc31 hcm31)) rfl rfl rfl ?_
                          refine gop (y_pick_t (v := .bool _) rfl hg151 rfl) rfl rfl rfl ?_
                          refine gop (y_assign (v := .bool _) rfl) rfl rfl rfl ?_
                          refine gops_nil ?_
                          refine hN81 _ _ ?_
                          refine gfrom [(4, .bool _)] ⟨rfl, trivial⟩ fun σ => ?_
                          refine gret fun w1 hM => ?_
                          refine ⟨_, res1 rfl (rt (v := .bool _) rfl), ?_⟩
                          exact ⟨by rw [hN]; simp, hM.low⟩
                        · 
                           exact absurd hg151 (by rw [hN]; simp)
                  · 
                     exact absurd hg118 (by rw [hE]; simp)
                · 
                  cases hc114
          · 
             exact absurd hg92 (by rw [hF]; simp)
  · 
     exact absurd hg37 (by simp)
end Go.Proofs.YtllblbkbglifjaaDoor
namespace Go.Proofs.YtllblbkbglifjaaDoor
open Go.RowKit Go.Cf
theorem errRow (u : TypeId) (h : Tryd.prog.typeName? 3 u = some "*errors.errorString") : u = 121 := by
  have star : "*" ++ "errors.errorString" = "*errors.errorString" := by decide
  exact typeName_ptr_named (nm := "errors.errorString") (by rw [star]; kernel_rfl) (by kernel_rfl) (by decide) u (by rw [star]; exact h)
theorem laidP_of {W : World} (h : laidMetH Tryd.prog [("math/bits.deBruijn32tab", Rows.laid_math_bits_deBruijn32tab), ("math/bits.deBruijn64tab", Rows.laid_math_bits_deBruijn64tab), ("internal/strconv.uint64pow10", Rows.laid_internal_strconv_uint64pow10), ("strconv.ErrRange", Rows.laid_strconv_ErrRange), ("strconv.ErrSyntax", Rows.laid_strconv_ErrSyntax)] W) : LaidP W := by
  rw [MakeChecks.laidMetH_plain _ _ _ (by kernel_rfl)] at h
  have h2 := h.tail.tail
  have gT : Tryd.prog.globalNamed "internal/strconv.uint64pow10" = some 1 := by kernel_rfl
  have gR : Tryd.prog.globalNamed "strconv.ErrRange" = some 3 := by kernel_rfl
  have gS : Tryd.prog.globalNamed "strconv.ErrSyntax" = some 2 := by kernel_rfl
  have hT : Lib.TabIs Tryd.prog W "internal/strconv.uint64pow10" .u64 Lib.pow10Tab := Lib.tabIs_of_head gT (t := 98) (by kernel_rfl) Tryd.underlying98 Tryd.underlying83 (by kernel_rfl) (by kernel_rfl) h2
  obtain ⟨a1, s1, hv1, -, -, -⟩ := laid_sentinel h2.tail gR (by kernel_rfl) Tryd.underlying87 errRow Tryd.underlying121 Tryd.underlying123 rfl rfl Tryd.underlying9 (by kernel_rfl) (by kernel_rfl)
  obtain ⟨a2, s2, hv2, -, -, -⟩ := laid_sentinel h2.tail.tail gS (by kernel_rfl) Tryd.underlying87 errRow Tryd.underlying121 Tryd.underlying123 rfl rfl Tryd.underlying9 (by kernel_rfl) (by kernel_rfl)
  have c1 : W.cell? ⟨3, 0, none⟩ = some (.iface 121 (.pointer (some a1))) := by have h0 := World.var?_cell gR hv1 0; simpa using h0
  have c2 : W.cell? ⟨2, 0, none⟩ = some (.iface 121 (.pointer (some a2))) := by have h0 := World.var?_cell gS hv2 0; simpa using h0
  have c3 := hT.cell gT 0 (by decide)
  have b1 := World.block_lt_of_cell? W _ c1
  have b2 := World.block_lt_of_cell? W _ c2
  have b3 := World.block_lt_of_cell? W _ c3
  simp only at b1 b2 b3
  exact ⟨hT, ⟨_, _, c2⟩, ⟨_, _, c1⟩, by omega⟩
end Go.Proofs.YtllblbkbglifjaaDoor
namespace Go.Cf
open Go.ChangeShapes Go.WideShapes Go.ChangeAt Go.RowKit Go.Deep
theorem trodAll_below {H : Type} {enc : TypeId × Value → H} {P : Program} (hl : laidOutB P = true) {W W' : World} (hb : Below W.heap.size W W') :
    ∀ {ts : List TypeId} {vs : List Value} {ds : List (DataW H)} {ps : List MemPlace}, (∀ t ∈ ts, P.readableRec t = true ∧ t < P.types.size) → DataW.TrodAll enc P W 0 (fun _ => true) true ts vs ds ps →
      DataW.TrodAll enc P W' 0 (fun b => decide (b < W.heap.size)) true ts vs ds ps
  | [], _, _, _, _, h => by
    obtain ⟨rfl, rfl, rfl⟩ := trodAll_nil h
    exact trodAll_mk0
  | t :: ts, _, _, _, hr, h => by
    obtain ⟨v, vs', d, ds', p, q, rfl, rfl, rfl, h1, h2⟩ := trodAll_cons h
    have lt : ∀ x ∈ p, x.block < W.heap.size := by obtain ⟨m, hm⟩ := h1; exact DataW.trod_lt m _ _ _ hm
    exact trodAll_cons_mk (Below.trod hl (hr t (by simp)).1 (hr t (by simp)).2 h1 hb lt) (trodAll_below hl hb (fun t' ht' => hr t' (by simp [ht'])) h2)
section
variable {H : Type} {enc : TypeId × Value → H} {P : Program} {w : World} {t e : TypeId} {v : Value} {d : DataW H} {p : List MemPlace} {b0 : Nat}
theorem weights_each {ts : List TypeId} {ds : List (DataW H)} {t : TypeId} {d : DataW H} (h : (DataW.weightsEach P (t :: ts) (d :: ds)).all (· ≤ reachBytes) = true) :
    (d.weights P t).all (· ≤ reachBytes) = true ∧ (DataW.weightsEach P ts ds).all (· ≤ reachBytes) = true := by
  simpa [DataW.weightsEach, List.all_append] using h
theorem weights_all {ds : List (DataW H)} (h : (DataW.weightsAll P e ds).all (· ≤ reachBytes) = true) : ∀ d ∈ ds, (d.weights P e).all (· ≤ reachBytes) = true := by
  induction ds with
  | nil => intro d hd; cases hd
  | cons x r ih =>
    simp only [DataW.weightsAll, List.all_append, Bool.and_eq_true] at h
    intro d hd
    rcases List.mem_cons.1 hd with rfl | hd
    · exact h.1
    · exact ih h.2 d hd
theorem weights_get : ∀ {ts : List TypeId} {ds : List (DataW H)}, (DataW.weightsEach P ts ds).all (· ≤ reachBytes) = true → ∀ (i : Nat) (t : TypeId) (d : DataW H), ts[i]? = some t → ds[i]? = some d → (d.weights P t).all (· ≤ reachBytes) = true
  | [], _, _, i, t, d, h1, _ => by simp at h1
  | _ :: _, [], _, i, t, d, _, h2 => by simp at h2
  | t0 :: ts, d0 :: ds, h, 0, t, d, h1, h2 => by
    simp at h1 h2
    subst h1 h2
    exact (weights_each h).1
  | t0 :: ts, d0 :: ds, h, i + 1, t, d, h1, h2 => weights_get (weights_each h).2 i t d (by simpa using h1) (by simpa using h2)
theorem rd_struct {fs : Array Field} {n : Nat} {cs : List Value} {x : DataW H × List MemPlace} (ht : P.underlying t = some (.struct fs)) (h : DataW.trod enc P w 0 (fun _ => true) true n t cs = some x) (hw : (x.1.weights P t).all (· ≤ reachBytes) = true) :
    ∃ m, cs.length = P.cellsOf t ∧ ∀ (i : Nat) (f : Field), fs[i]? = some f → ∃ y, DataW.trod enc P w 0 (fun _ => true) true m f.type ((cs.drop f.offset).take (P.cellsOf f.type)) = some y ∧ (y.1.weights P f.type).all (· ≤ reachBytes) = true := by
  obtain ⟨ys, m, _, hx, hl, hn, hf⟩ := DataW.trod_struct ht h
  refine ⟨m, hl, fun i f hi => ?_⟩
  have hlt : i < fs.size := by
    rcases Nat.lt_or_ge i fs.size with h | h
    · exact h
    · rw [Array.getElem?_eq_none h] at hi; cases hi
  obtain ⟨y, hy⟩ : ∃ y, ys[i]? = some y := ⟨_, List.getElem?_eq_getElem (by omega)⟩
  refine ⟨y, (hf i f hi).trans hy, ?_⟩
  rw [hx] at hw
  simp only [DataW.weights, ht] at hw
  exact weights_get hw i f.type y.1 (by simp [hi]) (by simp [hy])
theorem choose_list {α : Type} (n : Nat) (Q : Nat → α → Prop) (h : ∀ i, i < n → ∃ a, Q i a) : ∃ l : List α, l.length = n ∧ ∀ i a, l[i]? = some a → Q i a := by
  induction n with
  | zero => exact ⟨[], rfl, fun i a h => by simp at h⟩
  | succ n ih =>
    obtain ⟨l, hl, hq⟩ := ih (fun i hi => h i (by omega))
    obtain ⟨a, ha⟩ := h n (by omega)
    refine ⟨l ++ [a], by simp [hl], fun i b hb => ?_⟩
    rcases Nat.lt_or_ge i n with hi | hi
    · rw [List.getElem?_append_left (by omega)] at hb; exact hq i b hb
    · rw [List.getElem?_append_right (by omega), hl] at hb
      have : i - n = 0 := by
        rcases Nat.eq_zero_or_pos (i - n) with h0 | h0
        · exact h0
        · rw [List.getElem?_eq_none (by simp; omega)] at hb; cases hb
      rw [this] at hb
      simp at hb
      have hi' : i = n := by omega
      rw [← hb, hi']; exact ha
theorem rd_cells {α : Type} {f : α → List Value} {size : Nat} {Q : α → Prop} {fuel : Nat} {cs : List Value} {x : DataW H × List MemPlace} (ht : P.underlying t = some (.slice e)) (hC : P.cellsOf e = size)
    (hel : ∀ (n : Nat) (cs : List Value) (x : DataW H × List MemPlace), DataW.trod enc P w 0 (fun _ => true) true n e cs = some x → (x.1.weights P e).all (· ≤ reachBytes) = true → ∃ a, cs = f a ∧ Q a)
    (h : DataW.trod enc P w 0 (fun _ => true) true fuel t cs = some x) (hw : (x.1.weights P t).all (· ≤ reachBytes) = true) :
    ∃ (A : Option Addr) (c : Nat) (l : List α), cs = [.slice A l.length c] ∧ Rdl w 0 size f A l ∧ l.length ≤ c ∧ c ≤ maxLen ∧ (A = none → c = 0) ∧ c * P.bytesOf e ≤ reachBytes ∧ ∀ a ∈ l, Q a := by
  rcases open_slice ht h with ⟨h0, h1⟩ | ⟨a, len, cap, m, n, D, Pl, hcs, hb, hlc, hm, hmm, hx, hi⟩
  · exact ⟨none, 0, [], by simpa using h0, Rdl.nil, Nat.le_refl _, by unfold maxLen; omega, fun _ => rfl, by simp, fun a ha => by cases ha⟩
  · simp only [if_true] at hmm
    obtain rfl : m = cap := hmm
    have hwx : ((DataW.slice ((List.range len).map D) ((List.range (m - len)).map fun j => D (len + j))).weights P t).all (· ≤ reachBytes) = true := by rw [hx] at hw; exact hw
    simp only [DataW.weights, ht, List.all_cons, List.all_append, Bool.and_eq_true, decide_eq_true_eq, List.length_map, List.length_range] at hwx
    obtain ⟨hw1, hw2, _⟩ := hwx
    have hw2' := weights_all hw2
    obtain ⟨l, hl, hq⟩ := choose_list len (fun i a' => Q a' ∧ ∀ j u, (f a')[j]? = some u → w.cell? (a.add (i * size + j)) = some u) (fun i hlt => by
      obtain ⟨cs', hc, ht'⟩ := hi i (by omega)
      obtain ⟨a', he, hqa⟩ := hel n cs' (D i, Pl i) ht' (hw2' (D i) (List.mem_map.2 ⟨i, by simpa using hlt, rfl⟩))
      refine ⟨a', hqa, fun j u hu => ?_⟩
      obtain ⟨_, hcl, hat⟩ := World.cells?_some hc
      rw [← he] at hu
      have hj : j < P.cellsOf e := by
        rcases Nat.lt_or_ge j (P.cellsOf e) with h | h
        · exact h
        · rw [List.getElem?_eq_none (by omega)] at hu; cases hu
      have := hat j hj
      rw [hu, hC, add_add] at this
      exact this)
    have hlm : len + (m - len) = m := by omega
    rw [hlm] at hw1
    refine ⟨some a, m, l, by rw [hcs, hl], fun _ => ⟨a, rfl, Nat.zero_le _, fun k x hk => (hq k x hk).2⟩, by omega, hm, (fun h => by cases h), hw1, fun b hb => ?_⟩
    obtain ⟨k, hk⟩ := List.mem_iff_getElem?.1 hb
    exact (hq k b hk).1
theorem rd_agg {α : Type} {f : α → List Value} {Q : α → Prop} {fs : Array Field} (ht : P.underlying t = some (.struct fs))
    (hel : ∀ (n : Nat) (cs : List Value) (x : DataW H × List MemPlace), DataW.trod enc P w 0 (fun _ => true) true n t cs = some x → (x.1.weights P t).all (· ≤ reachBytes) = true → ∃ a, cs = f a ∧ Q a)
    (hok : Value.okWide P w .any b0 t v) (h : DataW.Trod enc P w 0 (fun _ => true) true t v d p) (hw : (d.weights P t).all (· ≤ reachBytes) = true) : ∃ a, v = .agg (f a).toArray ∧ Q a := by
  obtain ⟨cs, rfl, _⟩ := okWide_struct ht hok
  obtain ⟨fuel, hf⟩ := h
  obtain ⟨a, ha, hq⟩ := hel fuel _ _ hf hw
  refine ⟨a, ?_, hq⟩
  rw [← ha]
  simp [Value.cells]
end
end Go.Cf
namespace Go.Cf
structure PolC where
  A : Option Addr
  c : Nat
  l : List PN
abbrev polCells (a : PolC) : List Value := [.slice a.A a.l.length a.c]
abbrev factCells (F : PFacts) : List Value := [.int .i64 F.score, .bool F.owners, .bool F.tests, .int .i64 F.users]
end Go.Cf
namespace Go.Proofs.YtllblbkbglifjaaDoor
open Go.ChangeShapes Go.WideShapes Go.ChangeAt Go.RowKit Go.Cf
set_option maxRecDepth 100000
theorem cp_int : Tryd.prog.cellsOf 3 = 1 := by kernel_rfl
theorem cp_bool : Tryd.prog.cellsOf 4 = 1 := by kernel_rfl
theorem cp_nodes : Tryd.prog.cellsOf 22 = 1 := by kernel_rfl
theorem el_node {H : Type} {enc : TypeId × Value → H} {w : World} : ∀ (n : Nat) (cs : List Value) (x : DataW H × List MemPlace), DataW.trod enc Tryd.prog w 0 (fun _ => true) true n 47 cs = some x →
    (x.1.weights Tryd.prog 47).all (· ≤ reachBytes) = true → ∃ a : PN, cs = pnCells a ∧ True := by
  intro n cs x h hw
  obtain ⟨m, hlen, hf⟩ := rd_struct Tryd.underlying47 h hw
  have hl : cs.length = 4 := hlen.trans (by kernel_rfl)
  match cs, hl with
  | [c0, c1, c2, c3], _ =>
    obtain ⟨y0, f0, _⟩ := hf 0 _ rfl
    obtain ⟨y1, f1, _⟩ := hf 1 _ rfl
    obtain ⟨y2, f2, _⟩ := hf 2 _ rfl
    obtain ⟨y3, f3, _⟩ := hf 3 _ rfl
    simp [cp_int] at f0 f1 f2 f3
    obtain ⟨a0, e0, _, b0⟩ := DataW.trod_int Tryd.underlying3 f0
    obtain ⟨a1, e1, _, b1⟩ := DataW.trod_int Tryd.underlying3 f1
    obtain ⟨a2, e2, _, b2⟩ := DataW.trod_int Tryd.underlying3 f2
    obtain ⟨a3, e3, _, b3⟩ := DataW.trod_int Tryd.underlying3 f3
    simp at e0 e1 e2 e3
    subst e0 e1 e2 e3
    exact ⟨⟨a0, a1, a2, a3⟩, rfl, trivial⟩
theorem el_pol {H : Type} {enc : TypeId × Value → H} {w : World} : ∀ (n : Nat) (cs : List Value) (x : DataW H × List MemPlace), DataW.trod enc Tryd.prog w 0 (fun _ => true) true n 24 cs = some x →
    (x.1.weights Tryd.prog 24).all (· ≤ reachBytes) = true → ∃ a : PolC, cs = polCells a ∧ (Rdl w 0 4 pnCells a.A a.l ∧ a.l.length ≤ a.c ∧ a.c ≤ maxLen) := by
  intro n cs x h hw
  obtain ⟨m, hlen, hf⟩ := rd_struct Tryd.underlying24 h hw
  have hl : cs.length = 1 := hlen.trans (by kernel_rfl)
  match cs, hl with
  | [c0], _ =>
    obtain ⟨y0, f0, w0⟩ := hf 0 _ rfl
    simp [cp_nodes] at f0
    obtain ⟨A1, c1', l1, e1, r1, s1, m1, n1, t1, q1⟩ := rd_cells Tryd.underlying22 (by kernel_rfl) el_node f0 w0
    simp at e1
    subst e1
    exact ⟨⟨A1, c1', l1⟩, rfl, r1, s1, m1⟩
theorem el_facts {H : Type} {enc : TypeId × Value → H} {w : World} : ∀ (n : Nat) (cs : List Value) (x : DataW H × List MemPlace), DataW.trod enc Tryd.prog w 0 (fun _ => true) true n 26 cs = some x →
    (x.1.weights Tryd.prog 26).all (· ≤ reachBytes) = true → ∃ a : PFacts, cs = factCells a ∧ True := by
  intro n cs x h hw
  obtain ⟨m, hlen, hf⟩ := rd_struct Tryd.underlying26 h hw
  have hl : cs.length = 4 := hlen.trans (by kernel_rfl)
  match cs, hl with
  | [c0, c1, c2, c3], _ =>
    obtain ⟨y0, f0, _⟩ := hf 0 _ rfl
    obtain ⟨y1, f1, _⟩ := hf 1 _ rfl
    obtain ⟨y2, f2, _⟩ := hf 2 _ rfl
    obtain ⟨y3, f3, _⟩ := hf 3 _ rfl
    simp [cp_int, cp_bool] at f0 f1 f2 f3
    obtain ⟨a0, e0, _, b0⟩ := DataW.trod_int Tryd.underlying3 f0
    obtain ⟨a1, e1, _⟩ := DataW.trod_bool Tryd.underlying4 f1
    obtain ⟨a2, e2, _⟩ := DataW.trod_bool Tryd.underlying4 f2
    obtain ⟨a3, e3, _, b3⟩ := DataW.trod_int Tryd.underlying3 f3
    simp at e0 e1 e2 e3
    subst e0 e1 e2 e3
    exact ⟨⟨a0, a1, a2, a3⟩, rfl, trivial⟩
end Go.Proofs.YtllblbkbglifjaaDoor
namespace Go.Cf
open Go.ChangeShapes Go.WideShapes Go.ChangeAt Go.RowKit Go.Deep
theorem law_lift_row {H : Type} {enc : TypeId × Value → H} {C : Checked} {os : Os} {f : FuncId} {fn : Func} {s : OpenSpec} {F : Stop.Interp} {conds : List PathCond} {tb : TypeId} {laid : List (String × DataW Unit)}
    (own : ownKnob C.prog.godebug = none) (started : os.Started) (noInit : C.prog.inits.idxOf? f = none) (hfn : C.prog.funcs[f]? = some fn)
    (witness : ∃ (w : World) (tape : Tape) (i : Input), w.os = os ∧ (w.forCall tape i).Shaped C.prog ∧ i.vars = [] ∧ Input.okWide C.prog (w.forCall tape i) .any w.heap.size f i ∧
      s.preRow enc C.prog fn conds false laid (w.forCall tape i).memory i.args ∧ Assume.holds {} C.prog (lone (Frame.enter C.prog f i.args .normal) [] (w.forCall tape i)))
    (hl : laidOutB C.prog = true) (hread : (fn.params.toList.all fun t => C.prog.readableRec t && decide (t < C.prog.types.size)) = true) (hres : fn.resultTypes = #[tb]) (htb : C.prog.underlying tb = some .bool) (hvars : s.vars = []) (hvars0 : (s.at F).vars = []) (hvt : s.bare.plain.varTypes C.prog = [])
    (hspec : ∀ ds : List (DataW H), ds.length = fn.params.size → ((s.at F).fn H (ds ++ [])).results = [.lit (.bool true)] ∧ ((s.at F).fn H (ds ++ [])).args = ds ∧ ((s.at F).fn H (ds ++ [])).vars = [])
    (contract : ∀ (W : World) (base : Nat) (args : Array Value) (ds : List (DataW H)) (p : List MemPlace),
      (∀ (j : Nat) t v, fn.params[j]? = some t → args[j]? = some v → Value.okWide C.prog W .any base t v) → DataW.TrodAll enc C.prog W 0 (fun _ => true) true fn.params.toList args.toList ds p →
      (DataW.weightsEach C.prog fn.params.toList ds).all (· ≤ reachBytes) = true → (∀ k, s.cond = some k → k H ds = true) → laidMetH C.prog laid W →
      Calls C.prog f args W fun e W' => e = .returned (.bool true) ∧ Below W.heap.size W W') :
    ReturnsInHanded {} C os f .any (s.preRow enc C.prog fn conds false laid) ((s.at F).post enc C.prog fn false true false false) := by
  refine returnsInHanded_of_row own started noInit hfn witness ?_
  intro W base args ds gs before hval hW _ hkk hsz hL _ _
  have hW' := hW
  obtain ⟨p, q, hA, hV, rfl, _, _⟩ := hW
  rw [hvars] at hV
  obtain ⟨rfl, rfl⟩ := trodVars_none hV
  have hlen : ds.length = fn.params.size := by
    have key : ∀ (ts : List TypeId) (vs : List Value) (ds : List (DataW H)) (p : List MemPlace), DataW.TrodAll enc C.prog W 0 (fun _ => true) true ts vs ds p → ds.length = ts.length := by
      intro ts
      induction ts with
      | nil => intro vs ds p h; obtain ⟨_, rfl, _⟩ := trodAll_nil h; rfl
      | cons t ts ih => intro vs ds p h; obtain ⟨v, vs', d, ds', p, q, rfl, rfl, rfl, _, h2⟩ := trodAll_cons h; simp [ih _ _ _ h2]
    rw [key _ _ _ _ hA]; simp
  have hw : (DataW.weightsEach C.prog fn.params.toList ds).all (· ≤ reachBytes) = true := by
    simpa [hvt] using hsz
  refine (contract W base args ds p hval hA hw (fun k hk => by simpa using hkk k hk) hL).mono fun e W' ⟨he, bel⟩ => ?_
  subst he
  obtain ⟨h1, h2, h3⟩ := hspec ds hlen
  have hr : ∀ t ∈ fn.params.toList, C.prog.readableRec t = true ∧ t < C.prog.types.size := by
    intro t ht
    have := List.all_eq_true.1 hread t ht
    simpa using this
  refine ⟨_, rfl, ds, [], p ++ [], [], p, [], hW', ?_, ?_, ?_, World.keptBut_mono (fun x hx => ⟨hx, ?_⟩) (bel.frame (· ∈ p ++ [])), fun h => by cases h⟩
  · rw [h1, hres]; exact trodAll_mk1 (shut_bool htb _)
  · rw [h2]; exact trodAll_below hl bel hr hA
  · rw [h3, hvars0]; rfl
  · right; left; simpa using hx
end Go.Cf
namespace Go.Proofs.YtllblbkbglifjaaDoor
open Go.ChangeShapes Go.WideShapes Go.ChangeAt Go.RowKit Go.Cf
set_option maxRecDepth 100000 in
theorem policyFunctionsMatchSpec_lifted (os : Os) (started : os.Started) (H : Type) (enc : TypeId × Value → H) (F : Stop.Interp) :
    ReturnsInHanded {} Tryd.checked os 3 .any ((OpenSpec.ofChange Rows.policyFunctionsMatchSpecSpec).preRow enc Tryd.prog Tryd.f3 Rows.policyFunctionsMatchSpecRow.domain false Rows.policyFunctionsMatchSpecRow.laid) (((OpenSpec.ofChange Rows.policyFunctionsMatchSpecSpec).at F).post enc Tryd.prog Tryd.f3 false true false false) := by
  refine law_lift_row (C := Tryd.checked) (s := OpenSpec.ofChange Rows.policyFunctionsMatchSpecSpec) (tb := 4) (by kernel_rfl) started (by kernel_rfl) Tryd.func3
    (witness_row_at (enc := enc) (C := Tryd.checked) false ({ (World.holding Tryd.prog os ⟨#[.cells #[.string ⟨#[118, 97, 108, 117, 101, 32, 111, 117, 116, 32, 111, 102, 32, 114, 97, 110, 103, 101]⟩] 123, .cells #[.string ⟨#[105, 110, 118, 97, 108, 105, 100, 32, 115, 121, 110, 116, 97, 120]⟩] 123], #[], []⟩) with heap := ((((((World.holding Tryd.prog os ⟨#[.cells #[.string ⟨#[118, 97, 108, 117, 101, 32, 111, 117, 116, 32, 111, 102, 32, 114, 97, 110, 103, 101]⟩] 123, .cells #[.string ⟨#[105, 110, 118, 97, 108, 105, 100, 32, 115, 121, 110, 116, 97, 120]⟩] 123], #[], []⟩).heap).modify 4 (fun | .cells _ t fz => .cells ((([0, 1, 28, 2, 29, 14, 24, 3, 30, 22, 20, 15, 25, 17, 4, 8, 31, 27, 13, 23, 21, 19, 16, 7, 26, 12, 18, 6, 11, 5, 10, 9] : List Nat).map fun n : Nat => Value.int .u8 (n : Int)).toArray) t fz | o => o)).modify 5 (fun | .cells _ t fz => .cells ((([0, 1, 56, 2, 57, 49, 28, 3, 61, 58, 42, 50, 38, 29, 17, 4, 62, 47, 59, 36, 45, 43, 51, 22, 53, 39, 33, 30, 24, 18, 12, 5, 63, 55, 48, 27, 60, 41, 37, 16, 46, 35, 44, 21, 52, 32, 23, 11, 54, 26, 40, 15, 34, 20, 31, 10, 25, 14, 19, 9, 13, 8, 7, 6] : List Nat).map fun n : Nat => Value.int .u8 (n : Int)).toArray) t fz | o => o)).modify 1 (fun | .cells _ t fz => .cells ((([1, 10, 100, 1000, 10000, 100000, 1000000, 10000000, 100000000, 1000000000, 10000000000, 100000000000, 1000000000000, 10000000000000, 100000000000000, 1000000000000000, 10000000000000000, 100000000000000000, 1000000000000000000, 10000000000000000000] : List Nat).map fun n : Nat => Value.int .u64 (n : Int)).toArray) t fz | o => o)).modify 3 (fun | .cells _ t fz => .cells (#[.iface 121 (.pointer (some ⟨11, 0, none⟩))]) t fz | o => o)).modify 2 (fun | .cells _ t fz => .cells (#[.iface 121 (.pointer (some ⟨12, 0, none⟩))]) t fz | o => o) } : World) #[.agg #[.slice none 0 0], .agg #[.int .i64 0, .bool false, .bool false, .int .i64 0]] rfl (by kernel_rfl) (by kernel_rfl) (by kernel_rfl)
      (OpenSpec.preRow_of_cond 8 (show DataW.whole enc Tryd.prog _ Tryd.f3.params.toList _ false _ 8 = some ([.agg [.nil], .agg [.lit (.int .i64 0), .lit (.bool false), .lit (.bool false), .lit (.int .i64 0)]], [], []) by kernel_rfl) (by kernel_rfl) (fun k hk => by cases hk) (by kernel_rfl) (laidMet_of_run' 8 (by kernel_rfl) (by kernel_rfl))))
    (by kernel_rfl) (by kernel_rfl) (by kernel_rfl) Tryd.underlying4 rfl rfl rfl ?_ ?_
  · intro ds hds
    rw [show Tryd.f3.params.size = 2 from by rw [Tryd.params3]; rfl] at hds
    match ds, hds with
    | [d0, d1], _ => exact ⟨rfl, rfl, rfl⟩
  · intro W base args ds p hval hA hw hk hL
    rw [show Tryd.f3.params.toList = [24, 26] from by rw [Tryd.params3]] at hA hw
    rw [Tryd.params3] at hval
    obtain ⟨v0, vs0, d0, ds0, p0, q0, hargs, rfl, rfl, h0, r0⟩ := trodAll_cons hA
    obtain ⟨v1, vs1, d1, ds1, p1, q1, rfl, rfl, rfl, h1, r1⟩ := trodAll_cons r0
    obtain ⟨rfl, rfl, rfl⟩ := trodAll_nil r1
    obtain rfl : args = #[v0, v1] := by cases args; simp_all
    obtain ⟨w0, hw⟩ := weights_each hw
    obtain ⟨w1, hw⟩ := weights_each hw
    obtain ⟨⟨A0, c0, l0⟩, rfl, hv0, hlc0, hcm0⟩ := rd_agg Tryd.underlying24 el_pol (hval 0 24 v0 rfl rfl) h0 w0
    obtain ⟨F1, rfl, -⟩ := rd_agg Tryd.underlying26 el_facts (hval 1 26 v1 rfl rfl) h1 w1
    exact law30_any W A0 c0 l0 hv0 hlc0 hcm0 F1 (laidP_of hL)
theorem policyFunctionsMatchSpec_said : Rows.PolicyFunctionsMatchSpecSaid :=
  OpenClaim.holds_of_cond 3 Tryd.f3 rfl rfl rfl rfl rfl rfl rfl ⟨rfl, rfl, rfl, rfl, rfl⟩ rfl rfl rfl rfl rfl (by kernel_rfl) Tryd.func3 (by kernel_rfl)
    (of_decide_eq_true (by kernel_rfl)) (by unfold Func.isWrapper; first | (rw [if_pos (by decide +kernel)]; kernel_rfl) | (rw [if_neg (by decide +kernel)]; exact ⟨rfl, rfl⟩))
    (fun os started H enc _ F => by rw [OpenClaim.pre_eq_preRow]; exact policyFunctionsMatchSpec_lifted os started H enc F)
theorem policyFunctionsMatchSpec_plain (f : FuncId) (fn : Func) (hf : Tryd.pinned.checked.prog.funcNamed "changeforge/changeforgelaw7.PolicyFunctionsMatchSpec" = some f) (hfn : Tryd.pinned.checked.prog.funcs[f]? = some fn) :
    true = Tryd.pinned.checked.prog.looks [] ∧ ∀ (j : Nat) t, fn.params[j]? = some t → Tryd.pinned.checked.prog.wantsStandIn t = false := by
  obtain rfl : f = 3 := Option.some.inj ((show Tryd.prog.funcNamed "changeforge/changeforgelaw7.PolicyFunctionsMatchSpec" = some 3 by kernel_rfl).symm.trans hf) |>.symm
  obtain rfl : fn = Tryd.f3 := (Option.some.inj (Tryd.func3.symm.trans hfn)).symm
  refine ⟨by kernel_rfl, fun j t ht => ?_⟩
  rw [Tryd.params3] at ht
  have hm : t ∈ [24, 26] := by simpa using Array.mem_of_getElem? ht
  have hall : ([24, 26].all fun u => !Tryd.prog.wantsStandIn u) = true := by kernel_rfl
  exact (show Tryd.prog.wantsStandIn t = false by simpa using List.all_eq_true.1 hall t hm)
theorem policyFunctionsMatchSpec_holds : Rows.PolicyFunctionsMatchSpecCardSaid :=
  Claim7.holds_tied_plain_at .later [] _ _ _ _ policyFunctionsMatchSpec_said (fun _ h => by cases h) (by kernel_rfl) (fun _ h => by cases h) policyFunctionsMatchSpec_row_tie rfl ⟨rfl, rfl⟩ (by kernel_rfl) rfl policyFunctionsMatchSpec_plain (by kernel_rfl)
end Go.Proofs.YtllblbkbglifjaaDoor
