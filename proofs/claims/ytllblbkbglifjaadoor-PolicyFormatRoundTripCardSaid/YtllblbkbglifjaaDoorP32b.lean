/- Own frame, plain models and walks, part 2 (texts of this claim put together). -/
import Derived.Test.YtllblbkbglifjaaDoorP32a
import Derived.Laws.BitsLemmas
import Derived.Lib.AppendIntMem
import Derived.Lib.AtoiAll
import Derived.Lib.AtoiAllCases
import Derived.Lib.AtoiErrMem
import Derived.Lib.AtoiTie
import Derived.Lib.ItoaLen
import Derived.Lib.ItoaNum
import Derived.Shelf.LaysC
import Derived.Shelf.LaysM
import Derived.Shelf.Small.Strs
import Derived.Shelf.Strconv.Atoi
import Derived.Shelf.Strconv.AtoiAll
import Derived.Shelf.Strconv.AtoiErrFast
import Derived.Shelf.Strconv.AtoiFail
import Derived.Shelf.Strconv.AtoiInnerAll
import Derived.Shelf.Strconv.AtoiLong
import Derived.Shelf.Strconv.Clone
import Derived.Shelf.Strconv.ErrVarAll
import Derived.Shelf.Strconv.Itoa0
import Derived.Shelf.Strconv.Itoa1
import Derived.Shelf.Strconv.Itoa2
import Derived.Shelf.Strconv.Itoa3
import Derived.Shelf.Strconv.Lower
import Derived.Shelf.Strconv.ParseInt10
import Derived.Shelf.Strconv.ParseIntEmpty
import Derived.Shelf.Strconv.ParseUint10
import Derived.Shelf.Strconv.ParseUint10Any
import Derived.Shelf.Strconv.ParseUint10Empty
import Derived.Shelf.Strconv.RangeError
import Derived.Shelf.Strconv.SyntaxError
import Derived.Shelf.Strconv.ToError
import Derived.Shelf.Strconv.ToErrorRange
import Derived.Shelf.Strings.Search1
import Derived.Stop.IfaceNil
import Derived.Test.YtllblbkbglifjaaDoorProg
namespace Go.Cf
open Go.RowKit
theorem i64_and1 (n : Int) : bits .and .i64 n 1 = n % 2 := by
  have h1 : (BitVec.ofInt 64 1).toNat = 2 ^ 1 - 1 := by decide
  have key : (BitVec.ofInt 64 n &&& BitVec.ofInt 64 1).toNat = (n % ((2 ^ 64 : Nat) : Int)).toNat % 2 ^ 1 := by
    rw [BitVec.toNat_and, BitVec.toNat_ofInt, h1, Nat.and_two_pow_sub_one_eq_mod]
  show IntKind.i64.wrap ((BitVec.ofInt 64 n &&& BitVec.ofInt 64 1).toNat : Nat) = n % 2
  rw [key, IntKind.wrap_i64]
  omega
section
variable {P : Program} {w0 : World} {T : List Reg} {ρ : Env} {dst : Option Tmp} {ty t yt : TypeId} {pos : String} {af : Array Edge} {gd : Option (Nat × Bool)} {x y : Operand} {a b : Int}
theorem y_shr (hx : ev ρ x = .int .i64 a) (hy : ev ρ y = .int .i64 b) (h0 : 0 ≤ b) (h1 : b ≤ 64) : Yield P w0 T ρ ⟨dst, .binOp .shr t x y yt, ty, pos, af, gd⟩ (.int .i64 (a / 2 ^ b.toNat)) := fun _ _ => by
  simp [execOp, go_sem, hx, hy, shift_shr_i64 _ _ _ h0 h1]
theorem y_and1 (hx : ev ρ x = .int .i64 a) (hy : ev ρ y = .int .i64 1) : Yield P w0 T ρ ⟨dst, .binOp .and t x y yt, ty, pos, af, gd⟩ (.int .i64 (a % 2)) := fun _ _ => by
  simp [execOp, go_sem, hx, hy, i64_and1]
end
end Go.Cf
namespace Go.Cf
theorem pol_ok {l : List PN} (h : polF l = ⟨0, 0⟩) : 0 < l.length ∧ l.length ≤ 24 ∧ (∀ j (h : j < l.length), chk l[j] (rootsTo l j) = 0) := by
  unfold polF at h
  split at h
  · cases h
  rename_i c1
  split at h
  · cases h
  rename_i c2
  split at h
  · rename_i c3; exact absurd h c3
  rename_i c3
  have c3' : scanP_ l = ⟨0, 0⟩ := Classical.byContradiction fun hn => c3 hn
  exact ⟨by omega, by omega, fun j hj => scan_zero.1 c3' j hj⟩
section
variable {F : PFacts} {n : PN} {out : List Bool}
theorem ev1 (h : n.kind = 1) : evN F n out = decide (n.number ≤ F.score) := by rw [evN, if_pos h]
theorem ev2 (h : n.kind = 2) : evN F n out = F.owners := by rw [evN, if_neg (by omega), if_pos h]
theorem ev3 (h : n.kind = 3) : evN F n out = F.tests := by rw [evN, if_neg (by omega), if_neg (by omega), if_pos h]
theorem ev4 (h : n.kind = 4) : evN F n out = decide (F.users / 2 ^ n.number.toNat % 2 = 1) := by rw [evN, if_neg (by omega), if_neg (by omega), if_neg (by omega), if_pos h]; rfl
theorem ev5 (h : n.kind = 5) : evN F n out = !gB out n.left := by rw [evN, if_neg (by omega), if_neg (by omega), if_neg (by omega), if_neg (by omega), if_pos h]
theorem ev6 (h : n.kind = 6) : evN F n out = (gB out n.left && gB out n.right) := by rw [evN, if_neg (by omega), if_neg (by omega), if_neg (by omega), if_neg (by omega), if_neg (by omega), if_pos h]
theorem ev7 (h : n.kind = 7) : evN F n out = (gB out n.left || gB out n.right) := by rw [evN, if_neg (by omega), if_neg (by omega), if_neg (by omega), if_neg (by omega), if_neg (by omega), if_neg (by omega)]
end
theorem evalF_bad {l : List PN} {F : PFacts} (h : polF l ≠ ⟨0, 0⟩) : evalF l F = polF l ∧ evalV l F = false := by
  have e : evalF l F = polF l := by rw [evalF, if_pos h]
  exact ⟨e, by rw [evalV, if_neg (by rw [e]; exact h)]⟩
theorem evalF_range {l : List PN} {F : PFacts} (h : polF l = ⟨0, 0⟩) (h2 : factsBad F) : evalF l F = ⟨3, -2⟩ ∧ evalV l F = false := by
  have e : evalF l F = ⟨3, -2⟩ := by rw [evalF, if_neg (fun h9 => h9 h), if_pos h2]
  exact ⟨e, by rw [evalV, if_neg (by rw [e]; decide)]⟩
theorem evalF_ok {l : List PN} {F : PFacts} (h : polF l = ⟨0, 0⟩) (h2 : ¬ factsBad F) : evalF l F = ⟨0, 0⟩ ∧ evalV l F = valAt (evN F) l (l.length - 1) := by
  have e : evalF l F = ⟨0, 0⟩ := by rw [evalF, if_neg (fun h9 => h9 h), if_neg h2]
  exact ⟨e, by rw [evalV, if_pos e]⟩
abbrev factsV (F : PFacts) : Value := .agg #[.int .i64 F.score, .bool F.owners, .bool F.tests, .int .i64 F.users]
end Go.Cf
namespace Go.Proofs.YtllblbkbglifjaaDoor
open Go.RowKit Go.Cf
set_option maxRecDepth 10000
theorem eg28 (op : BinOp) (x y : Operand) (xs ys : Array Value) (w : World) : (eqGuard op 28 x y (.agg xs) (.agg ys)).run Tryd.prog w = .ok () w := run_eqGuard_agg w op 28 x y xs ys (by kernel_rfl)
theorem ne28 (a0 b0 : Int) (a1 b1 : Int) (w : World) : (binOp .neq 28 (.agg #[.int .i64 a0, .int .i64 a1]) (.agg #[.int .i64 b0, .int .i64 b1])).run Tryd.prog w = .ok (.bool (!(decide (a0 = b0) && decide (a1 = b1)))) w := by
  simp [run_neq_struct, run_equalIn_agg, Tryd.underlying28, Tryd.stoodInHeld28, Program.fieldsOf, go_sem]
  (repeat' split) <;> simp_all
theorem fa26_0 (a : Addr) (w : World) : (Instr.fieldAt 26 (.pointer (some a)) 0).run Tryd.prog w = .ok (.pointer (some (a.add 0))) w := by kernel_rfl
theorem fa26_3 (a : Addr) (w : World) : (Instr.fieldAt 26 (.pointer (some a)) 3).run Tryd.prog w = .ok (.pointer (some (a.add 3))) w := by kernel_rfl
theorem fa26_1 (a : Addr) (w : World) : (Instr.fieldAt 26 (.pointer (some a)) 1).run Tryd.prog w = .ok (.pointer (some (a.add 1))) w := by kernel_rfl
theorem fa26_2 (a : Addr) (w : World) : (Instr.fieldAt 26 (.pointer (some a)) 2).run Tryd.prog w = .ok (.pointer (some (a.add 2))) w := by kernel_rfl
set_option maxHeartbeats 8000000 in
theorem polEval_any (w : World) (A : Option Addr) (c : Nat) (l : List PN) (hl : Rdl w 0 4 pnCells A l) (hlc : l.length ≤ c) (hcm : c ≤ maxLen) (F : PFacts) : Calls Tryd.prog 10 #[.agg #[.slice A l.length c], factsV F] w fun e w' => e = .returned (.tuple #[.bool (evalV l F), fv (evalF l F)]) ∧ Below w.heap.size w w' := by
  have hlm : l.length ≤ 9223372036854775807 := by have h9 := Nat.le_trans hlc hcm; unfold maxLen at h9; omega
  refine gcalls Tryd.func10 rfl Tryd.ntmps10 (Nat.le_of_ble_eq_true rfl) ?_
  refine gfrom [(0, .agg #[_]), (1, factsV F)] ⟨rfl, rfl, trivial⟩ fun σ => ?_
  refine gseq fun N1 hN1 => ?_
  refine greg ?_
  refine gop_box (v := .agg #[_]) (cs := #[_]) rfl rfl rfl (fun b2 hb2 => ?_)
  refine gop_box (v := factsV F) (cs := #[_, _, _, _]) rfl rfl rfl (fun b3 hb3 => ?_)
  refine gop (y_assign (v := .bool _) rfl) rfl rfl rfl ?_
  refine gop_alloc (cs := #[.int .i64 0, .int .i64 0]) Tryd.zeroValue28 rfl rfl (fun b5 hb5 => ?_)
  refine gops_nil ?_
  refine hN1 _ _ ?_
  refine gT [box b2 _, box b3 _, box b5 _] rfl ?_
  refine gfrom [(2, .pointer _), (3, .pointer _), (5, .pointer _)] ⟨rfl, rfl, rfl, trivial⟩ fun σ => ?_
  refine gseq fun N2 hN2 => ?_
  refine gseq fun N3 hN3 => ?_
  refine greg ?_
  refine gop (y_loads (cs := [_]) Tryd.isAgg24 Tryd.sizeOf24 rfl rfl (cells_box 0 rfl)) rfl rfl rfl ?_
  refine gop_pure (e_call (vs := [.agg #[_]]) Tryd.func13 rfl (by kernel_rfl) rfl) (fun w hM => polValidate_any w A c l (hl.base hM) hlc hcm) rfl rfl rfl ?_
  refine gop_alloc (cs := #[.int .i64 0, .int .i64 0]) Tryd.zeroValue28 rfl rfl (fun b6 hb6 => ?_)
  refine gop_store 3 (v := .agg #[_, _]) (cs' := #[_, _]) rfl rfl Tryd.sizeOf28 rfl rfl rfl rfl (Nat.le_of_ble_eq_true rfl) rfl rfl ?_
  refine gops_nil ?_
  refine hN3 _ _ ?_
  refine gT [box b2 _, box b3 _, box b5 _, box b6 _] rfl ?_
  refine gfrom [(2, .pointer _), (3, .pointer _), (5, .pointer _), (6, .pointer _)] ⟨rfl, rfl, rfl, rfl, trivial⟩ fun σ => ?_
  refine gseq fun N4 hN4 => ?_
  refine greg ?_
  refine gop (y_loads (cs := [_, _]) Tryd.isAgg28 Tryd.sizeOf28 rfl rfl (cells_box 3 rfl)) rfl rfl rfl ?_
  refine gop (y_build (vs := []) (cells := #[.int .i64 0, .int .i64 0]) rfl bd28_) rfl rfl rfl ?_
  refine gop (y_bin (vx := .agg #[_, _]) (vy := .agg #[_, _]) rfl rfl (fun w => eg28 _ _ _ _ _ w) (fun w => ne28 _ _ _ _ w)) rfl rfl rfl ?_
  refine gops_nil ?_
  refine hN4 _ _ ?_
  refine gfrom [(2, .pointer _), (3, .pointer _), (5, .pointer _), (6, .pointer _), (14, .bool _)] ⟨rfl, rfl, rfl, rfl, rfl, trivial⟩ fun σ => ?_
  refine gcond (b := _) rfl (fun hc14 => ?_) (fun hc14 => ?_)
  · 
    replace hc14 := fault_ne.1 hc14
    obtain ⟨hF, hV⟩ := evalF_bad (F := F) hc14
    refine gseq fun N5 hN5 => ?_
    refine greg_e1 [] [(2, room b5 28 2)] (by kernel_rfl) ?_
    refine ge_take 0 (TK := [box b2 _, box b3 _, room b5 28 2, box b6 _]) rfl (by kernel_rfl) (by kernel_rfl) (by kernel_rfl) #[false, true, false] (by kernel_rfl) rfl (y_loads (cs := [_, _]) Tryd.isAgg28 Tryd.sizeOf28 rfl rfl (cells_box 3 rfl)) rfl rfl rfl (weak_room 2 rfl rfl) (listed' := #[true, false, false]) rfl ?_
    refine ge_take 1 (TK := [box b2 _, box b3 _, room b5 28 2, box b6 _]) rfl (by kernel_rfl) (by kernel_rfl) (by kernel_rfl) #[true, false, false] (by kernel_rfl) rfl (y_assign (v := .bool _) rfl) rfl rfl rfl (weak_room 2 rfl rfl) (listed' := #[true, true, false]) rfl ?_
    refine ge_one 2 (k' := 0) (listed' := #[true, true, true]) (by kernel_rfl) rfl rfl rfl ?_
    refine gop_store 2 (v := .agg #[_, _]) (cs' := #[_, _]) rfl rfl Tryd.sizeOf28 rfl rfl rfl rfl (Nat.le_of_ble_eq_true rfl) rfl rfl ?_
    refine gops_nil ?_
    refine ge_fin (TK := [box b2 _, box b3 _, room b5 28 2, box b6 _]) rfl (weak_room 2 rfl rfl) ?_
    refine ge_done (by kernel_rfl) ?_
    refine hN5 _ _ ?_
    refine gT [box b2 _, box b3 _, box b5 _, box b6 _] rfl ?_
    refine gfrom [(4, .bool _), (5, .pointer _)] ⟨rfl, rfl, trivial⟩ fun σ => ?_
    refine gret fun w1 hM => ?_
    refine ⟨_, res2 rfl (rt (v := .bool _) rfl) (rc 2 (cs := [_, _]) hM rfl rfl Tryd.isAgg28 Tryd.sizeOf28 rfl), ?_⟩
    exact ⟨by rw [hF, hV], hM.low⟩
  · 
    replace hc14 := fault_eq.1 hc14
    obtain ⟨hn0, hn24, hz⟩ := pol_ok hc14
    have hk := linked_of hz
    refine gskip ?_
    refine hN2 _ _ ?_
    refine gfrom [(2, .pointer _), (3, .pointer _), (5, .pointer _)] ⟨rfl, rfl, rfl, trivial⟩ fun σ => ?_
    refine gseq fun N6 hN6 => ?_
    refine gseq fun N7 hN7 => ?_
    refine greg ?_
    refine gop (y_fieldAddr_box fa26_0 rfl) rfl rfl rfl ?_
    refine gop (y_load Tryd.isAgg3 rfl (cell_box 1 rfl rfl)) rfl rfl rfl ?_
    refine gop (y_lss rfl rfl) rfl rfl rfl ?_
    refine gop (y_move (v := .bool _) rfl) rfl rfl rfl ?_
    refine gop_if (want := false) rfl rfl rfl rfl rfl rfl (fun hg19 => ?_) (fun hg19 => ?_)
    · 
      have hg19d := of_decide_eq_false hg19
      refine gop (y_bare (y_fieldAddr_box fa26_0 rfl)) rfl rfl rfl ?_
      refine gop_on rfl rfl rfl rfl hg19 ?_
      refine gop (y_bare (y_load Tryd.isAgg3 rfl (cell_box 1 rfl rfl))) rfl rfl rfl ?_
      refine gop_on rfl rfl rfl rfl hg19 ?_
      refine gop (y_bare (y_gtr rfl rfl)) rfl rfl rfl ?_
      refine gop (y_pick_f (v := .bool _) rfl hg19 rfl) rfl rfl rfl ?_
      refine gop (y_move (v := .bool _) rfl) rfl rfl rfl ?_
      refine gop_if (want := false) rfl rfl rfl rfl rfl rfl (fun hg24 => ?_) (fun hg24 => ?_)
      · 
        have hg24d := of_decide_eq_false hg24
        refine gop (y_bare (y_fieldAddr_box fa26_3 rfl)) rfl rfl rfl ?_
        refine gop_on rfl rfl rfl rfl hg24 ?_
        refine gop (y_bare (y_load Tryd.isAgg3 rfl (cell_box 1 rfl rfl))) rfl rfl rfl ?_
        refine gop_on rfl rfl rfl rfl hg24 ?_
        refine gop (y_bare (y_lss rfl rfl)) rfl rfl rfl ?_
        refine gop (y_pick_f (v := .bool _) rfl hg24 rfl) rfl rfl rfl ?_
        refine gop (y_move (v := .bool _) rfl) rfl rfl rfl ?_
        refine gop_if (want := false) rfl rfl rfl rfl rfl rfl (fun hg29 => ?_) (fun hg29 => ?_)
        · 
          have hg29d := of_decide_eq_false hg29
          refine gop (y_bare (y_fieldAddr_box fa26_3 rfl)) rfl rfl rfl ?_
          refine gop_on rfl rfl rfl rfl hg29 ?_
          refine gop (y_bare (y_load Tryd.isAgg3 rfl (cell_box 1 rfl rfl))) rfl rfl rfl ?_
          refine gop_on rfl rfl rfl rfl hg29 ?_
          refine gop (y_bare (y_gtr rfl rfl)) rfl rfl rfl ?_
          refine gop (y_pick_f (v := .bool _) rfl hg29 rfl) rfl rfl rfl ?_
          refine gops_nil ?_
          refine hN7 _ _ ?_
          refine gfrom [(2, .pointer _), (3, .pointer _), (5, .pointer _), (33, .bool _)] ⟨rfl, rfl, rfl, rfl, trivial⟩ fun σ => ?_
          refine gcond (b := _) rfl (fun hc33 => ?_) (fun hc33 => ?_)
          · 
            replace hc33 := of_decide_eq_true hc33
            obtain ⟨hF, hV⟩ := evalF_range hc14 (F := F) (by unfold factsBad; omega)
            refine gseq fun N8 hN8 => ?_
            refine greg ?_
            refine gop (y_build (vs := [(0, _), (1, _)]) (cells := #[_, _]) rfl (bd28_0_1 _ _)) rfl rfl rfl ?_
            refine gop (y_assign (v := .bool _) rfl) rfl rfl rfl ?_
            refine gop_store 2 (v := .agg #[_, _]) (cs' := #[_, _]) rfl rfl Tryd.sizeOf28 rfl rfl rfl rfl (Nat.le_of_ble_eq_true rfl) rfl rfl ?_
            refine gops_nil ?_
            refine hN8 _ _ ?_
            refine gT [box b2 _, box b3 _, box b5 _, box b6 _] rfl ?_
            refine gfrom [(4, .bool _), (5, .pointer _)] ⟨rfl, rfl, trivial⟩ fun σ => ?_
            refine gret fun w1 hM => ?_
            refine ⟨_, res2 rfl (rt (v := .bool _) rfl) (rc 2 (cs := [_, _]) hM rfl rfl Tryd.isAgg28 Tryd.sizeOf28 rfl), ?_⟩
            exact ⟨by rw [hF, hV], hM.low⟩
          · 
            replace hc33 := of_decide_eq_false hc33
            obtain ⟨hF, hV⟩ := evalF_ok hc14 (F := F) (by unfold factsBad; omega)
            refine gskip ?_
            refine hN6 _ _ ?_
            refine gfrom [(2, .pointer _), (3, .pointer _), (5, .pointer _)] ⟨rfl, rfl, rfl, trivial⟩ fun σ => ?_
            refine gseq fun N9 hN9 => ?_
            refine greg ?_
            refine gop (y_fieldAddr_box fa24_0 rfl) rfl rfl rfl ?_
            refine gop (y_load Tryd.isAgg22 rfl (cell_box 0 rfl rfl)) rfl rfl rfl ?_
            refine gop (y_len Tryd.underlying22 rfl) rfl rfl rfl ?_
            refine gop_make (f := boolCells) (bytes := 1) (z := .bool false) (false) Tryd.underlying50 (by kernel_rfl) rfl rfl rfl (k := l.length) rfl rfl (by omega) (by simp [maxLen]; omega) rfl (fun b38 hb38 => ?_)
            refine gop (y_assign (v := .slice (some _) _ _) rfl) rfl rfl rfl ?_
            refine gops_nil ?_
            refine hN9 _ _ ?_
            refine gT [box b2 _, box b3 _, box b5 _, box b6 _, rowl _ _ _ _ _ _] rfl ?_
            refine gfrom [(2, .pointer _), (3, .pointer _), (5, .pointer _), (7, .slice (some _) _ _)] ⟨rfl, rfl, rfl, rfl, trivial⟩ fun σ => ?_
            refine gseq fun N10 hN10 => ?_
            refine gseq fun N11 hN11 => ?_
            refine greg ?_
            refine gop (y_fieldAddr_box fa24_0 rfl) rfl rfl rfl ?_
            refine gop (y_load Tryd.isAgg22 rfl (cell_box 0 rfl rfl)) rfl rfl rfl ?_
            refine gop (y_len Tryd.underlying22 rfl) rfl rfl rfl ?_
            refine gop (y_move (v := .int _ _) rfl) rfl rfl rfl ?_
            refine gops_nil ?_
            refine hN11 _ _ ?_
            refine gfrom [(3, .pointer _), (5, .pointer _), (7, .slice (some _) _ _), (40, .slice _ _ _), (41, .int _ _), (42, .int _ _)] ⟨rfl, rfl, rfl, rfl, rfl, rfl, trivial⟩ fun σ => ?_
            refine gblock ?_
            rw [← pad_nil l.length false]
            refine gfrom2 [(42, .int _ _)] [(3, .pointer _), (5, .pointer _), (7, .slice (some _) _ _), (40, .slice _ _ _), (41, .int _ _)] ⟨rfl, trivial⟩ ⟨rfl, rfl, rfl, rfl, rfl, trivial⟩ fun σ => ?_
            refine gloop2 (G := Nat) (fun k => k ≤ l.length) (fun k => l.length - k) (fun k => [(42, .int .i64 (k : Int))]) (fun k => [(4, rowl boolCells w.heap.size 4 1 (.slice (some ⟨b38, 0, none⟩) l.length l.length) (pad false (foldTo (evN F) l k) l.length))]) (0) ?h0 ⟨rfl, trivial⟩ ⟨rfl, rfl, rfl, rfl, rfl, trivial⟩ rfl ?round
            case h0 => exact Nat.zero_le _
            case round =>
              intro k hφ σ
              have hkk : k ≤ l.length := hφ
              refine gT [box b2 _, box b3 _, box b5 _, box b6 _, rowl _ _ _ _ _ _] rfl ?_
              refine gseq fun N12 hN12 => ?_
              refine greg ?_
              refine gop (y_lss rfl rfl) rfl rfl rfl ?_
              refine gops_nil ?_
              refine hN12 _ _ ?_
              refine gfrom [(3, .pointer _), (5, .pointer _), (7, .slice (some _) _ _), (40, .slice _ _ _), (41, .int _ _), (42, .int _ _), (43, .bool _)] ⟨rfl, rfl, rfl, rfl, rfl, rfl, rfl, trivial⟩ fun σ => ?_
              refine gseq fun N13 hN13 => ?_
              refine gcond (b := _) rfl (fun hc43 => ?_) (fun hc43 => ?_)
              · 
                replace hc43 := of_decide_eq_true hc43
                have hk1 : k < l.length := by omega
                obtain ⟨ad, rfl, -, hca⟩ := hl.at_ hk1
                obtain ⟨hkl, hkr⟩ := hk k hk1
                obtain ⟨hk0, hk7, hm0, hm1, -⟩ := chk_zero (hz k hk1)
                refine gskip ?_
                refine hN13 _ _ ?_
                refine gfrom [(3, .pointer _), (5, .pointer _), (7, .slice (some _) _ _), (40, .slice _ _ _), (41, .int _ _), (42, .int _ _)] ⟨rfl, rfl, rfl, rfl, rfl, rfl, trivial⟩ fun σ => ?_
                refine gseq fun N14 hN14 => ?_
                refine gfrom [(3, .pointer _), (5, .pointer _), (7, .slice (some _) _ _), (40, .slice _ _ _), (41, .int _ _), (42, .int _ _)] ⟨rfl, rfl, rfl, rfl, rfl, rfl, trivial⟩ fun σ => ?_
                refine gcut3 (Lf := [(3, .pointer _), (5, .pointer _), (7, .slice (some _) _ _), (40, .slice _ _ _), (41, .int _ _), (42, .int _ _)]) (G := Unit) (fun g => True) (fun g => []) (fun g => [(4, rowl boolCells w.heap.size 4 1 (.slice (some ⟨b38, 0, none⟩) l.length l.length) (pad false ((foldTo (evN F) l k) ++ [evN F l[k] (foldTo (evN F) l k)]) l.length))]) ⟨rfl, rfl, rfl, rfl, rfl, rfl, trivial⟩ ?_ ?_
                ·
                  refine gblock ?_
                  refine gseq fun N15 hN15 => ?_
                  refine greg ?_
                  refine gop (y_move (v := .int _ _) rfl) rfl rfl rfl ?_
                  refine gop (y_indexAddr (m := k) Tryd.underlying22 Tryd.sizeOf47 rfl rfl (by omega) (by omega) (by omega)) rfl rfl rfl ?_
                  refine gop (y_loads (cs := [_, _, _, _]) Tryd.isAgg47 Tryd.sizeOf47 rfl rfl (cells_base hca)) rfl rfl rfl ?_
                  refine gop_alloc (cs := #[.int .i64 0, .int .i64 0, .int .i64 0, .int .i64 0]) Tryd.zeroValue47 rfl rfl (fun b9 hb9 => ?_)
                  refine gop (y_assign (v := .int _ _) rfl) rfl rfl rfl ?_
                  refine gop_store 5 (v := .agg #[_, _, _, _]) (cs' := #[_, _, _, _]) rfl rfl Tryd.sizeOf47 rfl rfl rfl rfl (Nat.le_of_ble_eq_true rfl) rfl rfl ?_
                  refine gops_nil ?_
                  refine hN15 _ _ ?_
                  refine gT [box b2 _, box b3 _, box b5 _, box b6 _, rowl _ _ _ _ _ _, box b9 _] rfl ?_
                  refine gfrom [(3, .pointer _), (5, .pointer _), (7, .slice (some _) _ _), (8, .int _ _), (9, .pointer _), (40, .slice _ _ _), (41, .int _ _), (42, .int _ _)] ⟨rfl, rfl, rfl, rfl, rfl, rfl, rfl, rfl, trivial⟩ fun σ => ?_
                  refine gseq fun N16 hN16 => ?_
                  refine greg ?_
                  refine gop (y_fieldAddr_box fa47_0 rfl) rfl rfl rfl ?_
                  refine gop (y_load Tryd.isAgg3 rfl (cell_box 5 rfl rfl)) rfl rfl rfl ?_
                  refine gops_nil ?_
                  refine hN16 _ _ ?_
                  refine gfrom [(3, .pointer _), (5, .pointer _), (7, .slice (some _) _ _), (8, .int _ _), (9, .pointer _), (40, .slice _ _ _), (41, .int _ _), (42, .int _ _), (48, .int _ _)] ⟨rfl, rfl, rfl, rfl, rfl, rfl, rfl, rfl, rfl, trivial⟩ fun σ => ?_
                  refine gblock ?_
                  refine gseq fun N17 hN17 => ?_
                  refine greg ?_
                  refine gop (y_eql rfl rfl) rfl rfl rfl ?_
                  refine gop (y_assign (v := .bool _) rfl) rfl rfl rfl ?_
                  refine gops_nil ?_
                  refine hN17 _ _ ?_
                  refine gfrom [(3, .pointer _), (5, .pointer _), (7, .slice (some _) _ _), (8, .int _ _), (9, .pointer _), (40, .slice _ _ _), (41, .int _ _), (42, .int _ _), (48, .int _ _), (64, .bool _)] ⟨rfl, rfl, rfl, rfl, rfl, rfl, rfl, rfl, rfl, rfl, trivial⟩ fun σ => ?_
                  refine gcond (b := _) rfl (fun hc64 => ?_) (fun hc64 => ?_)
                  · 
                    replace hc64 := of_decide_eq_true hc64
                    have hev : evN F l[k] (foldTo (evN F) l k) = _ := ev1 hc64
                    refine greg ?_
                    refine gop (y_move (v := .slice (some _) _ _) rfl) rfl rfl rfl ?_
                    refine gop (y_move (v := .int _ _) rfl) rfl rfl rfl ?_
                    refine gop (y_fieldAddr_box fa26_0 rfl) rfl rfl rfl ?_
                    refine gop (y_load Tryd.isAgg3 rfl (cell_box 1 rfl rfl)) rfl rfl rfl ?_
                    refine gop (y_fieldAddr_box fa47_1 rfl) rfl rfl rfl ?_
                    refine gop (y_load Tryd.isAgg3 rfl (cell_box 5 rfl rfl)) rfl rfl rfl ?_
                    refine gop (y_geq rfl rfl) rfl rfl rfl ?_
                    refine gop (y_indexAddr (m := k) Tryd.underlying50 Tryd.sizeOf4 rfl rfl (by omega) (by omega) (by omega)) rfl rfl rfl ?_
                    refine gop_store_row 4 (f := boolCells) (l := pad false (foldTo (evN F) l k) l.length) (k := k) (o := 0) (v := .bool _) (a := false) (a' := _) (fun _ => rfl) rfl rfl rfl Tryd.sizeOf4 rfl rfl rfl rfl (pad_len (by rw [foldTo_len]; omega)).symm (pad_at (foldTo_len k) hk1) (Nat.le_of_ble_eq_true rfl) rfl rfl ?_
                    refine gops_nil ?_
                    rw [hev, pad_set (foldTo_len k) hk1]
                    refine gcut3_end (()) (trivial) trivial ⟨rfl, rfl, rfl, rfl, rfl, rfl, trivial⟩ ⟨_, rfl⟩
                  · 
                    replace hc64 := of_decide_eq_false hc64
                    refine gseq fun N18 hN18 => ?_
                    refine greg ?_
                    refine gop (y_eql rfl rfl) rfl rfl rfl ?_
                    refine gop (y_assign (v := .bool _) rfl) rfl rfl rfl ?_
                    refine gops_nil ?_
                    refine hN18 _ _ ?_
                    refine gfrom [(3, .pointer _), (5, .pointer _), (7, .slice (some _) _ _), (8, .int _ _), (9, .pointer _), (40, .slice _ _ _), (41, .int _ _), (42, .int _ _), (48, .int _ _), (74, .bool _)] ⟨rfl, rfl, rfl, rfl, rfl, rfl, rfl, rfl, rfl, rfl, trivial⟩ fun σ => ?_
                    refine gcond (b := _) rfl (fun hc74 => ?_) (fun hc74 => ?_)
                    · 
                      replace hc74 := of_decide_eq_true hc74
                      have hev : evN F l[k] (foldTo (evN F) l k) = _ := ev2 hc74
                      refine greg ?_
                      refine gop (y_move (v := .slice (some _) _ _) rfl) rfl rfl rfl ?_
                      refine gop (y_move (v := .int _ _) rfl) rfl rfl rfl ?_
                      refine gop (y_fieldAddr_box fa26_1 rfl) rfl rfl rfl ?_
                      refine gop (y_load Tryd.isAgg4 rfl (cell_box 1 rfl rfl)) rfl rfl rfl ?_
                      refine gop (y_indexAddr (m := k) Tryd.underlying50 Tryd.sizeOf4 rfl rfl (by omega) (by omega) (by omega)) rfl rfl rfl ?_
                      refine gop_store_row 4 (f := boolCells) (l := pad false (foldTo (evN F) l k) l.length) (k := k) (o := 0) (v := .bool _) (a := false) (a' := _) (fun _ => rfl) rfl rfl rfl Tryd.sizeOf4 rfl rfl rfl rfl (pad_len (by rw [foldTo_len]; omega)).symm (pad_at (foldTo_len k) hk1) (Nat.le_of_ble_eq_true rfl) rfl rfl ?_
                      refine gops_nil ?_
                      rw [hev, pad_set (foldTo_len k) hk1]
                      refine gcut3_end (()) (trivial) trivial ⟨rfl, rfl, rfl, rfl, rfl, rfl, trivial⟩ ⟨_, rfl⟩
                    · 
                      replace hc74 := of_decide_eq_false hc74
                      refine gseq fun N19 hN19 => ?_
                      refine greg ?_
                      refine gop (y_eql rfl rfl) rfl rfl rfl ?_
                      refine gop (y_assign (v := .bool _) rfl) rfl rfl rfl ?_
                      refine gops_nil ?_
                      refine hN19 _ _ ?_
                      refine gfrom [(3, .pointer _), (5, .pointer _), (7, .slice (some _) _ _), (8, .int _ _), (9, .pointer _), (40, .slice _ _ _), (41, .int _ _), (42, .int _ _), (48, .int _ _), (81, .bool _)] ⟨rfl, rfl, rfl, rfl, rfl, rfl, rfl, rfl, rfl, rfl, trivial⟩ fun σ => ?_
                      refine gcond (b := _) rfl (fun hc81 => ?_) (fun hc81 => ?_)
                      · 
                        replace hc81 := of_decide_eq_true hc81
                        have hev : evN F l[k] (foldTo (evN F) l k) = _ := ev3 hc81
                        refine greg ?_
                        refine gop (y_move (v := .slice (some _) _ _) rfl) rfl rfl rfl ?_
                        refine gop (y_move (v := .int _ _) rfl) rfl rfl rfl ?_
                        refine gop (y_fieldAddr_box fa26_2 rfl) rfl rfl rfl ?_
                        refine gop (y_load Tryd.isAgg4 rfl (cell_box 1 rfl rfl)) rfl rfl rfl ?_
                        refine gop (y_indexAddr (m := k) Tryd.underlying50 Tryd.sizeOf4 rfl rfl (by omega) (by omega) (by omega)) rfl rfl rfl ?_
                        refine gop_store_row 4 (f := boolCells) (l := pad false (foldTo (evN F) l k) l.length) (k := k) (o := 0) (v := .bool _) (a := false) (a' := _) (fun _ => rfl) rfl rfl rfl Tryd.sizeOf4 rfl rfl rfl rfl (pad_len (by rw [foldTo_len]; omega)).symm (pad_at (foldTo_len k) hk1) (Nat.le_of_ble_eq_true rfl) rfl rfl ?_
                        refine gops_nil ?_
                        rw [hev, pad_set (foldTo_len k) hk1]
                        refine gcut3_end (()) (trivial) trivial ⟨rfl, rfl, rfl, rfl, rfl, rfl, trivial⟩ ⟨_, rfl⟩
                      · 
                        replace hc81 := of_decide_eq_false hc81
                        refine gseq fun N20 hN20 => ?_
                        refine greg ?_
                        refine gop (y_eql rfl rfl) rfl rfl rfl ?_
                        refine gop (y_assign (v := .bool _) rfl) rfl rfl rfl ?_
                        refine gops_nil ?_
                        refine hN20 _ _ ?_
                        refine gfrom [(3, .pointer _), (5, .pointer _), (7, .slice (some _) _ _), (8, .int _ _), (9, .pointer _), (40, .slice _ _ _), (41, .int _ _), (42, .int _ _), (48, .int _ _), (88, .bool _)] ⟨rfl, rfl, rfl, rfl, rfl, rfl, rfl, rfl, rfl, rfl, trivial⟩ fun σ => ?_
                        refine gcond (b := _) rfl (fun hc88 => ?_) (fun hc88 => ?_)
                        · 
                          replace hc88 := of_decide_eq_true hc88
                          have hev : evN F l[k] (foldTo (evN F) l k) = _ := ev4 hc88
                          rw [hc88] at hm1
                          have hm7 : l[k].number ≤ 7 := hm1
                          refine greg ?_
                          refine gop (y_move (v := .slice (some _) _ _) rfl) rfl rfl rfl ?_
                          refine gop (y_move (v := .int _ _) rfl) rfl rfl rfl ?_
                          refine gop (y_fieldAddr_box fa26_3 rfl) rfl rfl rfl ?_
                          refine gop (y_load Tryd.isAgg3 rfl (cell_box 1 rfl rfl)) rfl rfl rfl ?_
                          refine gop (y_fieldAddr_box fa47_1 rfl) rfl rfl rfl ?_
                          refine gop (y_load Tryd.isAgg3 rfl (cell_box 5 rfl rfl)) rfl rfl rfl ?_
                          refine gop (y_shr rfl rfl (by omega) (by omega)) rfl rfl rfl ?_
                          refine gop (y_and1 rfl rfl) rfl rfl rfl ?_
                          refine gop (y_eql rfl rfl) rfl rfl rfl ?_
                          refine gop (y_indexAddr (m := k) Tryd.underlying50 Tryd.sizeOf4 rfl rfl (by omega) (by omega) (by omega)) rfl rfl rfl ?_
                          refine gop_store_row 4 (f := boolCells) (l := pad false (foldTo (evN F) l k) l.length) (k := k) (o := 0) (v := .bool _) (a := false) (a' := _) (fun _ => rfl) rfl rfl rfl Tryd.sizeOf4 rfl rfl rfl rfl (pad_len (by rw [foldTo_len]; omega)).symm (pad_at (foldTo_len k) hk1) (Nat.le_of_ble_eq_true rfl) rfl rfl ?_
                          refine gops_nil ?_
                          rw [hev, pad_set (foldTo_len k) hk1]
                          refine gcut3_end (()) (trivial) trivial ⟨rfl, rfl, rfl, rfl, rfl, rfl, trivial⟩ ⟨_, rfl⟩
                        · 
                          replace hc88 := of_decide_eq_false hc88
                          refine gseq fun N21 hN21 => ?_
                          refine greg ?_
                          refine gop (y_eql rfl rfl) rfl rfl rfl ?_
                          refine gop (y_assign (v := .bool _) rfl) rfl rfl rfl ?_
                          refine gops_nil ?_
                          refine hN21 _ _ ?_
                          refine gfrom [(3, .pointer _), (5, .pointer _), (7, .slice (some _) _ _), (8, .int _ _), (9, .pointer _), (40, .slice _ _ _), (41, .int _ _), (42, .int _ _), (48, .int _ _), (100, .bool _)] ⟨rfl, rfl, rfl, rfl, rfl, rfl, rfl, rfl, rfl, rfl, trivial⟩ fun σ => ?_
                          refine gcond (b := _) rfl (fun hc100 => ?_) (fun hc100 => ?_)
                          · 
                            replace hc100 := of_decide_eq_true hc100
                            have hev : evN F l[k] (foldTo (evN F) l k) = _ := ev5 hc100
                            obtain ⟨hl0, hl1⟩ := hkl (by rw [hc100]; decide)
                            refine greg ?_
                            refine gop (y_move (v := .slice (some _) _ _) rfl) rfl rfl rfl ?_
                            refine gop (y_move (v := .int _ _) rfl) rfl rfl rfl ?_
                            refine gop (y_move (v := .slice (some _) _ _) rfl) rfl rfl rfl ?_
                            refine gop (y_fieldAddr_box fa47_2 rfl) rfl rfl rfl ?_
                            refine gop (y_load Tryd.isAgg3 rfl (cell_box 5 rfl rfl)) rfl rfl rfl ?_
                            refine gop (y_indexAddr (m := l[k].left.toNat) Tryd.underlying50 Tryd.sizeOf4 rfl rfl (by omega) (by omega) (by omega)) rfl rfl rfl ?_
                            refine gop (y_load Tryd.isAgg4 rfl (cells_rowl 4 (f := boolCells) (l := pad false (foldTo (evN F) l k) l.length) rfl (by rw [pad_len (by rw [foldTo_len]; omega)]) (fun _ => rfl) (by rw [pad_old (by rw [foldTo_len]; omega)]; exact gB_get (by rw [foldTo_len]; omega)) 0 _ rfl)) rfl rfl rfl ?_
                            refine gop (y_not rfl) rfl rfl rfl ?_
                            refine gop (y_indexAddr (m := k) Tryd.underlying50 Tryd.sizeOf4 rfl rfl (by omega) (by omega) (by omega)) rfl rfl rfl ?_
                            refine gop_store_row 4 (f := boolCells) (l := pad false (foldTo (evN F) l k) l.length) (k := k) (o := 0) (v := .bool _) (a := false) (a' := _) (fun _ => rfl) rfl rfl rfl Tryd.sizeOf4 rfl rfl rfl rfl (pad_len (by rw [foldTo_len]; omega)).symm (pad_at (foldTo_len k) hk1) (Nat.le_of_ble_eq_true rfl) rfl rfl ?_
                            refine gops_nil ?_
                            rw [hev, pad_set (foldTo_len k) hk1]
                            refine gcut3_end (()) (trivial) trivial ⟨rfl, rfl, rfl, rfl, rfl, rfl, trivial⟩ ⟨_, rfl⟩
                          · 
                            replace hc100 := of_decide_eq_false hc100
                            refine gseq fun N22 hN22 => ?_
                            refine greg ?_
                            refine gop (y_eql rfl rfl) rfl rfl rfl ?_
                            refine gop (y_assign (v := .bool _) rfl) rfl rfl rfl ?_
                            refine gops_nil ?_
                            refine hN22 _ _ ?_
                            refine gfrom [(3, .pointer _), (5, .pointer _), (7, .slice (some _) _ _), (8, .int _ _), (9, .pointer _), (40, .slice _ _ _), (41, .int _ _), (42, .int _ _), (111, .bool _)] ⟨rfl, rfl, rfl, rfl, rfl, rfl, rfl, rfl, rfl, trivial⟩ fun σ => ?_
                            refine gcond (b := _) rfl (fun hc111 => ?_) (fun hc111 => ?_)
                            · 
                              replace hc111 := of_decide_eq_true hc111
                              have hev : evN F l[k] (foldTo (evN F) l k) = _ := ev6 hc111
                              obtain ⟨hl0, hl1⟩ := hkl (by rw [hc111]; decide)
                              obtain ⟨hr0, hr1⟩ := hkr (by rw [hc111]; decide)
                              refine greg ?_
                              refine gop (y_move (v := .slice (some _) _ _) rfl) rfl rfl rfl ?_
                              refine gop (y_move (v := .int _ _) rfl) rfl rfl rfl ?_
                              refine gop (y_move (v := .slice (some _) _ _) rfl) rfl rfl rfl ?_
                              refine gop (y_fieldAddr_box fa47_2 rfl) rfl rfl rfl ?_
                              refine gop (y_load Tryd.isAgg3 rfl (cell_box 5 rfl rfl)) rfl rfl rfl ?_
                              refine gop (y_indexAddr (m := l[k].left.toNat) Tryd.underlying50 Tryd.sizeOf4 rfl rfl (by omega) (by omega) (by omega)) rfl rfl rfl ?_
                              refine gop (y_load Tryd.isAgg4 rfl (cells_rowl 4 (f := boolCells) (l := pad false (foldTo (evN F) l k) l.length) rfl (by rw [pad_len (by rw [foldTo_len]; omega)]) (fun _ => rfl) (by rw [pad_old (by rw [foldTo_len]; omega)]; exact gB_get (by rw [foldTo_len]; omega)) 0 _ rfl)) rfl rfl rfl ?_
                              refine gop (y_move (v := .bool _) rfl) rfl rfl rfl ?_
                              refine gop_if (want := true) rfl rfl rfl rfl rfl rfl (fun hg120 => ?_) (fun hg120 => ?_)
                              · 
                                have hg120d := hg120
                                refine gop (y_bare (y_move (v := .slice (some _) _ _) rfl)) rfl rfl rfl ?_
                                refine gop_on rfl rfl rfl rfl hg120 ?_
                                refine gop (y_bare (y_fieldAddr_box fa47_3 rfl)) rfl rfl rfl ?_
                                refine gop_on rfl rfl rfl rfl hg120 ?_
                                refine gop (y_bare (y_load Tryd.isAgg3 rfl (cell_box 5 rfl rfl))) rfl rfl rfl ?_
                                refine gop_on rfl rfl rfl rfl hg120 ?_
                                refine gop (y_bare (y_indexAddr (m := l[k].right.toNat) Tryd.underlying50 Tryd.sizeOf4 rfl rfl (by omega) (by omega) (by omega))) rfl rfl rfl ?_
                                refine gop_on rfl rfl rfl rfl hg120 ?_
                                refine gop (y_bare (y_load Tryd.isAgg4 rfl (cells_rowl 4 (f := boolCells) (l := pad false (foldTo (evN F) l k) l.length) rfl (by rw [pad_len (by rw [foldTo_len]; omega)]) (fun _ => rfl) (by rw [pad_old (by rw [foldTo_len]; omega)]; exact gB_get (by rw [foldTo_len]; omega)) 0 _ rfl))) rfl rfl rfl ?_
                                refine gop (y_pick_t (v := .bool _) rfl hg120 rfl) rfl rfl rfl ?_
                                refine gop (y_indexAddr (m := k) Tryd.underlying50 Tryd.sizeOf4 rfl rfl (by omega) (by omega) (by omega)) rfl rfl rfl ?_
                                refine gop_store_row 4 (f := boolCells) (l := pad false (foldTo (evN F) l k) l.length) (k := k) (o := 0) (v := .bool _) (a := false) (a' := _) (fun _ => rfl) rfl rfl rfl Tryd.sizeOf4 rfl rfl rfl rfl (pad_len (by rw [foldTo_len]; omega)).symm (pad_at (foldTo_len k) hk1) (Nat.le_of_ble_eq_true rfl) rfl rfl ?_
                                refine gops_nil ?_
                                rw [hev, pad_set (foldTo_len k) hk1, hg120]
                                first | rw [Bool.true_and] | rw [Bool.not_true, Bool.false_and]
                                refine gcut3_end (()) (trivial) trivial ⟨rfl, rfl, rfl, rfl, rfl, rfl, trivial⟩ ⟨_, rfl⟩
                              · 
                                have hg120d := hg120
                                refine gop_off rfl rfl rfl rfl hg120 rfl rfl ?_
                                refine gop_off rfl rfl rfl rfl hg120 rfl rfl ?_
                                refine gop_off rfl rfl rfl rfl hg120 rfl rfl ?_
                                refine gop_off rfl rfl rfl rfl hg120 rfl rfl ?_
                                refine gop (y_pick_f (v := .bool _) rfl hg120 rfl) rfl rfl rfl ?_
                                refine gop (y_indexAddr (m := k) Tryd.underlying50 Tryd.sizeOf4 rfl rfl (by omega) (by omega) (by omega)) rfl rfl rfl ?_
                                refine gop_store_row 4 (f := boolCells) (l := pad false (foldTo (evN F) l k) l.length) (k := k) (o := 0) (v := .bool _) (a := false) (a' := _) (fun _ => rfl) rfl rfl rfl Tryd.sizeOf4 rfl rfl rfl rfl (pad_len (by rw [foldTo_len]; omega)).symm (pad_at (foldTo_len k) hk1) (Nat.le_of_ble_eq_true rfl) rfl rfl ?_
                                refine gops_nil ?_
                                rw [hev, pad_set (foldTo_len k) hk1, hg120]
                                first | rw [Bool.true_and] | rw [Bool.not_true, Bool.false_and]
                                refine gcut3_end (()) (trivial) trivial ⟨rfl, rfl, rfl, rfl, rfl, rfl, trivial⟩ ⟨_, rfl⟩
                            · 
                              replace hc111 := of_decide_eq_false hc111
                              have h7 : l[k].kind = 7 := by omega
                              have hev : evN F l[k] (foldTo (evN F) l k) = _ := ev7 h7
                              obtain ⟨hl0, hl1⟩ := hkl (by rw [h7]; decide)
                              obtain ⟨hr0, hr1⟩ := hkr (by rw [h7]; decide)
                              refine greg ?_
                              refine gop (y_move (v := .slice (some _) _ _) rfl) rfl rfl rfl ?_
                              refine gop (y_move (v := .int _ _) rfl) rfl rfl rfl ?_
                              refine gop (y_move (v := .slice (some _) _ _) rfl) rfl rfl rfl ?_
                              refine gop (y_fieldAddr_box fa47_2 rfl) rfl rfl rfl ?_
                              refine gop (y_load Tryd.isAgg3 rfl (cell_box 5 rfl rfl)) rfl rfl rfl ?_
                              refine gop (y_indexAddr (m := l[k].left.toNat) Tryd.underlying50 Tryd.sizeOf4 rfl rfl (by omega) (by omega) (by omega)) rfl rfl rfl ?_
                              refine gop (y_load Tryd.isAgg4 rfl (cells_rowl 4 (f := boolCells) (l := pad false (foldTo (evN F) l k) l.length) rfl (by rw [pad_len (by rw [foldTo_len]; omega)]) (fun _ => rfl) (by rw [pad_old (by rw [foldTo_len]; omega)]; exact gB_get (by rw [foldTo_len]; omega)) 0 _ rfl)) rfl rfl rfl ?_
                              refine gop (y_move (v := .bool _) rfl) rfl rfl rfl ?_
                              refine gop_if (want := false) rfl rfl rfl rfl rfl rfl (fun hg56 => ?_) (fun hg56 => ?_)
                              · 
                                have hg56d := hg56
                                refine gop (y_bare (y_move (v := .slice (some _) _ _) rfl)) rfl rfl rfl ?_
                                refine gop_on rfl rfl rfl rfl hg56 ?_
                                refine gop (y_bare (y_fieldAddr_box fa47_3 rfl)) rfl rfl rfl ?_
                                refine gop_on rfl rfl rfl rfl hg56 ?_
                                refine gop (y_bare (y_load Tryd.isAgg3 rfl (cell_box 5 rfl rfl))) rfl rfl rfl ?_
                                refine gop_on rfl rfl rfl rfl hg56 ?_
                                refine gop (y_bare (y_indexAddr (m := l[k].right.toNat) Tryd.underlying50 Tryd.sizeOf4 rfl rfl (by omega) (by omega) (by omega))) rfl rfl rfl ?_
                                refine gop_on rfl rfl rfl rfl hg56 ?_
                                refine gop (y_bare (y_load Tryd.isAgg4 rfl (cells_rowl 4 (f := boolCells) (l := pad false (foldTo (evN F) l k) l.length) rfl (by rw [pad_len (by rw [foldTo_len]; omega)]) (fun _ => rfl) (by rw [pad_old (by rw [foldTo_len]; omega)]; exact gB_get (by rw [foldTo_len]; omega)) 0 _ rfl))) rfl rfl rfl ?_
                                refine gop (y_pick_f (v := .bool _) rfl hg56 rfl) rfl rfl rfl ?_
                                refine gop (y_indexAddr (m := k) Tryd.underlying50 Tryd.sizeOf4 rfl rfl (by omega) (by omega) (by omega)) rfl rfl rfl ?_
                                refine gop_store_row 4 (f := boolCells) (l := pad false (foldTo (evN F) l k) l.length) (k := k) (o := 0) (v := .bool _) (a := false) (a' := _) (fun _ => rfl) rfl rfl rfl Tryd.sizeOf4 rfl rfl rfl rfl (pad_len (by rw [foldTo_len]; omega)).symm (pad_at (foldTo_len k) hk1) (Nat.le_of_ble_eq_true rfl) rfl rfl ?_
                                refine gops_nil ?_
                                rw [hev, pad_set (foldTo_len k) hk1, hg56]
                                first | rw [Bool.false_or] | rw [Bool.not_false, Bool.true_or]
                                refine gcut3_end (()) (trivial) trivial ⟨rfl, rfl, rfl, rfl, rfl, rfl, trivial⟩ ⟨_, rfl⟩
                              · 
                                have hg56d := hg56
                                refine gop_off rfl rfl rfl rfl hg56 rfl rfl ?_
                                refine gop_off rfl rfl rfl rfl hg56 rfl rfl ?_
                                refine gop_off rfl rfl rfl rfl hg56 rfl rfl ?_
                                refine gop_off rfl rfl rfl rfl hg56 rfl rfl ?_
                                refine gop (y_pick_t (v := .bool _) rfl hg56 rfl) rfl rfl rfl ?_
                                refine gop (y_indexAddr (m := k) Tryd.underlying50 Tryd.sizeOf4 rfl rfl (by omega) (by omega) (by omega)) rfl rfl rfl ?_
                                refine gop_store_row 4 (f := boolCells) (l := pad false (foldTo (evN F) l k) l.length) (k := k) (o := 0) (v := .bool _) (a := false) (a' := _) (fun _ => rfl) rfl rfl rfl Tryd.sizeOf4 rfl rfl rfl rfl (pad_len (by rw [foldTo_len]; omega)).symm (pad_at (foldTo_len k) hk1) (Nat.le_of_ble_eq_true rfl) rfl rfl ?_
                                refine gops_nil ?_
                                rw [hev, pad_set (foldTo_len k) hk1, hg56]
                                first | rw [Bool.false_or] | rw [Bool.not_false, Bool.true_or]
                                refine gcut3_end (()) (trivial) trivial ⟨rfl, rfl, rfl, rfl, rfl, rfl, trivial⟩ ⟨_, rfl⟩
                ·
                  intro g hcut σ
                  refine hN14 _ _ ?_
                  refine greg ?_
                  refine gop (y_add rfl rfl ⟨by omega, by omega⟩) rfl rfl rfl ?_
                  refine gop (y_move (v := .int _ _) rfl) rfl rfl rfl ?_
                  refine gops_nil ?_
                  rw [show evN F l[k] (foldTo (evN F) l k) = evN F (nAt l k) (foldTo (evN F) l k) by rw [nAt_at hk1]]
                  refine gnext2 (k + 1) (by omega) (show k + 1 ≤ _ by omega) ⟨rfl, trivial⟩ ⟨rfl, rfl, rfl, rfl, rfl, trivial⟩ ⟨_, rfl⟩
              · 
                replace hc43 := of_decide_eq_false hc43
                refine gexit ?_
                refine hN10 _ _ ?_
                refine gfrom [(5, .pointer _), (7, .slice (some _) _ _)] ⟨rfl, rfl, trivial⟩ fun σ => ?_
                refine gseq fun N23 hN23 => ?_
                refine greg ?_
                refine gop (y_move (v := .slice (some _) _ _) rfl) rfl rfl rfl ?_
                refine gop (y_move (v := .slice (some _) _ _) rfl) rfl rfl rfl ?_
                refine gop (y_len Tryd.underlying50 rfl) rfl rfl rfl ?_
                refine gop (y_sub rfl rfl ⟨by omega, by omega⟩) rfl rfl rfl ?_
                refine gop (y_indexAddr (m := l.length - 1) Tryd.underlying50 Tryd.sizeOf4 rfl rfl (by omega) (by omega) (by omega)) rfl rfl rfl ?_
                refine gop (y_load Tryd.isAgg4 rfl (cells_rowl 4 (f := boolCells) (l := pad false (foldTo (evN F) l k) l.length) rfl (by rw [pad_len (by rw [foldTo_len]; omega)]) (fun _ => rfl) (by rw [pad_old (by rw [foldTo_len]; omega), foldTo_get _ _ (by omega)]) 0 _ rfl)) rfl rfl rfl ?_
                refine gop (y_build (vs := []) (cells := #[.int .i64 0, .int .i64 0]) rfl bd28_) rfl rfl rfl ?_
                refine gop (y_assign (v := .bool _) rfl) rfl rfl rfl ?_
                refine gop_store 2 (v := .agg #[_, _]) (cs' := #[_, _]) rfl rfl Tryd.sizeOf28 rfl rfl rfl rfl (Nat.le_of_ble_eq_true rfl) rfl rfl ?_
                refine gops_nil ?_
                refine hN23 _ _ ?_
                refine gT [box b2 _, box b3 _, box b5 _, box b6 _, rowl _ _ _ _ _ _] rfl ?_
                refine gfrom [(4, .bool _), (5, .pointer _)] ⟨rfl, rfl, trivial⟩ fun σ => ?_
                refine gret fun w1 hM => ?_
                refine ⟨_, res2 rfl (rt (v := .bool _) rfl) (rc 2 (cs := [_, _]) hM rfl rfl Tryd.isAgg28 Tryd.sizeOf28 rfl), ?_⟩
                exact ⟨by rw [hF, hV], hM.low⟩
        · 
          have hg29d := of_decide_eq_true hg29
          refine gop_off rfl rfl rfl rfl hg29 rfl rfl ?_
          refine gop_off rfl rfl rfl rfl hg29 rfl rfl ?_
          refine gop (y_pick_t (v := .bool _) rfl hg29 rfl) rfl rfl rfl ?_
          refine gops_nil ?_
          refine hN7 _ _ ?_
          refine gfrom [(2, .pointer _), (3, .pointer _), (5, .pointer _), (33, .bool _)] ⟨rfl, rfl, rfl, rfl, trivial⟩ fun σ => ?_
          refine gcond (b := _) rfl (fun hc33 => ?_) (fun hc33 => ?_)
          · 
            obtain ⟨hF, hV⟩ := evalF_range hc14 (F := F) (by unfold factsBad; omega)
            refine gseq fun N24 hN24 => ?_
            refine greg ?_
            refine gop (y_build (vs := [(0, _), (1, _)]) (cells := #[_, _]) rfl (bd28_0_1 _ _)) rfl rfl rfl ?_
            refine gop (y_assign (v := .bool _) rfl) rfl rfl rfl ?_
            refine gop_store 2 (v := .agg #[_, _]) (cs' := #[_, _]) rfl rfl Tryd.sizeOf28 rfl rfl rfl rfl (Nat.le_of_ble_eq_true rfl) rfl rfl ?_
            refine gops_nil ?_
            refine hN24 _ _ ?_
            refine gT [box b2 _, box b3 _, box b5 _, box b6 _] rfl ?_
            refine gfrom [(4, .bool _), (5, .pointer _)] ⟨rfl, rfl, trivial⟩ fun σ => ?_
            refine gret fun w1 hM => ?_
            refine ⟨_, res2 rfl (rt (v := .bool _) rfl) (rc 2 (cs := [_, _]) hM rfl rfl Tryd.isAgg28 Tryd.sizeOf28 rfl), ?_⟩
            exact ⟨by rw [hF, hV], hM.low⟩
          · 
            cases hc33
      · 
        have hg24d := of_decide_eq_true hg24
        refine gop_off rfl rfl rfl rfl hg24 rfl rfl ?_
        refine gop_off rfl rfl rfl rfl hg24 rfl rfl ?_
        refine gop (y_pick_t (v := .bool _) rfl hg24 rfl) rfl rfl rfl ?_
        refine gop (y_move (v := .bool _) rfl) rfl rfl rfl ?_
        refine gop_off rfl rfl rfl rfl rfl rfl rfl ?_
        refine gop_off rfl rfl rfl rfl rfl rfl rfl ?_
        refine gop_off rfl rfl rfl rfl rfl rfl rfl ?_
        refine gop (y_pick_t (v := .bool _) rfl rfl rfl) rfl rfl rfl ?_
        refine gops_nil ?_
        refine hN7 _ _ ?_
        refine gfrom [(2, .pointer _), (3, .pointer _), (5, .pointer _), (33, .bool _)] ⟨rfl, rfl, rfl, rfl, trivial⟩ fun σ => ?_
        refine gcond (b := _) rfl (fun hc33 => ?_) (fun hc33 => ?_)
        · 
          obtain ⟨hF, hV⟩ := evalF_range hc14 (F := F) (by unfold factsBad; omega)
          refine gseq fun N25 hN25 => ?_
          refine greg ?_
          refine gop (y_build (vs := [(0, _), (1, _)]) (cells := #[_, _]) rfl (bd28_0_1 _ _)) rfl rfl rfl ?_
          refine gop (y_assign (v := .bool _) rfl) rfl rfl rfl ?_
          refine gop_store 2 (v := .agg #[_, _]) (cs' := #[_, _]) rfl rfl Tryd.sizeOf28 rfl rfl rfl rfl (Nat.le_of_ble_eq_true rfl) rfl rfl ?_
          refine gops_nil ?_
          refine hN25 _ _ ?_
          refine gT [box b2 _, box b3 _, box b5 _, box b6 _] rfl ?_
          refine gfrom [(4, .bool _), (5, .pointer _)] ⟨rfl, rfl, trivial⟩ fun σ => ?_
          refine gret fun w1 hM => ?_
          refine ⟨_, res2 rfl (rt (v := .bool _) rfl) (rc 2 (cs := [_, _]) hM rfl rfl Tryd.isAgg28 Tryd.sizeOf28 rfl), ?_⟩
          exact ⟨by rw [hF, hV], hM.low⟩
        · 
          cases hc33
    · 
      have hg19d := of_decide_eq_true hg19
      refine gop_off rfl rfl rfl rfl hg19 rfl rfl ?_
      refine gop_off rfl rfl rfl rfl hg19 rfl rfl ?_
      refine gop (y_pick_t (v := .bool _) rfl hg19 rfl) rfl rfl rfl ?_
      refine gop (y_move (v := .bool _) rfl) rfl rfl rfl ?_
      refine gop_off rfl rfl rfl rfl rfl rfl rfl ?_
      refine gop_off rfl rfl rfl rfl rfl rfl rfl ?_
      refine gop_off rfl rfl rfl rfl rfl rfl rfl ?_
      refine gop (y_pick_t (v := .bool _) rfl rfl rfl) rfl rfl rfl ?_
      refine gop (y_move (v := .bool _) rfl) rfl rfl rfl ?_
      refine gop_off rfl rfl rfl rfl rfl rfl rfl ?_
      refine gop_off rfl rfl rfl rfl rfl rfl rfl ?_
      refine gop_off rfl rfl rfl rfl rfl rfl rfl ?_
      refine gop (y_pick_t (v := .bool _) rfl rfl rfl) rfl rfl rfl ?_
      refine gops_nil ?_
      refine hN7 _ _ ?_
      refine gfrom [(2, .pointer _), (3, .pointer _), (5, .pointer _), (33, .bool _)] ⟨rfl, rfl, rfl, rfl, trivial⟩ fun σ => ?_
      refine gcond (b := _) rfl (fun hc33 => ?_) (fun hc33 => ?_)
      · 
        obtain ⟨hF, hV⟩ := evalF_range hc14 (F := F) (by unfold factsBad; omega)
        refine gseq fun N26 hN26 => ?_
        refine greg ?_
        refine gop (y_build (vs := [(0, _), (1, _)]) (cells := #[_, _]) rfl (bd28_0_1 _ _)) rfl rfl rfl ?_
        refine gop (y_assign (v := .bool _) rfl) rfl rfl rfl ?_
        refine gop_store 2 (v := .agg #[_, _]) (cs' := #[_, _]) rfl rfl Tryd.sizeOf28 rfl rfl rfl rfl (Nat.le_of_ble_eq_true rfl) rfl rfl ?_
        refine gops_nil ?_
        refine hN26 _ _ ?_
        refine gT [box b2 _, box b3 _, box b5 _, box b6 _] rfl ?_
        refine gfrom [(4, .bool _), (5, .pointer _)] ⟨rfl, rfl, trivial⟩ fun σ => ?_
        refine gret fun w1 hM => ?_
        refine ⟨_, res2 rfl (rt (v := .bool _) rfl) (rc 2 (cs := [_, _]) hM rfl rfl Tryd.isAgg28 Tryd.sizeOf28 rfl), ?_⟩
        exact ⟨by rw [hF, hV], hM.low⟩
      · 
        cases hc33
end Go.Proofs.YtllblbkbglifjaaDoor
namespace Go.Cf
open Go.RowKit
def GoodP (l : List PN) (k : Nat) : Prop := ∀ j (h : j < l.length), j < k → chk l[j] (rootsTo l j) = 0
theorem GoodP.mono {l : List PN} {j k : Nat} (h : GoodP l k) (hjk : j ≤ k) : GoodP l j := fun i hi h1 => h i hi (by omega)
theorem At.bin2 {l : List PN} {i : Nat} {k : Int} {a b : Tr} (h : At l i (.bin k a b)) : ∃ m : Nat, m + b.size + 1 = i ∧ nAt l i = ⟨k, 0, (m : Int), (i : Int) - 1⟩ ∧ At l m a ∧ At l (i - 1) b := by
  obtain ⟨off, h1, h2⟩ := h
  simp only [Tr.size] at h1 h2
  have hp := a.pos
  have hq := b.pos
  obtain ⟨h3, h4⟩ := take_part h2 (show (post a off ++ post b (off + a.size)).length = a.size + b.size by rw [List.length_append, post_len, post_len])
  obtain ⟨h5, h6⟩ := take_part h3 (post_len a off)
  rw [post_len] at h6
  have e : off + (a.size + b.size) = i := by omega
  rw [e] at h4
  refine ⟨off + a.size - 1, by omega, ?_, ⟨off, by omega, h5⟩, ⟨off + a.size, by omega, h6⟩⟩
  rw [nAt, one_at h4]
  show PN.mk k 0 _ _ = _
  congr 1 <;> omega
section
variable {n : PN} {r : List Int}
theorem chk_leaf (h : ¬ (n.kind < 1 ∨ 7 < n.kind)) (h2 : ¬ (n.number < 0 ∨ mostN n.kind < n.number)) (h3 : n.kind < 5) : chk n r = if n.left ≠ 0 ∨ n.right ≠ 0 then 5 else 0 := by
  have ho : opN n.kind = 0 := by rw [opN, if_neg (by omega), if_neg (by omega)]
  have hw : ∀ i, want r 0 i = 0 := fun i => by rw [want, List.drop_of_length_le (by omega)]; rfl
  rw [chk, if_neg h, if_neg h2, ho, if_neg (by omega), hw, hw]
end
theorem depth_pos : ∀ t : Tr, 1 ≤ t.depth ∧ t.depth ≤ t.size
  | .leaf _ _ => ⟨by simp [Tr.depth], by simp [Tr.depth, Tr.size]⟩
  | .neg t => by have := depth_pos t; simp only [Tr.depth, Tr.size]; omega
  | .bin _ a b => by have := depth_pos a; have := depth_pos b; simp only [Tr.depth, Tr.size]; omega
theorem At.size_le {l : List PN} {i : Nat} {t : Tr} (h : At l i t) : t.size ≤ i + 1 := by obtain ⟨off, h1, _⟩ := h; omega
end Go.Cf
namespace Go.Cf
theorem tree_at {l : List PN} {i : Nat} {t : Tr} (ho : t.ok) (h : At l i t) (hi : i < l.length) :
    (l[i].kind < 5 → t.size = 1 ∧ t.depth = 1 ∧ t = .leaf l[i].kind l[i].number ∧ 1 ≤ l[i].kind ∧ 0 ≤ l[i].number ∧ l[i].number ≤ mostN l[i].kind) ∧
    (¬ l[i].kind < 5 → 1 ≤ i ∧ l[i].kind ≤ 7 ∧ ∃ b, b.ok ∧ At l (i - 1) b ∧ (l[i].kind = 5 → t = .neg b ∧ l[i].left = (i : Int) - 1) ∧ (l[i].kind ≠ 5 → ∃ a m, a.ok ∧ At l m a ∧ m + b.size + 1 = i ∧ t = .bin l[i].kind a b ∧ l[i].left = (m : Int) ∧ l[i].right = (i : Int) - 1)) := by
  rw [← nAt_at hi]
  match t, ho, h with
  | .leaf k n, ho, h =>
    rw [h.leaf]
    obtain ⟨h1, h2, h3, h4⟩ := ho
    exact ⟨fun _ => ⟨rfl, rfl, rfl, h1, h3, h4⟩, fun h9 => absurd (show k < 5 by omega) h9⟩
  | .neg b, ho, h =>
    obtain ⟨h1, h2, h3⟩ := h.neg
    rw [h2]
    exact ⟨fun h9 => absurd (show (5 : Int) < 5 from h9) (by omega), fun _ => ⟨h1, (show (5 : Int) ≤ 7 by omega), b, ho, h3, fun _ => ⟨rfl, rfl⟩, fun h9 => absurd rfl h9⟩⟩
  | .bin k a b, ho, h =>
    obtain ⟨m, h1, h2, h3, h4⟩ := h.bin2
    have hk : k = 6 ∨ k = 7 := ho.1
    rw [h2]
    exact ⟨fun h9 => absurd (show k < 5 from h9) (by omega), fun _ => ⟨by omega, by show k ≤ 7; omega, b, ho.2.2, h4, fun h9 => absurd (show k = 5 from h9) (by omega), fun _ => ⟨a, m, ho.2.1, h3, h1, rfl, rfl, rfl⟩⟩⟩
theorem size_neg (b : Tr) : (Tr.neg b).size = b.size + 1 := rfl
theorem size_bin (k : Int) (a b : Tr) : (Tr.bin k a b).size = a.size + b.size + 1 := rfl
end Go.Cf
namespace Go.Cf
open Go.RowKit
def runN (p : Nat → Bool) : Nat → Nat → Nat
  | 0, i => i
  | n + 1, i => if p i = true then runN p n (i + 1) else i
def runB (p : Nat → Bool) (L i : Nat) : Nat := runN p (L - i) i
section
variable {p : Nat → Bool} {L i : Nat}
theorem run_step (h : i < L) (hp : p i = true) : runB p L i = runB p L (i + 1) := by
  unfold runB
  obtain ⟨n, hn⟩ : ∃ n, L - i = n + 1 := ⟨L - i - 1, by omega⟩
  rw [hn, show L - (i + 1) = n by omega, runN, if_pos hp]
theorem run_stop (h : i < L → p i = false) : runB p L i = i := by
  unfold runB
  rcases Nat.lt_or_ge i L with h1 | h1
  · obtain ⟨n, hn⟩ : ∃ n, L - i = n + 1 := ⟨L - i - 1, by omega⟩
    rw [hn, runN, if_neg (by rw [h h1]; decide)]
  · rw [show L - i = 0 by omega]; rfl
theorem run_ge (p : Nat → Bool) (L : Nat) : ∀ (n i : Nat), L - i = n → i ≤ runB p L i ∧ (i ≤ L → runB p L i ≤ L) ∧ (runB p L i < L → p (runB p L i) = false) ∧ ∀ j, i ≤ j → j < runB p L i → p j = true
  | 0, i, h => by
    rw [run_stop (fun h1 => by omega)]
    exact ⟨Nat.le_refl _, fun h => h, fun h1 => by omega, fun j h1 h2 => by omega⟩
  | n + 1, i, h => by
    by_cases hp : p i = true
    · rw [run_step (by omega) hp]
      obtain ⟨h1, h2, h3, h4⟩ := run_ge p L n (i + 1) (by omega)
      refine ⟨by omega, fun _ => h2 (by omega), h3, fun j h5 h6 => ?_⟩
      rcases Nat.lt_or_ge i j with h7 | h7
      · exact h4 j h7 h6
      · obtain rfl : i = j := by omega
        exact hp
    · rw [run_stop (fun _ => by simpa using hp)]
      exact ⟨Nat.le_refl _, fun h => h, fun _ => by simpa using hp, fun j h1 h2 => by omega⟩
end
def spB (s : ByteArray) (j : Nat) : Bool := decide (byteAt s j = 32)
def woB (s : ByteArray) (j : Nat) : Bool := decide (byteAt s j ≠ 32 ∧ byteAt s j ≠ 40 ∧ byteAt s j ≠ 41)
def skipW (s : ByteArray) (i : Nat) : Nat := runB (spB s) s.size i
def endW (s : ByteArray) (i : Nat) : Nat := runB (woB s) s.size i
def nextW (s : ByteArray) (i : Nat) : Nat := if endW s i = i ∧ i < s.size then i + 1 else endW s i
theorem skip_ge (s : ByteArray) (i : Nat) : i ≤ skipW s i := (run_ge _ _ _ i rfl).1
theorem skip_le {s : ByteArray} {i : Nat} (h : i ≤ s.size) : skipW s i ≤ s.size := (run_ge _ _ _ i rfl).2.1 h
theorem skip_skip (s : ByteArray) (i : Nat) : skipW s (skipW s i) = skipW s i := run_stop (run_ge _ _ _ i rfl).2.2.1
theorem end_ge (s : ByteArray) (i : Nat) : i ≤ endW s i := (run_ge _ _ _ i rfl).1
theorem next_ge (s : ByteArray) (i : Nat) : i ≤ nextW s i := by
  unfold nextW
  split
  · omega
  · exact end_ge s i
theorem next_gt {s : ByteArray} {i : Nat} (h : i < s.size) : i < nextW s i := by
  unfold nextW
  have := end_ge s i
  split
  · omega
  · omega
theorem next_le {s : ByteArray} {i : Nat} (h : i ≤ s.size) : nextW s i ≤ s.size := by
  unfold nextW
  have : endW s i ≤ s.size := (run_ge _ _ _ i rfl).2.1 h
  split
  · omega
  · exact this
theorem next_end (s : ByteArray) : nextW s s.size = s.size := by
  have h : endW s s.size = s.size := run_stop (fun h => by omega)
  rw [nextW, h, if_neg (by omega)]
abbrev Tk := Nat × ByteArray
def tksN (s : ByteArray) : Nat → Nat → List Tk
  | 0, _ => []
  | n + 1, i => if skipW s i < s.size then (skipW s i, s.extract (skipW s i) (nextW s (skipW s i))) :: tksN s n (nextW s (skipW s i)) else []
def tks (s : ByteArray) (i : Nat) : List Tk := tksN s (s.size - i) i
theorem tksN_more (s : ByteArray) : ∀ (n m i : Nat), s.size - i ≤ n → s.size - i ≤ m → tksN s n i = tksN s m i
  | 0, 0, _, _, _ => rfl
  | 0, m + 1, i, h, _ => by rw [tksN, tksN, if_neg (by have := skip_ge s i; omega)]
  | n + 1, 0, i, _, h => by rw [tksN, tksN, if_neg (by have := skip_ge s i; omega)]
  | n + 1, m + 1, i, h1, h2 => by
    rw [tksN, tksN]
    split
    · rename_i h3
      have := skip_ge s i
      have := next_gt h3
      rw [tksN_more s n m _ (by omega) (by omega)]
    · rfl
theorem tks_nil {s : ByteArray} {i : Nat} (h : ¬ skipW s i < s.size) : tks s i = [] := by
  unfold tks
  cases s.size - i with
  | zero => rfl
  | succ n => rw [tksN, if_neg h]
theorem tks_cons {s : ByteArray} {i : Nat} (h : skipW s i < s.size) : tks s i = (skipW s i, s.extract (skipW s i) (nextW s (skipW s i))) :: tks s (nextW s (skipW s i)) := by
  have h1 := skip_ge s i
  have h2 := next_gt h
  unfold tks
  obtain ⟨n, hn⟩ : ∃ n, s.size - i = n + 1 := ⟨s.size - i - 1, by omega⟩
  rw [hn, tksN, if_pos h, tksN_more s n _ _ (by omega) (Nat.le_refl _)]
theorem tks_skip (s : ByteArray) (i : Nat) : tks s (skipW s i) = tks s i := by
  by_cases h : skipW s i < s.size
  · rw [tks_cons h, tks_cons (by rw [skip_skip]; exact h), skip_skip]
  · rw [tks_nil h, tks_nil (by rw [skip_skip]; exact h)]
theorem tks_len (s : ByteArray) : ∀ (n i : Nat), s.size - i = n → (tks s i).length ≤ n := by
  intro n
  induction n using Nat.strongRecOn with
  | _ n ih =>
    intro i hi
    by_cases h : skipW s i < s.size
    · have h1 := skip_ge s i
      have h2 := next_gt h
      rw [tks_cons h, List.length_cons]
      have := ih (s.size - nextW s (skipW s i)) (by omega) _ rfl
      omega
    · rw [tks_nil h]; exact Nat.zero_le _
inductive Res
  | bad (c : Int) (p : Nat)
  | ok (t : Tr) (ts : List Tk)
def hd : List Tk → ByteArray
  | [] => ⟨#[]⟩
  | x :: _ => x.2
def pos (L : Nat) : List Tk → Nat
  | [] => L
  | x :: _ => x.1
abbrev wNot : ByteArray := ⟨#[110, 111, 116]⟩
abbrev wL : ByteArray := ⟨#[40]⟩
abbrev wR : ByteArray := ⟨#[41]⟩
abbrev wScore : ByteArray := ⟨#[115, 99, 111, 114, 101]⟩
abbrev wUser : ByteArray := ⟨#[117, 115, 101, 114]⟩
abbrev wOwners : ByteArray := ⟨#[111, 119, 110, 101, 114, 115]⟩
abbrev wTests : ByteArray := ⟨#[116, 101, 115, 116, 115]⟩
abbrev wAnd : ByteArray := ⟨#[97, 110, 100]⟩
abbrev wOr : ByteArray := ⟨#[111, 114]⟩
def signL (lv : Nat) : ByteArray := if lv = 1 then wAnd else wOr
def kindL (lv : Nat) : Int := if lv = 1 then 6 else 7
theorem sign_ne (lv : Nat) : signL lv ≠ ⟨#[]⟩ := by unfold signL; split <;> decide
def numV (w : ByteArray) : Option Int := match Lib.atoiAll w.data.toList with
  | .ok n => if Lib.itoa n = w.data.toList then some n else none
  | _ => none
theorem numV_nil : numV ⟨#[]⟩ = none := rfl
def numR (L : Nat) (k : Int) (ts : List Tk) : Res := match numV (hd ts) with
  | none => .bad 1 (pos L ts)
  | some n => if n < 0 ∨ mostN k < n then .bad 3 (pos L ts) else .ok (.leaf k n) ts.tail
def bindR : Res → (Tr → List Tk → Res) → Res
  | .bad c p, _ => .bad c p
  | .ok t ts, f => f t ts
def fac (L : Nat) (rd2 rd0 : List Tk → Res) (ts : List Tk) : Res :=
  if hd ts = wNot then bindR (rd2 ts.tail) fun t ts' => .ok (.neg t) ts'
  else if hd ts = wL then bindR (rd0 ts.tail) fun t ts' => if hd ts' = wR then .ok t ts'.tail else .bad 1 (pos L ts')
  else if hd ts = wScore then numR L 1 ts.tail
  else if hd ts = wUser then numR L 4 ts.tail
  else if hd ts = wOwners then .ok (.leaf 2 0) ts.tail
  else if hd ts = wTests then .ok (.leaf 3 0) ts.tail
  else .bad 1 (pos L ts)
def rd (L : Nat) : Nat → Nat → Option Tr → List Tk → Res
  | 0, _, _, ts => .bad 1 (pos L ts)
  | n + 1, lv, some t, ts => if hd ts = signL lv then bindR (rd L n (lv + 1) none ts.tail) fun t2 ts' => rd L n lv (some (.bin (kindL lv) t t2)) ts' else .ok t ts
  | n + 1, lv, none, ts => if lv = 2 then fac L (rd L n 2 none) (rd L n 0 none) ts else bindR (rd L n (lv + 1) none ts) fun t ts' => rd L n lv (some t) ts'
theorem fac_cons {L : Nat} {rd2 rd0 : List Tk → Res} {x : Tk} {us : List Tk} : fac L rd2 rd0 (x :: us) =
  if x.2 = wNot then bindR (rd2 us) fun t ts' => .ok (.neg t) ts'
  else if x.2 = wL then bindR (rd0 us) fun t ts' => if hd ts' = wR then .ok t ts'.tail else .bad 1 (pos L ts')
  else if x.2 = wScore then numR L 1 us
  else if x.2 = wUser then numR L 4 us
  else if x.2 = wOwners then .ok (.leaf 2 0) us
  else if x.2 = wTests then .ok (.leaf 3 0) us
  else .bad 1 x.1 := rfl
theorem bind_ok {r : Res} {f : Tr → List Tk → Res} {t : Tr} {ts : List Tk} (h : bindR r f = .ok t ts) : ∃ a us, r = .ok a us ∧ f a us = .ok t ts := by
  cases r with
  | bad => cases h
  | ok a us => exact ⟨a, us, rfl, h⟩
theorem hd_pos {ts : List Tk} (h : hd ts ≠ ⟨#[]⟩) : ts.tail.length + 1 = ts.length := by
  cases ts with
  | nil => exact absurd rfl h
  | cons x ts => simp
theorem num_ok {L : Nat} {k : Int} {t : Tr} {ts ts' : List Tk} (hk : 1 ≤ k ∧ k ≤ 4) (h : numR L k ts = .ok t ts') : t.ok ∧ t.size + ts'.length ≤ ts.length := by
  unfold numR at h
  split at h
  · cases h
  · rename_i n hn
    split at h
    · cases h
    · cases h
      have := hd_pos (ts := ts) (fun h9 => by rw [h9, numV_nil] at hn; cases hn)
      exact ⟨⟨hk.1, hk.2, by omega, by omega⟩, by simp only [Tr.size]; omega⟩
theorem rd_ok (L : Nat) : ∀ (n lv : Nat) (o : Option Tr) (ts : List Tk) (t : Tr) (ts' : List Tk), (∀ a, o = some a → a.ok) → rd L n lv o ts = .ok t ts' →
    t.ok ∧ t.size + ts'.length ≤ ts.length + (o.map Tr.size).getD 0
  | 0, _, _, _, _, _, _, h => by simp [rd] at h
  | n + 1, lv, some a, ts, t, ts', ho, h => by
    rw [rd] at h
    split at h
    · rename_i h1
      obtain ⟨b, us, h2, h3⟩ := bind_ok h
      have := hd_pos (ts := ts) (by rw [h1]; exact sign_ne lv)
      obtain ⟨h4, h5⟩ := rd_ok L n _ none _ _ _ (fun _ h => by cases h) h2
      have hk : kindL lv = 6 ∨ kindL lv = 7 := by unfold kindL; split <;> simp
      obtain ⟨h6, h7⟩ := rd_ok L n _ (some _) _ _ _ (fun x hx => by cases hx; exact ⟨hk, ho a rfl, h4⟩) h3
      refine ⟨h6, ?_⟩
      simp only [Option.map, Option.getD, Tr.size] at h5 h7 ⊢
      omega
    · cases h
      exact ⟨ho _ rfl, by simp only [Option.map, Option.getD]; omega⟩
  | n + 1, lv, none, ts, t, ts', _, h => by
    rw [rd] at h
    split at h
    · unfold fac at h
      split at h
      · rename_i h1
        have := hd_pos (ts := ts) (by rw [h1]; decide)
        obtain ⟨b, us, h2, h3⟩ := bind_ok h
        obtain ⟨h4, h5⟩ := rd_ok L n _ none _ _ _ (fun _ h => by cases h) h2
        cases h3
        refine ⟨h4, ?_⟩
        simp only [Option.map, Option.getD, Tr.size] at h5 ⊢
        omega
      split at h
      · rename_i h1
        have := hd_pos (ts := ts) (by rw [h1]; decide)
        obtain ⟨b, us, h2, h3⟩ := bind_ok h
        obtain ⟨h4, h5⟩ := rd_ok L n _ none _ _ _ (fun _ h => by cases h) h2
        split at h3
        · rename_i h6
          cases h3
          have := hd_pos (ts := us) (by rw [h6]; decide)
          refine ⟨h4, ?_⟩
          simp only [Option.map, Option.getD] at h5 ⊢
          omega
        · cases h3
      split at h
      · rename_i h1
        have := hd_pos (ts := ts) (by rw [h1]; decide)
        obtain ⟨h2, h3⟩ := num_ok ⟨by decide, by decide⟩ h
        exact ⟨h2, by simp only [Option.map, Option.getD]; omega⟩
      split at h
      · rename_i h1
        have := hd_pos (ts := ts) (by rw [h1]; decide)
        obtain ⟨h2, h3⟩ := num_ok ⟨by decide, by decide⟩ h
        exact ⟨h2, by simp only [Option.map, Option.getD]; omega⟩
      split at h
      · rename_i h1
        have := hd_pos (ts := ts) (by rw [h1]; decide)
        cases h
        exact ⟨⟨by decide, by decide, by decide, by decide⟩, by simp only [Option.map, Option.getD, Tr.size]; omega⟩
      split at h
      · rename_i h1
        have := hd_pos (ts := ts) (by rw [h1]; decide)
        cases h
        exact ⟨⟨by decide, by decide, by decide, by decide⟩, by simp only [Option.map, Option.getD, Tr.size]; omega⟩
      · cases h
    · obtain ⟨b, us, h2, h3⟩ := bind_ok h
      obtain ⟨h4, h5⟩ := rd_ok L n _ none _ _ _ (fun _ h => by cases h) h2
      obtain ⟨h6, h7⟩ := rd_ok L n _ (some _) _ _ _ (fun x hx => by cases hx; exact h4) h3
      refine ⟨h6, ?_⟩
      simp only [Option.map, Option.getD] at h5 h7 ⊢
      omega
def rankW (w : ByteArray) : Nat := if w = wNot then 3 else if w = wAnd then 2 else if w = wOr then 1 else 0
def topW (s : ByteArray) : List Tr → Option (List Tr)
  | [] => none
  | [a] => if s = wNot then some [.neg a] else none
  | b :: a :: ω => if s = wNot then some (.neg b :: a :: ω) else some (.bin (8 - rankW s) a b :: ω)
def redW (low : Nat) : List ByteArray → List Tr → List ByteArray × List Tr
  | [], ω => ([], ω)
  | s :: σ, ω => if low ≤ rankW s then (match topW s ω with | some ω' => redW low σ ω' | none => (s :: σ, ω)) else (s :: σ, ω)
theorem top_not (a : Tr) (ω : List Tr) : topW wNot (a :: ω) = some (.neg a :: ω) := by
  cases ω with
  | nil => rw [topW, if_pos rfl]
  | cons b ω => rw [topW, if_pos rfl]
theorem red_up {low : Nat} {s : ByteArray} {σ : List ByteArray} {ω ω' : List Tr} (h : low ≤ rankW s) (ht : topW s ω = some ω') : redW low (s :: σ) ω = redW low σ ω' := by
  rw [redW, if_pos h, ht]
theorem red_stuck {low : Nat} {s : ByteArray} {σ : List ByteArray} {ω : List Tr} (h : topW s ω = none ∨ ¬ low ≤ rankW s) : redW low (s :: σ) ω = (s :: σ, ω) := by
  rw [redW]
  rcases h with h | h
  · rw [h]; split <;> rfl
  · rw [if_neg h]
theorem red_red {low k : Nat} (h : low ≤ k) : ∀ (σ : List ByteArray) (ω : List Tr), redW low (redW k σ ω).1 (redW k σ ω).2 = redW low σ ω
  | [], ω => rfl
  | s :: σ, ω => by
    by_cases h1 : k ≤ rankW s
    · cases ht : topW s ω with
      | none => rw [red_stuck (.inl ht)]
      | some ω' =>
        rw [red_up h1 ht, red_up (Nat.le_trans h h1) ht]
        exact red_red h σ ω'
    · rw [red_stuck (.inr h1)]
inductive Md
  | want
  | num (k : Int)
  | got
inductive End
  | bad (c : Int) (p : Nat)
  | ok (ω : List Tr)
def op (L : Nat) : List Tk → Md → List ByteArray → List Tr → Nat → End
  | [], .got, σ, ω, o => if 0 < o then .bad 1 L else .ok (redW 1 σ ω).2
  | [], _, _, _, _ => .bad 1 L
  | x :: ts, .want, σ, ω, o =>
    if x.2 = wNot then op L ts .want (wNot :: σ) ω o
    else if x.2 = wL then op L ts .want (wL :: σ) ω (o + 1)
    else if x.2 = wOwners then op L ts .got σ (.leaf 2 0 :: ω) o
    else if x.2 = wTests then op L ts .got σ (.leaf 3 0 :: ω) o
    else if x.2 = wScore then op L ts (.num 1) σ ω o
    else if x.2 = wUser then op L ts (.num 4) σ ω o
    else .bad 1 x.1
  | x :: ts, .num k, σ, ω, o => match numV x.2 with
    | none => .bad 1 x.1
    | some n => if n < 0 ∨ mostN k < n then .bad 3 x.1 else op L ts .got σ (.leaf k n :: ω) o
  | x :: ts, .got, σ, ω, o =>
    if x.2 = wR ∧ 0 < o then op L ts .got (redW 1 σ ω).1.tail (redW 1 σ ω).2 (o - 1)
    else if x.2 = wAnd then op L ts .want (wAnd :: (redW 2 σ ω).1) (redW 2 σ ω).2 o
    else if x.2 = wOr then op L ts .want (wOr :: (redW 1 σ ω).1) (redW 1 σ ω).2 o
    else .bad 1 x.1
theorem op_red {L k : Nat} {ts : List Tk} {σ : List ByteArray} {ω : List Tr} {o : Nat} (h : 1 ≤ k) (h2 : hd ts = wAnd → 2 ≤ k) : op L ts .got (redW k σ ω).1 (redW k σ ω).2 o = op L ts .got σ ω o := by
  cases ts with
  | nil => rw [op, op, red_red h]
  | cons x ts =>
    rw [op, op, red_red h]
    by_cases h3 : x.2 = wAnd
    · rw [red_red (h2 h3)]
    · rw [if_neg h3, if_neg h3]
def LowT (low : Nat) (σ : List ByteArray) : Prop := ∀ s, σ.head? = some s → rankW s < low
theorem red_low {low : Nat} {σ : List ByteArray} {ω : List Tr} (h : LowT low σ) : redW low σ ω = (σ, ω) := by
  cases σ with
  | nil => rfl
  | cons s σ => exact red_stuck (.inr (by have := h s rfl; omega))
def thenO (L : Nat) (σ : List ByteArray) (ω : List Tr) (o : Nat) : Res → End
  | .bad c p => .bad c p
  | .ok t ts => op L ts .got σ (t :: ω) o
theorem op_num {L : Nat} {k : Int} {ts : List Tk} {σ : List ByteArray} {ω : List Tr} {o : Nat} : op L ts (.num k) σ ω o = thenO L σ ω o (numR L k ts) := by
  cases ts with
  | nil => rw [op, numR, hd, numV_nil]; rfl; intro h; cases h
  | cons x ts =>
    rw [op, numR, hd]
    cases hn : numV x.2 with
    | none => rfl
    | some n =>
      simp only
      split <;> rfl
theorem op_bind {L : Nat} {σ : List ByteArray} {ω : List Tr} {o : Nat} {r : Res} {f : Tr → List Tk → Res} : thenO L σ ω o (bindR r f) = match r with
    | .bad c p => .bad c p
    | .ok t ts => thenO L σ ω o (f t ts) := by
  cases r <;> rfl
theorem rd_head (L : Nat) : ∀ (n lv : Nat) (o : Option Tr) (ts : List Tk) (t : Tr) (ts' : List Tk), lv < 2 → rd L n lv o ts = .ok t ts' → hd ts' ≠ signL lv
  | 0, _, _, _, _, _, _, h => by simp [rd] at h
  | n + 1, lv, some a, ts, t, ts', hlv, h => by
    rw [rd] at h
    split at h
    · obtain ⟨b, us, h2, h3⟩ := bind_ok h
      exact rd_head L n lv _ _ _ _ hlv h3
    · rename_i h1
      cases h; exact h1
  | n + 1, lv, none, ts, t, ts', hlv, h => by
    rw [rd, if_neg (by omega)] at h
    obtain ⟨b, us, h2, h3⟩ := bind_ok h
    exact rd_head L n lv _ _ _ _ hlv h3
theorem rd_head0 (L : Nat) : ∀ (n : Nat) (o : Option Tr) (ts : List Tk) (t : Tr) (ts' : List Tk), (o ≠ none → hd ts ≠ wAnd) → rd L n 0 o ts = .ok t ts' → hd ts' ≠ wAnd
  | 0, _, _, _, _, _, h => by simp [rd] at h
  | n + 1, some a, ts, t, ts', ho, h => by
    rw [rd] at h
    split at h
    · obtain ⟨b, us, h2, h3⟩ := bind_ok h
      exact rd_head0 L n _ _ _ _ (fun _ => rd_head L n 1 _ _ _ _ (by omega) h2) h3
    · cases h; exact ho (by simp)
  | n + 1, none, ts, t, ts', _, h => by
    rw [rd, if_neg (by omega)] at h
    obtain ⟨b, us, h2, h3⟩ := bind_ok h
    exact rd_head0 L n _ _ _ _ (fun _ => rd_head L n 1 _ _ _ _ (by omega) h2) h3
end Go.Cf
namespace Go.Cf
open Go.RowKit
def Fuel (n lv : Nat) (o : Option Tr) (ts : List Tk) : Prop := match o with
  | none => 3 * ts.length + 3 ≤ n + lv
  | some _ => 3 * ts.length + 1 ≤ n
theorem low_of {s : ByteArray} {σ : List ByteArray} {low : Nat} (h : rankW s < low) : LowT low (s :: σ) := fun x hx => by
  cases hx; exact h
theorem op_rd (L : Nat) : ∀ (n lv : Nat) (o : Option Tr) (ts : List Tk) (σ : List ByteArray) (ω : List Tr) (k : Nat), lv ≤ 2 → Fuel n lv o ts → (lv < 2 → LowT (lv + 1) σ) → (o ≠ none → lv < 2) →
    (match o with | none => op L ts .want σ ω k | some t => op L ts .got σ (t :: ω) k) = thenO L σ ω k (rd L n lv o ts)
  | 0, lv, none, ts, _, _, _, h2, hf, _, _ => by simp only [Fuel] at hf; omega
  | 0, lv, some _, ts, _, _, _, h2, hf, _, _ => by simp only [Fuel] at hf; omega
  | n + 1, lv, some t, ts, σ, ω, k, h2, hf, hl, ho => by
    have hlv := ho (by simp)
    simp only [Fuel] at hf
    rw [rd]
    by_cases h1 : hd ts = signL lv
    · rw [if_pos h1, op_bind]
      have hp := hd_pos (ts := ts) (by rw [h1]; exact sign_ne lv)
      obtain ⟨x, us, rfl⟩ : ∃ x us, ts = x :: us := by cases ts with | nil => simp at hp | cons x us => exact ⟨x, us, rfl⟩
      have h1' : x.2 = signL lv := h1
      have hr : ∀ t2 us', rd L n (lv + 1) none us = .ok t2 us' → us'.length < us.length := fun t2 us' h => by
        obtain ⟨h3, h4⟩ := rd_ok L n _ none _ _ _ (fun _ h => by cases h) h
        have := t2.pos
        simp only [Option.map, Option.getD] at h4; omega
      have hlow := hl hlv
      have key : op L (x :: us) .got σ (t :: ω) k = op L us .want (signL lv :: σ) (t :: ω) k := by
        rw [op]
        rcases (show lv = 0 ∨ lv = 1 by omega) with rfl | rfl
        · have h3 : x.2 = wOr := h1'
          rw [if_neg (by rw [h3]; intro h; exact absurd h.1 (by decide)), if_neg (by rw [h3]; decide), if_pos h3, red_low hlow]; rfl
        · have h3 : x.2 = wAnd := h1'
          rw [if_neg (by rw [h3]; intro h; exact absurd h.1 (by decide)), if_pos h3, red_low hlow]; rfl
      show op L (x :: us) .got σ (t :: ω) k = _
      rw [key]
      have ih1 := op_rd L n (lv + 1) none us (signL lv :: σ) (t :: ω) k (by omega) (by simp only [Fuel]; simp only [List.length_cons] at hf; omega) (fun h => low_of (by
        obtain rfl : lv = 0 := by omega
        decide)) (fun h => absurd rfl h)
      simp only at ih1
      rw [ih1]
      show thenO L (signL lv :: σ) (t :: ω) k (rd L n (lv + 1) none us) = match rd L n (lv + 1) none us with | .bad c p => .bad c p | .ok t2 ts' => thenO L σ ω k (rd L n lv (some (.bin (kindL lv) t t2)) ts')
      cases hc : rd L n (lv + 1) none us with
      | bad c p => rfl
      | ok t2 us' =>
        have h5 := hr t2 us' hc
        have ih2 := op_rd L n lv (some (.bin (kindL lv) t t2)) us' σ ω k h2 (by simp only [Fuel]; simp only [List.length_cons] at hf; omega) hl (fun _ => hlv)
        simp only at ih2 ⊢
        rw [← ih2, thenO]
        rcases (show lv = 0 ∨ lv = 1 by omega) with rfl | rfl
        · have h6 : hd us' ≠ wAnd := rd_head L n 1 _ _ _ _ (by omega) hc
          rw [← op_red (k := 1) (σ := signL 0 :: σ) (Nat.le_refl _) (fun h => absurd h h6)]
          have e : redW 1 (signL 0 :: σ) (t2 :: t :: ω) = redW 1 σ (.bin 7 t t2 :: ω) := by
            rw [red_up (ω' := .bin 7 t t2 :: ω) (by decide) rfl]
          rw [e, op_red (Nat.le_refl _) (fun h => absurd h h6)]; rfl
        · rw [← op_red (k := 2) (σ := signL 1 :: σ) (by omega) (fun _ => Nat.le_refl _)]
          have e : redW 2 (signL 1 :: σ) (t2 :: t :: ω) = redW 2 σ (.bin 6 t t2 :: ω) := by
            rw [red_up (ω' := .bin 6 t t2 :: ω) (by decide) rfl]
          rw [e, op_red (by omega) (fun _ => Nat.le_refl _)]; rfl
    · rw [if_neg h1]; rfl
  | n + 1, lv, none, ts, σ, ω, k, h2, hf, hl, ho => by
    simp only [Fuel] at hf
    rw [rd]
    by_cases hlv : lv = 2
    · rw [if_pos hlv]
      subst hlv
      show op L ts .want σ ω k = _
      cases ts with
      | nil => rfl
      | cons x us =>
        simp only [List.length_cons] at hf
        rw [op, fac_cons]
        by_cases c1 : x.2 = wNot
        · rw [if_pos c1, if_pos c1, op_bind]
          have ih := op_rd L n 2 none us (wNot :: σ) ω k (Nat.le_refl _) (by simp only [Fuel]; omega) (fun h => by omega) (fun h => absurd rfl h)
          simp only at ih
          rw [ih]
          cases rd L n 2 none us with
          | bad c p => rfl
          | ok t us' =>
            simp only [thenO]
            rw [← op_red (k := 3) (σ := wNot :: σ) (by omega) (fun _ => by omega)]
            have e : redW 3 (wNot :: σ) (t :: ω) = redW 3 σ (.neg t :: ω) := red_up (by decide) (top_not _ _)
            rw [e, op_red (by omega) (fun _ => by omega)]
        rw [if_neg c1, if_neg c1]
        by_cases c2 : x.2 = wL
        · rw [if_pos c2, if_pos c2, op_bind]
          have ih := op_rd L n 0 none us (wL :: σ) ω (k + 1) (by omega) (by simp only [Fuel]; omega) (fun h => low_of (by decide)) (fun h => absurd rfl h)
          simp only at ih
          rw [ih]
          cases hc : rd L n 0 none us with
          | bad c p => rfl
          | ok t us' =>
            have h5 := rd_head L n 0 _ _ _ _ (by omega) hc
            have h6 := rd_head0 L n _ _ _ _ (fun h => absurd rfl h) hc
            simp only [thenO]
            cases us' with
            | nil => rw [op, if_pos (by omega), if_neg (by decide)]; rfl
            | cons y vs =>
              have h5' : y.2 ≠ wOr := h5
              have h6' : y.2 ≠ wAnd := h6
              rw [op, if_neg h6', if_neg h5']
              by_cases c3 : y.2 = wR
              · rw [if_pos ⟨c3, by omega⟩, if_pos (show hd (y :: vs) = wR from c3), red_low (low_of (by decide))]; rfl
              · rw [if_neg (fun h => c3 h.1), if_neg (show ¬ hd (y :: vs) = wR from c3)]; rfl
        rw [if_neg c2, if_neg c2]
        by_cases c3 : x.2 = wScore
        · rw [if_neg (by rw [c3]; decide), if_neg (by rw [c3]; decide), if_pos c3, if_pos c3, op_num]
        rw [if_neg c3]
        by_cases c4 : x.2 = wUser
        · rw [if_neg (by rw [c4]; decide), if_neg (by rw [c4]; decide), if_neg c3, if_pos c4, if_pos c4, op_num]
        rw [if_neg c4]
        by_cases c5 : x.2 = wOwners
        · rw [if_pos c5, if_pos c5, if_neg c3, if_neg c4]; rfl
        rw [if_neg c5, if_neg c5]
        by_cases c6 : x.2 = wTests
        · rw [if_pos c6, if_pos c6, if_neg c3, if_neg c4]; rfl
        · rw [if_neg c6, if_neg c6, if_neg c3, if_neg c4]; rfl
    · rw [if_neg hlv, op_bind]
      have ih := op_rd L n (lv + 1) none ts σ ω k (by omega) (by simp only [Fuel]; omega) (fun h s hs => Nat.lt_of_lt_of_le (hl (by omega) s hs) (by omega)) (fun h => absurd rfl h)
      simp only at ih
      show op L ts .want σ ω k = _
      rw [ih]
      cases hc : rd L n (lv + 1) none ts with
      | bad c p => rfl
      | ok t us' =>
        obtain ⟨h3, h4⟩ := rd_ok L n _ none _ _ _ (fun _ h => by cases h) hc
        have := t.pos
        simp only [Option.map, Option.getD] at h4
        have ih2 := op_rd L n lv (some t) us' σ ω k h2 (by simp only [Fuel]; omega) hl (fun _ => by omega)
        simp only at ih2 ⊢
        rw [← ih2]; rfl
theorem parse_eq (L n : Nat) (ts : List Tk) (hf : 3 * ts.length + 3 ≤ n) : op L ts .want [] [] 0 = match rd L n 0 none ts with
    | .bad c p => .bad c p
    | .ok t us => if us = [] then .ok [t] else .bad 1 (pos L us) := by
  have h := op_rd L n 0 none ts [] [] 0 (by omega) (by simp only [Fuel]; omega) (fun _ s hs => by cases hs) (fun h => absurd rfl h)
  simp only at h
  rw [h]
  cases hc : rd L n 0 none ts with
  | bad c p => rfl
  | ok t us =>
    have h5 := rd_head L n 0 _ _ _ _ (by omega) hc
    have h6 := rd_head0 L n _ _ _ _ (fun h => absurd rfl h) hc
    simp only [thenO]
    cases us with
    | nil => rfl
    | cons y vs =>
      have h5' : y.2 ≠ wOr := h5
      have h6' : y.2 ≠ wAnd := h6
      rw [op, if_neg (fun h => by omega), if_neg h6', if_neg h5', if_neg (by simp)]; rfl
def madeR (t : Tr) : Fault × List PN := if 24 < t.size ∨ 12 < t.depth then (⟨10, -1⟩, []) else (⟨0, 0⟩, post t 0)
def fuelOf (s : ByteArray) : Nat := 3 * (tks s 0).length + 3
def parR (s : ByteArray) : Fault × List PN := if 200 < s.size then (⟨2, -1⟩, []) else match rd s.size (fuelOf s) 0 none (tks s 0) with
  | .bad c p => (⟨c, p⟩, [])
  | .ok t us => if us = [] then madeR t else (⟨1, pos s.size us⟩, [])
end Go.Cf
namespace Go.Cf
open Go.RowKit
theorem tree_big {l : List PN} {i : Nat} {t : Tr} (ho : t.ok) (h : At l i t) (hi : i < l.length) (hk : ¬ l[i].kind < 5) : 1 ≤ i ∧ l[i].kind ≤ 7 ∧ ∃ c q, c.ok ∧ At l q c ∧ l[i].left = ((q : Nat) : Int) ∧ c.size < t.size ∧ q < i ∧
    (l[i].kind = 5 → t = .neg c) ∧ (l[i].kind ≠ 5 → ∃ b, b.ok ∧ At l (i - 1) b ∧ b.size < t.size ∧ l[i].right = ((i - 1 : Nat) : Int) ∧ t = .bin l[i].kind c b) := by
  obtain ⟨-, hbg⟩ := tree_at ho h hi
  obtain ⟨h1, h2, b, hbo, hbt, h5, h67⟩ := hbg hk
  refine ⟨h1, h2, ?_⟩
  by_cases h9 : l[i].kind = 5
  · obtain ⟨e1, e2⟩ := h5 h9
    exact ⟨b, i - 1, hbo, hbt, by omega, by rw [e1, size_neg]; omega, by omega, fun _ => e1, fun h => absurd h9 h⟩
  · obtain ⟨a, m, hao, hat, hm, e1, e2, e3⟩ := h67 h9
    have := a.pos
    have := b.pos
    exact ⟨a, m, hao, hat, e2, by rw [e1, size_bin]; omega, by omega, fun h => absurd h h9, fun _ => ⟨b, hbo, hbt, by rw [e1, size_bin]; omega, by omega, e1⟩⟩
def baL (l : List UInt8) : ByteArray := ⟨l.toArray⟩
theorem baL_app (a b : List UInt8) : baL a ++ baL b = baL (a ++ b) := by
  apply ByteArray.ext
  rw [ByteArray.data_append]
  simp [baL]
theorem baL_size (l : List UInt8) : (baL l).size = l.length := by show l.toArray.size = _; simp
theorem baL_data (l : List UInt8) : (baL l).data.toList = l := by simp [baL]
abbrev tScore : List UInt8 := [115, 99, 111, 114, 101, 32]
abbrev tUser : List UInt8 := [117, 115, 101, 114, 32]
abbrev tOwners : List UInt8 := [111, 119, 110, 101, 114, 115]
abbrev tTests : List UInt8 := [116, 101, 115, 116, 115]
abbrev tNot : List UInt8 := [110, 111, 116, 32]
abbrev tAnd : List UInt8 := [32, 97, 110, 100, 32]
abbrev tOr : List UInt8 := [32, 111, 114, 32]
def lvK (k : Int) : Nat := if k = 7 then 0 else if k = 6 then 1 else 2
def parL (c : Prop) [Decidable c] (l : List UInt8) : List UInt8 := if c then 40 :: (l ++ [41]) else l
def showB : Tr → Nat → List UInt8
  | .leaf k n, _ => if k = 1 then tScore ++ Lib.decDigits n.toNat else if k = 4 then tUser ++ Lib.decDigits n.toNat else if k = 2 then tOwners else tTests
  | .neg t, _ => tNot ++ showB t 2
  | .bin k a b, q => parL (lvK k < q) (showB a (lvK k) ++ (if k = 6 then tAnd else tOr) ++ showB b (lvK k + 1))
theorem dig_one {n : Int} (h0 : 0 ≤ n) (h1 : n ≤ 8) : Lib.decDigits n.toNat = [UInt8.ofNat (48 + n.toNat)] := by
  rw [Lib.decDigits, dif_pos (by omega)]
theorem showB_len : ∀ (t : Tr) (q : Nat), t.ok → (showB t q).length ≤ 10 * t.size
  | .leaf k n, q, h => by
    obtain ⟨h1, h2, h3, h4⟩ := h
    have := mostN_le k
    rw [showB, dig_one h3 (by omega)]
    simp only [Tr.size]
    (repeat' split) <;> simp
  | .neg t, q, h => by
    have := showB_len t 2 h
    rw [showB, List.length_append, size_neg]
    have : tNot.length = 4 := rfl
    omega
  | .bin k a b, q, h => by
    have h1 := showB_len a (lvK k) h.2.1
    have h2 := showB_len b (lvK k + 1) h.2.2
    have h3 : (if k = 6 then tAnd else tOr).length ≤ 5 := by split <;> decide
    rw [showB, size_bin, parL]
    split
    · simp only [List.length_cons, List.length_append, List.length_nil] at *; omega
    · simp only [List.length_append] at *; omega
def nrm : Tr → Bool → Tr
  | .leaf k n, x => if x then .neg (.leaf k n) else .leaf k n
  | .neg t, x => nrm t (!x)
  | .bin k a b, x => .bin (if x then 13 - k else k) (nrm a x) (nrm b x)
theorem nrm_ok : ∀ (t : Tr) (x : Bool), t.ok → (nrm t x).ok ∧ (nrm t x).size ≤ 2 * t.size
  | .leaf k n, x, h => by
    rw [nrm]
    split
    · exact ⟨h, by simp [Tr.size]⟩
    · exact ⟨h, by simp [Tr.size]⟩
  | .neg t, x, h => by
    obtain ⟨h1, h2⟩ := nrm_ok t (!x) h
    exact ⟨h1, by rw [size_neg, nrm]; omega⟩
  | .bin k a b, x, h => by
    obtain ⟨h1, h2⟩ := nrm_ok a x h.2.1
    obtain ⟨h3, h4⟩ := nrm_ok b x h.2.2
    have hk := h.1
    refine ⟨⟨?_, h1, h3⟩, ?_⟩
    · split <;> omega
    · rw [nrm, size_bin, size_bin]; omega
end Go.Cf
namespace Go.Cf
def kindT : Tr → Int
  | .leaf k _ => k
  | .neg _ => 5
  | .bin k _ _ => k
theorem parL_no {c : Prop} [Decidable c] {x : List UInt8} (h : ¬ c) : parL c x = x := if_neg h
theorem show_par {t : Tr} {v : Nat} (h : t.ok) (hv : v ≤ 2) : showB t v = parL (lvK (kindT t) < v) (showB t 0) := by
  cases t with
  | leaf k n =>
    obtain ⟨h1, h2, _⟩ := h
    have e : lvK k = 2 := by unfold lvK; rw [if_neg (by omega), if_neg (by omega)]
    rw [showB, showB, parL_no (by show ¬ lvK k < v; omega)]
  | neg t => rw [showB, showB, parL_no (by show ¬ 2 < v; omega)]
  | bin k a b =>
    rw [showB, showB, parL_no (c := lvK k < 0) (by omega)]; rfl
theorem kind_at {l : List PN} {i : Nat} {t : Tr} (h : At l i t) (hi : i < l.length) : l[i].kind = kindT t := by
  rw [← nAt_at hi]
  match t, h with
  | .leaf k n, h => rw [h.leaf]; rfl
  | .neg b, h => rw [h.neg.2.1]; rfl
  | .bin k a b, h =>
    obtain ⟨m, _, _, h3, _⟩ := h.bin
    rw [h3]; rfl
theorem par_yes {c : Prop} [Decidable c] {x : List UInt8} (h : c) : baL (parL c x) = ⟨#[40]⟩ ++ baL x ++ ⟨#[41]⟩ := by
  rw [parL, if_pos h, show (⟨#[40]⟩ : ByteArray) = baL [40] from rfl, show (⟨#[41]⟩ : ByteArray) = baL [41] from rfl, baL_app, baL_app]; rfl
theorem par_no {c : Prop} [Decidable c] {x : List UInt8} (h : ¬ c) : baL (parL c x) = baL x := by rw [parL, if_neg h]
theorem show_and (a b : Tr) : showB (.bin 6 a b) 0 = showB a 1 ++ tAnd ++ showB b 2 := by simp [showB, parL, lvK]
theorem show_or (a b : Tr) : showB (.bin 7 a b) 0 = showB a 0 ++ tOr ++ showB b 1 := by simp [showB, parL, lvK]
end Go.Cf
namespace Go.Cf
theorem lvK_is (k : Int) : (k ≠ 6 ∧ k ≠ 7 ∧ lvK k = 2) ∨ (k = 6 ∧ lvK k = 1) ∨ (k = 7 ∧ lvK k = 0) := by
  by_cases h7 : k = 7
  · exact .inr (.inr ⟨h7, by rw [lvK, if_pos h7]⟩)
  · by_cases h6 : k = 6
    · exact .inr (.inl ⟨h6, by rw [lvK, if_neg h7, if_pos h6]⟩)
    · exact .inl ⟨h6, h7, by rw [lvK, if_neg h7, if_neg h6]⟩
end Go.Cf
namespace Go.Proofs
open Go.Shelf
def Tryd.laysM171_ren : Go.Shelf.Ren := ⟨fun | 171 => 40 | 243 => 46 | 246 => 50 | 283 => 53 | 284 => 54 | 285 => 55 | 286 => 56 | 129 => 60 | 317 => 59 | 318 => 61 | 319 => 62 | 320 => 63 | 337 => 69 | 338 => 70 | n => n, fun | 3 => 3 | 9 => 9 | 2 => 2 | 4 => 4 | 171 => 90 | 0 => 0 | 53 => 83 | 37 => 93 | 5 => 5 | 173 => 94 | 212 => 98 | 51 => 99 | 20 => 20 | 213 => 100 | 46 => 102 | 232 => 117 | 233 => 118 | n => n, fun | 17 => 1 | 18 => 4 | 19 => 5 | n => n⟩
theorem Tryd.laysM171 : Go.Proofs.LaysM.n171 Tryd.prog Tryd.laysM171_ren := {
  mixed := by kernel_rfl
  f129 := Tryd.func60.trans (congrArg some (by kernel_rfl))
  f171 := Tryd.func40.trans (congrArg some (by kernel_rfl))
  f243 := Tryd.func46.trans (congrArg some (by kernel_rfl))
  f246 := Tryd.func50.trans (congrArg some (by kernel_rfl))
  f283 := Tryd.func53.trans (congrArg some (by kernel_rfl))
  f284 := Tryd.func54.trans (congrArg some (by kernel_rfl))
  f285 := Tryd.func55.trans (congrArg some (by kernel_rfl))
  f286 := Tryd.func56.trans (congrArg some (by kernel_rfl))
  f317 := Tryd.func59.trans (congrArg some (by kernel_rfl))
  f318 := Tryd.func61.trans (congrArg some (by kernel_rfl))
  f319 := Tryd.func62.trans (congrArg some (by kernel_rfl))
  f320 := Tryd.func63.trans (congrArg some (by kernel_rfl))
  f337 := Tryd.func69.trans (congrArg some (by kernel_rfl))
  f338 := Tryd.func70.trans (congrArg some (by kernel_rfl))
  t0 := Tryd.underlying0
  a0 := Tryd.isAgg0
  z0 := Tryd.sizeOf0
  v0 := Tryd.zeroValue0
  t2 := Tryd.underlying2
  a2 := Tryd.isAgg2
  z2 := Tryd.sizeOf2
  v2 := Tryd.zeroValue2
  t3 := Tryd.underlying3
  a3 := Tryd.isAgg3
  z3 := Tryd.sizeOf3
  v3 := Tryd.zeroValue3
  t4 := Tryd.underlying4
  a4 := Tryd.isAgg4
  z4 := Tryd.sizeOf4
  v4 := Tryd.zeroValue4
  t5 := Tryd.underlying5
  a5 := Tryd.isAgg5
  z5 := Tryd.sizeOf5
  v5 := Tryd.zeroValue5
  t9 := Tryd.underlying9
  a9 := Tryd.isAgg9
  z9 := Tryd.sizeOf9
  v9 := Tryd.zeroValue9
  t20 := Tryd.underlying20
  a20 := Tryd.isAgg20
  z20 := Tryd.sizeOf20
  v20 := Tryd.zeroValue20
  t37 := Tryd.underlying93
  a37 := Tryd.isAgg93
  z37 := Tryd.sizeOf93
  v37 := Tryd.zeroValue93
  t46 := Tryd.underlying102
  a46 := Tryd.isAgg102
  z46 := Tryd.sizeOf102
  v46 := Tryd.zeroValue102
  t51 := Tryd.underlying99
  a51 := Tryd.isAgg99
  z51 := Tryd.sizeOf99
  v51 := Tryd.zeroValue99
  t53 := Tryd.underlying83
  a53 := Tryd.isAgg83
  z53 := Tryd.sizeOf83
  v53 := Tryd.zeroValue83
  t171 := Tryd.underlying90
  a171 := Tryd.isAgg90
  z171 := Tryd.sizeOf90
  v171 := Tryd.zeroValue90
  t173 := Tryd.underlying94
  a173 := Tryd.isAgg94
  z173 := Tryd.sizeOf94
  v173 := Tryd.zeroValue94
  t212 := Tryd.underlying98
  a212 := Tryd.isAgg98
  z212 := Tryd.sizeOf98
  v212 := Tryd.zeroValue98
  t213 := Tryd.underlying100
  a213 := Tryd.isAgg100
  z213 := Tryd.sizeOf100
  t232 := Tryd.underlying117
  a232 := Tryd.isAgg117
  z232 := Tryd.sizeOf117
  v232 := Tryd.zeroValue117
  t233 := Tryd.underlying118
  a233 := Tryd.isAgg118
  z233 := Tryd.sizeOf118
  v233 := Tryd.zeroValue118
  g17 := by kernel_rfl
  g18 := by kernel_rfl
  g19 := by kernel_rfl
  i0 := by kernel_rfl
  i2 := by kernel_rfl
  i3 := by kernel_rfl
  i4 := by kernel_rfl
  i5 := by kernel_rfl
  i9 := by kernel_rfl
  i20 := by kernel_rfl
  i37 := by kernel_rfl
  i46 := by kernel_rfl
  i51 := by kernel_rfl
  i53 := by kernel_rfl
  i171 := by kernel_rfl
  i173 := by kernel_rfl
  i212 := by kernel_rfl
  i232 := by kernel_rfl
  i233 := by kernel_rfl
  m17 := by kernel_rfl
  m18 := by kernel_rfl
  m19 := by kernel_rfl }
open Go.RowKit Go.Sort Go.Lib in

theorem Tryd.strconv_Itoa (n : Int) (h0 : -9223372036854775808 ≤ n) (h1 : n ≤ 9223372036854775807) (w : World) (htab : Lib.TabIs Tryd.prog w "internal/strconv.uint64pow10" .u64 Lib.pow10Tab) :
    Calls Tryd.prog 40 #[.int .i64 n] w fun e w' => e = .returned (.string ⟨(Lib.itoa n).toArray⟩) ∧ ∃ k os, w' = grow (w.drewN k) os := Any.strconv_Itoa Tryd.laysM171 n h0 h1 w htab
def Tryd.lays171_ren : Go.Shelf.Ren := ⟨fun | 171 => 40 | 243 => 46 | 246 => 50 | 283 => 53 | 284 => 54 | 285 => 55 | 286 => 56 | 129 => 60 | 317 => 59 | 318 => 61 | 319 => 62 | 320 => 63 | 337 => 69 | 338 => 70 | n => n, fun | 3 => 3 | 9 => 9 | 2 => 2 | 4 => 4 | 171 => 90 | 0 => 0 | 53 => 83 | 37 => 93 | 5 => 5 | 173 => 94 | 212 => 98 | 51 => 99 | 20 => 20 | 213 => 100 | 46 => 102 | 232 => 117 | 233 => 118 | n => n, fun | 17 => 1 | 18 => 4 | 19 => 5 | n => n⟩
theorem Tryd.lays171 : Go.Proofs.Lays.n171 Tryd.prog Tryd.lays171_ren := {
  mixed := by kernel_rfl
  f129 := Tryd.func60.trans (congrArg some (by kernel_rfl))
  f171 := Tryd.func40.trans (congrArg some (by kernel_rfl))
  f243 := Tryd.func46.trans (congrArg some (by kernel_rfl))
  f246 := Tryd.func50.trans (congrArg some (by kernel_rfl))
  f283 := Tryd.func53.trans (congrArg some (by kernel_rfl))
  f284 := Tryd.func54.trans (congrArg some (by kernel_rfl))
  f285 := Tryd.func55.trans (congrArg some (by kernel_rfl))
  f286 := Tryd.func56.trans (congrArg some (by kernel_rfl))
  f317 := Tryd.func59.trans (congrArg some (by kernel_rfl))
  f318 := Tryd.func61.trans (congrArg some (by kernel_rfl))
  f319 := Tryd.func62.trans (congrArg some (by kernel_rfl))
  f320 := Tryd.func63.trans (congrArg some (by kernel_rfl))
  f337 := Tryd.func69.trans (congrArg some (by kernel_rfl))
  f338 := Tryd.func70.trans (congrArg some (by kernel_rfl))
  t0 := Tryd.underlying0
  a0 := Tryd.isAgg0
  z0 := Tryd.sizeOf0
  v0 := Tryd.zeroValue0
  t2 := Tryd.underlying2
  a2 := Tryd.isAgg2
  z2 := Tryd.sizeOf2
  v2 := Tryd.zeroValue2
  t3 := Tryd.underlying3
  a3 := Tryd.isAgg3
  z3 := Tryd.sizeOf3
  v3 := Tryd.zeroValue3
  t4 := Tryd.underlying4
  a4 := Tryd.isAgg4
  z4 := Tryd.sizeOf4
  v4 := Tryd.zeroValue4
  t5 := Tryd.underlying5
  a5 := Tryd.isAgg5
  z5 := Tryd.sizeOf5
  v5 := Tryd.zeroValue5
  t9 := Tryd.underlying9
  a9 := Tryd.isAgg9
  z9 := Tryd.sizeOf9
  v9 := Tryd.zeroValue9
  t20 := Tryd.underlying20
  a20 := Tryd.isAgg20
  z20 := Tryd.sizeOf20
  v20 := Tryd.zeroValue20
  t37 := Tryd.underlying93
  a37 := Tryd.isAgg93
  z37 := Tryd.sizeOf93
  v37 := Tryd.zeroValue93
  t46 := Tryd.underlying102
  a46 := Tryd.isAgg102
  z46 := Tryd.sizeOf102
  v46 := Tryd.zeroValue102
  t51 := Tryd.underlying99
  a51 := Tryd.isAgg99
  z51 := Tryd.sizeOf99
  v51 := Tryd.zeroValue99
  t53 := Tryd.underlying83
  a53 := Tryd.isAgg83
  z53 := Tryd.sizeOf83
  v53 := Tryd.zeroValue83
  t171 := Tryd.underlying90
  a171 := Tryd.isAgg90
  z171 := Tryd.sizeOf90
  v171 := Tryd.zeroValue90
  t173 := Tryd.underlying94
  a173 := Tryd.isAgg94
  z173 := Tryd.sizeOf94
  v173 := Tryd.zeroValue94
  t212 := Tryd.underlying98
  a212 := Tryd.isAgg98
  z212 := Tryd.sizeOf98
  v212 := Tryd.zeroValue98
  t213 := Tryd.underlying100
  a213 := Tryd.isAgg100
  z213 := Tryd.sizeOf100
  t232 := Tryd.underlying117
  a232 := Tryd.isAgg117
  z232 := Tryd.sizeOf117
  v232 := Tryd.zeroValue117
  t233 := Tryd.underlying118
  a233 := Tryd.isAgg118
  z233 := Tryd.sizeOf118
  v233 := Tryd.zeroValue118
  g17 := by kernel_rfl
  g18 := by kernel_rfl
  g19 := by kernel_rfl }
open Go.RowKit Go.Sort Go.Lib in

theorem Tryd.strconv_Itoa_small (i : Nat) (hi : i < 100) (w : World) :
    Calls Tryd.prog 40 #[.int .i64 i] w fun e w' => e = .returned (.string ⟨(Lib.decDigits i).toArray⟩) ∧ w' = w := Any.strconv_Itoa_small Tryd.lays171 i hi w
def Tryd.laysC172_ren : Go.Shelf.Ren := ⟨fun | 172 => 52 | 244 => 57 | 245 => 58 | 247 => 64 | 279 => 65 | 280 => 66 | 281 => 67 | 282 => 68 | 287 => 71 | 316 => 72 | 171 => 40 | 205 => 73 | 321 => 74 | 322 => 75 | 243 => 46 | 246 => 50 | 283 => 53 | 284 => 54 | 285 => 55 | 286 => 56 | 129 => 60 | 317 => 59 | 318 => 61 | 319 => 62 | 320 => 63 | 337 => 69 | 338 => 70 | n => n, fun | 9 => 9 | 3 => 3 | 75 => 87 | 76 => 88 | 4 => 4 | 5 => 5 | 167 => 104 | 37 => 93 | 0 => 0 | 85 => 105 | 2 => 2 | 168 => 107 | 53 => 83 | 175 => 111 | 46 => 102 | 210 => 115 | 127 => 120 | 145 => 123 | 143 => 121 | 21 => 21 | 171 => 90 | 173 => 94 | 212 => 98 | 51 => 99 | 20 => 20 | 213 => 100 | 232 => 117 | 233 => 118 | 80 => 84 | n => n, fun | 15 => 2 | 16 => 3 | 17 => 1 | 18 => 4 | 19 => 5 | n => n⟩
theorem Tryd.laysC172 : Go.Proofs.LaysC.n172 Tryd.prog Tryd.laysC172_ren := {
  mixed := by kernel_rfl
  f129 := Tryd.func60.trans (congrArg some (by kernel_rfl))
  f171 := Tryd.func40.trans (congrArg some (by kernel_rfl))
  f172 := Tryd.func52.trans (congrArg some (by kernel_rfl))
  f205 := Tryd.func73.trans (congrArg some (by kernel_rfl))
  f243 := Tryd.func46.trans (congrArg some (by kernel_rfl))
  f244 := Tryd.func57.trans (congrArg some (by kernel_rfl))
  f245 := Tryd.func58.trans (congrArg some (by kernel_rfl))
  f246 := Tryd.func50.trans (congrArg some (by kernel_rfl))
  f247 := Tryd.func64.trans (congrArg some (by kernel_rfl))
  f279 := Tryd.func65.trans (congrArg some (by kernel_rfl))
  f280 := Tryd.func66.trans (congrArg some (by kernel_rfl))
  f281 := Tryd.func67.trans (congrArg some (by kernel_rfl))
  f282 := Tryd.func68.trans (congrArg some (by kernel_rfl))
  f283 := Tryd.func53.trans (congrArg some (by kernel_rfl))
  f284 := Tryd.func54.trans (congrArg some (by kernel_rfl))
  f285 := Tryd.func55.trans (congrArg some (by kernel_rfl))
  f286 := Tryd.func56.trans (congrArg some (by kernel_rfl))
  f287 := Tryd.func71.trans (congrArg some (by kernel_rfl))
  f316 := Tryd.func72.trans (congrArg some (by kernel_rfl))
  f317 := Tryd.func59.trans (congrArg some (by kernel_rfl))
  f318 := Tryd.func61.trans (congrArg some (by kernel_rfl))
  f319 := Tryd.func62.trans (congrArg some (by kernel_rfl))
  f320 := Tryd.func63.trans (congrArg some (by kernel_rfl))
  f321 := Tryd.func74.trans (congrArg some (by kernel_rfl))
  f322 := Tryd.func75.trans (congrArg some (by kernel_rfl))
  f337 := Tryd.func69.trans (congrArg some (by kernel_rfl))
  f338 := Tryd.func70.trans (congrArg some (by kernel_rfl))
  t0 := Tryd.underlying0
  a0 := Tryd.isAgg0
  z0 := Tryd.sizeOf0
  v0 := Tryd.zeroValue0
  t2 := Tryd.underlying2
  a2 := Tryd.isAgg2
  z2 := Tryd.sizeOf2
  v2 := Tryd.zeroValue2
  t3 := Tryd.underlying3
  a3 := Tryd.isAgg3
  z3 := Tryd.sizeOf3
  v3 := Tryd.zeroValue3
  t4 := Tryd.underlying4
  a4 := Tryd.isAgg4
  z4 := Tryd.sizeOf4
  v4 := Tryd.zeroValue4
  t5 := Tryd.underlying5
  a5 := Tryd.isAgg5
  z5 := Tryd.sizeOf5
  v5 := Tryd.zeroValue5
  t9 := Tryd.underlying9
  a9 := Tryd.isAgg9
  z9 := Tryd.sizeOf9
  v9 := Tryd.zeroValue9
  t20 := Tryd.underlying20
  a20 := Tryd.isAgg20
  z20 := Tryd.sizeOf20
  v20 := Tryd.zeroValue20
  t21 := Tryd.underlying21
  a21 := Tryd.isAgg21
  z21 := Tryd.sizeOf21
  v21 := Tryd.zeroValue21
  t37 := Tryd.underlying93
  a37 := Tryd.isAgg93
  z37 := Tryd.sizeOf93
  v37 := Tryd.zeroValue93
  t46 := Tryd.underlying102
  a46 := Tryd.isAgg102
  z46 := Tryd.sizeOf102
  v46 := Tryd.zeroValue102
  t51 := Tryd.underlying99
  a51 := Tryd.isAgg99
  z51 := Tryd.sizeOf99
  v51 := Tryd.zeroValue99
  t53 := Tryd.underlying83
  a53 := Tryd.isAgg83
  z53 := Tryd.sizeOf83
  v53 := Tryd.zeroValue83
  t75 := Tryd.underlying87
  a75 := Tryd.isAgg87
  z75 := Tryd.sizeOf87
  v75 := Tryd.zeroValue87
  t76 := Tryd.underlying88
  a76 := Tryd.isAgg88
  z76 := Tryd.sizeOf88
  v76 := Tryd.zeroValue88
  t85 := Tryd.underlying105
  a85 := Tryd.isAgg105
  z85 := Tryd.sizeOf105
  v85 := Tryd.zeroValue105
  t127 := Tryd.underlying120
  a127 := Tryd.isAgg120
  z127 := Tryd.sizeOf120
  v127 := Tryd.zeroValue120
  t143 := Tryd.underlying121
  a143 := Tryd.isAgg121
  z143 := Tryd.sizeOf121
  v143 := Tryd.zeroValue121
  t145 := Tryd.underlying123
  a145 := Tryd.isAgg123
  z145 := Tryd.sizeOf123
  v145 := Tryd.zeroValue123
  t167 := Tryd.underlying104
  a167 := Tryd.isAgg104
  z167 := Tryd.sizeOf104
  v167 := Tryd.zeroValue104
  t168 := Tryd.underlying107
  a168 := Tryd.isAgg107
  z168 := Tryd.sizeOf107
  v168 := Tryd.zeroValue107
  t171 := Tryd.underlying90
  a171 := Tryd.isAgg90
  z171 := Tryd.sizeOf90
  v171 := Tryd.zeroValue90
  t173 := Tryd.underlying94
  a173 := Tryd.isAgg94
  z173 := Tryd.sizeOf94
  v173 := Tryd.zeroValue94
  t175 := Tryd.underlying111
  a175 := Tryd.isAgg111
  z175 := Tryd.sizeOf111
  v175 := Tryd.zeroValue111
  t210 := Tryd.underlying115
  a210 := Tryd.isAgg115
  z210 := Tryd.sizeOf115
  v210 := Tryd.zeroValue115
  t212 := Tryd.underlying98
  a212 := Tryd.isAgg98
  z212 := Tryd.sizeOf98
  v212 := Tryd.zeroValue98
  t213 := Tryd.underlying100
  a213 := Tryd.isAgg100
  z213 := Tryd.sizeOf100
  t232 := Tryd.underlying117
  a232 := Tryd.isAgg117
  z232 := Tryd.sizeOf117
  v232 := Tryd.zeroValue117
  t233 := Tryd.underlying118
  a233 := Tryd.isAgg118
  z233 := Tryd.sizeOf118
  v233 := Tryd.zeroValue118
  g15 := by kernel_rfl
  g16 := by kernel_rfl
  g17 := by kernel_rfl
  g18 := by kernel_rfl
  g19 := by kernel_rfl
  t80 := Tryd.underlying84
  a80 := Tryd.isAgg84
  z80 := Tryd.sizeOf84
  v80 := Tryd.zeroValue84
  i0 := by kernel_rfl
  i2 := by kernel_rfl
  i3 := by kernel_rfl
  i4 := by kernel_rfl
  i5 := by kernel_rfl
  i9 := by kernel_rfl
  i20 := by kernel_rfl
  i21 := by kernel_rfl
  i37 := by kernel_rfl
  i46 := by kernel_rfl
  i51 := by kernel_rfl
  i53 := by kernel_rfl
  i75 := by kernel_rfl
  i76 := by kernel_rfl
  i80 := by kernel_rfl
  i85 := by kernel_rfl
  i127 := by kernel_rfl
  i143 := by kernel_rfl
  i145 := by kernel_rfl
  i167 := by kernel_rfl
  i168 := by kernel_rfl
  i171 := by kernel_rfl
  i173 := by kernel_rfl
  i175 := by kernel_rfl
  i210 := by kernel_rfl
  i212 := by kernel_rfl
  i232 := by kernel_rfl
  i233 := by kernel_rfl
  m15 := by kernel_rfl
  m16 := by kernel_rfl
  m17 := by kernel_rfl
  m18 := by kernel_rfl
  m19 := by kernel_rfl
  c0 := by kernel_rfl
  c2 := by kernel_rfl
  c3 := by kernel_rfl
  c4 := by kernel_rfl
  c5 := by kernel_rfl
  c9 := by kernel_rfl
  c20 := by kernel_rfl
  c21 := by kernel_rfl
  c37 := by kernel_rfl
  c46 := by kernel_rfl
  c51 := by kernel_rfl
  c53 := by kernel_rfl
  c75 := by kernel_rfl
  c76 := by kernel_rfl
  c80 := by kernel_rfl
  c85 := by kernel_rfl
  c127 := by kernel_rfl
  c143 := by kernel_rfl
  c145 := by kernel_rfl
  c167 := by kernel_rfl
  c168 := by kernel_rfl
  c171 := by kernel_rfl
  c173 := by kernel_rfl
  c175 := by kernel_rfl
  c210 := by kernel_rfl
  c212 := by kernel_rfl
  c213 := by kernel_rfl
  c232 := by kernel_rfl
  c233 := by kernel_rfl }
open Go.RowKit in

theorem Tryd.strconv_Atoi_ok (s : ByteArray) (hmax : s.size ≤ 9223372036854775806) (v : Int) (h : Lib.atoiAll s.data.toList = .ok v) (w : World) :
    Calls Tryd.prog 52 #[.string s] w fun e w' => e = .returned (.tuple #[.int .i64 v, .nilIface]) ∧ (w' = w ∨ ∃ t, w' = Lib.bytesWorld w 5 t) := Any.strconv_Atoi_ok Tryd.laysC172 s hmax v h w
open Go.RowKit in

theorem Tryd.strconv_Atoi_syntax (s : ByteArray) (hlim : s.size ≤ 281474976710656) (h : Lib.atoiAll s.data.toList = Lib.atoiAll []) (ev : Value) (w : World) (hv : w.cell? ⟨2, 0, none⟩ = some ev) (hev : ev = .nilIface ∨ ∃ te pe, ev = .iface te pe) :
    Calls Tryd.prog 52 #[.string s] w fun e w' => ∃ N, e = .returned (.tuple #[.int .i64 (0), .iface 107 (.pointer (some ⟨N, 0, none⟩))]) ∧ w.heap.size ≤ N ∧ w'.heap[N]? = some (.cells #[.string ⟨#[65, 116, 111, 105]⟩, .string s, ev] 115 (0, 0)) ∧ Below w.heap.size w w' := Any.strconv_Atoi_syntax Tryd.laysC172 s hlim h ev w hv hev
open Go.RowKit in

theorem Tryd.strconv_Atoi_range (s : ByteArray) (hlim : s.size ≤ 281474976710656) (h : Lib.atoiAll s.data.toList = .range) (ev : Value) (w : World) (hv : w.cell? ⟨3, 0, none⟩ = some ev) (hev : ev = .nilIface ∨ ∃ te pe, ev = .iface te pe) :
    Calls Tryd.prog 52 #[.string s] w fun e w' => ∃ N, e = .returned (.tuple #[.int .i64 (Lib.atoiSat s.data.toList), .iface 107 (.pointer (some ⟨N, 0, none⟩))]) ∧ w.heap.size ≤ N ∧ w'.heap[N]? = some (.cells #[.string ⟨#[65, 116, 111, 105]⟩, .string s, ev] 115 (0, 0)) ∧ Below w.heap.size w w' := Any.strconv_Atoi_range Tryd.laysC172 s hlim h ev w hv hev
end Go.Proofs
namespace Go.Cf
open Go.RowKit
def AtoiEnd (s : ByteArray) (n : Int) (er : Value) (b : Bool) : Prop := (er = .nilIface ∧ b = false ∧ Lib.atoiAll s.data.toList = .ok n) ∨ ((∃ t p, er = .iface t p) ∧ b = true ∧ numV s = none)
theorem AtoiEnd.ok {s : ByteArray} {n : Int} {er : Value} {b : Bool} (h : AtoiEnd s n er b) (hb : b = false) : Lib.atoiAll s.data.toList = .ok n := by
  rcases h with ⟨_, _, h⟩ | ⟨_, h, _⟩
  · exact h
  · rw [h] at hb; cases hb
theorem num_bad {s : ByteArray} {n : Int} {er : Value} {b : Bool} (h : AtoiEnd s n er b) (hb : b = true ∨ baL (Lib.itoa n) ≠ s) : numV s = none := by
  rcases h with ⟨_, h1, h2⟩ | ⟨_, _, h2⟩
  · rcases hb with hb | hb
    · rw [h1] at hb; cases hb
    · rw [numV, h2]
      exact if_neg (fun h9 => hb (by rw [h9]; rfl))
  · exact h2
theorem num_good {s : ByteArray} {n : Int} {er : Value} {b : Bool} (h : AtoiEnd s n er b) (hb : b = false) (h2 : baL (Lib.itoa n) = s) : numV s = some n := by
  rw [numV, h.ok hb]
  exact if_pos (by rw [← h2, baL_data])
theorem mem_nil {w w' : World} (h : Below w.heap.size w w') : Mem w [] w' := ⟨h, by simp, by simp, by simp, List.Pairwise.nil⟩
section
variable {P : Program} {w0 : World} {T : List Reg} {ρ : Env} {dst : Option Tmp} {ty t yt : TypeId} {pos : String} {af : Array Edge} {gd : Option (Nat × Bool)} {x y : Operand}
theorem y_errne {y' : Value} {s : ByteArray} {n : Int} {er : Value} {b : Bool} (ht : P.isIface t = true) (h : AtoiEnd s n er b) (hx : ev ρ x = er) (hy : ev ρ (.const y') = .nilIface) : Yield P w0 T ρ ⟨dst, .binOp .neq t x (.const y') yt, ty, pos, af, gd⟩ (.bool b) := fun w _ => by
  rcases h with ⟨rfl, rfl, _⟩ | ⟨⟨te, pe, rfl⟩, rfl, _⟩
  · have h9 := run_neq_nil_nil_at (P := P) w t ht
    simp [execOp, go_sem, hx, hy, h9]
  · have h9 := run_neq_iface_nil (P := P) w t ht te pe
    simp [execOp, go_sem, hx, hy, h9]
end
theorem var_below {P : Program} {B g : Nat} {w w' : World} {n : String} {cs : Array Value} (h : Below B w w') (hg : P.globalNamed n = some g) (hgB : g < B) (hv : w.var? P n = some cs) : w'.var? P n = some cs := by
  unfold World.var? at hv ⊢
  simp only [hg, Option.bind_some] at hv ⊢
  rw [h.block g hgB]
  exact hv
end Go.Cf
namespace Go.Proofs.YtllblbkbglifjaaDoor
open Go.RowKit Go.Cf
structure LaidP (w : World) : Prop where
  tab : Lib.TabIs Tryd.prog w "internal/strconv.uint64pow10" .u64 Lib.pow10Tab
  syn : ∃ te pe, w.cell? ⟨2, 0, none⟩ = some (.iface te pe)
  rng : ∃ te pe, w.cell? ⟨3, 0, none⟩ = some (.iface te pe)
  size : 4 ≤ w.heap.size
theorem LaidP.below {w w' : World} {B : Nat} (h : LaidP w) (hb : Below B w w') (hB : 4 ≤ B) : LaidP w' := by
  obtain ⟨te, pe, h1⟩ := h.syn
  obtain ⟨tr, pr, h2⟩ := h.rng
  refine ⟨?_, ⟨te, pe, ?_⟩, ⟨tr, pr, ?_⟩, Nat.le_trans h.size hb.size⟩
  · have hg : Tryd.prog.globalNamed "internal/strconv.uint64pow10" = some 1 := by kernel_rfl
    exact var_below hb hg (by omega) h.tab
  · rw [hb.cell (by show 2 < B; omega)]; exact h1
  · rw [hb.cell (by show 3 < B; omega)]; exact h2
theorem LaidP.base {w0 w : World} {T : List Reg} (h : LaidP w0) (hM : Mem w0 T w) : LaidP w := h.below hM.low h.size
theorem itoa_any (w : World) (n : Int) (h0 : -9223372036854775808 ≤ n) (h1 : n ≤ 9223372036854775807) (hL : LaidP w) : Calls Tryd.prog 40 #[.int .i64 n] w fun e w' => e = .returned (.string (baL (Lib.itoa n))) ∧ Below w.heap.size w w' :=
  (Tryd.strconv_Itoa n h0 h1 w hL.tab).mono fun _ _ ⟨h1, k, os, h2⟩ => ⟨h1, by rw [h2]; exact Lib.below_grow _ w (Nat.le_refl _) k os⟩
theorem itoaS_any (w : World) (n : Int) (h0 : 0 ≤ n) (h1 : n < 100) : Calls Tryd.prog 40 #[.int .i64 n] w fun e w' => e = .returned (.string (baL (Lib.decDigits n.toNat))) ∧ Below w.heap.size w w' := by
  have h := (Tryd.strconv_Itoa_small n.toNat (by omega) w).mono (R' := fun e w' => e = .returned (.string (baL (Lib.decDigits n.toNat))) ∧ Below w.heap.size w w') fun _ _ ⟨h1, h2⟩ => ⟨h1, by rw [h2]; exact Below.refl _ _⟩
  rw [show ((n.toNat : Nat) : Int) = n by omega] at h
  exact h
theorem atoi_any (w : World) (s : ByteArray) (hs : s.size ≤ 4000000) (hL : LaidP w) : Calls Tryd.prog 52 #[.string s] w fun e w' => ∃ n er b, e = .returned (.tuple #[.int .i64 n, er]) ∧ AtoiEnd s n er b ∧ Below w.heap.size w w' := by
  rcases h : Lib.atoiAll s.data.toList with v | _ | _
  ·
    refine (Tryd.strconv_Atoi_ok s (by omega) v h w).mono fun _ _ ⟨h1, h2⟩ => ⟨_, _, false, h1, .inl ⟨rfl, rfl, h⟩, ?_⟩
    rcases h2 with rfl | ⟨t, rfl⟩
    · exact Below.refl _ _
    · exact Lib.bytesWorld_below _ _ _
  ·
    obtain ⟨te, pe, hv⟩ := hL.syn
    exact (Tryd.strconv_Atoi_syntax s (by omega) h _ w hv (.inr ⟨te, pe, rfl⟩)).mono fun _ _ ⟨N, h1, _, _, h2⟩ => ⟨_, _, true, h1, .inr ⟨⟨_, _, rfl⟩, rfl, by rw [numV, h]⟩, h2⟩
  ·
    obtain ⟨te, pe, hv⟩ := hL.rng
    exact (Tryd.strconv_Atoi_range s (by omega) h _ w hv (.inr ⟨te, pe, rfl⟩)).mono fun _ _ ⟨N, h1, _, _, h2⟩ => ⟨_, _, true, h1, .inr ⟨⟨_, _, rfl⟩, rfl, by rw [numV, h]⟩, h2⟩
end Go.Proofs.YtllblbkbglifjaaDoor
namespace Go.Proofs.YtllblbkbglifjaaDoor
open Go.RowKit Go.Cf
set_option maxRecDepth 10000
set_option maxHeartbeats 1000000 in
theorem polLevel_any (w : World) (k : Int) : Calls Tryd.prog 39 #[.int .i64 k] w fun e w' => e = .returned (.int .i64 (lvK k : Nat)) ∧ Below w.heap.size w w' := by
  refine gcalls Tryd.func39 rfl Tryd.ntmps39 (Nat.le_of_ble_eq_true rfl) ?_
  refine gfrom [(0, .int _ _)] ⟨rfl, trivial⟩ fun σ => ?_
  refine gseq fun N1 hN1 => ?_
  refine greg ?_
  refine gop (y_assign (v := .int _ _) rfl) rfl rfl rfl ?_
  refine gops_nil ?_
  refine hN1 _ _ ?_
  refine gfrom [(0, .int _ _)] ⟨rfl, trivial⟩ fun σ => ?_
  refine gseq fun N2 hN2 => ?_
  refine gseq fun N3 hN3 => ?_
  refine greg ?_
  refine gop (y_move (v := .int _ _) rfl) rfl rfl rfl ?_
  refine gops_nil ?_
  refine hN3 _ _ ?_
  refine gfrom [(3, .int _ _)] ⟨rfl, trivial⟩ fun σ => ?_
  refine gblock ?_
  refine gseq fun N4 hN4 => ?_
  refine greg ?_
  refine gop (y_eql rfl rfl) rfl rfl rfl ?_
  refine gop (y_assign (v := .bool _) rfl) rfl rfl rfl ?_
  refine gops_nil ?_
  refine hN4 _ _ ?_
  refine gfrom [(3, .int _ _), (4, .bool _)] ⟨rfl, rfl, trivial⟩ fun σ => ?_
  refine gcond (b := _) rfl (fun hc4 => ?_) (fun hc4 => ?_)
  · 
    replace hc4 := of_decide_eq_true hc4
    refine gseq fun N5 hN5 => ?_
    refine greg ?_
    refine gop (y_assign (v := .int _ _) rfl) rfl rfl rfl ?_
    refine gops_nil ?_
    refine hN5 _ _ ?_
    refine gfrom [(2, .int _ _)] ⟨rfl, trivial⟩ fun σ => ?_
    refine gret fun w1 hM => ?_
    refine ⟨_, res1 rfl (rt (v := .int _ _) rfl), ?_⟩
    exact ⟨by unfold lvK; first | (rw [if_pos (by omega)]; rfl) | (rw [if_neg (by omega), if_pos (by omega)]; rfl) | (rw [if_neg (by omega), if_neg (by omega)]; rfl), hM.low⟩
  · 
    replace hc4 := of_decide_eq_false hc4
    refine gseq fun N6 hN6 => ?_
    refine greg ?_
    refine gop (y_eql rfl rfl) rfl rfl rfl ?_
    refine gop (y_assign (v := .bool _) rfl) rfl rfl rfl ?_
    refine gops_nil ?_
    refine hN6 _ _ ?_
    refine gfrom [(6, .bool _)] ⟨rfl, trivial⟩ fun σ => ?_
    refine gcond (b := _) rfl (fun hc6 => ?_) (fun hc6 => ?_)
    · 
      replace hc6 := of_decide_eq_true hc6
      refine gseq fun N7 hN7 => ?_
      refine greg ?_
      refine gop (y_assign (v := .int _ _) rfl) rfl rfl rfl ?_
      refine gops_nil ?_
      refine hN7 _ _ ?_
      refine gfrom [(2, .int _ _)] ⟨rfl, trivial⟩ fun σ => ?_
      refine gret fun w1 hM => ?_
      refine ⟨_, res1 rfl (rt (v := .int _ _) rfl), ?_⟩
      exact ⟨by unfold lvK; first | (rw [if_pos (by omega)]; rfl) | (rw [if_neg (by omega), if_pos (by omega)]; rfl) | (rw [if_neg (by omega), if_neg (by omega)]; rfl), hM.low⟩
    · 
      replace hc6 := of_decide_eq_false hc6
      refine gskip ?_
      refine hN2 _ _ ?_
      refine gfrom [] trivial fun σ => ?_
      refine gseq fun N8 hN8 => ?_
      refine greg ?_
      refine gop (y_assign (v := .int _ _) rfl) rfl rfl rfl ?_
      refine gops_nil ?_
      refine hN8 _ _ ?_
      refine gfrom [(2, .int _ _)] ⟨rfl, trivial⟩ fun σ => ?_
      refine gret fun w1 hM => ?_
      refine ⟨_, res1 rfl (rt (v := .int _ _) rfl), ?_⟩
      exact ⟨by unfold lvK; first | (rw [if_pos (by omega)]; rfl) | (rw [if_neg (by omega), if_pos (by omega)]; rfl) | (rw [if_neg (by omega), if_neg (by omega)]; rfl), hM.low⟩
end Go.Proofs.YtllblbkbglifjaaDoor
namespace Go.Proofs.YtllblbkbglifjaaDoor
open Go.RowKit Go.Cf
set_option maxRecDepth 10000
set_option maxHeartbeats 8000000 in
theorem polShow_any (A : Option Addr) (c : Nat) (l : List PN) (hlc : l.length ≤ c) (hcm : c ≤ maxLen) (hln : l.length ≤ 1000) (z : Nat) : ∀ (t : Tr) (v : Nat) (vi i : Int) (m : Nat) (w : World), v ≤ 2 → vi = (v : Int) → t.size = z → i = (m : Int) → Rdl w 0 4 pnCells A l → t.ok → At l m t →
    Calls Tryd.prog 24 #[.agg #[.slice A l.length c], .int .i64 i, .int .i64 vi] w fun e w' => e = .returned (.string (baL (showB t v))) ∧ Below w.heap.size w w' := by
  have hlm : l.length ≤ 9223372036854775807 := by have h9 := Nat.le_trans hlc hcm; unfold maxLen at h9; omega
  refine Nat.strongRecOn z ?_
  intro z ih t v vi i m w hv hvi hz hi hl hok hat
  have hm1 := hat.lt
  obtain ⟨ad, rfl, -, hca⟩ := hl.at_ hm1
  obtain ⟨hsm, hbg⟩ := tree_at hok hat hm1
  have hsz := hat.size_le
  have hps := t.pos
  have hSP := show_par hok hv
  have hkt := kind_at hat hm1
  rw [← hkt] at hSP
  have hlen := showB_len t 0 hok
  have hsz2 := hat.size_le
  refine gcalls Tryd.func24 rfl Tryd.ntmps24 (Nat.le_of_ble_eq_true rfl) ?_
  refine gfrom [(0, .agg #[_]), (1, .int _ _), (2, .int _ _)] ⟨rfl, rfl, rfl, trivial⟩ fun σ => ?_
  refine gseq fun N1 hN1 => ?_
  refine greg ?_
  refine gop_box (v := .agg #[_]) (cs := #[_]) rfl rfl rfl (fun b3 hb3 => ?_)
  refine gop (y_assign (v := .string _) rfl) rfl rfl rfl ?_
  refine gops_nil ?_
  refine hN1 _ _ ?_
  refine gT [box b3 _] rfl ?_
  refine gfrom [(1, .int _ _), (2, .int _ _), (3, .pointer _)] ⟨rfl, rfl, rfl, trivial⟩ fun σ => ?_
  refine gseq fun N2 hN2 => ?_
  refine greg ?_
  refine gop (y_fieldAddr_box fa24_0 rfl) rfl rfl rfl ?_
  refine gop (y_load Tryd.isAgg22 rfl (cell_box 0 rfl rfl)) rfl rfl rfl ?_
  refine gop (y_move (v := .int _ _) rfl) rfl rfl rfl ?_
  refine gop (y_indexAddr (m := m) Tryd.underlying22 Tryd.sizeOf47 rfl rfl (by omega) (by omega) (by omega)) rfl rfl rfl ?_
  refine gop (y_loads (cs := [_, _, _, _]) Tryd.isAgg47 Tryd.sizeOf47 rfl rfl (cells_base hca)) rfl rfl rfl ?_
  refine gop_alloc (cs := #[.int .i64 0, .int .i64 0, .int .i64 0, .int .i64 0]) Tryd.zeroValue47 rfl rfl (fun b7 hb7 => ?_)
  refine gop_store 1 (v := .agg #[_, _, _, _]) (cs' := #[_, _, _, _]) rfl rfl Tryd.sizeOf47 rfl rfl rfl rfl (Nat.le_of_ble_eq_true rfl) rfl rfl ?_
  refine gops_nil ?_
  refine hN2 _ _ ?_
  refine gT [box b3 _, box b7 _] rfl ?_
  refine gfrom [(2, .int _ _), (3, .pointer _), (7, .pointer _)] ⟨rfl, rfl, rfl, trivial⟩ fun σ => ?_
  refine gseq fun N3 hN3 => ?_
  refine greg ?_
  refine gop (y_fieldAddr_box fa47_0 rfl) rfl rfl rfl ?_
  refine gop (y_load Tryd.isAgg3 rfl (cell_box 1 rfl rfl)) rfl rfl rfl ?_
  refine gop_pure (e_call (vs := [.int _ _]) Tryd.func39 rfl (by kernel_rfl) rfl) (fun w hM => polLevel_any w _) rfl rfl rfl ?_
  refine gop (y_assign (v := .int _ _) rfl) rfl rfl rfl ?_
  refine gops_nil ?_
  refine hN3 _ _ ?_
  refine gfrom [(2, .int _ _), (3, .pointer _), (7, .pointer _), (8, .int _ _)] ⟨rfl, rfl, rfl, rfl, trivial⟩ fun σ => ?_
  refine gseq fun N4 hN4 => ?_
  refine greg ?_
  refine gop (y_assign (v := .string _) rfl) rfl rfl rfl ?_
  refine gops_nil ?_
  refine hN4 _ _ ?_
  refine gfrom [(2, .int _ _), (3, .pointer _), (7, .pointer _), (8, .int _ _)] ⟨rfl, rfl, rfl, rfl, trivial⟩ fun σ => ?_
  refine gseq fun N5 hN5 => ?_
  refine gfrom [(2, .int _ _), (3, .pointer _), (7, .pointer _), (8, .int _ _)] ⟨rfl, rfl, rfl, rfl, trivial⟩ fun σ => ?_
  refine gcut3 (Lf := [(2, .int _ _), (8, .int _ _)]) (G := Unit) (fun g => True) (fun g => [(9, .string (baL (showB t 0)))]) (fun g => []) ⟨rfl, rfl, trivial⟩ ?_ ?_
  ·
    refine gseq fun N6 hN6 => ?_
    refine greg ?_
    refine gop (y_fieldAddr_box fa47_0 rfl) rfl rfl rfl ?_
    refine gop (y_load Tryd.isAgg3 rfl (cell_box 1 rfl rfl)) rfl rfl rfl ?_
    refine gops_nil ?_
    refine hN6 _ _ ?_
    refine gfrom [(2, .int _ _), (3, .pointer _), (7, .pointer _), (8, .int _ _), (19, .int _ _)] ⟨rfl, rfl, rfl, rfl, rfl, trivial⟩ fun σ => ?_
    refine gblock ?_
    refine gseq fun N7 hN7 => ?_
    refine greg ?_
    refine gop (y_eql rfl rfl) rfl rfl rfl ?_
    refine gop (y_assign (v := .bool _) rfl) rfl rfl rfl ?_
    refine gops_nil ?_
    refine hN7 _ _ ?_
    refine gfrom [(2, .int _ _), (3, .pointer _), (7, .pointer _), (8, .int _ _), (19, .int _ _), (33, .bool _)] ⟨rfl, rfl, rfl, rfl, rfl, rfl, trivial⟩ fun σ => ?_
    refine gcond (b := _) rfl (fun hc33 => ?_) (fun hc33 => ?_)
    · 
      replace hc33 := of_decide_eq_true hc33
      obtain ⟨-, -, htl, hk1, hn0, hn1⟩ := hsm (by omega)
      have hmn := mostN_le l[m].kind
      have hdl : (Lib.decDigits l[m].number.toNat).length = 1 := by rw [dig_one hn0 (by omega)]; rfl
      have h0 : showB t 0 = tScore ++ Lib.decDigits l[m].number.toNat := by rw [htl, showB, if_pos hc33]
      refine greg ?_
      refine gop (y_fieldAddr_box fa47_1 rfl) rfl rfl rfl ?_
      refine gop (y_load Tryd.isAgg3 rfl (cell_box 1 rfl rfl)) rfl rfl rfl ?_
      refine gop_pure (e_call (vs := [.int _ _]) Tryd.func40 rfl (by kernel_rfl) rfl) (fun w hM => itoaS_any w l[m].number (by omega) (by omega)) rfl rfl rfl ?_
      refine gop (y_cat rfl rfl (by rw [baL_size]; show 6 + _ ≤ _; omega)) rfl rfl rfl ?_
      refine gop (y_assign (v := .string _) rfl) rfl rfl rfl ?_
      refine gops_nil ?_
      refine gcut3_end (()) (trivial) ⟨(congrArg Value.string (by rw [h0]; first | rfl | exact baL_app _ _ | (rw [← baL_app, ← baL_app]; rfl))), trivial⟩ ⟨rfl, rfl, trivial⟩ ⟨_, rfl⟩
    · 
      replace hc33 := of_decide_eq_false hc33
      refine gseq fun N8 hN8 => ?_
      refine greg ?_
      refine gop (y_eql rfl rfl) rfl rfl rfl ?_
      refine gop (y_assign (v := .bool _) rfl) rfl rfl rfl ?_
      refine gops_nil ?_
      refine hN8 _ _ ?_
      refine gfrom [(2, .int _ _), (3, .pointer _), (7, .pointer _), (8, .int _ _), (19, .int _ _), (39, .bool _)] ⟨rfl, rfl, rfl, rfl, rfl, rfl, trivial⟩ fun σ => ?_
      refine gcond (b := _) rfl (fun hc39 => ?_) (fun hc39 => ?_)
      · 
        replace hc39 := of_decide_eq_true hc39
        obtain ⟨-, -, htl, hk1, hn0, hn1⟩ := hsm (by omega)
        have hmn := mostN_le l[m].kind
        have hdl : (Lib.decDigits l[m].number.toNat).length = 1 := by rw [dig_one hn0 (by omega)]; rfl
        have h0 : showB t 0 = tUser ++ Lib.decDigits l[m].number.toNat := by rw [htl, showB, if_neg (by omega), if_pos hc39]
        refine greg ?_
        refine gop (y_fieldAddr_box fa47_1 rfl) rfl rfl rfl ?_
        refine gop (y_load Tryd.isAgg3 rfl (cell_box 1 rfl rfl)) rfl rfl rfl ?_
        refine gop_pure (e_call (vs := [.int _ _]) Tryd.func40 rfl (by kernel_rfl) rfl) (fun w hM => itoaS_any w l[m].number (by omega) (by omega)) rfl rfl rfl ?_
        refine gop (y_cat rfl rfl (by rw [baL_size]; show 5 + _ ≤ _; omega)) rfl rfl rfl ?_
        refine gop (y_assign (v := .string _) rfl) rfl rfl rfl ?_
        refine gops_nil ?_
        refine gcut3_end (()) (trivial) ⟨(congrArg Value.string (by rw [h0]; first | rfl | exact baL_app _ _ | (rw [← baL_app, ← baL_app]; rfl))), trivial⟩ ⟨rfl, rfl, trivial⟩ ⟨_, rfl⟩
      · 
        replace hc39 := of_decide_eq_false hc39
        refine gseq fun N9 hN9 => ?_
        refine greg ?_
        refine gop (y_eql rfl rfl) rfl rfl rfl ?_
        refine gop (y_assign (v := .bool _) rfl) rfl rfl rfl ?_
        refine gops_nil ?_
        refine hN9 _ _ ?_
        refine gfrom [(2, .int _ _), (3, .pointer _), (7, .pointer _), (8, .int _ _), (19, .int _ _), (45, .bool _)] ⟨rfl, rfl, rfl, rfl, rfl, rfl, trivial⟩ fun σ => ?_
        refine gcond (b := _) rfl (fun hc45 => ?_) (fun hc45 => ?_)
        · 
          replace hc45 := of_decide_eq_true hc45
          obtain ⟨-, -, htl, hk1, hn0, hn1⟩ := hsm (by omega)
          have hmn := mostN_le l[m].kind
          have hdl : (Lib.decDigits l[m].number.toNat).length = 1 := by rw [dig_one hn0 (by omega)]; rfl
          have h0 : showB t 0 = tOwners := by rw [htl, showB, if_neg (by omega), if_neg (by omega), if_pos hc45]
          refine greg ?_
          refine gop (y_assign (v := .string _) rfl) rfl rfl rfl ?_
          refine gops_nil ?_
          refine gcut3_end (()) (trivial) ⟨(congrArg Value.string (by rw [h0]; first | rfl | exact baL_app _ _ | (rw [← baL_app, ← baL_app]; rfl))), trivial⟩ ⟨rfl, rfl, trivial⟩ ⟨_, rfl⟩
        · 
          replace hc45 := of_decide_eq_false hc45
          refine gseq fun N10 hN10 => ?_
          refine greg ?_
          refine gop (y_eql rfl rfl) rfl rfl rfl ?_
          refine gop (y_assign (v := .bool _) rfl) rfl rfl rfl ?_
          refine gops_nil ?_
          refine hN10 _ _ ?_
          refine gfrom [(2, .int _ _), (3, .pointer _), (7, .pointer _), (8, .int _ _), (19, .int _ _), (47, .bool _)] ⟨rfl, rfl, rfl, rfl, rfl, rfl, trivial⟩ fun σ => ?_
          refine gcond (b := _) rfl (fun hc47 => ?_) (fun hc47 => ?_)
          · 
            replace hc47 := of_decide_eq_true hc47
            obtain ⟨-, -, htl, hk1, hn0, hn1⟩ := hsm (by omega)
            have hmn := mostN_le l[m].kind
            have hdl : (Lib.decDigits l[m].number.toNat).length = 1 := by rw [dig_one hn0 (by omega)]; rfl
            have h0 : showB t 0 = tTests := by rw [htl, showB, if_neg (by omega), if_neg (by omega), if_neg (by omega)]
            refine greg ?_
            refine gop (y_assign (v := .string _) rfl) rfl rfl rfl ?_
            refine gops_nil ?_
            refine gcut3_end (()) (trivial) ⟨(congrArg Value.string (by rw [h0]; first | rfl | exact baL_app _ _ | (rw [← baL_app, ← baL_app]; rfl))), trivial⟩ ⟨rfl, rfl, trivial⟩ ⟨_, rfl⟩
          · 
            replace hc47 := of_decide_eq_false hc47
            have hnk : ¬ l[m].kind < 5 := fun h => by have h9 := (hsm h).2.2.2.1; omega
            obtain ⟨hi1, hk7, d, q, hdo, hdt, hdl, hds, hdq, h5, h67⟩ := tree_big hok hat hm1 hnk
            have hdp := depth_pos d
            have hdz := hdt.size_le
            have hl0 := showB_len d 0 hdo
            have hl1 := showB_len d 1 hdo
            have hl2 := showB_len d 2 hdo
            refine gseq fun N11 hN11 => ?_
            refine greg ?_
            refine gop (y_eql rfl rfl) rfl rfl rfl ?_
            refine gop (y_assign (v := .bool _) rfl) rfl rfl rfl ?_
            refine gops_nil ?_
            refine hN11 _ _ ?_
            refine gfrom [(2, .int _ _), (3, .pointer _), (7, .pointer _), (8, .int _ _), (19, .int _ _), (49, .bool _)] ⟨rfl, rfl, rfl, rfl, rfl, rfl, trivial⟩ fun σ => ?_
            refine gcond (b := _) rfl (fun hc49 => ?_) (fun hc49 => ?_)
            · 
              replace hc49 := of_decide_eq_true hc49
              have h0 : showB t 0 = tNot ++ showB d 2 := by rw [h5 hc49, showB]
              refine greg ?_
              refine gop (y_loads (cs := [_]) Tryd.isAgg24 Tryd.sizeOf24 rfl rfl (cells_box 0 rfl)) rfl rfl rfl ?_
              refine gop (y_fieldAddr_box fa47_2 rfl) rfl rfl rfl ?_
              refine gop (y_load Tryd.isAgg3 rfl (cell_box 1 rfl rfl)) rfl rfl rfl ?_
              refine gop_pure (e_call (vs := [.agg #[_], .int _ _, _]) Tryd.func24 rfl (by kernel_rfl) rfl) (fun w hM => ih d.size (by omega) d 2 _ _ q w (by omega) rfl rfl hdl (hl.base hM) hdo hdt) rfl rfl rfl ?_
              refine gop (y_cat rfl rfl (by rw [baL_size]; show 4 + _ ≤ _; omega)) rfl rfl rfl ?_
              refine gop (y_assign (v := .string _) rfl) rfl rfl rfl ?_
              refine gops_nil ?_
              refine gcut3_end (()) (trivial) ⟨(congrArg Value.string (by rw [h0]; first | rfl | exact baL_app _ _ | (rw [← baL_app, ← baL_app]; rfl))), trivial⟩ ⟨rfl, rfl, trivial⟩ ⟨_, rfl⟩
            · 
              replace hc49 := of_decide_eq_false hc49
              obtain ⟨b, hbo, hbt, hbs, hbr, he⟩ := h67 (by omega)
              have hbl1 := showB_len b 1 hbo
              have hbl2 := showB_len b 2 hbo
              have hbz := hbt.size_le
              refine gseq fun N12 hN12 => ?_
              refine greg ?_
              refine gop (y_eql rfl rfl) rfl rfl rfl ?_
              refine gop (y_assign (v := .bool _) rfl) rfl rfl rfl ?_
              refine gops_nil ?_
              refine hN12 _ _ ?_
              refine gfrom [(2, .int _ _), (3, .pointer _), (7, .pointer _), (8, .int _ _), (56, .bool _)] ⟨rfl, rfl, rfl, rfl, rfl, trivial⟩ fun σ => ?_
              refine gcond (b := _) rfl (fun hc56 => ?_) (fun hc56 => ?_)
              · 
                replace hc56 := of_decide_eq_true hc56
                have h0 : showB t 0 = showB d 1 ++ tAnd ++ showB b 2 := by rw [he, hc56, show_and]
                have hlv : lvK l[m].kind = 1 := by rw [hc56]; rfl
                refine greg_q (by kernel_rfl) (by kernel_rfl) ?_
                refine gq (y_loads (cs := [_]) Tryd.isAgg24 Tryd.sizeOf24 rfl rfl (cells_box 0 rfl)) rfl rfl rfl ?_
                refine gq (y_fieldAddr_box fa47_2 rfl) rfl rfl rfl ?_
                refine gq (y_load Tryd.isAgg3 rfl (cell_box 1 rfl rfl)) rfl rfl rfl ?_
                refine gq (y_move (v := .int _ _) rfl) rfl rfl rfl ?_
                refine gq_pure (e_call (vs := [.agg #[_], .int _ _, .int _ _]) Tryd.func24 rfl (by kernel_rfl) rfl) (fun w hM => ih d.size (by omega) d 1 _ _ q w (by omega) (by omega) rfl hdl (hl.base hM) hdo hdt) rfl rfl rfl ?_
                refine gq (y_cat rfl rfl (by rw [baL_size]; show _ + 5 ≤ _; omega)) rfl rfl rfl ?_
                refine gq (y_loads (cs := [_]) Tryd.isAgg24 Tryd.sizeOf24 rfl rfl (cells_box 0 rfl)) rfl rfl rfl ?_
                refine gq (y_fieldAddr_box fa47_3 rfl) rfl rfl rfl ?_
                refine gq (y_load Tryd.isAgg3 rfl (cell_box 1 rfl rfl)) rfl rfl rfl ?_
                refine gq (y_move (v := .int _ _) rfl) rfl rfl rfl ?_
                refine gq (y_add rfl rfl ⟨by omega, by omega⟩) rfl rfl rfl ?_
                refine gq_pure (e_call (vs := [.agg #[_], .int _ _, .int _ _]) Tryd.func24 rfl (by kernel_rfl) rfl) (fun w hM => ih b.size (by omega) b 2 _ _ (m - 1) w (by omega) (by omega) rfl hbr (hl.base hM) hbo hbt) rfl rfl rfl ?_
                refine gq (y_cat rfl rfl (by rw [ByteArray.size_append, baL_size, baL_size]; show _ + 5 + _ ≤ _; omega)) rfl rfl rfl ?_
                refine gq (y_assign (v := .string _) rfl) rfl rfl rfl ?_
                refine gqs_nil ?_
                refine gcut3_end (()) (trivial) ⟨(congrArg Value.string (by rw [h0]; first | rfl | exact baL_app _ _ | (rw [← baL_app, ← baL_app]; rfl))), trivial⟩ ⟨rfl, rfl, trivial⟩ ⟨_, rfl⟩
              · 
                replace hc56 := of_decide_eq_false hc56
                have h7k : l[m].kind = 7 := by omega
                have h0 : showB t 0 = showB d 0 ++ tOr ++ showB b 1 := by rw [he, h7k, show_or]
                have hlv : lvK l[m].kind = 0 := by rw [h7k]; rfl
                refine greg_q (by kernel_rfl) (by kernel_rfl) ?_
                refine gq (y_loads (cs := [_]) Tryd.isAgg24 Tryd.sizeOf24 rfl rfl (cells_box 0 rfl)) rfl rfl rfl ?_
                refine gq (y_fieldAddr_box fa47_2 rfl) rfl rfl rfl ?_
                refine gq (y_load Tryd.isAgg3 rfl (cell_box 1 rfl rfl)) rfl rfl rfl ?_
                refine gq (y_move (v := .int _ _) rfl) rfl rfl rfl ?_
                refine gq_pure (e_call (vs := [.agg #[_], .int _ _, .int _ _]) Tryd.func24 rfl (by kernel_rfl) rfl) (fun w hM => ih d.size (by omega) d 0 _ _ q w (by omega) (by omega) rfl hdl (hl.base hM) hdo hdt) rfl rfl rfl ?_
                refine gq (y_cat rfl rfl (by rw [baL_size]; show _ + 4 ≤ _; omega)) rfl rfl rfl ?_
                refine gq (y_loads (cs := [_]) Tryd.isAgg24 Tryd.sizeOf24 rfl rfl (cells_box 0 rfl)) rfl rfl rfl ?_
                refine gq (y_fieldAddr_box fa47_3 rfl) rfl rfl rfl ?_
                refine gq (y_load Tryd.isAgg3 rfl (cell_box 1 rfl rfl)) rfl rfl rfl ?_
                refine gq (y_move (v := .int _ _) rfl) rfl rfl rfl ?_
                refine gq (y_add rfl rfl ⟨by omega, by omega⟩) rfl rfl rfl ?_
                refine gq_pure (e_call (vs := [.agg #[_], .int _ _, .int _ _]) Tryd.func24 rfl (by kernel_rfl) rfl) (fun w hM => ih b.size (by omega) b 1 _ _ (m - 1) w (by omega) (by omega) rfl hbr (hl.base hM) hbo hbt) rfl rfl rfl ?_
                refine gq (y_cat rfl rfl (by rw [ByteArray.size_append, baL_size, baL_size]; show _ + 4 + _ ≤ _; omega)) rfl rfl rfl ?_
                refine gq (y_assign (v := .string _) rfl) rfl rfl rfl ?_
                refine gqs_nil ?_
                refine gcut3_end (()) (trivial) ⟨(congrArg Value.string (by rw [h0]; first | rfl | exact baL_app _ _ | (rw [← baL_app, ← baL_app]; rfl))), trivial⟩ ⟨rfl, rfl, trivial⟩ ⟨_, rfl⟩
  ·
    intro g hcut σ
    refine hN5 _ _ ?_
    refine gseq fun N13 hN13 => ?_
    refine gseq fun N14 hN14 => ?_
    refine greg ?_
    refine gop (y_move (v := .int _ _) rfl) rfl rfl rfl ?_
    refine gop (y_move (v := .int _ _) rfl) rfl rfl rfl ?_
    refine gop (y_lss rfl rfl) rfl rfl rfl ?_
    refine gops_nil ?_
    refine hN14 _ _ ?_
    refine gT [box b3 _, box b7 _] rfl ?_
    refine gfrom [(9, .string _), (73, .bool _)] ⟨rfl, rfl, trivial⟩ fun σ => ?_
    refine gcond (b := _) rfl (fun hc73 => ?_) (fun hc73 => ?_)
    · 
      replace hc73 := of_decide_eq_true hc73
      refine gseq fun N15 hN15 => ?_
      refine greg ?_
      refine gop (y_move (v := .string _) rfl) rfl rfl rfl ?_
      refine gop (y_cat rfl rfl (by rw [baL_size]; show 1 + _ ≤ _; omega)) rfl rfl rfl ?_
      refine gop (y_cat rfl rfl (by rw [ByteArray.size_append, baL_size]; show 1 + _ + 1 ≤ _; omega)) rfl rfl rfl ?_
      refine gop (y_assign (v := .string _) rfl) rfl rfl rfl ?_
      refine gops_nil ?_
      refine hN15 _ _ ?_
      refine gfrom [(6, .string _)] ⟨rfl, trivial⟩ fun σ => ?_
      refine gret fun w1 hM => ?_
      refine ⟨_, res1 rfl (rt (v := .string _) rfl), ?_⟩
      exact ⟨by rw [hSP]; first | (rw [par_yes (by omega)]; done) | (rw [par_no (by omega)]; done), hM.low⟩
    · 
      replace hc73 := of_decide_eq_false hc73
      refine gskip ?_
      refine hN13 _ _ ?_
      refine gfrom [(9, .string _)] ⟨rfl, trivial⟩ fun σ => ?_
      refine gseq fun N16 hN16 => ?_
      refine greg ?_
      refine gop (y_move (v := .string _) rfl) rfl rfl rfl ?_
      refine gop (y_assign (v := .string _) rfl) rfl rfl rfl ?_
      refine gops_nil ?_
      refine hN16 _ _ ?_
      refine gfrom [(6, .string _)] ⟨rfl, trivial⟩ fun σ => ?_
      refine gret fun w1 hM => ?_
      refine ⟨_, res1 rfl (rt (v := .string _) rfl), ?_⟩
      exact ⟨by rw [hSP]; first | (rw [par_yes (by omega)]; done) | (rw [par_no (by omega)]; done), hM.low⟩
end Go.Proofs.YtllblbkbglifjaaDoor
namespace Go.Cf
open Go.RowKit
theorem want_last {r : List Int} {x : Int} : want (r ++ [x]) 1 0 = x ∧ want (r ++ [x]) 1 1 = 0 := by
  have h4 : (r ++ [x]).length - 1 = r.length := by simp
  rw [want, want, h4, List.drop_left]; exact ⟨rfl, rfl⟩
theorem want_two {r : List Int} {x y : Int} : want (r ++ [x] ++ [y]) 2 0 = x ∧ want (r ++ [x] ++ [y]) 2 1 = y := by
  have h4 : (r ++ [x] ++ [y]).length - 2 = r.length := by simp
  rw [want, want, h4, List.append_assoc, List.drop_left]; exact ⟨rfl, rfl⟩
theorem post_right {l : List PN} : ∀ (t : Tr) (k : Nat), t.ok → (l.drop k).take t.size = post t k →
    rootsTo l (k + t.size) = rootsTo l k ++ [((k + t.size : Nat) : Int) - 1] ∧ ∀ j, k ≤ j → j < k + t.size → chk (nAt l j) (rootsTo l j) = 0
  | .leaf kk n, k, ho, h => by
    obtain ⟨h1, h2, h3, h4⟩ := ho
    have hn : nAt l k = ⟨kk, n, 0, 0⟩ := by rw [nAt, one_at h]; rfl
    have h0 : opN kk = 0 := by rw [opN, if_neg (by omega), if_neg (by omega)]
    constructor
    · show rootsTo l (k + 1) = _
      rw [rootsTo, hn]
      show List.take (_ - opN kk) _ ++ _ = _
      rw [h0, Nat.sub_zero, List.take_length]
      congr 2
      simp only [Tr.size]; omega
    · intro j hj1 hj2
      simp only [Tr.size] at hj2
      obtain rfl : j = k := by omega
      rw [hn, chk_leaf (by simp only; omega) (by simp only; omega) (by simp only; omega), if_neg (by simp)]
  | .neg t, k, ho, h => by
    rw [size_neg, post] at h
    obtain ⟨h1, h2⟩ := take_part h (post_len t k)
    obtain ⟨h3, h4⟩ := post_right t k ho h1
    have hn : nAt l (k + t.size) = ⟨5, 0, ((k + t.size : Nat) : Int) - 1, 0⟩ := by rw [nAt, one_at h2]; rfl
    obtain ⟨w1, w2⟩ := want_last (r := rootsTo l k) (x := ((k + t.size : Nat) : Int) - 1)
    constructor
    · rw [size_neg, ← Nat.add_assoc, rootsTo, hn, h3]
      show List.take (_ - 1) _ ++ _ = _
      rw [show (rootsTo l k ++ [((k + t.size : Nat) : Int) - 1]).length - 1 = (rootsTo l k).length by simp, List.take_left]
      congr 2
      omega
    · intro j hj1 hj2
      rw [size_neg] at hj2
      rcases Nat.lt_or_ge j (k + t.size) with h5 | h5
      · exact h4 j hj1 h5
      · obtain rfl : j = k + t.size := by omega
        have e1 : opN 5 = 1 := rfl
        have e2 : mostN 5 = 0 := rfl
        rw [hn, h3, chk]
        simp only [e1, e2]
        rw [if_neg (by omega), if_neg (by omega), if_neg (by simp), w1, w2, if_neg (by simp)]
  | .bin kk a b, k, ho, h => by
    obtain ⟨hk, hoa, hob⟩ := ho
    rw [size_bin, post] at h
    obtain ⟨h0, h2⟩ := take_part h (show (post a k ++ post b (k + a.size)).length = a.size + b.size by rw [List.length_append, post_len, post_len])
    obtain ⟨h1, h1b⟩ := take_part h0 (post_len a k)
    rw [post_len] at h1b
    obtain ⟨h3, h4⟩ := post_right a k hoa h1
    obtain ⟨h5, h6⟩ := post_right b (k + a.size) hob h1b
    rw [← Nat.add_assoc] at h2
    have hn : nAt l (k + a.size + b.size) = ⟨kk, 0, ((k + a.size : Nat) : Int) - 1, ((k + a.size + b.size : Nat) : Int) - 1⟩ := by rw [nAt, one_at h2]; rfl
    obtain ⟨w1, w2⟩ := want_two (r := rootsTo l k) (x := ((k + a.size : Nat) : Int) - 1) (y := ((k + a.size + b.size : Nat) : Int) - 1)
    rw [h3] at h5
    have e1 : opN kk = 2 := by rcases hk with rfl | rfl <;> rfl
    have e2 : mostN kk = 0 := by rcases hk with rfl | rfl <;> rfl
    constructor
    · rw [size_bin, ← Nat.add_assoc, ← Nat.add_assoc, rootsTo, hn, h5]
      show List.take (_ - opN kk) _ ++ _ = _
      rw [e1, show (rootsTo l k ++ [((k + a.size : Nat) : Int) - 1] ++ [((k + a.size + b.size : Nat) : Int) - 1]).length - 2 = (rootsTo l k).length by simp, List.append_assoc, List.take_left]
      congr 2
      omega
    · intro j hj1 hj2
      rw [size_bin] at hj2
      rcases Nat.lt_or_ge j (k + a.size) with h7 | h7
      · exact h4 j hj1 h7
      · rcases Nat.lt_or_ge j (k + a.size + b.size) with h8 | h8
        · exact h6 j h7 h8
        · obtain rfl : j = k + a.size + b.size := by omega
          rw [hn, h5, chk]
          simp only [e1, e2]
          rw [if_neg (by omega), if_neg (by omega), if_neg (by simp), w1, w2, if_neg (by simp)]
theorem post_all (t : Tr) (ho : t.ok) : rootsTo (post t 0) t.size = [(t.size : Int) - 1] ∧ ∀ j (h : j < (post t 0).length), chk (post t 0)[j] (rootsTo (post t 0) j) = 0 := by
  obtain ⟨h1, h2⟩ := post_right (l := post t 0) t 0 ho (by rw [List.drop_zero, ← post_len t 0, List.take_length])
  rw [Nat.zero_add] at h1 h2
  refine ⟨h1, fun j h => ?_⟩
  rw [← nAt_at h]
  exact h2 j (Nat.zero_le _) (by rw [post_len] at h; exact h)
theorem depL_post {t : Tr} (ho : t.ok) : depL (post t 0) = t.depth := by
  rw [depL, post_len]; exact dep_at t _ ho (At.whole t)
def push (n : PN) : List Tr → List Tr
  | [] => [.leaf n.kind n.number]
  | [a] => if n.kind = 5 then [.neg a] else [.leaf n.kind n.number, a]
  | b :: a :: s => if n.kind = 5 then .neg b :: a :: s else if n.kind < 5 then .leaf n.kind n.number :: b :: a :: s else .bin n.kind a b :: s
def stk : List PN → List Tr → List Tr
  | [], s => s
  | n :: l, s => stk l (push n s)
def treeOf (l : List PN) : Tr := (stk l []).headD (.leaf 1 0)
theorem push_leaf {k n : Int} (h : k ≤ 4) (s : List Tr) : push ⟨k, n, 0, 0⟩ s = .leaf k n :: s := by
  match s with
  | [] => rfl
  | [a] => rw [push, if_neg (by simp only; omega)]
  | b :: a :: s => rw [push, if_neg (by simp only; omega), if_pos (by simp only; omega)]
theorem push_neg {i : Int} (t : Tr) (s : List Tr) : push ⟨5, 0, i, 0⟩ (t :: s) = .neg t :: s := by
  cases s with
  | nil => rw [push, if_pos rfl]
  | cons a s => rw [push, if_pos rfl]
theorem stk_post : ∀ (t : Tr) (off : Nat) (l : List PN) (s : List Tr), t.ok → stk (post t off ++ l) s = stk l (t :: s)
  | .leaf k n, off, l, s, h => by
    show stk l (push ⟨k, n, 0, 0⟩ s) = _
    rw [push_leaf h.2.1]
  | .neg t, off, l, s, h => by
    rw [post, List.append_assoc, stk_post t _ _ _ h]
    show stk l (push _ (t :: s)) = _
    rw [push_neg]
  | .bin k a b, off, l, s, h => by
    rw [post, List.append_assoc, List.append_assoc, stk_post a _ _ _ h.2.1, stk_post b _ _ _ h.2.2]
    show stk l (push _ (b :: a :: s)) = _
    have hk := h.1
    rw [push, if_neg (by simp only; omega), if_neg (by simp only; omega)]
theorem treeOf_post {t : Tr} (h : t.ok) : treeOf (post t 0) = t := by
  have := stk_post t 0 [] [] h
  rw [List.append_nil] at this
  rw [treeOf, this]; rfl
theorem IsTr.tree {l : List PN} {t : Tr} (h : IsTr l t) : treeOf l = t := by rw [h.eq, treeOf_post h.ok]
theorem tree_of {l : List PN} (h : polF l = ⟨0, 0⟩) : IsTr l (treeOf l) := by
  obtain ⟨t, ht⟩ := pol_tree h
  rw [ht.tree]; exact ht
def fmtR (l : List PN) : Fault × List UInt8 := if polF l ≠ ⟨0, 0⟩ then (polF l, []) else if 200 < (showB (treeOf l) 0).length then (⟨10, -1⟩, []) else (⟨0, 0⟩, showB (treeOf l) 0)
def norR (l : List PN) : Fault × List PN := if polF l ≠ ⟨0, 0⟩ then (polF l, []) else madeR (nrm (treeOf l) false)
end Go.Cf
namespace Go.Cf
open Go.RowKit
theorem opN_one {k : Int} (h : opN k = 1) : k = 5 := by
  unfold opN at h
  split at h
  · assumption
  · split at h <;> omega
theorem opN_two {k : Int} (h : opN k = 2) : k = 6 ∨ k = 7 := by
  unfold opN at h
  split at h
  · omega
  · split at h
    · assumption
    · omega
theorem opN_zero {k : Int} (h1 : ¬ opN k = 1) (h2 : ¬ opN k = 2) (h3 : 1 ≤ k ∧ k ≤ 7) : k < 5 := by
  unfold opN at h1 h2
  by_cases h5 : k = 5
  · rw [if_pos h5] at h1; exact absurd rfl h1
  · rw [if_neg h5] at h2
    by_cases h6 : k = 6 ∨ k = 7
    · rw [if_pos h6] at h2; exact absurd rfl h2
    · omega
theorem app_len (o : List PN) (t : Tr) : (o ++ post t o.length).length = o.length + t.size := by rw [List.length_append, post_len]
theorem post_bin_app (o : List PN) (k : Int) (a b : Tr) : o ++ post a o.length ++ post b (o ++ post a o.length).length ++ [⟨k, 0, ((o.length + a.size : Nat) : Int) - 1, (((o ++ post a o.length).length + b.size : Nat) : Int) - 1⟩] = o ++ post (.bin k a b) o.length := by
  rw [app_len, post]
  simp only [List.append_assoc]
theorem post_neg_app (o : List PN) (t : Tr) : o ++ post t o.length ++ [⟨5, 0, ((o.length + t.size : Nat) : Int) - 1, 0⟩] = o ++ post (.neg t) o.length := by
  rw [post]
  simp only [List.append_assoc]
theorem leaf_node {l : List PN} {i : Nat} {k n : Int} (h : At l i (.leaf k n)) (hi : i < l.length) : l[i] = ⟨k, n, 0, 0⟩ := by rw [← nAt_at hi]; exact h.leaf
theorem tree_kind {l : List PN} {i : Nat} {t : Tr} (ho : t.ok) (h : At l i t) (hi : i < l.length) : 1 ≤ l[i].kind ∧ l[i].kind ≤ 7 := by
  obtain ⟨h1, h2⟩ := tree_at ho h hi
  by_cases h9 : l[i].kind < 5
  · have := (h1 h9).2.2.2.1; omega
  · have := (h2 h9).2.1; omega
theorem linked_post {t : Tr} (ho : t.ok) : Linked (post t 0) := linked_of (post_all t ho).2
end Go.Cf
namespace Go.Cf
theorem pn_same (a b : PN) : (decide (a.kind = b.kind) && decide (a.number = b.number) && decide (a.left = b.left) && decide (a.right = b.right)) = decide (a = b) := by
  by_cases h : a = b
  · subst h; simp
  · rw [decide_eq_false h]
    obtain ⟨a1, a2, a3, a4⟩ := a
    obtain ⟨b1, b2, b3, b4⟩ := b
    by_cases h1 : a1 = b1 <;> by_cases h2 : a2 = b2 <;> by_cases h3 : a3 = b3 <;> by_cases h4 : a4 = b4 <;> simp_all
end Go.Cf
namespace Go.Cf
theorem polF_code {l : List PN} (h : ¬ (polF l).code ≠ 0) : polF l = ⟨0, 0⟩ := by
  have h' : (polF l).code = 0 := by omega
  unfold polF at h' ⊢
  split at h'
  · exact absurd h' (by decide)
  rename_i c1
  split at h'
  · exact absurd h' (by decide)
  rename_i c2
  split at h'
  · rename_i c3; exact absurd (scan_code_eq h') c3
  rename_i c3
  split at h'
  · exact absurd h' (by decide)
  rename_i c4
  split at h'
  · exact absurd h' (by decide)
  rename_i c5
  rw [if_neg c1, if_neg c2, if_neg c3, if_neg c4, if_neg c5]
end Go.Cf
namespace Go.Proofs.YtllblbkbglifjaaDoor
open Go.RowKit Go.Cf
set_option maxRecDepth 10000
set_option maxHeartbeats 4000000 in
theorem polFormat_any (w : World) (A : Option Addr) (c : Nat) (l : List PN) (hl : Rdl w 0 4 pnCells A l) (hlc : l.length ≤ c) (hcm : c ≤ maxLen) : Calls Tryd.prog 9 #[.agg #[.slice A l.length c]] w fun e w' => e = .returned (.tuple #[.string (baL (fmtR l).2), fv (fmtR l).1]) ∧ Below w.heap.size w w' := by
  have hlm : l.length ≤ 9223372036854775807 := by have h9 := Nat.le_trans hlc hcm; unfold maxLen at h9; omega
  refine gcalls Tryd.func9 rfl Tryd.ntmps9 (Nat.le_of_ble_eq_true rfl) ?_
  refine gfrom [(0, .agg #[_])] ⟨rfl, trivial⟩ fun σ => ?_
  refine gseq fun N1 hN1 => ?_
  refine greg ?_
  refine gop_box (v := .agg #[_]) (cs := #[_]) rfl rfl rfl (fun b1 hb1 => ?_)
  refine gop (y_assign (v := .string _) rfl) rfl rfl rfl ?_
  refine gop_alloc (cs := #[.int .i64 0, .int .i64 0]) Tryd.zeroValue28 rfl rfl (fun b3 hb3 => ?_)
  refine gops_nil ?_
  refine hN1 _ _ ?_
  refine gT [box b1 _, box b3 _] rfl ?_
  refine gfrom [(1, .pointer _), (3, .pointer _)] ⟨rfl, rfl, trivial⟩ fun σ => ?_
  refine gseq fun N2 hN2 => ?_
  refine gseq fun N3 hN3 => ?_
  refine greg ?_
  refine gop (y_loads (cs := [_]) Tryd.isAgg24 Tryd.sizeOf24 rfl rfl (cells_box 0 rfl)) rfl rfl rfl ?_
  refine gop_pure (e_call (vs := [.agg #[_]]) Tryd.func13 rfl (by kernel_rfl) rfl) (fun w hM => polValidate_any w A c l (hl.base hM) hlc hcm) rfl rfl rfl ?_
  refine gop_alloc (cs := #[.int .i64 0, .int .i64 0]) Tryd.zeroValue28 rfl rfl (fun b4 hb4 => ?_)
  refine gop_store 2 (v := .agg #[_, _]) (cs' := #[_, _]) rfl rfl Tryd.sizeOf28 rfl rfl rfl rfl (Nat.le_of_ble_eq_true rfl) rfl rfl ?_
  refine gops_nil ?_
  refine hN3 _ _ ?_
  refine gT [box b1 _, box b3 _, box b4 _] rfl ?_
  refine gfrom [(1, .pointer _), (3, .pointer _), (4, .pointer _)] ⟨rfl, rfl, rfl, trivial⟩ fun σ => ?_
  refine gseq fun N4 hN4 => ?_
  refine greg ?_
  refine gop (y_loads (cs := [_, _]) Tryd.isAgg28 Tryd.sizeOf28 rfl rfl (cells_box 2 rfl)) rfl rfl rfl ?_
  refine gop (y_build (vs := []) (cells := #[.int .i64 0, .int .i64 0]) rfl bd28_) rfl rfl rfl ?_
  refine gop (y_bin (vx := .agg #[_, _]) (vy := .agg #[_, _]) rfl rfl (fun w => eg28 _ _ _ _ _ w) (fun w => ne28 _ _ _ _ w)) rfl rfl rfl ?_
  refine gops_nil ?_
  refine hN4 _ _ ?_
  refine gfrom [(1, .pointer _), (3, .pointer _), (4, .pointer _), (10, .bool _)] ⟨rfl, rfl, rfl, rfl, trivial⟩ fun σ => ?_
  refine gcond (b := _) rfl (fun hc10 => ?_) (fun hc10 => ?_)
  · 
    replace hc10 := fault_ne.1 hc10
    have hF : fmtR l = (polF l, []) := by rw [fmtR, if_pos hc10]
    refine gseq fun N5 hN5 => ?_
    refine greg_e1 [] [(1, room b3 28 2)] (by kernel_rfl) ?_
    refine ge_take 0 (TK := [box b1 _, room b3 28 2, box b4 _]) rfl (by kernel_rfl) (by kernel_rfl) (by kernel_rfl) #[false, true, false] (by kernel_rfl) rfl (y_loads (cs := [_, _]) Tryd.isAgg28 Tryd.sizeOf28 rfl rfl (cells_box 2 rfl)) rfl rfl rfl (weak_room 1 rfl rfl) (listed' := #[true, false, false]) rfl ?_
    refine ge_take 1 (TK := [box b1 _, room b3 28 2, box b4 _]) rfl (by kernel_rfl) (by kernel_rfl) (by kernel_rfl) #[true, false, false] (by kernel_rfl) rfl (y_assign (v := .string _) rfl) rfl rfl rfl (weak_room 1 rfl rfl) (listed' := #[true, true, false]) rfl ?_
    refine ge_one 2 (k' := 0) (listed' := #[true, true, true]) (by kernel_rfl) rfl rfl rfl ?_
    refine gop_store 1 (v := .agg #[_, _]) (cs' := #[_, _]) rfl rfl Tryd.sizeOf28 rfl rfl rfl rfl (Nat.le_of_ble_eq_true rfl) rfl rfl ?_
    refine gops_nil ?_
    refine ge_fin (TK := [box b1 _, room b3 28 2, box b4 _]) rfl (weak_room 1 rfl rfl) ?_
    refine ge_done (by kernel_rfl) ?_
    refine hN5 _ _ ?_
    refine gT [box b1 _, box b3 _, box b4 _] rfl ?_
    refine gfrom [(2, .string _), (3, .pointer _)] ⟨rfl, rfl, trivial⟩ fun σ => ?_
    refine gret fun w1 hM => ?_
    refine ⟨_, res2 rfl (rt (v := .string _) rfl) (rc 1 (cs := [_, _]) hM rfl rfl Tryd.isAgg28 Tryd.sizeOf28 rfl), ?_⟩
    exact ⟨by first | (rw [hF]; done) | (rw [hF]; rfl), hM.low⟩
  · 
    replace hc10 := fault_eq.1 hc10
    obtain ⟨hn0, hn24, -⟩ := pol_ok hc10
    have ht := tree_of hc10
    have hF0 : fmtR l = if 200 < (showB (treeOf l) 0).length then (⟨10, -1⟩, []) else (⟨0, 0⟩, showB (treeOf l) 0) := by rw [fmtR, if_neg (fun h => h hc10)]
    have hbs := baL_size (showB (treeOf l) 0)
    refine gskip ?_
    refine hN2 _ _ ?_
    refine gfrom [(1, .pointer _), (3, .pointer _)] ⟨rfl, rfl, trivial⟩ fun σ => ?_
    refine gseq fun N6 hN6 => ?_
    refine greg ?_
    refine gop (y_loads (cs := [_]) Tryd.isAgg24 Tryd.sizeOf24 rfl rfl (cells_box 0 rfl)) rfl rfl rfl ?_
    refine gop (y_fieldAddr_box fa24_0 rfl) rfl rfl rfl ?_
    refine gop (y_load Tryd.isAgg22 rfl (cell_box 0 rfl rfl)) rfl rfl rfl ?_
    refine gop (y_len Tryd.underlying22 rfl) rfl rfl rfl ?_
    refine gop (y_sub rfl rfl ⟨by omega, by omega⟩) rfl rfl rfl ?_
    refine gop_pure (e_call (vs := [.agg #[_], .int _ _, _]) Tryd.func24 rfl (by kernel_rfl) rfl) (fun w hM => polShow_any A c l hlc hcm (by omega) (treeOf l).size (treeOf l) 0 _ _ (l.length - 1) w (by omega) rfl rfl (by omega) (hl.base hM) ht.ok ht.at_) rfl rfl rfl ?_
    refine gop (y_assign (v := .string _) rfl) rfl rfl rfl ?_
    refine gops_nil ?_
    refine hN6 _ _ ?_
    refine gfrom [(3, .pointer _), (5, .string _)] ⟨rfl, rfl, trivial⟩ fun σ => ?_
    refine gseq fun N7 hN7 => ?_
    refine gseq fun N8 hN8 => ?_
    refine greg ?_
    refine gop (y_move (v := .string _) rfl) rfl rfl rfl ?_
    refine gop (y_lens Tryd.underlying9 rfl) rfl rfl rfl ?_
    refine gop (y_gtr rfl rfl) rfl rfl rfl ?_
    refine gops_nil ?_
    refine hN8 _ _ ?_
    refine gfrom [(3, .pointer _), (5, .string _), (20, .bool _)] ⟨rfl, rfl, rfl, trivial⟩ fun σ => ?_
    refine gcond (b := _) rfl (fun hc20 => ?_) (fun hc20 => ?_)
    · 
      replace hc20 := of_decide_eq_true hc20
      have hF : fmtR l = (⟨10, -1⟩, []) := by rw [hF0, if_pos (by omega)]
      refine gseq fun N9 hN9 => ?_
      refine greg ?_
      refine gop (y_build (vs := [(0, _), (1, _)]) (cells := #[_, _]) rfl (bd28_0_1 _ _)) rfl rfl rfl ?_
      refine gop (y_assign (v := .string _) rfl) rfl rfl rfl ?_
      refine gop_store 1 (v := .agg #[_, _]) (cs' := #[_, _]) rfl rfl Tryd.sizeOf28 rfl rfl rfl rfl (Nat.le_of_ble_eq_true rfl) rfl rfl ?_
      refine gops_nil ?_
      refine hN9 _ _ ?_
      refine gT [box b1 _, box b3 _, box b4 _] rfl ?_
      refine gfrom [(2, .string _), (3, .pointer _)] ⟨rfl, rfl, trivial⟩ fun σ => ?_
      refine gret fun w1 hM => ?_
      refine ⟨_, res2 rfl (rt (v := .string _) rfl) (rc 1 (cs := [_, _]) hM rfl rfl Tryd.isAgg28 Tryd.sizeOf28 rfl), ?_⟩
      exact ⟨by first | (rw [hF]; done) | (rw [hF]; rfl), hM.low⟩
    · 
      replace hc20 := of_decide_eq_false hc20
      have hF : fmtR l = (⟨0, 0⟩, showB (treeOf l) 0) := by rw [hF0, if_neg (by omega)]
      refine gskip ?_
      refine hN7 _ _ ?_
      refine gfrom [(3, .pointer _), (5, .string _)] ⟨rfl, rfl, trivial⟩ fun σ => ?_
      refine gseq fun N10 hN10 => ?_
      refine greg ?_
      refine gop (y_move (v := .string _) rfl) rfl rfl rfl ?_
      refine gop (y_build (vs := []) (cells := #[.int .i64 0, .int .i64 0]) rfl bd28_) rfl rfl rfl ?_
      refine gop (y_assign (v := .string _) rfl) rfl rfl rfl ?_
      refine gop_store 1 (v := .agg #[_, _]) (cs' := #[_, _]) rfl rfl Tryd.sizeOf28 rfl rfl rfl rfl (Nat.le_of_ble_eq_true rfl) rfl rfl ?_
      refine gops_nil ?_
      refine hN10 _ _ ?_
      refine gT [box b1 _, box b3 _, box b4 _] rfl ?_
      refine gfrom [(2, .string _), (3, .pointer _)] ⟨rfl, rfl, trivial⟩ fun σ => ?_
      refine gret fun w1 hM => ?_
      refine ⟨_, res2 rfl (rt (v := .string _) rfl) (rc 1 (cs := [_, _]) hM rfl rfl Tryd.isAgg28 Tryd.sizeOf28 rfl), ?_⟩
      exact ⟨by first | (rw [hF]; done) | (rw [hF]; rfl), hM.low⟩
end Go.Proofs.YtllblbkbglifjaaDoor
namespace Go.Proofs.YtllblbkbglifjaaDoor
open Go.RowKit Go.Cf
set_option maxRecDepth 10000
theorem fa52_0 (a : Addr) (w : World) : (Instr.fieldAt 52 (.pointer (some a)) 0).run Tryd.prog w = .ok (.pointer (some (a.add 0))) w := by kernel_rfl
theorem el47 : Elem Tryd.prog 47 4 32 := elem_of (z := .agg #[.int .i64 0, .int .i64 0, .int .i64 0, .int .i64 0]) (by kernel_rfl) rfl (by decide)
theorem bd24_0 (x1 : Option Addr) (x1l x1c : Nat) : Tryd.prog.built 24 [(0, .slice x1 x1l x1c)] = some #[.slice x1 x1l x1c] := by kernel_rfl
theorem bd24_  : Tryd.prog.built 24 [] = some #[.slice none 0 0] := by kernel_rfl
theorem bd47_0_2_3 (x1 : Int) (x2 : Int) (x3 : Int) : Tryd.prog.built 47 [(0, .int .i64 x1), (2, .int .i64 x2), (3, .int .i64 x3)] = some #[.int .i64 x1, .int .i64 0, .int .i64 x2, .int .i64 x3] := by kernel_rfl
theorem bd47_0_2 (x1 : Int) (x2 : Int) : Tryd.prog.built 47 [(0, .int .i64 x1), (2, .int .i64 x2)] = some #[.int .i64 x1, .int .i64 0, .int .i64 x2, .int .i64 0] := by kernel_rfl
set_option maxHeartbeats 4000000 in
theorem polAdd1_any (w0 w : World) (bg bc : Nat) (B : Option Addr) (o : List PN) (fr : Reg) (hM0 : Mem w0 [box bg (.cells #[.slice B (o.length) bc] 52), rowl pnCells w0.heap.size 47 4 (.slice B (o).length bc) (o), fr] w) (hol : o.length ≤ 1000) (n : PN) :
    Calls Tryd.prog 41 #[.pointer (some ⟨bg, 0, none⟩), pnV n] w fun e w' => ∃ B' bc', e = .returned (.int .i64 (o.length : Nat)) ∧ Mem w0 [box bg (.cells #[.slice B' ((o ++ [n]).length) bc'] 52), rowl pnCells w0.heap.size 47 4 (.slice B' (o ++ [n]).length bc') (o ++ [n]), fr] w' := by
  refine gcallsT Tryd.func41 rfl Tryd.ntmps41 (Nat.le_of_ble_eq_true rfl) hM0 ?_
  refine gfrom [(0, .pointer (some ⟨bg, 0, none⟩)), (1, .agg #[_, _, _, _])] ⟨rfl, rfl, trivial⟩ fun σ => ?_
  refine gseq fun N1 hN1 => ?_
  refine greg ?_
  refine gop_box (v := .agg #[_, _, _, _]) (cs := #[_, _, _, _]) rfl rfl rfl (fun b3 hb3 => ?_)
  refine gop (y_assign (v := .int _ _) rfl) rfl rfl rfl ?_
  refine gops_nil ?_
  refine hN1 _ _ ?_
  refine gT [box bg _, rowl _ _ _ _ _ _, fr, box b3 _] rfl ?_
  refine gfrom [(0, .pointer (some ⟨bg, 0, none⟩)), (3, .pointer _)] ⟨rfl, rfl, trivial⟩ fun σ => ?_
  refine gseq fun N2 hN2 => ?_
  refine greg_e1 [10] [(1, emp)] (by kernel_rfl) ?_
  refine ge_take 0 (TK := [box bg _, emp, fr, box b3 _]) rfl (by kernel_rfl) (by kernel_rfl) (by kernel_rfl) #[false, true, true, true, true, true, true, true, false, false, false] (by kernel_rfl) rfl (y_move (v := .pointer (some ⟨bg, 0, none⟩)) rfl) rfl rfl rfl (weak_emp 1 rfl) (listed' := #[true, false, false, false, false, false, false, false, false, false, false]) rfl ?_
  refine ge_take 1 (TK := [box bg _, emp, fr, box b3 _]) rfl (by kernel_rfl) (by kernel_rfl) (by kernel_rfl) #[true, false, false, false, false, true, true, false, false, false, false] (by kernel_rfl) rfl (y_move (v := .pointer (some ⟨bg, 0, none⟩)) rfl) rfl rfl rfl (weak_emp 1 rfl) (listed' := #[true, true, false, false, false, false, false, false, false, false, false]) rfl ?_
  refine ge_take 2 (TK := [box bg _, emp, fr, box b3 _]) rfl (by kernel_rfl) (by kernel_rfl) (by kernel_rfl) #[true, true, false, false, false, true, true, false, false, false, false] (by kernel_rfl) rfl (y_nilCheck rfl) rfl rfl rfl (weak_emp 1 rfl) (listed' := #[true, true, true, false, false, false, false, false, false, false, false]) rfl ?_
  refine ge_take 3 (TK := [box bg _, emp, fr, box b3 _]) rfl (by kernel_rfl) (by kernel_rfl) (by kernel_rfl) #[true, true, true, false, false, true, true, false, false, false, false] (by kernel_rfl) rfl (y_fieldAddr_box fa52_0 rfl) rfl rfl rfl (weak_emp 1 rfl) (listed' := #[true, true, true, true, false, false, false, false, false, false, false]) rfl ?_
  refine ge_take 4 (TK := [box bg _, emp, fr, box b3 _]) rfl (by kernel_rfl) (by kernel_rfl) (by kernel_rfl) #[true, true, true, true, false, true, true, false, false, false, false] (by kernel_rfl) rfl (y_load Tryd.isAgg22 rfl (cell_box 0 rfl rfl)) rfl rfl rfl (weak_emp 1 rfl) (listed' := #[true, true, true, true, true, false, false, false, false, false, false]) rfl ?_
  refine ge_take 5 (TK := [box bg _, emp, fr, box b3 _]) rfl (by kernel_rfl) (by kernel_rfl) (by kernel_rfl) #[true, true, true, true, true, false, false, false, false, false, false] (by kernel_rfl) rfl (y_loads (cs := [_, _, _, _]) Tryd.isAgg47 Tryd.sizeOf47 rfl rfl (cells_box 3 rfl)) rfl rfl rfl (weak_emp 1 rfl) (listed' := #[true, true, true, true, true, true, false, false, false, false, false]) rfl ?_
  refine ge_one 6 (k' := 0) (listed' := #[true, true, true, true, true, true, true, false, false, false, false]) (by kernel_rfl) rfl rfl rfl ?_
  refine gop_lit (vs := [.agg #[_, _, _, _]]) (cells := #[_, _, _, _]) Tryd.underlying22 Tryd.sizeOf47 Tryd.zeroValue47 rfl (by decide) (by decide) rfl rfl rfl rfl (fun b11 hb11 => ?_)
  refine gops_nil ?_
  refine ge_fin (TK := [box bg _, emp, fr, box b3 _]) rfl (weak_trans (weak_take (T' := [box bg _, rowl _ _ _ _ _ _, fr, box b3 _]) rfl) (weak_emp 1 rfl)) ?_
  refine ge_one 7 (k' := 0) (listed' := #[true, true, true, true, true, true, true, true, false, false, false]) (by kernel_rfl) rfl rfl rfl ?_
  refine gop_append 1 (f := pnCells) (l2 := [n]) Tryd.underlying22 el47 wide_pn (v := .slice _ _ _) rfl rfl rfl rfl (fun h => by cases h) (by simp [maxLen]; omega) (by simp; omega) (src_box 4 rfl rfl) rfl (fun v12 => ?_)
  refine gops_fact (fun w hM => own_form (hM.own 1 rfl)) ?_
  rintro ⟨A12, c12, rfl, hc12, hm12⟩
  refine gops_nil ?_
  refine ge_fin (TK := [box bg _, emp, fr, box b3 _]) rfl (weak_trans (weak_take (T' := [box bg _, rowl _ _ _ _ _ _, fr, box b3 _]) rfl) (weak_emp 1 rfl)) ?_
  refine ge_take 8 (TK := [box bg _, emp, fr, box b3 _]) rfl (by kernel_rfl) (by kernel_rfl) (by kernel_rfl) #[true, true, true, true, true, true, true, true, false, false, false] (by kernel_rfl) rfl (y_nilCheck rfl) rfl rfl rfl (weak_trans (weak_take (T' := [box bg _, rowl _ _ _ _ _ _, fr, box b3 _]) rfl) (weak_emp 1 rfl)) (listed' := #[true, true, true, true, true, true, true, true, true, false, false]) rfl ?_
  refine ge_take 9 (TK := [box bg _, emp, fr, box b3 _]) rfl (by kernel_rfl) (by kernel_rfl) (by kernel_rfl) #[true, true, true, true, true, true, true, true, true, false, false] (by kernel_rfl) rfl (y_fieldAddr_box fa52_0 rfl) rfl rfl rfl (weak_trans (weak_take (T' := [box bg _, rowl _ _ _ _ _ _, fr, box b3 _]) rfl) (weak_emp 1 rfl)) (listed' := #[true, true, true, true, true, true, true, true, true, true, false]) rfl ?_
  refine ge_one 10 (k' := 1) (listed' := #[true, true, true, true, true, true, true, true, true, true, true]) (by kernel_rfl) rfl rfl rfl ?_
  refine gop_store 0 (v := .slice A12 _ c12) (cs' := #[_]) rfl rfl Tryd.sizeOf22 rfl rfl rfl rfl (Nat.le_of_ble_eq_true rfl) rfl rfl ?_
  refine gops_nil ?_
  refine ge_fin (TK := []) rfl (weak_nil) ?_
  refine ge_done (by kernel_rfl) ?_
  refine hN2 _ _ ?_
  refine gT [box bg _, rowl _ _ _ _ _ _, fr, box b3 _, box b11 _] rfl ?_
  refine gfrom [(0, .pointer (some ⟨bg, 0, none⟩))] ⟨rfl, trivial⟩ fun σ => ?_
  refine gseq fun N3 hN3 => ?_
  refine greg ?_
  refine gop (y_move (v := .pointer (some ⟨bg, 0, none⟩)) rfl) rfl rfl rfl ?_
  refine gop (y_nilCheck rfl) rfl rfl rfl ?_
  refine gop (y_fieldAddr_box fa52_0 rfl) rfl rfl rfl ?_
  refine gop (y_load Tryd.isAgg22 rfl (cell_box 0 rfl rfl)) rfl rfl rfl ?_
  refine gop (y_len Tryd.underlying22 rfl) rfl rfl rfl ?_
  refine gop (y_sub rfl rfl ⟨by first | omega | (simp; done) | (simp; omega), by first | omega | (simp; done) | (simp; omega)⟩) rfl rfl rfl ?_
  refine gop (y_assign (v := .int _ _) rfl) rfl rfl rfl ?_
  refine gops_nil ?_
  refine hN3 _ _ ?_
  refine gfrom [(4, .int _ _)] ⟨rfl, trivial⟩ fun σ => ?_
  refine gret fun w1 hM => ?_
  refine ⟨_, res1 rfl (rt (v := .int _ _) rfl), ?_⟩
  exact ⟨A12, c12, by simp, weak_take (T' := [_, _, fr]) rfl _ hM⟩
set_option maxHeartbeats 4000000 in
theorem polMade1_any (w : World) (bg bc : Nat) (B : Option Addr) (t : Tr) (hto : t.ok) (hsz : t.size ≤ 1000) (hcell : w.cell? ⟨bg, 0, none⟩ = some (.slice B (post t 0).length bc)) (hrd : Rdl w 0 4 pnCells B (post t 0)) (hlc : (post t 0).length ≤ bc) (hcm : bc ≤ maxLen) : Calls Tryd.prog 26 #[.pointer (some ⟨bg, 0, none⟩)] w fun e w' => e = .returned (.tuple #[.agg #[.slice (if 24 < (t).size ∨ 12 < (t).depth then none else B) (if 24 < (t).size ∨ 12 < (t).depth then 0 else (post t 0).length) (if 24 < (t).size ∨ 12 < (t).depth then 0 else bc)], fv (madeR t).1]) ∧ Below w.heap.size w w' := by
  have hpl := post_len t 0
  have hps := t.pos
  have hdd := depL_post hto
  refine gcalls Tryd.func26 rfl Tryd.ntmps26 (Nat.le_of_ble_eq_true rfl) ?_
  refine gfrom [(0, .pointer (some ⟨bg, 0, none⟩))] ⟨rfl, trivial⟩ fun σ => ?_
  refine gseq fun N1 hN1 => ?_
  refine greg ?_
  refine gop_alloc (cs := #[.slice none 0 0]) Tryd.zeroValue24 rfl rfl (fun b2 hb2 => ?_)
  refine gop_alloc (cs := #[.int .i64 0, .int .i64 0]) Tryd.zeroValue28 rfl rfl (fun b3 hb3 => ?_)
  refine gops_nil ?_
  refine hN1 _ _ ?_
  refine gT [box b2 _, box b3 _] rfl ?_
  refine gfrom [(0, .pointer (some ⟨bg, 0, none⟩)), (2, .pointer _), (3, .pointer _)] ⟨rfl, rfl, rfl, trivial⟩ fun σ => ?_
  refine gseq fun N2 hN2 => ?_
  refine greg ?_
  refine gop (y_move (v := .pointer (some ⟨bg, 0, none⟩)) rfl) rfl rfl rfl ?_
  refine gop (y_nilCheck rfl) rfl rfl rfl ?_
  refine gop (y_fieldAddr_box fa52_0 rfl) rfl rfl rfl ?_
  refine gop (y_load Tryd.isAgg22 rfl (cell_base hcell)) rfl rfl rfl ?_
  refine gop (y_build (vs := [(0, .slice _ _ _)]) (cells := #[_]) rfl (bd24_0 _ _ _)) rfl rfl rfl ?_
  refine gop_alloc (cs := #[.slice none 0 0]) Tryd.zeroValue24 rfl rfl (fun b4 hb4 => ?_)
  refine gop_store 2 (v := .agg #[_]) (cs' := #[_]) rfl rfl Tryd.sizeOf24 rfl rfl rfl rfl (Nat.le_of_ble_eq_true rfl) rfl rfl ?_
  refine gops_nil ?_
  refine hN2 _ _ ?_
  refine gT [box b2 _, box b3 _, box b4 _] rfl ?_
  refine gfrom [(2, .pointer _), (3, .pointer _), (4, .pointer _)] ⟨rfl, rfl, rfl, trivial⟩ fun σ => ?_
  refine gseq fun N3 hN3 => ?_
  refine gseq fun N4 hN4 => ?_
  refine greg ?_
  refine gop (y_fieldAddr_box fa24_0 rfl) rfl rfl rfl ?_
  refine gop (y_load Tryd.isAgg22 rfl (cell_box 2 rfl rfl)) rfl rfl rfl ?_
  refine gop (y_len Tryd.underlying22 rfl) rfl rfl rfl ?_
  refine gop (y_gtr rfl rfl) rfl rfl rfl ?_
  refine gop (y_move (v := .bool _) rfl) rfl rfl rfl ?_
  refine gop_if (want := false) rfl rfl rfl rfl rfl rfl (fun hg14 => ?_) (fun hg14 => ?_)
  · 
    have hg14d := of_decide_eq_false hg14
    refine gop (y_bare (y_loads (cs := [_]) Tryd.isAgg24 Tryd.sizeOf24 rfl rfl (cells_box 2 rfl))) rfl rfl rfl ?_
    refine gop_on rfl rfl rfl rfl hg14 ?_
    refine gop_pure (e_call (vs := [.agg #[_]]) Tryd.func29 rfl (by kernel_rfl) rfl) (fun w hM => polDepth_any w B bc (post t 0) (hrd.base hM) hlc hcm (by omega) (by omega) (linked_post hto)) rfl rfl rfl ?_
    refine gop_on rfl rfl rfl rfl hg14 ?_
    refine gop (y_bare (y_gtr rfl rfl)) rfl rfl rfl ?_
    refine gop (y_pick_f (v := .bool _) rfl hg14 rfl) rfl rfl rfl ?_
    refine gops_nil ?_
    refine hN4 _ _ ?_
    refine gfrom [(2, .pointer _), (3, .pointer _), (4, .pointer _), (18, .bool _)] ⟨rfl, rfl, rfl, rfl, trivial⟩ fun σ => ?_
    refine gcond (b := _) rfl (fun hc18 => ?_) (fun hc18 => ?_)
    · 
      replace hc18 := of_decide_eq_true hc18
      have hB : 24 < t.size ∨ 12 < t.depth := by omega
      have hF : (madeR t).1 = ⟨10, -1⟩ := by rw [madeR, if_pos hB]
      refine gseq fun N5 hN5 => ?_
      refine greg ?_
      refine gop (y_build (vs := []) (cells := #[.slice none 0 0]) rfl bd24_) rfl rfl rfl ?_
      refine gop (y_build (vs := [(0, _), (1, _)]) (cells := #[_, _]) rfl (bd28_0_1 _ _)) rfl rfl rfl ?_
      refine gop_store 0 (v := .agg #[_]) (cs' := #[_]) rfl rfl Tryd.sizeOf24 rfl rfl rfl rfl (Nat.le_of_ble_eq_true rfl) rfl rfl ?_
      refine gop_store 1 (v := .agg #[_, _]) (cs' := #[_, _]) rfl rfl Tryd.sizeOf28 rfl rfl rfl rfl (Nat.le_of_ble_eq_true rfl) rfl rfl ?_
      refine gops_nil ?_
      refine hN5 _ _ ?_
      refine gT [box b2 _, box b3 _, box b4 _] rfl ?_
      refine gfrom [(2, .pointer _), (3, .pointer _)] ⟨rfl, rfl, trivial⟩ fun σ => ?_
      refine gret fun w1 hM => ?_
      refine ⟨_, res2 rfl (rc 0 (cs := [_]) hM rfl rfl Tryd.isAgg24 Tryd.sizeOf24 rfl) (rc 1 (cs := [_, _]) hM rfl rfl Tryd.isAgg28 Tryd.sizeOf28 rfl), ?_⟩
      exact ⟨by rw [hF]; first | (simp only [if_pos hB]; done) | (simp only [if_neg hB]; done), hM.low⟩
    · 
      replace hc18 := of_decide_eq_false hc18
      have hB : ¬ (24 < t.size ∨ 12 < t.depth) := by omega
      have hF : (madeR t).1 = ⟨0, 0⟩ := by rw [madeR, if_neg hB]
      refine gskip ?_
      refine hN3 _ _ ?_
      refine gfrom [(2, .pointer _), (3, .pointer _), (4, .pointer _)] ⟨rfl, rfl, rfl, trivial⟩ fun σ => ?_
      refine gseq fun N6 hN6 => ?_
      refine greg ?_
      refine gop (y_loads (cs := [_]) Tryd.isAgg24 Tryd.sizeOf24 rfl rfl (cells_box 2 rfl)) rfl rfl rfl ?_
      refine gop (y_build (vs := []) (cells := #[.int .i64 0, .int .i64 0]) rfl bd28_) rfl rfl rfl ?_
      refine gop_store 0 (v := .agg #[_]) (cs' := #[_]) rfl rfl Tryd.sizeOf24 rfl rfl rfl rfl (Nat.le_of_ble_eq_true rfl) rfl rfl ?_
      refine gop_store 1 (v := .agg #[_, _]) (cs' := #[_, _]) rfl rfl Tryd.sizeOf28 rfl rfl rfl rfl (Nat.le_of_ble_eq_true rfl) rfl rfl ?_
      refine gops_nil ?_
      refine hN6 _ _ ?_
      refine gT [box b2 _, box b3 _, box b4 _] rfl ?_
      refine gfrom [(2, .pointer _), (3, .pointer _)] ⟨rfl, rfl, trivial⟩ fun σ => ?_
      refine gret fun w1 hM => ?_
      refine ⟨_, res2 rfl (rc 0 (cs := [_]) hM rfl rfl Tryd.isAgg24 Tryd.sizeOf24 rfl) (rc 1 (cs := [_, _]) hM rfl rfl Tryd.isAgg28 Tryd.sizeOf28 rfl), ?_⟩
      exact ⟨by rw [hF]; first | (simp only [if_pos hB]; done) | (simp only [if_neg hB]; done), hM.low⟩
  · 
    have hg14d := of_decide_eq_true hg14
    refine gop_off rfl rfl rfl rfl hg14 rfl rfl ?_
    refine gop_off rfl rfl rfl rfl hg14 rfl rfl ?_
    refine gop (y_pick_t (v := .bool _) rfl hg14 rfl) rfl rfl rfl ?_
    refine gops_nil ?_
    refine hN4 _ _ ?_
    refine gfrom [(2, .pointer _), (3, .pointer _), (4, .pointer _), (18, .bool _)] ⟨rfl, rfl, rfl, rfl, trivial⟩ fun σ => ?_
    refine gcond (b := _) rfl (fun hc18 => ?_) (fun hc18 => ?_)
    · 
      have hB : 24 < t.size ∨ 12 < t.depth := by omega
      have hF : (madeR t).1 = ⟨10, -1⟩ := by rw [madeR, if_pos hB]
      refine gseq fun N7 hN7 => ?_
      refine greg ?_
      refine gop (y_build (vs := []) (cells := #[.slice none 0 0]) rfl bd24_) rfl rfl rfl ?_
      refine gop (y_build (vs := [(0, _), (1, _)]) (cells := #[_, _]) rfl (bd28_0_1 _ _)) rfl rfl rfl ?_
      refine gop_store 0 (v := .agg #[_]) (cs' := #[_]) rfl rfl Tryd.sizeOf24 rfl rfl rfl rfl (Nat.le_of_ble_eq_true rfl) rfl rfl ?_
      refine gop_store 1 (v := .agg #[_, _]) (cs' := #[_, _]) rfl rfl Tryd.sizeOf28 rfl rfl rfl rfl (Nat.le_of_ble_eq_true rfl) rfl rfl ?_
      refine gops_nil ?_
      refine hN7 _ _ ?_
      refine gT [box b2 _, box b3 _, box b4 _] rfl ?_
      refine gfrom [(2, .pointer _), (3, .pointer _)] ⟨rfl, rfl, trivial⟩ fun σ => ?_
      refine gret fun w1 hM => ?_
      refine ⟨_, res2 rfl (rc 0 (cs := [_]) hM rfl rfl Tryd.isAgg24 Tryd.sizeOf24 rfl) (rc 1 (cs := [_, _]) hM rfl rfl Tryd.isAgg28 Tryd.sizeOf28 rfl), ?_⟩
      exact ⟨by rw [hF]; first | (simp only [if_pos hB]; done) | (simp only [if_neg hB]; done), hM.low⟩
    · 
      cases hc18
set_option maxHeartbeats 8000000 in
theorem polNormal1_any (w0 : World) (A : Option Addr) (c : Nat) (l : List PN) (hl : Rdl w0 0 4 pnCells A l) (hlc : l.length ≤ c) (hcm : c ≤ maxLen) (bg : Nat) (z : Nat) : ∀ (t : Tr) (x : Bool) (i : Int) (m : Nat) (w : World) (B : Option Addr) (bc : Nat) (o : List PN) (fr : Reg), t.size = z → i = (m : Int) → t.ok → At l m t → o.length + 2 * t.size ≤ 900 →
    Mem w0 [box bg (.cells #[.slice B (o.length) bc] 52), rowl pnCells w0.heap.size 47 4 (.slice B (o).length bc) (o), fr] w → Calls Tryd.prog 25 #[.pointer (some ⟨bg, 0, none⟩), .agg #[.slice A l.length c], .int .i64 i, .bool x] w fun e w' => ∃ B' bc', e = .returned (.int .i64 ((o.length + (nrm t x).size : Nat) - 1)) ∧ Mem w0 [box bg (.cells #[.slice B' ((o ++ post (nrm t x) o.length).length) bc'] 52), rowl pnCells w0.heap.size 47 4 (.slice B' (o ++ post (nrm t x) o.length).length bc') (o ++ post (nrm t x) o.length), fr] w' := by
  have hlm : l.length ≤ 9223372036854775807 := by have h9 := Nat.le_trans hlc hcm; unfold maxLen at h9; omega
  refine Nat.strongRecOn z ?_
  intro z ih t x i m w B bc o fr hz hi hok hat hol hM0
  have hm1 := hat.lt
  obtain ⟨ad, rfl, -, hca⟩ := hl.at_ hm1
  obtain ⟨hsm, -⟩ := tree_at hok hat hm1
  obtain ⟨hk1, hk7⟩ := tree_kind hok hat hm1
  have hps := t.pos
  have hnr := nrm_ok t x hok
  refine gcallsT Tryd.func25 rfl Tryd.ntmps25 (Nat.le_of_ble_eq_true rfl) hM0 ?_
  refine gfrom [(0, .pointer (some ⟨bg, 0, none⟩)), (1, .agg #[_]), (2, .int _ _), (3, .bool _)] ⟨rfl, rfl, rfl, rfl, trivial⟩ fun σ => ?_
  refine gseq fun N1 hN1 => ?_
  refine greg ?_
  refine gop_box (v := .agg #[_]) (cs := #[_]) rfl rfl rfl (fun b5 hb5 => ?_)
  refine gop (y_assign (v := .int _ _) rfl) rfl rfl rfl ?_
  refine gops_nil ?_
  refine hN1 _ _ ?_
  refine gT [box bg _, rowl _ _ _ _ _ _, fr, box b5 _] rfl ?_
  refine gfrom [(0, .pointer (some ⟨bg, 0, none⟩)), (2, .int _ _), (3, .bool _), (5, .pointer _)] ⟨rfl, rfl, rfl, rfl, trivial⟩ fun σ => ?_
  refine gseq fun N2 hN2 => ?_
  refine greg ?_
  refine gop (y_fieldAddr_box fa24_0 rfl) rfl rfl rfl ?_
  refine gop (y_load Tryd.isAgg22 rfl (cell_box 3 rfl rfl)) rfl rfl rfl ?_
  refine gop (y_move (v := .int _ _) rfl) rfl rfl rfl ?_
  refine gop (y_indexAddr (m := m) Tryd.underlying22 Tryd.sizeOf47 rfl rfl (by omega) (by omega) (by omega)) rfl rfl rfl ?_
  refine gop (y_loads (cs := [_, _, _, _]) Tryd.isAgg47 Tryd.sizeOf47 rfl rfl (cells_base hca)) rfl rfl rfl ?_
  refine gop_alloc (cs := #[.int .i64 0, .int .i64 0, .int .i64 0, .int .i64 0]) Tryd.zeroValue47 rfl rfl (fun b9 hb9 => ?_)
  refine gop_store 4 (v := .agg #[_, _, _, _]) (cs' := #[_, _, _, _]) rfl rfl Tryd.sizeOf47 rfl rfl rfl rfl (Nat.le_of_ble_eq_true rfl) rfl rfl ?_
  refine gops_nil ?_
  refine hN2 _ _ ?_
  refine gT [box bg _, rowl _ _ _ _ _ _, fr, box b5 _, box b9 _] rfl ?_
  refine gfrom [(0, .pointer (some ⟨bg, 0, none⟩)), (3, .bool _), (5, .pointer _), (9, .pointer _)] ⟨rfl, rfl, rfl, rfl, trivial⟩ fun σ => ?_
  refine gseq fun N3 hN3 => ?_
  refine gseq fun N4 hN4 => ?_
  refine greg ?_
  refine gop (y_fieldAddr_box fa47_0 rfl) rfl rfl rfl ?_
  refine gop (y_load Tryd.isAgg3 rfl (cell_box 4 rfl rfl)) rfl rfl rfl ?_
  refine gop_pure (e_call (vs := [.int _ _]) Tryd.func28 rfl (by kernel_rfl) rfl) (fun w hM => polOps_any w _) rfl rfl rfl ?_
  refine gops_nil ?_
  refine hN4 _ _ ?_
  refine gfrom [(0, .pointer (some ⟨bg, 0, none⟩)), (3, .bool _), (5, .pointer _), (9, .pointer _), (21, .int _ _)] ⟨rfl, rfl, rfl, rfl, rfl, trivial⟩ fun σ => ?_
  refine gblock ?_
  refine gseq fun N5 hN5 => ?_
  refine greg ?_
  refine gop (y_eql rfl rfl) rfl rfl rfl ?_
  refine gop (y_assign (v := .bool _) rfl) rfl rfl rfl ?_
  refine gops_nil ?_
  refine hN5 _ _ ?_
  refine gfrom [(0, .pointer (some ⟨bg, 0, none⟩)), (3, .bool _), (5, .pointer _), (9, .pointer _), (21, .int _ _), (22, .bool _)] ⟨rfl, rfl, rfl, rfl, rfl, rfl, trivial⟩ fun σ => ?_
  refine gcond (b := _) rfl (fun hc22 => ?_) (fun hc22 => ?_)
  · 
    replace hc22 := of_decide_eq_true hc22
    have h5k := opN_one (by omega : opN l[m].kind = 1)
    have hnk : ¬ l[m].kind < 5 := by omega
    obtain ⟨hi1, hk7, d, q, hdo, hdt, hdl, hds, hdq, h5, h67⟩ := tree_big hok hat hm1 hnk
    have hdp := depth_pos d
    have hdz := hdt.size_le
    have hte := h5 h5k
    have hn : nrm t x = nrm d (!x) := by rw [hte, nrm]
    have hsd : t.size = d.size + 1 := by rw [hte]; rfl
    refine gseq fun N6 hN6 => ?_
    refine greg ?_
    refine gop (y_move (v := .pointer (some ⟨bg, 0, none⟩)) rfl) rfl rfl rfl ?_
    refine gop (y_loads (cs := [_]) Tryd.isAgg24 Tryd.sizeOf24 rfl rfl (cells_box 3 rfl)) rfl rfl rfl ?_
    refine gop (y_fieldAddr_box fa47_2 rfl) rfl rfl rfl ?_
    refine gop (y_load Tryd.isAgg3 rfl (cell_box 4 rfl rfl)) rfl rfl rfl ?_
    refine gop (y_move (v := .bool _) rfl) rfl rfl rfl ?_
    refine gop (y_not rfl) rfl rfl rfl ?_
    refine gop_does2 0 1 (fun v r s G => ∃ B' bc', v = .int .i64 (((o).length + (nrm d (!x)).size : Nat) - 1) ∧ r = box bg (.cells #[.slice B' ((o ++ post (nrm d (!x)) (o).length).length) bc'] 52) ∧ s = rowl pnCells w0.heap.size 47 4 (.slice B' (o ++ post (nrm d (!x)) (o).length).length bc') (o ++ post (nrm d (!x)) (o).length) ∧ G = []) (e_call (vs := [.pointer (some ⟨bg, 0, none⟩), .agg #[_], .int _ _, .bool _]) Tryd.func25 rfl (by kernel_rfl) rfl) rfl rfl rfl (fun w fr1 hfr hM => (ih d.size (by omega) d (!x) _ q w _ _ (o) fr1 rfl hdl hdo hdt (by omega) hM).mono fun _ _ ⟨B', bc', h1, h2⟩ => ⟨_, _, _, [], h1, ⟨B', bc', rfl, rfl, rfl, rfl⟩, h2⟩) rfl rfl rfl ?_
    rintro _ _ _ _ ⟨B30, bc30, rfl, rfl, rfl, rfl⟩
    refine gop (y_assign (v := .int _ _) rfl) rfl rfl rfl ?_
    refine gops_nil ?_
    refine hN6 _ _ ?_
    refine gT [box bg _, rowl _ _ _ _ _ _, fr, box b5 _, box b9 _] rfl ?_
    refine gfrom [(8, .int _ _)] ⟨rfl, trivial⟩ fun σ => ?_
    refine gret fun w1 hM => ?_
    refine ⟨_, res1 rfl (rt (v := .int _ _) rfl), ?_⟩
    rw [hn]
    exact ⟨B30, bc30, rfl, weak_take (T' := [_, _, fr]) rfl _ hM⟩
  · 
    replace hc22 := of_decide_eq_false hc22
    refine gseq fun N7 hN7 => ?_
    refine greg ?_
    refine gop (y_eql rfl rfl) rfl rfl rfl ?_
    refine gop (y_assign (v := .bool _) rfl) rfl rfl rfl ?_
    refine gops_nil ?_
    refine hN7 _ _ ?_
    refine gfrom [(0, .pointer (some ⟨bg, 0, none⟩)), (3, .bool _), (5, .pointer _), (9, .pointer _), (31, .bool _)] ⟨rfl, rfl, rfl, rfl, rfl, trivial⟩ fun σ => ?_
    refine gcond (b := _) rfl (fun hc31 => ?_) (fun hc31 => ?_)
    · 
      replace hc31 := of_decide_eq_true hc31
      have h67k := opN_two (by omega : opN l[m].kind = 2)
      have hnk : ¬ l[m].kind < 5 := by omega
      obtain ⟨hi1, hk7, d, q, hdo, hdt, hdl, hds, hdq, h5, h67⟩ := tree_big hok hat hm1 hnk
      have hdp := depth_pos d
      have hdz := hdt.size_le
      obtain ⟨b, hbo, hbt, hbs, hbr, he⟩ := h67 (by omega)
      have hbp := b.pos
      have hda := nrm_ok d x hdo
      have hba := nrm_ok b x hbo
      have hsd : t.size = d.size + b.size + 1 := by rw [he]; rfl
      have hn : nrm t x = .bin (if x = true then 13 - l[m].kind else l[m].kind) (nrm d x) (nrm b x) := by rw [he, nrm]
      have hal1 := app_len o (nrm d x)
      have hal2 := app_len (o ++ post (nrm d x) o.length) (nrm b x)
      refine gseq fun N8 hN8 => ?_
      refine greg ?_
      refine gop (y_fieldAddr_box fa47_0 rfl) rfl rfl rfl ?_
      refine gop (y_load Tryd.isAgg3 rfl (cell_box 4 rfl rfl)) rfl rfl rfl ?_
      refine gop (y_assign (v := .int _ _) rfl) rfl rfl rfl ?_
      refine gops_nil ?_
      refine hN8 _ _ ?_
      refine gfrom [(0, .pointer (some ⟨bg, 0, none⟩)), (3, .bool _), (5, .pointer _), (9, .pointer _), (10, .int _ _)] ⟨rfl, rfl, rfl, rfl, rfl, trivial⟩ fun σ => ?_
      refine gseq fun N9 hN9 => ?_
      refine gfrom [(0, .pointer (some ⟨bg, 0, none⟩)), (3, .bool _), (5, .pointer _), (9, .pointer _), (10, .int _ _)] ⟨rfl, rfl, rfl, rfl, rfl, trivial⟩ fun σ => ?_
      refine gcut3 (Lf := [(0, .pointer (some ⟨bg, 0, none⟩)), (3, .bool _), (5, .pointer _), (9, .pointer _)]) (G := Unit) (fun g => True) (fun g => [(10, .int .i64 (if x = true then 13 - l[m].kind else l[m].kind))]) (fun g => []) ⟨rfl, rfl, rfl, rfl, trivial⟩ ?_ ?_
      ·
        refine gseq fun N10 hN10 => ?_
        refine greg ?_
        refine gop (y_move (v := .bool _) rfl) rfl rfl rfl ?_
        refine gops_nil ?_
        refine hN10 _ _ ?_
        refine gfrom [(0, .pointer (some ⟨bg, 0, none⟩)), (3, .bool _), (5, .pointer _), (9, .pointer _), (10, .int _ _), (35, .bool _)] ⟨rfl, rfl, rfl, rfl, rfl, rfl, trivial⟩ fun σ => ?_
        refine gcond (b := _) rfl (fun hc35 => ?_) (fun hc35 => ?_)
        · 
          refine greg ?_
          refine gop (y_move (v := .int _ _) rfl) rfl rfl rfl ?_
          refine gop (y_sub rfl rfl ⟨by omega, by omega⟩) rfl rfl rfl ?_
          refine gop (y_assign (v := .int _ _) rfl) rfl rfl rfl ?_
          refine gops_nil ?_
          refine gcut3_end (()) (trivial) ⟨(congrArg (Value.int .i64) (by first | (rw [if_pos hc35]; done) | (rw [if_neg (by simp [hc35])]; done))), trivial⟩ ⟨rfl, rfl, rfl, rfl, trivial⟩ ⟨_, rfl⟩
        · 
          refine gskip ?_
          refine gcut3_end (()) (trivial) ⟨(congrArg (Value.int .i64) (by first | (rw [if_pos hc35]; done) | (rw [if_neg (by simp [hc35])]; done))), trivial⟩ ⟨rfl, rfl, rfl, rfl, trivial⟩ ⟨_, rfl⟩
      ·
        intro g hcut σ
        refine hN9 _ _ ?_
        refine gseq fun N11 hN11 => ?_
        refine greg ?_
        refine gop (y_move (v := .pointer (some ⟨bg, 0, none⟩)) rfl) rfl rfl rfl ?_
        refine gop (y_loads (cs := [_]) Tryd.isAgg24 Tryd.sizeOf24 rfl rfl (cells_box 3 rfl)) rfl rfl rfl ?_
        refine gop (y_fieldAddr_box fa47_2 rfl) rfl rfl rfl ?_
        refine gop (y_load Tryd.isAgg3 rfl (cell_box 4 rfl rfl)) rfl rfl rfl ?_
        refine gop (y_move (v := .bool _) rfl) rfl rfl rfl ?_
        refine gop_does2 0 1 (fun v r s G => ∃ B' bc', v = .int .i64 (((o).length + (nrm d x).size : Nat) - 1) ∧ r = box bg (.cells #[.slice B' ((o ++ post (nrm d x) (o).length).length) bc'] 52) ∧ s = rowl pnCells w0.heap.size 47 4 (.slice B' (o ++ post (nrm d x) (o).length).length bc') (o ++ post (nrm d x) (o).length) ∧ G = []) (e_call (vs := [.pointer (some ⟨bg, 0, none⟩), .agg #[_], .int _ _, .bool _]) Tryd.func25 rfl (by kernel_rfl) rfl) rfl rfl rfl (fun w fr1 hfr hM => (ih d.size (by omega) d x _ q w _ _ (o) fr1 rfl hdl hdo hdt (by omega) hM).mono fun _ _ ⟨B', bc', h1, h2⟩ => ⟨_, _, _, [], h1, ⟨B', bc', rfl, rfl, rfl, rfl⟩, h2⟩) rfl rfl rfl ?_
        rintro _ _ _ _ ⟨B43, bc43, rfl, rfl, rfl, rfl⟩
        refine gop (y_assign (v := .int _ _) rfl) rfl rfl rfl ?_
        refine gops_nil ?_
        refine hN11 _ _ ?_
        refine gT [box bg _, rowl _ _ _ _ _ _, fr, box b5 _, box b9 _] rfl ?_
        refine gfrom [(0, .pointer (some ⟨bg, 0, none⟩)), (3, .bool _), (5, .pointer _), (9, .pointer _), (10, .int _ _), (11, .int _ _)] ⟨rfl, rfl, rfl, rfl, rfl, rfl, trivial⟩ fun σ => ?_
        refine gseq fun N12 hN12 => ?_
        refine greg ?_
        refine gop (y_move (v := .pointer (some ⟨bg, 0, none⟩)) rfl) rfl rfl rfl ?_
        refine gop (y_loads (cs := [_]) Tryd.isAgg24 Tryd.sizeOf24 rfl rfl (cells_box 3 rfl)) rfl rfl rfl ?_
        refine gop (y_fieldAddr_box fa47_3 rfl) rfl rfl rfl ?_
        refine gop (y_load Tryd.isAgg3 rfl (cell_box 4 rfl rfl)) rfl rfl rfl ?_
        refine gop (y_move (v := .bool _) rfl) rfl rfl rfl ?_
        refine gop_does2 0 1 (fun v r s G => ∃ B' bc', v = .int .i64 (((o ++ post (nrm d x) o.length).length + (nrm b x).size : Nat) - 1) ∧ r = box bg (.cells #[.slice B' ((o ++ post (nrm d x) o.length ++ post (nrm b x) (o ++ post (nrm d x) o.length).length).length) bc'] 52) ∧ s = rowl pnCells w0.heap.size 47 4 (.slice B' (o ++ post (nrm d x) o.length ++ post (nrm b x) (o ++ post (nrm d x) o.length).length).length bc') (o ++ post (nrm d x) o.length ++ post (nrm b x) (o ++ post (nrm d x) o.length).length) ∧ G = []) (e_call (vs := [.pointer (some ⟨bg, 0, none⟩), .agg #[_], .int _ _, .bool _]) Tryd.func25 rfl (by kernel_rfl) rfl) rfl rfl rfl (fun w fr1 hfr hM => (ih b.size (by omega) b x _ (m - 1) w _ _ (o ++ post (nrm d x) o.length) fr1 rfl hbr hbo hbt (by omega) hM).mono fun _ _ ⟨B', bc', h1, h2⟩ => ⟨_, _, _, [], h1, ⟨B', bc', rfl, rfl, rfl, rfl⟩, h2⟩) rfl rfl rfl ?_
        rintro _ _ _ _ ⟨B49, bc49, rfl, rfl, rfl, rfl⟩
        refine gop (y_assign (v := .int _ _) rfl) rfl rfl rfl ?_
        refine gops_nil ?_
        refine hN12 _ _ ?_
        refine gT [box bg _, rowl _ _ _ _ _ _, fr, box b5 _, box b9 _] rfl ?_
        refine gfrom [(0, .pointer (some ⟨bg, 0, none⟩)), (10, .int _ _), (11, .int _ _), (12, .int _ _)] ⟨rfl, rfl, rfl, rfl, trivial⟩ fun σ => ?_
        refine gseq fun N13 hN13 => ?_
        refine greg ?_
        refine gop (y_move (v := .pointer (some ⟨bg, 0, none⟩)) rfl) rfl rfl rfl ?_
        refine gop (y_move (v := .int _ _) rfl) rfl rfl rfl ?_
        refine gop (y_move (v := .int _ _) rfl) rfl rfl rfl ?_
        refine gop (y_move (v := .int _ _) rfl) rfl rfl rfl ?_
        refine gop (y_build (vs := [(0, .int _ _), (2, .int _ _), (3, .int _ _)]) (cells := #[_, .int .i64 0, _, _]) rfl (bd47_0_2_3 _ _ _)) rfl rfl rfl ?_
        refine gop_does2 0 1 (fun v r s G => ∃ B' bc', v = .int .i64 (((o ++ post (nrm d x) o.length) ++ post (nrm b x) (o ++ post (nrm d x) o.length).length).length : Nat) ∧ r = box bg (.cells #[.slice B' (((o ++ post (nrm d x) o.length) ++ post (nrm b x) (o ++ post (nrm d x) o.length).length ++ [(⟨if x = true then 13 - l[m].kind else l[m].kind, 0, ((o.length + (nrm d x).size : Nat) : Int) - 1, (((o ++ post (nrm d x) o.length).length + (nrm b x).size : Nat) : Int) - 1⟩ : PN)]).length) bc'] 52) ∧ s = rowl pnCells w0.heap.size 47 4 (.slice B' ((o ++ post (nrm d x) o.length) ++ post (nrm b x) (o ++ post (nrm d x) o.length).length ++ [(⟨if x = true then 13 - l[m].kind else l[m].kind, 0, ((o.length + (nrm d x).size : Nat) : Int) - 1, (((o ++ post (nrm d x) o.length).length + (nrm b x).size : Nat) : Int) - 1⟩ : PN)]).length bc') ((o ++ post (nrm d x) o.length) ++ post (nrm b x) (o ++ post (nrm d x) o.length).length ++ [(⟨if x = true then 13 - l[m].kind else l[m].kind, 0, ((o.length + (nrm d x).size : Nat) : Int) - 1, (((o ++ post (nrm d x) o.length).length + (nrm b x).size : Nat) : Int) - 1⟩ : PN)]) ∧ G = []) (e_call (vs := [.pointer (some ⟨bg, 0, none⟩), .agg #[_, _, _, _]]) Tryd.func41 rfl (by kernel_rfl) rfl) rfl rfl rfl (fun w fr1 hfr hM => (polAdd1_any _ w bg _ _ ((o ++ post (nrm d x) o.length) ++ post (nrm b x) (o ++ post (nrm d x) o.length).length) fr1 hM (by omega) ((⟨if x = true then 13 - l[m].kind else l[m].kind, 0, ((o.length + (nrm d x).size : Nat) : Int) - 1, (((o ++ post (nrm d x) o.length).length + (nrm b x).size : Nat) : Int) - 1⟩ : PN))).mono fun _ _ ⟨B', bc', h1, h2⟩ => ⟨_, _, _, [], h1, ⟨B', bc', rfl, rfl, rfl, rfl⟩, h2⟩) rfl rfl rfl ?_
        rintro _ _ _ _ ⟨B55, bc55, rfl, rfl, rfl, rfl⟩
        refine gop (y_assign (v := .int _ _) rfl) rfl rfl rfl ?_
        refine gops_nil ?_
        refine hN13 _ _ ?_
        refine gT [box bg _, rowl _ _ _ _ _ _, fr, box b5 _, box b9 _] rfl ?_
        refine gfrom [(8, .int _ _)] ⟨rfl, trivial⟩ fun σ => ?_
        refine gret fun w1 hM => ?_
        refine ⟨_, res1 rfl (rt (v := .int _ _) rfl), ?_⟩
        rw [hn, ← post_bin_app]
        exact ⟨B55, bc55, congrArg (fun z => Ending.returned (Value.int .i64 z)) (by rw [hal2, hal1, size_bin]; omega), weak_take (T' := [_, _, fr]) rfl _ hM⟩
    · 
      replace hc31 := of_decide_eq_false hc31
      have hlf := opN_zero (by omega) (by omega) ⟨hk1, hk7⟩
      obtain ⟨-, -, htl, -⟩ := hsm hlf
      have hnode : l[m] = ⟨l[m].kind, l[m].number, 0, 0⟩ := leaf_node (htl ▸ hat) hm1
      refine gskip ?_
      refine hN3 _ _ ?_
      refine gfrom [(0, .pointer (some ⟨bg, 0, none⟩)), (3, .bool _), (9, .pointer _)] ⟨rfl, rfl, rfl, trivial⟩ fun σ => ?_
      refine gseq fun N14 hN14 => ?_
      refine greg ?_
      refine gop (y_move (v := .pointer (some ⟨bg, 0, none⟩)) rfl) rfl rfl rfl ?_
      refine gop (y_loads (cs := [_, _, _, _]) Tryd.isAgg47 Tryd.sizeOf47 rfl rfl (cells_box 4 rfl)) rfl rfl rfl ?_
      refine gop_does2 0 1 (fun v r s G => ∃ B' bc', v = .int .i64 ((o).length : Nat) ∧ r = box bg (.cells #[.slice B' ((o ++ [l[m]]).length) bc'] 52) ∧ s = rowl pnCells w0.heap.size 47 4 (.slice B' (o ++ [l[m]]).length bc') (o ++ [l[m]]) ∧ G = []) (e_call (vs := [.pointer (some ⟨bg, 0, none⟩), .agg #[_, _, _, _]]) Tryd.func41 rfl (by kernel_rfl) rfl) rfl rfl rfl (fun w fr1 hfr hM => (polAdd1_any _ w bg _ _ (o) fr1 hM (by omega) (l[m])).mono fun _ _ ⟨B', bc', h1, h2⟩ => ⟨_, _, _, [], h1, ⟨B', bc', rfl, rfl, rfl, rfl⟩, h2⟩) rfl rfl rfl ?_
      rintro _ _ _ _ ⟨B58, bc58, rfl, rfl, rfl, rfl⟩
      refine gop (y_assign (v := .int _ _) rfl) rfl rfl rfl ?_
      refine gops_nil ?_
      refine hN14 _ _ ?_
      refine gT [box bg _, rowl _ _ _ _ _ _, fr, box b5 _, box b9 _] rfl ?_
      refine gfrom [(0, .pointer (some ⟨bg, 0, none⟩)), (3, .bool _), (13, .int _ _)] ⟨rfl, rfl, rfl, trivial⟩ fun σ => ?_
      refine gseq fun N15 hN15 => ?_
      refine gseq fun N16 hN16 => ?_
      refine greg ?_
      refine gop (y_move (v := .bool _) rfl) rfl rfl rfl ?_
      refine gops_nil ?_
      refine hN16 _ _ ?_
      refine gfrom [(0, .pointer (some ⟨bg, 0, none⟩)), (13, .int _ _), (59, .bool _)] ⟨rfl, rfl, rfl, trivial⟩ fun σ => ?_
      refine gcond (b := _) rfl (fun hc59 => ?_) (fun hc59 => ?_)
      · 
        have hn : nrm t x = .neg (.leaf l[m].kind l[m].number) := by rw [htl, nrm, if_pos hc59]
        refine greg ?_
        refine gop (y_move (v := .pointer (some ⟨bg, 0, none⟩)) rfl) rfl rfl rfl ?_
        refine gop (y_move (v := .int _ _) rfl) rfl rfl rfl ?_
        refine gop (y_build (vs := [(0, _), (2, .int _ _)]) (cells := #[_, .int .i64 0, _, .int .i64 0]) rfl (bd47_0_2 _ _)) rfl rfl rfl ?_
        refine gop_does2 0 1 (fun v r s G => ∃ B' bc', v = .int .i64 ((o ++ [l[m]]).length : Nat) ∧ r = box bg (.cells #[.slice B' ((o ++ [l[m]] ++ [(⟨5, 0, ((o.length : Nat) : Int), 0⟩ : PN)]).length) bc'] 52) ∧ s = rowl pnCells w0.heap.size 47 4 (.slice B' (o ++ [l[m]] ++ [(⟨5, 0, ((o.length : Nat) : Int), 0⟩ : PN)]).length bc') (o ++ [l[m]] ++ [(⟨5, 0, ((o.length : Nat) : Int), 0⟩ : PN)]) ∧ G = []) (e_call (vs := [.pointer (some ⟨bg, 0, none⟩), .agg #[_, _, _, _]]) Tryd.func41 rfl (by kernel_rfl) rfl) rfl rfl rfl (fun w fr1 hfr hM => (polAdd1_any _ w bg _ _ (o ++ [l[m]]) fr1 hM (by simp; omega) ((⟨5, 0, ((o.length : Nat) : Int), 0⟩ : PN))).mono fun _ _ ⟨B', bc', h1, h2⟩ => ⟨_, _, _, [], h1, ⟨B', bc', rfl, rfl, rfl, rfl⟩, h2⟩) rfl rfl rfl ?_
        rintro _ _ _ _ ⟨B63, bc63, rfl, rfl, rfl, rfl⟩
        refine gop (y_assign (v := .int _ _) rfl) rfl rfl rfl ?_
        refine gops_nil ?_
        refine hN15 _ _ ?_
        refine gT [box bg _, rowl _ _ _ _ _ _, fr, box b5 _, box b9 _] rfl ?_
        refine gfrom [(13, .int _ _)] ⟨rfl, trivial⟩ fun σ => ?_
        refine gseq fun N17 hN17 => ?_
        refine greg ?_
        refine gop (y_move (v := .int _ _) rfl) rfl rfl rfl ?_
        refine gop (y_assign (v := .int _ _) rfl) rfl rfl rfl ?_
        refine gops_nil ?_
        refine hN17 _ _ ?_
        refine gfrom [(8, .int _ _)] ⟨rfl, trivial⟩ fun σ => ?_
        refine gret fun w1 hM => ?_
        refine ⟨_, res1 rfl (rt (v := .int _ _) rfl), ?_⟩
        first
        | (have e1 : o ++ post (nrm t x) o.length = o ++ [l[m]] ++ [(⟨5, 0, ((o.length : Nat) : Int), 0⟩ : PN)] := by
             rw [hn, post, post, ← hnode, List.append_assoc]
             simp only [Tr.size]
             congr 4
             omega
           rw [e1]
           exact ⟨B63, bc63, congrArg (fun z => Ending.returned (Value.int .i64 z)) (by rw [hn]; simp only [Tr.size, List.length_append, List.length_cons, List.length_nil]; omega), weak_take (T' := [_, _, fr]) rfl _ hM⟩)
        | (have e1 : o ++ post (nrm t x) o.length = o ++ [l[m]] := by rw [hn, post, ← hnode]
           rw [e1]
           exact ⟨B58, bc58, congrArg (fun z => Ending.returned (Value.int .i64 z)) (by rw [hn]; simp only [Tr.size]; omega), weak_take (T' := [_, _, fr]) rfl _ hM⟩)
      · 
        have hn : nrm t x = .leaf l[m].kind l[m].number := by rw [htl, nrm, if_neg (by simp [hc59])]
        refine gskip ?_
        refine hN15 _ _ ?_
        refine gfrom [(13, .int _ _)] ⟨rfl, trivial⟩ fun σ => ?_
        refine gseq fun N18 hN18 => ?_
        refine greg ?_
        refine gop (y_move (v := .int _ _) rfl) rfl rfl rfl ?_
        refine gop (y_assign (v := .int _ _) rfl) rfl rfl rfl ?_
        refine gops_nil ?_
        refine hN18 _ _ ?_
        refine gfrom [(8, .int _ _)] ⟨rfl, trivial⟩ fun σ => ?_
        refine gret fun w1 hM => ?_
        refine ⟨_, res1 rfl (rt (v := .int _ _) rfl), ?_⟩
        first
        | (have e1 : o ++ post (nrm t x) o.length = o ++ [l[m]] ++ [(⟨5, 0, ((o.length : Nat) : Int), 0⟩ : PN)] := by
             rw [hn, post, post, ← hnode, List.append_assoc]
             simp only [Tr.size]
             congr 4
             omega
           rw [e1]
           exact ⟨B63, bc63, congrArg (fun z => Ending.returned (Value.int .i64 z)) (by rw [hn]; simp only [Tr.size, List.length_append, List.length_cons, List.length_nil]; omega), weak_take (T' := [_, _, fr]) rfl _ hM⟩)
        | (have e1 : o ++ post (nrm t x) o.length = o ++ [l[m]] := by rw [hn, post, ← hnode]
           rw [e1]
           exact ⟨B58, bc58, congrArg (fun z => Ending.returned (Value.int .i64 z)) (by rw [hn]; simp only [Tr.size]; omega), weak_take (T' := [_, _, fr]) rfl _ hM⟩)
end Go.Proofs.YtllblbkbglifjaaDoor
namespace Go.Proofs.YtllblbkbglifjaaDoor
open Go.RowKit Go.Cf
set_option maxRecDepth 10000
set_option maxHeartbeats 4000000 in
theorem polNormal_any (w : World) (A : Option Addr) (c : Nat) (l : List PN) (hl : Rdl w 0 4 pnCells A l) (hlc : l.length ≤ c) (hcm : c ≤ maxLen) :
    Calls Tryd.prog 11 #[.agg #[.slice A l.length c]] w fun e w' => ∃ pv, e = .returned (.tuple #[.agg #[pv], fv (norR l).1]) ∧ Below w.heap.size w w' ∧ NewL 4 pnCells (norR l).2 w.heap.size w' pv := by
  have hlm : l.length ≤ 9223372036854775807 := by have h9 := Nat.le_trans hlc hcm; unfold maxLen at h9; omega
  refine gcalls Tryd.func11 rfl Tryd.ntmps11 (Nat.le_of_ble_eq_true rfl) ?_
  refine gfrom [(0, .agg #[_])] ⟨rfl, trivial⟩ fun σ => ?_
  refine gseq fun N1 hN1 => ?_
  refine greg ?_
  refine gop_box (v := .agg #[_]) (cs := #[_]) rfl rfl rfl (fun b1 hb1 => ?_)
  refine gop_alloc (cs := #[.slice none 0 0]) Tryd.zeroValue24 rfl rfl (fun b2 hb2 => ?_)
  refine gop_alloc (cs := #[.int .i64 0, .int .i64 0]) Tryd.zeroValue28 rfl rfl (fun b3 hb3 => ?_)
  refine gops_nil ?_
  refine hN1 _ _ ?_
  refine gT [box b1 _, box b2 _, box b3 _] rfl ?_
  refine gfrom [(1, .pointer _), (2, .pointer _), (3, .pointer _)] ⟨rfl, rfl, rfl, trivial⟩ fun σ => ?_
  refine gseq fun N2 hN2 => ?_
  refine gseq fun N3 hN3 => ?_
  refine greg ?_
  refine gop (y_loads (cs := [_]) Tryd.isAgg24 Tryd.sizeOf24 rfl rfl (cells_box 0 rfl)) rfl rfl rfl ?_
  refine gop_pure (e_call (vs := [.agg #[_]]) Tryd.func13 rfl (by kernel_rfl) rfl) (fun w hM => polValidate_any w A c l (hl.base hM) hlc hcm) rfl rfl rfl ?_
  refine gop_alloc (cs := #[.int .i64 0, .int .i64 0]) Tryd.zeroValue28 rfl rfl (fun b4 hb4 => ?_)
  refine gop_store 3 (v := .agg #[_, _]) (cs' := #[_, _]) rfl rfl Tryd.sizeOf28 rfl rfl rfl rfl (Nat.le_of_ble_eq_true rfl) rfl rfl ?_
  refine gops_nil ?_
  refine hN3 _ _ ?_
  refine gT [box b1 _, box b2 _, box b3 _, box b4 _] rfl ?_
  refine gfrom [(1, .pointer _), (2, .pointer _), (3, .pointer _), (4, .pointer _)] ⟨rfl, rfl, rfl, rfl, trivial⟩ fun σ => ?_
  refine gseq fun N4 hN4 => ?_
  refine greg ?_
  refine gop (y_loads (cs := [_, _]) Tryd.isAgg28 Tryd.sizeOf28 rfl rfl (cells_box 3 rfl)) rfl rfl rfl ?_
  refine gop (y_build (vs := []) (cells := #[.int .i64 0, .int .i64 0]) rfl bd28_) rfl rfl rfl ?_
  refine gop (y_bin (vx := .agg #[_, _]) (vy := .agg #[_, _]) rfl rfl (fun w => eg28 _ _ _ _ _ w) (fun w => ne28 _ _ _ _ w)) rfl rfl rfl ?_
  refine gops_nil ?_
  refine hN4 _ _ ?_
  refine gfrom [(1, .pointer _), (2, .pointer _), (3, .pointer _), (4, .pointer _), (10, .bool _)] ⟨rfl, rfl, rfl, rfl, rfl, trivial⟩ fun σ => ?_
  refine gcond (b := _) rfl (fun hc10 => ?_) (fun hc10 => ?_)
  · 
    replace hc10 := fault_ne.1 hc10
    have hN : norR l = (polF l, []) := by rw [norR, if_pos hc10]
    refine gseq fun N5 hN5 => ?_
    refine greg_e1 [] [(1, room b2 24 1), (2, room b3 28 2)] (by kernel_rfl) ?_
    refine ge_take 0 (TK := [box b1 _, room b2 24 1, room b3 28 2, box b4 _]) rfl (by kernel_rfl) (by kernel_rfl) (by kernel_rfl) #[false, true, false, false] (by kernel_rfl) rfl (y_build (vs := []) (cells := #[.slice none 0 0]) rfl bd24_) rfl rfl rfl (weak_trans (weak_room 1 rfl rfl) (weak_room 2 rfl rfl)) (listed' := #[true, false, false, false]) rfl ?_
    refine ge_take 1 (TK := [box b1 _, room b2 24 1, room b3 28 2, box b4 _]) rfl (by kernel_rfl) (by kernel_rfl) (by kernel_rfl) #[true, false, true, false] (by kernel_rfl) rfl (y_loads (cs := [_, _]) Tryd.isAgg28 Tryd.sizeOf28 rfl rfl (cells_box 3 rfl)) rfl rfl rfl (weak_trans (weak_room 1 rfl rfl) (weak_room 2 rfl rfl)) (listed' := #[true, true, false, false]) rfl ?_
    refine ge_one 2 (k' := 0) (listed' := #[true, true, true, false]) (by kernel_rfl) rfl rfl rfl ?_
    refine gop_store 1 (v := .agg #[_]) (cs' := #[_]) rfl rfl Tryd.sizeOf24 rfl rfl rfl rfl (Nat.le_of_ble_eq_true rfl) rfl rfl ?_
    refine gops_nil ?_
    refine ge_fin (TK := [box b1 _, room b2 24 1, room b3 28 2, box b4 _]) rfl (weak_trans (weak_room 1 rfl rfl) (weak_room 2 rfl rfl)) ?_
    refine ge_one 3 (k' := 0) (listed' := #[true, true, true, true]) (by kernel_rfl) rfl rfl rfl ?_
    refine gop_store 2 (v := .agg #[_, _]) (cs' := #[_, _]) rfl rfl Tryd.sizeOf28 rfl rfl rfl rfl (Nat.le_of_ble_eq_true rfl) rfl rfl ?_
    refine gops_nil ?_
    refine ge_fin (TK := [box b1 _, room b2 24 1, room b3 28 2, box b4 _]) rfl (weak_trans (weak_room 1 rfl rfl) (weak_room 2 rfl rfl)) ?_
    refine ge_done (by kernel_rfl) ?_
    refine hN5 _ _ ?_
    refine gT [box b1 _, box b2 _, box b3 _, box b4 _] rfl ?_
    refine gfrom [(2, .pointer _), (3, .pointer _)] ⟨rfl, rfl, trivial⟩ fun σ => ?_
    refine gret fun w1 hM => ?_
    refine ⟨_, res2 rfl (rc 1 (cs := [_]) hM rfl rfl Tryd.isAgg24 Tryd.sizeOf24 rfl) (rc 2 (cs := [_, _]) hM rfl rfl Tryd.isAgg28 Tryd.sizeOf28 rfl), ?_⟩
    rw [hN]
    exact ⟨_, rfl, hM.low, newL_nil⟩
  · 
    replace hc10 := fault_eq.1 hc10
    obtain ⟨hn0, hn24, -⟩ := pol_ok hc10
    have ht := tree_of hc10
    have htl := ht.len
    have hN : norR l = madeR (nrm (treeOf l) false) := by rw [norR, if_neg (fun h => h hc10)]
    refine gskip ?_
    refine hN2 _ _ ?_
    refine gfrom [(1, .pointer _), (2, .pointer _), (3, .pointer _)] ⟨rfl, rfl, rfl, trivial⟩ fun σ => ?_
    refine gseq fun N6 hN6 => ?_
    refine greg ?_
    refine gop_alloc (cs := #[.slice none 0 0]) Tryd.zeroValue52 rfl rfl (fun b5 hb5 => ?_)
    refine gops_nil ?_
    refine hN6 _ _ ?_
    refine gT [box b1 _, box b2 _, box b3 _, box b4 _, box b5 _] rfl ?_
    refine gfrom [(1, .pointer _), (2, .pointer _), (3, .pointer _), (5, .pointer _)] ⟨rfl, rfl, rfl, rfl, trivial⟩ fun σ => ?_
    refine gseq fun N7 hN7 => ?_
    refine greg ?_
    refine gop (y_loads (cs := [_]) Tryd.isAgg24 Tryd.sizeOf24 rfl rfl (cells_box 0 rfl)) rfl rfl rfl ?_
    refine gop (y_fieldAddr_box fa24_0 rfl) rfl rfl rfl ?_
    refine gop (y_load Tryd.isAgg22 rfl (cell_box 0 rfl rfl)) rfl rfl rfl ?_
    refine gop (y_len Tryd.underlying22 rfl) rfl rfl rfl ?_
    refine gop (y_sub rfl rfl ⟨by omega, by omega⟩) rfl rfl rfl ?_
    refine gops_nilrow pnCells 47 4 ?_
    refine gop_does2 4 5 (fun v r s G => ∃ B' bc', v = .int .i64 ((([] : List PN).length + (nrm (treeOf l) false).size : Nat) - 1) ∧ r = box b5 (.cells #[.slice B' (post (nrm (treeOf l) false) 0).length bc'] 52) ∧ s = rowl pnCells w.heap.size 47 4 (.slice B' (post (nrm (treeOf l) false) 0).length bc') (post (nrm (treeOf l) false) 0) ∧ G = []) (e_call (vs := [.pointer _, .agg #[_], .int _ _, _]) Tryd.func25 rfl (by kernel_rfl) rfl) rfl rfl rfl (fun w fr1 hfr hM => (polNormal1_any _ A c l hl hlc hcm b5 (treeOf l).size (treeOf l) false _ (l.length - 1) w _ _ [] fr1 rfl (by omega) ht.ok ht.at_ (by simp; omega) hM).mono fun _ _ ⟨B', bc', h1, h2⟩ => ⟨_, _, _, [], h1, ⟨B', bc', rfl, rfl, rfl, rfl⟩, h2⟩) rfl rfl rfl ?_
    rintro _ _ _ _ ⟨B18, bc18, rfl, rfl, rfl, rfl⟩
    refine gops_fact (fun w hM => row_form (hM.ok _ (List.mem_of_getElem? (i := 5) rfl))) ?_
    rintro ⟨A18, c18, hv18, hc18, hm18, hn18⟩
    simp only [Value.slice.injEq] at hv18
    obtain ⟨rfl, -, rfl⟩ := hv18
    refine gops_nil ?_
    refine hN7 _ _ ?_
    refine gT [box b1 _, box b2 _, box b3 _, box b4 _, box b5 _, rowl _ _ _ _ _ _] rfl ?_
    refine gfrom [(2, .pointer _), (3, .pointer _), (5, .pointer _)] ⟨rfl, rfl, rfl, trivial⟩ fun σ => ?_
    refine gseq fun N8 hN8 => ?_
    refine greg ?_
    refine gop_pure (e_call (vs := [.pointer _]) Tryd.func26 rfl (by kernel_rfl) rfl) (fun w hM => polMade1_any w b5 _ _ (nrm (treeOf l) false) (nrm_ok _ false ht.ok).1 (by have h9 := (nrm_ok _ false ht.ok).2; omega) (cell_box 4 (off := 0) rfl rfl w hM) ((row_rdl (f := pnCells) (fun _ => rfl) (hM.ok _ (List.mem_of_getElem? (i := 5) rfl))).mono (Nat.zero_le _)) hc18 hm18) rfl rfl rfl ?_
    refine gop (y_extract (v := .agg #[_]) rfl rfl) rfl rfl rfl ?_
    refine gop (y_extract (v := .agg #[_, _]) rfl rfl) rfl rfl rfl ?_
    refine gop_store 1 (v := .agg #[_]) (cs' := #[_]) rfl rfl Tryd.sizeOf24 rfl rfl rfl rfl (Nat.le_of_ble_eq_true rfl) rfl rfl ?_
    refine gop_store 2 (v := .agg #[_, _]) (cs' := #[_, _]) rfl rfl Tryd.sizeOf28 rfl rfl rfl rfl (Nat.le_of_ble_eq_true rfl) rfl rfl ?_
    refine gops_nil ?_
    refine hN8 _ _ ?_
    refine gT [box b1 _, box b2 _, box b3 _, box b4 _, box b5 _, rowl _ _ _ _ _ _] rfl ?_
    refine gfrom [(2, .pointer _), (3, .pointer _)] ⟨rfl, rfl, trivial⟩ fun σ => ?_
    refine gret fun w1 hM => ?_
    refine ⟨_, res2 rfl (rc 1 (cs := [_]) hM rfl rfl Tryd.isAgg24 Tryd.sizeOf24 rfl) (rc 2 (cs := [_, _]) hM rfl rfl Tryd.isAgg28 Tryd.sizeOf28 rfl), ?_⟩
    rw [hN]
    by_cases hB : 24 < (nrm (treeOf l) false).size ∨ 12 < (nrm (treeOf l) false).depth
    · have hm : (madeR (nrm (treeOf l) false)).2 = [] := by rw [madeR, if_pos hB]
      refine ⟨_, rfl, hM.low, ?_⟩
      rw [hm]
      simp only [if_pos hB]
      exact newL_nil
    · have hm : (madeR (nrm (treeOf l) false)).2 = post (nrm (treeOf l) false) 0 := by rw [madeR, if_neg hB]
      refine ⟨_, rfl, hM.low, ?_⟩
      rw [hm]
      simp only [if_neg hB]
      exact hM.newL 5 rfl (fun _ => rfl)
end Go.Proofs.YtllblbkbglifjaaDoor
namespace Go.Cf
open Go.RowKit
structure HunkC where
  pl : Hunk
  oA : Option Addr
  oc : Nat
  nA : Option Addr
  nc : Nat
abbrev hunkCells (h : HunkC) : List Value := [.int .i64 h.pl.at_, .slice h.oA h.pl.old.length h.oc, .slice h.nA h.pl.new.length h.nc]
structure SB (A : Option Addr) (n c : Nat) (b : Nat) : Prop where
  len : n ≤ c
  max : c ≤ maxLen
  nil : A = none → c = 0
  bytes : n * b ≤ reachBytes
theorem SB.lit {a : Addr} {b : Nat} (n : Nat) (h : n ≤ 1000) (hb : b ≤ 1000) : SB (some a) n n b := by
  refine ⟨Nat.le_refl _, by unfold maxLen; omega, (fun h => by cases h), ?_⟩
  have : n * b ≤ 1000 * 1000 := Nat.mul_le_mul h hb
  unfold reachBytes; omega
structure HunkR (w : World) (lo : Nat) (h : HunkC) : Prop where
  old : Rdl w lo 1 strCells h.oA h.pl.old
  new : Rdl w lo 1 strCells h.nA h.pl.new
  ob : SB h.oA h.pl.old.length h.oc 16
  nb : SB h.nA h.pl.new.length h.nc 16
  at_ : In64 h.pl.at_
def Lasts (lo : Nat) (R : World → Prop) : Prop := ∀ w w', R w → (∀ p : Addr, lo ≤ p.block → p.block < w.heap.size → w'.cell? p = w.cell? p) → R w'
theorem Lasts.base {lo : Nat} {R : World → Prop} (h : Lasts lo R) {w0 w : World} {T : List Reg} (hR : R w0) (hM : Mem w0 T w) : R w := h w0 w hR fun _ _ hp => hM.low.cell hp
theorem Lasts.below {lo : Nat} {R : World → Prop} (h : Lasts lo R) {w0 w : World} (hR : R w0) (hb : Below w0.heap.size w0 w) : R w := h w0 w hR fun _ _ hp => hb.cell hp
theorem Lasts.seal_ {lo : Nat} {R : World → Prop} (h : Lasts lo R) {w0 w ws : World} {T : List Reg} (i : Nat) {lo1 : Nat} (hi : T[i]? = some (seal_ lo1 ws)) (hR : R ws) (hlo : lo1 ≤ lo) (hM : Mem w0 T w) : R w :=
  h ws w hR fun p h1 h2 => by
    have h3 : ∀ k, lo1 ≤ k → k < ws.heap.size → w.heap[k]? = ws.heap[k]? := hM.ok _ (List.mem_of_getElem? hi)
    exact World.cell?_of_block (h3 p.block (Nat.le_trans hlo h1) h2)
theorem HunkR.mono {w : World} {lo lo' : Nat} {h : HunkC} (hR : HunkR w lo h) (hl : lo' ≤ lo) : HunkR w lo' h := ⟨hR.old.mono hl, hR.new.mono hl, hR.ob, hR.nb, hR.at_⟩
structure PatR (w : World) (lo : Nat) (A : Option Addr) (c : Nat) (hs : List HunkC) : Prop where
  rd : Rdl w lo 3 hunkCells A hs
  each : ∀ h ∈ hs, HunkR w lo h
  sb : SB A hs.length c 56
theorem PatR.mono {w : World} {lo lo' : Nat} {A : Option Addr} {c : Nat} {hs : List HunkC} (hR : PatR w lo A c hs) (hl : lo' ≤ lo) : PatR w lo' A c hs := ⟨hR.rd.mono hl, fun h hh => (hR.each h hh).mono hl, hR.sb⟩
abbrev pls (hs : List HunkC) : List Hunk := hs.map HunkC.pl
structure PatC where
  A : Option Addr
  c : Nat
  hs : List HunkC
abbrev patCells (p : PatC) : List Value := [.slice p.A p.hs.length p.c]
abbrev PatC.pl (p : PatC) : List Hunk := pls p.hs
structure PatsR (w : World) (lo : Nat) (A : Option Addr) (ps : List PatC) : Prop where
  rd : Rdl w lo 1 patCells A ps
  each : ∀ p ∈ ps, PatR w lo p.A p.c p.hs
theorem PatsR.mono {w : World} {lo lo' : Nat} {A : Option Addr} {ps : List PatC} (hR : PatsR w lo A ps) (hl : lo' ≤ lo) : PatsR w lo' A ps := ⟨hR.rd.mono hl, fun h hh => (hR.each h hh).mono hl⟩
end Go.Cf
namespace Go.Cf
open Go.RowKit
theorem y_indexByte {P : Program} {w0 : World} {T : List Reg} {ρ : Env} {dst : Option Nat} {x y : Operand} {ty : TypeId} {pos : String} {af : Array Edge} {gd : Option (Nat × Bool)} {ts : Array TypeId} {f : FuncId} {fn : Func}
    (hf : P.funcs[f]? = some fn) (hname : (fn.name == "runtime.NumGoroutine") = false) (hb : fn.body.isNone = true) (hn : Extern.findNext fn = none) (he : Extern.find fn = some Extern.BytealgIndexByte.indexByte) {s : ByteArray} {c : Int}
    (hx : ev ρ x = .string s) (hy : ev ρ y = .int .u8 c) :
    Yield P w0 T ρ ⟨dst, .call { callee := .value (.func f), args := #[x, y], argTypes := ts }, ty, pos, af, gd⟩ (.int .i64 (firstIdx s c.toNat.toUInt8)) := fun w _ => by
  have h := run_callFunc_extern hf hname hb hn he #[.string s, .int .u8 c] w
  rw [run_indexByte_string] at h
  simp only [Result.andThen] at h
  have hef : ev ρ (.func f) = .func (.func f) #[] #[] := rfl
  simp [execOp, resolve, invoke, hx, hy, hef, Deferred.ofValue]
  simpa using h
end Go.Cf
namespace Go.Cf
open Go.RowKit
theorem byteAt_lt (s : ByteArray) (j : Nat) : byteAt s j < 256 := (s.data.toList[j]?.getD 0).toNat_lt
theorem sep_idx (s : ByteArray) (j : Nat) : firstIdx ⟨#[32, 40, 41]⟩ (((byteAt s j : Nat) : Int).toNat.toUInt8) < 0 ↔ woB s j = true := by
  have h1 := firstIdx_nonneg ⟨#[32, 40, 41]⟩ (((byteAt s j : Nat) : Int).toNat.toUInt8)
  obtain ⟨c, hc⟩ : ∃ c, ((byteAt s j : Nat) : Int).toNat.toUInt8 = c := ⟨_, rfl⟩
  have hb : c.toNat = byteAt s j := by
    rw [← hc, Int.toNat_natCast]
    show (UInt8.ofNat (byteAt s j)).toNat = _
    rw [UInt8.toNat_ofNat']
    have := byteAt_lt s j
    omega
  rw [hc] at h1 ⊢
  have e : (([32, 40, 41] : List UInt8).any (· == c)) = !woB s j := by
    have q : ∀ d : UInt8, (d == c) = decide (d.toNat = byteAt s j) := fun d => by
      rw [← hb]
      by_cases h : d = c
      · subst h; simp
      · rw [beq_eq_false_iff_ne.2 h]
        exact (decide_eq_false (fun h2 => h (UInt8.toNat_inj.1 h2))).symm
    simp only [List.any_cons, List.any_nil, q, woB]
    have e1 : (32 : UInt8).toNat = 32 := rfl
    have e2 : (40 : UInt8).toNat = 40 := rfl
    have e3 : (41 : UInt8).toNat = 41 := rfl
    rw [e1, e2, e3]
    by_cases a1 : byteAt s j = 32 <;> by_cases a2 : byteAt s j = 40 <;> by_cases a3 : byteAt s j = 41 <;> simp_all <;> omega
  have h2 : decide (0 ≤ firstIdx ⟨#[32, 40, 41]⟩ c) = !woB s j := h1.trans e
  constructor
  · intro h
    have : decide (0 ≤ firstIdx ⟨#[32, 40, 41]⟩ c) = false := decide_eq_false (by omega)
    rw [this] at h2
    simpa using h2.symm
  · intro h
    rw [h] at h2
    have := of_decide_eq_false h2
    omega
structure RS (s : ByteArray) (at_ : Nat) (ts : List Tk) : Prop where
  ts : ts = tks s at_
  sk : skipW s at_ = at_
  le : at_ ≤ s.size
section
variable {s : ByteArray} {a : Nat} {ts : List Tk}
theorem RS.hd (h : RS s a ts) : s.extract a (nextW s a) = hd ts := by
  rw [h.ts]
  by_cases h1 : a < s.size
  · rw [tks_cons (by rw [h.sk]; exact h1), h.sk]; rfl
  · have : a = s.size := by have := h.le; omega
    rw [tks_nil (by rw [h.sk]; exact h1), this, next_end]
    show s.extract s.size s.size = ⟨#[]⟩
    apply ByteArray.ext
    simp
theorem RS.pos (h : RS s a ts) : pos s.size ts = a := by
  rw [h.ts]
  by_cases h1 : a < s.size
  · rw [tks_cons (by rw [h.sk]; exact h1), h.sk]; rfl
  · have : a = s.size := by have := h.le; omega
    rw [tks_nil (by rw [h.sk]; exact h1), this]; rfl
theorem RS.next (h : RS s a ts) : RS s (skipW s (nextW s a)) ts.tail := by
  refine ⟨?_, skip_skip _ _, skip_le (next_le h.le)⟩
  rw [h.ts, tks_skip]
  by_cases h1 : a < s.size
  · rw [tks_cons (by rw [h.sk]; exact h1), h.sk]; rfl
  · have : a = s.size := by have := h.le; omega
    rw [tks_nil (by rw [h.sk]; exact h1), this, next_end]
    rw [tks_nil (by have := skip_ge s s.size; omega)]; rfl
theorem RS.nil (h : RS s a ts) : ts = [] ↔ ¬ a < s.size := by
  rw [h.ts]
  by_cases h1 : a < s.size
  · rw [tks_cons (by rw [h.sk]; exact h1)]; simp [h1]
  · rw [tks_nil (by rw [h.sk]; exact h1)]; simp [h1]
theorem RS.len (h : RS s a ts) : ts.length ≤ s.size := by rw [h.ts]; exact Nat.le_trans (tks_len s _ a rfl) (by omega)
end
theorem RS.start (s : ByteArray) : RS s (skipW s 0) (tks s 0) := ⟨(tks_skip s 0).symm, skip_skip _ _, skip_le (Nat.zero_le _)⟩
theorem strEq_dec (a b : ByteArray) : (a.toList == b.toList) = decide (a = b) := by
  by_cases h : a = b
  · subst h; simp
  · rw [decide_eq_false h, beq_eq_false_iff_ne]
    intro h2
    apply h
    rw [ByteArray.toList_eq, ByteArray.toList_eq] at h2
    apply ByteArray.ext
    exact Array.toList_inj.1 h2
def POK (s : ByteArray) (R : Res) (o : List PN) (code : Int) (x : Int) (b : Bool) (o' : List PN) (a' : Nat) (code' : Int) : Prop := match R with
  | .bad c p => b = false ∧ a' = p ∧ code' = c ∧ o'.length ≤ 1000
  | .ok t ts => b = true ∧ x = ((o.length + t.size : Nat) : Int) - 1 ∧ o' = o ++ post t o.length ∧ RS s a' ts ∧ code' = code
theorem pok_yes {s : ByteArray} {R : Res} {o o' : List PN} {code code' x : Int} {a' : Nat} {b : Bool} (h : POK s R o code x b o' a' code') (hb : b = true) : ∃ t ts, R = .ok t ts ∧ x = ((o.length + t.size : Nat) : Int) - 1 ∧ o' = o ++ post t o.length ∧ RS s a' ts ∧ code' = code := by
  cases R with
  | bad c p => rw [POK, hb] at h; exact absurd h.1 (by decide)
  | ok t ts => exact ⟨t, ts, rfl, h.2⟩
theorem pok_no {s : ByteArray} {R : Res} {o o' : List PN} {code code' x : Int} {a' : Nat} {b : Bool} (h : POK s R o code x b o' a' code') (hb : b = false) : R = .bad code' a' ∧ o'.length ≤ 1000 := by
  cases R with
  | bad c p => obtain ⟨_, h1, h2, h3⟩ := h; rw [h1, h2]; exact ⟨rfl, h3⟩
  | ok t ts => rw [POK, hb] at h; exact absurd h.1 (by decide)
theorem pok_bad {s : ByteArray} {o o' : List PN} {code x : Int} {R : Res} {c : Int} {a' : Nat} (h : R = .bad c a') (h2 : o'.length ≤ 1000) : POK s R o code x false o' a' c := by
  rw [h]; exact ⟨rfl, rfl, rfl, h2⟩
theorem pok_ok {s : ByteArray} {o o' : List PN} {code x : Int} {R : Res} {t : Tr} {ts : List Tk} {a' : Nat} (h : R = .ok t ts) (h1 : x = ((o.length + t.size : Nat) : Int) - 1) (h2 : o' = o ++ post t o.length) (h3 : RS s a' ts) : POK s R o code x true o' a' code := by
  rw [h]; exact ⟨rfl, h1, h2, h3, rfl⟩
end Go.Cf
namespace Go.Cf
theorem pok_bad2 {s : ByteArray} {o o' : List PN} {code x : Int} {R : Res} {c : Int} {a' : Nat} {b : Bool} (hb : b = false) (h : R = .bad c a') (h2 : o'.length ≤ 1000) : POK s R o code x b o' a' c := by
  subst hb; exact pok_bad h h2
theorem pok_ok2 {s : ByteArray} {o o' : List PN} {code x : Int} {R : Res} {t : Tr} {ts : List Tk} {a' : Nat} {b : Bool} (hb : b = true) (h : R = .ok t ts) (h1 : x = ((o.length + t.size : Nat) : Int) - 1) (h2 : o' = o ++ post t o.length) (h3 : RS s a' ts) : POK s R o code x b o' a' code := by
  subst hb; exact pok_ok h h1 h2 h3
end Go.Cf
namespace Go.Cf
def LI (s : ByteArray) (lv n : Nat) (R : Res) (o : List PN) (code : Int) (m : Nat) (x : Int) (b : Bool) (o1 : List PN) (a1 : Nat) (code1 : Int) : Prop :=
  m ≤ n ∧ ((b = false ∧ R = .bad code1 a1 ∧ o1.length ≤ 1000) ∨ (b = true ∧ ∃ t us, x = ((o.length + t.size : Nat) : Int) - 1 ∧ o1 = o ++ post t o.length ∧ RS s a1 us ∧ code = code1 ∧ R = rd s.size m lv (some t) us ∧ 3 * us.length + 1 ≤ m ∧ o.length + t.size + us.length ≤ 800))
theorem li_start {s : ByteArray} {lv n : Nat} {R : Res} {o o1 : List PN} {code code1 x : Int} {b : Bool} {a1 : Nat} {ts : List Tk} (hR : R = bindR (rd s.size n (lv + 1) none ts) fun t us => rd s.size n lv (some t) us) (hlv : lv < 2) (hfu : 3 * ts.length + 3 ≤ n + 1 + lv) (hol : o.length + ts.length ≤ 800)
    (hp : POK s (rd s.size n (lv + 1) none ts) o code x b o1 a1 code1) : LI s lv n R o code n x b o1 a1 code1 := by
  refine ⟨Nat.le_refl _, ?_⟩
  cases hb : b with
  | false =>
    obtain ⟨h1, h2⟩ := pok_no hp hb
    exact .inl ⟨rfl, by rw [hR, h1]; rfl, h2⟩
  | true =>
    obtain ⟨t, us, h1, h2, h3, h4, h5⟩ := pok_yes hp hb
    obtain ⟨_, h6⟩ := rd_ok s.size n _ none _ _ _ (fun _ h => by cases h) h1
    have := t.pos
    simp only [Option.map, Option.getD] at h6
    exact .inr ⟨rfl, t, us, h2, h3, h4, h5.symm, by rw [hR, h1]; rfl, by omega, by omega⟩
theorem li_bad {s : ByteArray} {lv n m : Nat} {R : Res} {o o1 : List PN} {code code1 x : Int} {b : Bool} {a1 : Nat} (h : LI s lv n R o code m x b o1 a1 code1) (hb : b = false) : R = .bad code1 a1 ∧ o1.length ≤ 1000 := by
  rcases h.2 with h | h
  · exact h.2
  · rw [h.1] at hb; cases hb
theorem li_ok {s : ByteArray} {lv n m : Nat} {R : Res} {o o1 : List PN} {code code1 x : Int} {b : Bool} {a1 : Nat} (h : LI s lv n R o code m x b o1 a1 code1) (hb : b = true) : ∃ t us, x = ((o.length + t.size : Nat) : Int) - 1 ∧ o1 = o ++ post t o.length ∧ RS s a1 us ∧ code = code1 ∧ R = rd s.size m lv (some t) us ∧ 3 * us.length + 1 ≤ m ∧ o.length + t.size + us.length ≤ 800 := by
  rcases h.2 with h | h
  · rw [h.1] at hb; cases hb
  · exact h.2
end Go.Cf
