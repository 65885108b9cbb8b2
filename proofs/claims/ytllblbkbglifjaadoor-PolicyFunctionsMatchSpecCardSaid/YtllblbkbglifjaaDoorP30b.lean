/- Own frame, plain models and walks, part 2 (texts of this claim put together). -/
import Derived.Test.YtllblbkbglifjaaDoorP30a
import Derived.Laws.BitsLemmas
import Derived.Lib.AppendIntMem
import Derived.Lib.AtoiAll
import Derived.Lib.AtoiAllCases
import Derived.Lib.AtoiErrMem
import Derived.Lib.AtoiTie
import Derived.Lib.ItoaLen
import Derived.Lib.ItoaNum
import Derived.Shelf.LaysC
import Derived.Shelf.LaysM
import Derived.Shelf.Small.Strs
import Derived.Shelf.Strconv.Atoi
import Derived.Shelf.Strconv.AtoiAll
import Derived.Shelf.Strconv.AtoiErrFast
import Derived.Shelf.Strconv.AtoiFail
import Derived.Shelf.Strconv.AtoiInnerAll
import Derived.Shelf.Strconv.AtoiLong
import Derived.Shelf.Strconv.Clone
import Derived.Shelf.Strconv.ErrVarAll
import Derived.Shelf.Strconv.Itoa0
import Derived.Shelf.Strconv.Itoa1
import Derived.Shelf.Strconv.Itoa2
import Derived.Shelf.Strconv.Itoa3
import Derived.Shelf.Strconv.Lower
import Derived.Shelf.Strconv.ParseInt10
import Derived.Shelf.Strconv.ParseIntEmpty
import Derived.Shelf.Strconv.ParseUint10
import Derived.Shelf.Strconv.ParseUint10Any
import Derived.Shelf.Strconv.ParseUint10Empty
import Derived.Shelf.Strconv.RangeError
import Derived.Shelf.Strconv.SyntaxError
import Derived.Shelf.Strconv.ToError
import Derived.Shelf.Strconv.ToErrorRange
import Derived.Shelf.Strings.Search1
import Derived.Stop.IfaceNil
import Derived.Test.YtllblbkbglifjaaDoorProg
namespace Go.Cf
open Go.RowKit
theorem i64_and1 (n : Int) : bits .and .i64 n 1 = n % 2 := by
  have h1 : (BitVec.ofInt 64 1).toNat = 2 ^ 1 - 1 := by decide
  have key : (BitVec.ofInt 64 n &&& BitVec.ofInt 64 1).toNat = (n % ((2 ^ 64 : Nat) : Int)).toNat % 2 ^ 1 := by
    rw [BitVec.toNat_and, BitVec.toNat_ofInt, h1, Nat.and_two_pow_sub_one_eq_mod]
  show IntKind.i64.wrap ((BitVec.ofInt 64 n &&& BitVec.ofInt 64 1).toNat : Nat) = n % 2
  rw [key, IntKind.wrap_i64]
  omega
section
variable {P : Program} {w0 : World} {T : List Reg} {ρ : Env} {dst : Option Tmp} {ty t yt : TypeId} {pos : String} {af : Array Edge} {gd : Option (Nat × Bool)} {x y : Operand} {a b : Int}
theorem y_shr (hx : ev ρ x = .int .i64 a) (hy : ev ρ y = .int .i64 b) (h0 : 0 ≤ b) (h1 : b ≤ 64) : Yield P w0 T ρ ⟨dst, .binOp .shr t x y yt, ty, pos, af, gd⟩ (.int .i64 (a / 2 ^ b.toNat)) := fun _ _ => by
  simp [execOp, go_sem, hx, hy, shift_shr_i64 _ _ _ h0 h1]
theorem y_and1 (hx : ev ρ x = .int .i64 a) (hy : ev ρ y = .int .i64 1) : Yield P w0 T ρ ⟨dst, .binOp .and t x y yt, ty, pos, af, gd⟩ (.int .i64 (a % 2)) := fun _ _ => by
  simp [execOp, go_sem, hx, hy, i64_and1]
end
end Go.Cf
namespace Go.Cf
theorem pol_ok {l : List PN} (h : polF l = ⟨0, 0⟩) : 0 < l.length ∧ l.length ≤ 24 ∧ (∀ j (h : j < l.length), chk l[j] (rootsTo l j) = 0) := by
  unfold polF at h
  split at h
  · cases h
  rename_i c1
  split at h
  · cases h
  rename_i c2
  split at h
  · rename_i c3; exact absurd h c3
  rename_i c3
  have c3' : scanP_ l = ⟨0, 0⟩ := Classical.byContradiction fun hn => c3 hn
  exact ⟨by omega, by omega, fun j hj => scan_zero.1 c3' j hj⟩
section
variable {F : PFacts} {n : PN} {out : List Bool}
theorem ev1 (h : n.kind = 1) : evN F n out = decide (n.number ≤ F.score) := by rw [evN, if_pos h]
theorem ev2 (h : n.kind = 2) : evN F n out = F.owners := by rw [evN, if_neg (by omega), if_pos h]
theorem ev3 (h : n.kind = 3) : evN F n out = F.tests := by rw [evN, if_neg (by omega), if_neg (by omega), if_pos h]
theorem ev4 (h : n.kind = 4) : evN F n out = decide (F.users / 2 ^ n.number.toNat % 2 = 1) := by rw [evN, if_neg (by omega), if_neg (by omega), if_neg (by omega), if_pos h]; rfl
theorem ev5 (h : n.kind = 5) : evN F n out = !gB out n.left := by rw [evN, if_neg (by omega), if_neg (by omega), if_neg (by omega), if_neg (by omega), if_pos h]
theorem ev6 (h : n.kind = 6) : evN F n out = (gB out n.left && gB out n.right) := by rw [evN, if_neg (by omega), if_neg (by omega), if_neg (by omega), if_neg (by omega), if_neg (by omega), if_pos h]
theorem ev7 (h : n.kind = 7) : evN F n out = (gB out n.left || gB out n.right) := by rw [evN, if_neg (by omega), if_neg (by omega), if_neg (by omega), if_neg (by omega), if_neg (by omega), if_neg (by omega)]
end
theorem evalF_bad {l : List PN} {F : PFacts} (h : polF l ≠ ⟨0, 0⟩) : evalF l F = polF l ∧ evalV l F = false := by
  have e : evalF l F = polF l := by rw [evalF, if_pos h]
  exact ⟨e, by rw [evalV, if_neg (by rw [e]; exact h)]⟩
theorem evalF_range {l : List PN} {F : PFacts} (h : polF l = ⟨0, 0⟩) (h2 : factsBad F) : evalF l F = ⟨3, -2⟩ ∧ evalV l F = false := by
  have e : evalF l F = ⟨3, -2⟩ := by rw [evalF, if_neg (fun h9 => h9 h), if_pos h2]
  exact ⟨e, by rw [evalV, if_neg (by rw [e]; decide)]⟩
theorem evalF_ok {l : List PN} {F : PFacts} (h : polF l = ⟨0, 0⟩) (h2 : ¬ factsBad F) : evalF l F = ⟨0, 0⟩ ∧ evalV l F = valAt (evN F) l (l.length - 1) := by
  have e : evalF l F = ⟨0, 0⟩ := by rw [evalF, if_neg (fun h9 => h9 h), if_neg h2]
  exact ⟨e, by rw [evalV, if_pos e]⟩
abbrev factsV (F : PFacts) : Value := .agg #[.int .i64 F.score, .bool F.owners, .bool F.tests, .int .i64 F.users]
end Go.Cf
namespace Go.Proofs.YtllblbkbglifjaaDoor
open Go.RowKit Go.Cf
set_option maxRecDepth 10000
theorem eg28 (op : BinOp) (x y : Operand) (xs ys : Array Value) (w : World) : (eqGuard op 28 x y (.agg xs) (.agg ys)).run Tryd.prog w = .ok () w := run_eqGuard_agg w op 28 x y xs ys (by kernel_rfl)
theorem ne28 (a0 b0 : Int) (a1 b1 : Int) (w : World) : (binOp .neq 28 (.agg #[.int .i64 a0, .int .i64 a1]) (.agg #[.int .i64 b0, .int .i64 b1])).run Tryd.prog w = .ok (.bool (!(decide (a0 = b0) && decide (a1 = b1)))) w := by
  simp [run_neq_struct, run_equalIn_agg, Tryd.underlying28, Tryd.stoodInHeld28, Program.fieldsOf, go_sem]
  (repeat' split) <;> simp_all
theorem fa26_0 (a : Addr) (w : World) : (Instr.fieldAt 26 (.pointer (some a)) 0).run Tryd.prog w = .ok (.pointer (some (a.add 0))) w := by kernel_rfl
theorem fa26_3 (a : Addr) (w : World) : (Instr.fieldAt 26 (.pointer (some a)) 3).run Tryd.prog w = .ok (.pointer (some (a.add 3))) w := by kernel_rfl
theorem fa26_1 (a : Addr) (w : World) : (Instr.fieldAt 26 (.pointer (some a)) 1).run Tryd.prog w = .ok (.pointer (some (a.add 1))) w := by kernel_rfl
theorem fa26_2 (a : Addr) (w : World) : (Instr.fieldAt 26 (.pointer (some a)) 2).run Tryd.prog w = .ok (.pointer (some (a.add 2))) w := by kernel_rfl
set_option maxHeartbeats 8000000 in
theorem polEval_any (w : World) (A : Option Addr) (c : Nat) (l : List PN) (hl : Rdl w 0 4 pnCells A l) (hlc : l.length ≤ c) (hcm : c ≤ maxLen) (F : PFacts) : Calls Tryd.prog 10 #[.agg #[.slice A l.length c], factsV F] w fun e w' => e = .returned (.tuple #[.bool (evalV l F), fv (evalF l F)]) ∧ Below w.heap.size w w' := by
  have hlm : l.length ≤ 9223372036854775807 := by have h9 := Nat.le_trans hlc hcm; unfold maxLen at h9; omega
  refine gcalls Tryd.func10 rfl Tryd.ntmps10 (Nat.le_of_ble_eq_true rfl) ?_
  refine gfrom [(0, .agg #[_]), (1, factsV F)] ⟨rfl, rfl, trivial⟩ fun σ => ?_
  refine gseq fun N1 hN1 => ?_
  refine greg ?_
  refine gop_box (v := .agg #[_]) (cs := #[_]) rfl rfl rfl (fun b2 hb2 => ?_)
  refine gop_box (v := factsV F) (cs := #[_, _, _, _]) rfl rfl rfl (fun b3 hb3 => ?_)
  refine gop (y_assign (v := .bool _) rfl) rfl rfl rfl ?_
  refine gop_alloc (cs := #[.int .i64 0, .int .i64 0]) Tryd.zeroValue28 rfl rfl (fun b5 hb5 => ?_)
  refine gops_nil ?_
  refine hN1 _ _ ?_
  refine gT [box b2 _, box b3 _, box b5 _] rfl ?_
  refine gfrom [(2, .pointer _), (3, .pointer _), (5, .pointer _)] ⟨rfl, rfl, rfl, trivial⟩ fun σ => ?_
  refine gseq fun N2 hN2 => ?_
  refine gseq fun N3 hN3 => ?_
  refine greg ?_
  refine gop (y_loads (cs := [_]) Tryd.isAgg24 Tryd.sizeOf24 rfl rfl (cells_box 0 rfl)) rfl rfl rfl ?_
  refine gop_pure (e_call (vs := [.agg #[_]]) Tryd.func13 rfl (by kernel_rfl) rfl) (fun w hM => polValidate_any w A c l (hl.base hM) hlc hcm) rfl rfl rfl ?_
  refine gop_alloc (cs := #[.int .i64 0, .int .i64 0]) Tryd.zeroValue28 rfl rfl (fun b6 hb6 => ?_)
  refine gop_store 3 (v := .agg #[_, _]) (cs' := #[_, _]) rfl rfl Tryd.sizeOf28 rfl rfl rfl rfl (Nat.le_of_ble_eq_true rfl) rfl rfl ?_
  refine gops_nil ?_
  refine hN3 _ _ ?_
  refine gT [box b2 _, box b3 _, box b5 _, box b6 _] rfl ?_
  refine gfrom [(2, .pointer _), (3, .pointer _), (5, .pointer _), (6, .pointer _)] ⟨rfl, rfl, rfl, rfl, trivial⟩ fun σ => ?_
  refine gseq fun N4 hN4 => ?_
  refine greg ?_
  refine gop (y_loads (cs := [_, _]) Tryd.isAgg28 Tryd.sizeOf28 rfl rfl (cells_box 3 rfl)) rfl rfl rfl ?_
  refine gop (y_build (vs := []) (cells := #[.int .i64 0, .int .i64 0]) rfl bd28_) rfl rfl rfl ?_
  refine gop (y_bin (vx := .agg #[_, _]) (vy := .agg #[_, _]) rfl rfl (fun w => eg28 _ _ _ _ _ w) (fun w => ne28 _ _ _ _ w)) rfl rfl rfl ?_
  refine gops_nil ?_
  refine hN4 _ _ ?_
  refine gfrom [(2, .pointer _), (3, .pointer _), (5, .pointer _), (6, .pointer _), (14, .bool _)] ⟨rfl, rfl, rfl, rfl, rfl, trivial⟩ fun σ => ?_
  refine gcond (b := _) rfl (fun hc14 => ?_) (fun hc14 => ?_)
  · 
    replace hc14 := fault_ne.1 hc14
    obtain ⟨hF, hV⟩ := evalF_bad (F := F) hc14
    refine gseq fun N5 hN5 => ?_
    refine greg_e1 [] [(2, room b5 28 2)] (by kernel_rfl) ?_
    refine ge_take 0 (TK := [box b2 _, box b3 _, room b5 28 2, box b6 _]) rfl (by kernel_rfl) (by kernel_rfl) (by kernel_rfl) #[false, true, false] (by kernel_rfl) rfl (y_loads (cs := [_, _]) Tryd.isAgg28 Tryd.sizeOf28 rfl rfl (cells_box 3 rfl)) rfl rfl rfl (weak_room 2 rfl rfl) (listed' := #[true, false, false]) rfl ?_
    refine ge_take 1 (TK := [box b2 _, box b3 _, room b5 28 2, box b6 _]) rfl (by kernel_rfl) (by kernel_rfl) (by kernel_rfl) #[true, false, false] (by kernel_rfl) rfl (y_assign (v := .bool _) rfl) rfl rfl rfl (weak_room 2 rfl rfl) (listed' := #[true, true, false]) rfl ?_
    refine ge_one 2 (k' := 0) (listed' := #[true, true, true]) (by kernel_rfl) rfl rfl rfl ?_
    refine gop_store 2 (v := .agg #[_, _]) (cs' := #[_, _]) rfl rfl Tryd.sizeOf28 rfl rfl rfl rfl (Nat.le_of_ble_eq_true rfl) rfl rfl ?_
    refine gops_nil ?_
    refine ge_fin (TK := [box b2 _, box b3 _, room b5 28 2, box b6 _]) rfl (weak_room 2 rfl rfl) ?_
    refine ge_done (by kernel_rfl) ?_
    refine hN5 _ _ ?_
    refine gT [box b2 _, box b3 _, box b5 _, box b6 _] rfl ?_
    refine gfrom [(4, .bool _), (5, .pointer _)] ⟨rfl, rfl, trivial⟩ fun σ => ?_
    refine gret fun w1 hM => ?_
    refine ⟨_, res2 rfl (rt (v := .bool _) rfl) (rc 2 (cs := [_, _]) hM rfl rfl Tryd.isAgg28 Tryd.sizeOf28 rfl), ?_⟩
    exact ⟨by rw [hF, hV], hM.low⟩
  · 
    replace hc14 := fault_eq.1 hc14
    obtain ⟨hn0, hn24, hz⟩ := pol_ok hc14
    have hk := linked_of hz
    refine gskip ?_
    refine hN2 _ _ ?_
    refine gfrom [(2, .pointer _), (3, .pointer _), (5, .pointer _)] ⟨rfl, rfl, rfl, trivial⟩ fun σ => ?_
    refine gseq fun N6 hN6 => ?_
    refine gseq fun N7 hN7 => ?_
    refine greg ?_
    refine gop (y_fieldAddr_box fa26_0 rfl) rfl rfl rfl ?_
    refine gop (y_load Tryd.isAgg3 rfl (cell_box 1 rfl rfl)) rfl rfl rfl ?_
    refine gop (y_lss rfl rfl) rfl rfl rfl ?_
    refine gop (y_move (v := .bool _) rfl) rfl rfl rfl ?_
    refine gop_if (want := false) rfl rfl rfl rfl rfl rfl (fun hg19 => ?_) (fun hg19 => ?_)
    · 
      have hg19d := of_decide_eq_false hg19
      refine gop (y_bare (y_fieldAddr_box fa26_0 rfl)) rfl rfl rfl ?_
      refine gop_on rfl rfl rfl rfl hg19 ?_
      refine gop (y_bare (y_load Tryd.isAgg3 rfl (cell_box 1 rfl rfl))) rfl rfl rfl ?_
      refine gop_on rfl rfl rfl rfl hg19 ?_
      refine gop (y_bare (y_gtr rfl rfl)) rfl rfl rfl ?_
      refine gop (y_pick_f (v := .bool _) rfl hg19 rfl) rfl rfl rfl ?_
      refine gop (y_move (v := .bool _) rfl) rfl rfl rfl ?_
      refine gop_if (want := false) rfl rfl rfl rfl rfl rfl (fun hg24 => ?_) (fun hg24 => ?_)
      · 
        have hg24d := of_decide_eq_false hg24
        refine gop (y_bare (y_fieldAddr_box fa26_3 rfl)) rfl rfl rfl ?_
        refine gop_on rfl rfl rfl rfl hg24 ?_
        refine gop (y_bare (y_load Tryd.isAgg3 rfl (cell_box 1 rfl rfl))) rfl rfl rfl ?_
        refine gop_on rfl rfl rfl rfl hg24 ?_
        refine gop (y_bare (y_lss rfl rfl)) rfl rfl rfl ?_
        refine gop (y_pick_f (v := .bool _) rfl hg24 rfl) rfl rfl rfl ?_
        refine gop (y_move (v := .bool _) rfl) rfl rfl rfl ?_
        refine gop_if (want := false) rfl rfl rfl rfl rfl rfl (fun hg29 => ?_) (fun hg29 => ?_)
        · 
          have hg29d := of_decide_eq_false hg29
          refine gop (y_bare (y_fieldAddr_box fa26_3 rfl)) rfl rfl rfl ?_
          refine gop_on rfl rfl rfl rfl hg29 ?_
          refine gop (y_bare (y_load Tryd.isAgg3 rfl (cell_box 1 rfl rfl))) rfl rfl rfl ?_
          refine gop_on rfl rfl rfl rfl hg29 ?_
          refine gop (y_bare (y_gtr rfl rfl)) rfl rfl rfl ?_
          refine gop (y_pick_f (v := .bool _) rfl hg29 rfl) rfl rfl rfl ?_
          refine gops_nil ?_
          refine hN7 _ _ ?_
          refine gfrom [(2, .pointer _), (3, .pointer _), (5, .pointer _), (33, .bool _)] ⟨rfl, rfl, rfl, rfl, trivial⟩ fun σ => ?_
          refine gcond (b := _) rfl (fun hc33 => ?_) (fun hc33 => ?_)
          · 
            replace hc33 := of_decide_eq_true hc33
            obtain ⟨hF, hV⟩ := evalF_range hc14 (F := F) (by unfold factsBad; omega)
            refine gseq fun N8 hN8 => ?_
            refine greg ?_
            refine gop (y_build (vs := [(0, _), (1, _)]) (cells := #[_, _]) rfl (bd28_0_1 _ _)) rfl rfl rfl ?_
            refine gop (y_assign (v := .bool _) rfl) rfl rfl rfl ?_
            refine gop_store 2 (v := .agg #[_, _]) (cs' := #[_, _]) rfl rfl Tryd.sizeOf28 rfl rfl rfl rfl (Nat.le_of_ble_eq_true rfl) rfl rfl ?_
            refine gops_nil ?_
            refine hN8 _ _ ?_
            refine gT [box b2 _, box b3 _, box b5 _, box b6 _] rfl ?_
            refine gfrom [(4, .bool _), (5, .pointer _)] ⟨rfl, rfl, trivial⟩ fun σ => ?_
            refine gret fun w1 hM => ?_
            refine ⟨_, res2 rfl (rt (v := .bool _) rfl) (rc 2 (cs := [_, _]) hM rfl rfl Tryd.isAgg28 Tryd.sizeOf28 rfl), ?_⟩
            exact ⟨by rw [hF, hV], hM.low⟩
          · 
            replace hc33 := of_decide_eq_false hc33
            obtain ⟨hF, hV⟩ := evalF_ok hc14 (F := F) (by unfold factsBad; omega)
            refine gskip ?_
            refine hN6 _ _ ?_
            refine gfrom [(2, .pointer _), (3, .pointer _), (5, .pointer _)] ⟨rfl, rfl, rfl, trivial⟩ fun σ => ?_
            refine gseq fun N9 hN9 => ?_
            refine greg ?_
            refine gop (y_fieldAddr_box fa24_0 rfl) rfl rfl rfl ?_
            refine gop (y_load Tryd.isAgg22 rfl (cell_box 0 rfl rfl)) rfl rfl rfl ?_
            refine gop (y_len Tryd.underlying22 rfl) rfl rfl rfl ?_
            refine gop_make (f := boolCells) (bytes := 1) (z := .bool false) (false) Tryd.underlying50 (by kernel_rfl) rfl rfl rfl (k := l.length) rfl rfl (by omega) (by simp [maxLen]; omega) rfl (fun b38 hb38 => ?_)
            refine gop (y_assign (v := .slice (some _) _ _) rfl) rfl rfl rfl ?_
            refine gops_nil ?_
            refine hN9 _ _ ?_
            refine gT [box b2 _, box b3 _, box b5 _, box b6 _, rowl _ _ _ _ _ _] rfl ?_
            refine gfrom [(2, .pointer _), (3, .pointer _), (5, .pointer _), (7, .slice (some _) _ _)] ⟨rfl, rfl, rfl, rfl, trivial⟩ fun σ => ?_
            refine gseq fun N10 hN10 => ?_
            refine gseq fun N11 hN11 => ?_
            refine greg ?_
            refine gop (y_fieldAddr_box fa24_0 rfl) rfl rfl rfl ?_
            refine gop (y_load Tryd.isAgg22 rfl (cell_box 0 rfl rfl)) rfl rfl rfl ?_
            refine gop (y_len Tryd.underlying22 rfl) rfl rfl rfl ?_
            refine gop (y_move (v := .int _ _) rfl) rfl rfl rfl ?_
            refine gops_nil ?_
            refine hN11 _ _ ?_
            refine gfrom [(3, .pointer _), (5, .pointer _), (7, .slice (some _) _ _), (40, .slice _ _ _), (41, .int _ _), (42, .int _ _)] ⟨rfl, rfl, rfl, rfl, rfl, rfl, trivial⟩ fun σ => ?_
            refine gblock ?_
            rw [← pad_nil l.length false]
            refine gfrom2 [(42, .int _ _)] [(3, .pointer _), (5, .pointer _), (7, .slice (some _) _ _), (40, .slice _ _ _), (41, .int _ _)] ⟨rfl, trivial⟩ ⟨rfl, rfl, rfl, rfl, rfl, trivial⟩ fun σ => ?_
            refine gloop2 (G := Nat) (fun k => k ≤ l.length) (fun k => l.length - k) (fun k => [(42, .int .i64 (k : Int))]) (fun k => [(4, rowl boolCells w.heap.size 4 1 (.slice (some ⟨b38, 0, none⟩) l.length l.length) (pad false (foldTo (evN F) l k) l.length))]) (0) ?h0 ⟨rfl, trivial⟩ ⟨rfl, rfl, rfl, rfl, rfl, trivial⟩ rfl ?round
            case h0 => exact Nat.zero_le _
            case round =>
              intro k hφ σ
              have hkk : k ≤ l.length := hφ
              refine gT [box b2 _, box b3 _, box b5 _, box b6 _, rowl _ _ _ _ _ _] rfl ?_
              refine gseq fun N12 hN12 => ?_
              refine greg ?_
              refine gop (y_lss rfl rfl) rfl rfl rfl ?_
              refine gops_nil ?_
              refine hN12 _ _ ?_
              refine gfrom [(3, .pointer _), (5, .pointer _), (7, .slice (some _) _ _), (40, .slice _ _ _), (41, .int _ _), (42, .int _ _), (43, .bool _)] ⟨rfl, rfl, rfl, rfl, rfl, rfl, rfl, trivial⟩ fun σ => ?_
              refine gseq fun N13 hN13 => ?_
              refine gcond (b := _) rfl (fun hc43 => ?_) (fun hc43 => ?_)
              · 
                replace hc43 := of_decide_eq_true hc43
                have hk1 : k < l.length := by omega
                obtain ⟨ad, rfl, -, hca⟩ := hl.at_ hk1
                obtain ⟨hkl, hkr⟩ := hk k hk1
                obtain ⟨hk0, hk7, hm0, hm1, -⟩ := chk_zero (hz k hk1)
                refine gskip ?_
                refine hN13 _ _ ?_
                refine gfrom [(3, .pointer _), (5, .pointer _), (7, .slice (some _) _ _), (40, .slice _ _ _), (41, .int _ _), (42, .int _ _)] ⟨rfl, rfl, rfl, rfl, rfl, rfl, trivial⟩ fun σ => ?_
                refine gseq fun N14 hN14 => ?_
                refine gfrom [(3, .pointer _), (5, .pointer _), (7, .slice (some _) _ _), (40, .slice _ _ _), (41, .int _ _), (42, .int _ _)] ⟨rfl, rfl, rfl, rfl, rfl, rfl, trivial⟩ fun σ => ?_
                refine gcut3 (Lf := [(3, .pointer _), (5, .pointer _), (7, .slice (some _) _ _), (40, .slice _ _ _), (41, .int _ _), (42, .int _ _)]) (G := Unit) (fun g => True) (fun g => []) (fun g => [(4, rowl boolCells w.heap.size 4 1 (.slice (some ⟨b38, 0, none⟩) l.length l.length) (pad false ((foldTo (evN F) l k) ++ [evN F l[k] (foldTo (evN F) l k)]) l.length))]) ⟨rfl, rfl, rfl, rfl, rfl, rfl, trivial⟩ ?_ ?_
                ·
                  refine gblock ?_
                  refine gseq fun N15 hN15 => ?_
                  refine greg ?_
                  refine gop (y_move (v := .int _ _) rfl) rfl rfl rfl ?_
                  refine gop (y_indexAddr (m := k) Tryd.underlying22 Tryd.sizeOf47 rfl rfl (by omega) (by omega) (by omega)) rfl rfl rfl ?_
                  refine gop (y_loads (cs := [_, _, _, _]) Tryd.isAgg47 Tryd.sizeOf47 rfl rfl (cells_base hca)) rfl rfl rfl ?_
                  refine gop_alloc (cs := #[.int .i64 0, .int .i64 0, .int .i64 0, .int .i64 0]) Tryd.zeroValue47 rfl rfl (fun b9 hb9 => ?_)
                  refine gop (y_assign (v := .int _ _) rfl) rfl rfl rfl ?_
                  refine gop_store 5 (v := .agg #[_, _, _, _]) (cs' := #[_, _, _, _]) rfl rfl Tryd.sizeOf47 rfl rfl rfl rfl (Nat.le_of_ble_eq_true rfl) rfl rfl ?_
                  refine gops_nil ?_
                  refine hN15 _ _ ?_
                  refine gT [box b2 _, box b3 _, box b5 _, box b6 _, rowl _ _ _ _ _ _, box b9 _] rfl ?_
                  refine gfrom [(3, .pointer _), (5, .pointer _), (7, .slice (some _) _ _), (8, .int _ _), (9, .pointer _), (40, .slice _ _ _), (41, .int _ _), (42, .int _ _)] ⟨rfl, rfl, rfl, rfl, rfl, rfl, rfl, rfl, trivial⟩ fun σ => ?_
                  refine gseq fun N16 hN16 => ?_
                  refine greg ?_
                  refine gop (y_fieldAddr_box fa47_0 rfl) rfl rfl rfl ?_
                  refine gop (y_load Tryd.isAgg3 rfl (cell_box 5 rfl rfl)) rfl rfl rfl ?_
                  refine gops_nil ?_
                  refine hN16 _ _ ?_
                  refine gfrom [(3, .pointer _), (5, .pointer _), (7, .slice (some _) _ _), (8, .int _ _), (9, .pointer _), (40, .slice _ _ _), (41, .int _ _), (42, .int _ _), (48, .int _ _)] ⟨rfl, rfl, rfl, rfl, rfl, rfl, rfl, rfl, rfl, trivial⟩ fun σ => ?_
                  refine gblock ?_
                  refine gseq fun N17 hN17 => ?_
                  refine greg ?_
                  refine gop (y_eql rfl rfl) rfl rfl rfl ?_
                  refine gop (y_assign (v := .bool _) rfl) rfl rfl rfl ?_
                  refine gops_nil ?_
                  refine hN17 _ _ ?_
                  refine gfrom [(3, .pointer _), (5, .pointer _), (7, .slice (some _) _ _), (8, .int _ _), (9, .pointer _), (40, .slice _ _ _), (41, .int _ _), (42, .int _ _), (48, .int _ _), (64, .bool _)] ⟨rfl, rfl, rfl, rfl, rfl, rfl, rfl, rfl, rfl, rfl, trivial⟩ fun σ => ?_
                  refine gcond (b := _) rfl (fun hc64 => ?_) (fun hc64 => ?_)
                  · 
                    replace hc64 := of_decide_eq_true hc64
                    have hev : evN F l[k] (foldTo (evN F) l k) = _ := ev1 hc64
                    refine greg ?_
                    refine gop (y_move (v := .slice (some _) _ _) rfl) rfl rfl rfl ?_
                    refine gop (y_move (v := .int _ _) rfl) rfl rfl rfl ?_
                    refine gop (y_fieldAddr_box fa26_0 rfl) rfl rfl rfl ?_
                    refine gop (y_load Tryd.isAgg3 rfl (cell_box 1 rfl rfl)) rfl rfl rfl ?_
                    refine gop (y_fieldAddr_box fa47_1 rfl) rfl rfl rfl ?_
                    refine gop (y_load Tryd.isAgg3 rfl (cell_box 5 rfl rfl)) rfl rfl rfl ?_
                    refine gop (y_geq rfl rfl) rfl rfl rfl ?_
                    refine gop (y_indexAddr (m := k) Tryd.underlying50 Tryd.sizeOf4 rfl rfl (by omega) (by omega) (by omega)) rfl rfl rfl ?_
                    refine gop_store_row 4 (f := boolCells) (l := pad false (foldTo (evN F) l k) l.length) (k := k) (o := 0) (v := .bool _) (a := false) (a' := _) (fun _ => rfl) rfl rfl rfl Tryd.sizeOf4 rfl rfl rfl rfl (pad_len (by rw [foldTo_len]; omega)).symm (pad_at (foldTo_len k) hk1) (Nat.le_of_ble_eq_true rfl) rfl rfl ?_
                    refine gops_nil ?_
                    rw [hev, pad_set (foldTo_len k) hk1]
                    refine gcut3_end (()) (trivial) trivial ⟨rfl, rfl, rfl, rfl, rfl, rfl, trivial⟩ ⟨_, rfl⟩
                  · 
                    replace hc64 := of_decide_eq_false hc64
                    refine gseq fun N18 hN18 => ?_
                    refine greg ?_
                    refine gop (y_eql rfl rfl) rfl rfl rfl ?_
                    refine gop (y_assign (v := .bool _) rfl) rfl rfl rfl ?_
                    refine gops_nil ?_
                    refine hN18 _ _ ?_
                    refine gfrom [(3, .pointer _), (5, .pointer _), (7, .slice (some _) _ _), (8, .int _ _), (9, .pointer _), (40, .slice _ _ _), (41, .int _ _), (42, .int _ _), (48, .int _ _), (74, .bool _)] ⟨rfl, rfl, rfl, rfl, rfl, rfl, rfl, rfl, rfl, rfl, trivial⟩ fun σ => ?_
                    refine gcond (b := _) rfl (fun hc74 => ?_) (fun hc74 => ?_)
                    · 
                      replace hc74 := of_decide_eq_true hc74
                      have hev : evN F l[k] (foldTo (evN F) l k) = _ := ev2 hc74
                      refine greg ?_
                      refine gop (y_move (v := .slice (some _) _ _) rfl) rfl rfl rfl ?_
                      refine gop (y_move (v := .int _ _) rfl) rfl rfl rfl ?_
                      refine gop (y_fieldAddr_box fa26_1 rfl) rfl rfl rfl ?_
                      refine gop (y_load Tryd.isAgg4 rfl (cell_box 1 rfl rfl)) rfl rfl rfl ?_
                      refine gop (y_indexAddr (m := k) Tryd.underlying50 Tryd.sizeOf4 rfl rfl (by omega) (by omega) (by omega)) rfl rfl rfl ?_
                      refine gop_store_row 4 (f := boolCells) (l := pad false (foldTo (evN F) l k) l.length) (k := k) (o := 0) (v := .bool _) (a := false) (a' := _) (fun _ => rfl) rfl rfl rfl Tryd.sizeOf4 rfl rfl rfl rfl (pad_len (by rw [foldTo_len]; omega)).symm (pad_at (foldTo_len k) hk1) (Nat.le_of_ble_eq_true rfl) rfl rfl ?_
                      refine gops_nil ?_
                      rw [hev, pad_set (foldTo_len k) hk1]
                      refine gcut3_end (()) (trivial) trivial ⟨rfl, rfl, rfl, rfl, rfl, rfl, trivial⟩ ⟨_, rfl⟩
                    · 
                      replace hc74 := of_decide_eq_false hc74
                      refine gseq fun N19 hN19 => ?_
                      refine greg ?_
                      refine gop (y_eql rfl rfl) rfl rfl rfl ?_
                      refine gop (y_assign (v := .bool _) rfl) rfl rfl rfl ?_
                      refine gops_nil ?_
                      refine hN19 _ _ ?_
                      refine gfrom [(3, .pointer _), (5, .pointer _), (7, .slice (some _) _ _), (8, .int _ _), (9, .pointer _), (40, .slice _ _ _), (41, .int _ _), (42, .int _ _), (48, .int _ _), (81, .bool _)] ⟨rfl, rfl, rfl, rfl, rfl, rfl, rfl, rfl, rfl, rfl, trivial⟩ fun σ => ?_
                      refine gcond (b := _) rfl (fun hc81 => ?_) (fun hc81 => ?_)
                      · 
                        replace hc81 := of_decide_eq_true hc81
                        have hev : evN F l[k] (foldTo (evN F) l k) = _ := ev3 hc81
                        refine greg ?_
                        refine gop (y_move (v := .slice (some _) _ _) rfl) rfl rfl rfl ?_
                        refine gop (y_move (v := .int _ _) rfl) rfl rfl rfl ?_
                        refine gop (y_fieldAddr_box fa26_2 rfl) rfl rfl rfl ?_
                        refine gop (y_load Tryd.isAgg4 rfl (cell_box 1 rfl rfl)) rfl rfl rfl ?_
                        refine gop (y_indexAddr (m := k) Tryd.underlying50 Tryd.sizeOf4 rfl rfl (by omega) (by omega) (by omega)) rfl rfl rfl ?_
                        refine gop_store_row 4 (f := boolCells) (l := pad false (foldTo (evN F) l k) l.length) (k := k) (o := 0) (v := .bool _) (a := false) (a' := _) (fun _ => rfl) rfl rfl rfl Tryd.sizeOf4 rfl rfl rfl rfl (pad_len (by rw [foldTo_len]; omega)).symm (pad_at (foldTo_len k) hk1) (Nat.le_of_ble_eq_true rfl) rfl rfl ?_
                        refine gops_nil ?_
                        rw [hev, pad_set (foldTo_len k) hk1]
                        refine gcut3_end (()) (trivial) trivial ⟨rfl, rfl, rfl, rfl, rfl, rfl, trivial⟩ ⟨_, rfl⟩
                      · 
                        replace hc81 := of_decide_eq_false hc81
                        refine gseq fun N20 hN20 => ?_
                        refine greg ?_
                        refine gop (y_eql rfl rfl) rfl rfl rfl ?_
                        refine gop (y_assign (v := .bool _) rfl) rfl rfl rfl ?_
                        refine gops_nil ?_
                        refine hN20 _ _ ?_
                        refine gfrom [(3, .pointer _), (5, .pointer _), (7, .slice (some _) _ _), (8, .int _ _), (9, .pointer _), (40, .slice _ _ _), (41, .int _ _), (42, .int _ _), (48, .int _ _), (88, .bool _)] ⟨rfl, rfl, rfl, rfl, rfl, rfl, rfl, rfl, rfl, rfl, trivial⟩ fun σ => ?_
                        refine gcond (b := _) rfl (fun hc88 => ?_) (fun hc88 => ?_)
                        · 
                          replace hc88 := of_decide_eq_true hc88
                          have hev : evN F l[k] (foldTo (evN F) l k) = _ := ev4 hc88
                          rw [hc88] at hm1
                          have hm7 : l[k].number ≤ 7 := hm1
                          refine greg ?_
                          refine gop (y_move (v := .slice (some _) _ _) rfl) rfl rfl rfl ?_
                          refine gop (y_move (v := .int _ _) rfl) rfl rfl rfl ?_
                          refine gop (y_fieldAddr_box fa26_3 rfl) rfl rfl rfl ?_
                          refine gop (y_load Tryd.isAgg3 rfl (cell_box 1 rfl rfl)) rfl rfl rfl ?_
                          refine gop (y_fieldAddr_box fa47_1 rfl) rfl rfl rfl ?_
                          refine gop (y_load Tryd.isAgg3 rfl (cell_box 5 rfl rfl)) rfl rfl rfl ?_
                          refine gop (y_shr rfl rfl (by omega) (by omega)) rfl rfl rfl ?_
                          refine gop (y_and1 rfl rfl) rfl rfl rfl ?_
                          refine gop (y_eql rfl rfl) rfl rfl rfl ?_
                          refine gop (y_indexAddr (m := k) Tryd.underlying50 Tryd.sizeOf4 rfl rfl (by omega) (by omega) (by omega)) rfl rfl rfl ?_
                          refine gop_store_row 4 (f := boolCells) (l := pad false (foldTo (evN F) l k) l.length) (k := k) (o := 0) (v := .bool _) (a := false) (a' := _) (fun _ => rfl) rfl rfl rfl Tryd.sizeOf4 rfl rfl rfl rfl (pad_len (by rw [foldTo_len]; omega)).symm (pad_at (foldTo_len k) hk1) (Nat.le_of_ble_eq_true rfl) rfl rfl ?_
                          refine gops_nil ?_
                          rw [hev, pad_set (foldTo_len k) hk1]
                          refine gcut3_end (()) (trivial) trivial ⟨rfl, rfl, rfl, rfl, rfl, rfl, trivial⟩ ⟨_, rfl⟩
                        · 
                          replace hc88 := of_decide_eq_false hc88
                          refine gseq fun N21 hN21 => ?_
                          refine greg ?_
                          refine gop (y_eql rfl rfl) rfl rfl rfl ?_
                          refine gop (y_assign (v := .bool _) rfl) rfl rfl rfl ?_
                          refine gops_nil ?_
                          refine hN21 _ _ ?_
                          refine gfrom [(3, .pointer _), (5, .pointer _), (7, .slice (some _) _ _), (8, .int _ _), (9, .pointer _), (40, .slice _ _ _), (41, .int _ _), (42, .int _ _), (48, .int _ _), (100, .bool _)] ⟨rfl, rfl, rfl, rfl, rfl, rfl, rfl, rfl, rfl, rfl, trivial⟩ fun σ => ?_
                          refine gcond (b := _) rfl (fun hc100 => ?_) (fun hc100 => ?_)
                          · 
                            replace hc100 := of_decide_eq_true hc100
                            have hev : evN F l[k] (foldTo (evN F) l k) = _ := ev5 hc100
                            obtain ⟨hl0, hl1⟩ := hkl (by rw [hc100]; decide)
                            refine greg ?_
                            refine gop (y_move (v := .slice (some _) _ _) rfl) rfl rfl rfl ?_
                            refine gop (y_move (v := .int _ _) rfl) rfl rfl rfl ?_
                            refine gop (y_move (v := .slice (some _) _ _) rfl) rfl rfl rfl ?_
                            refine gop (y_fieldAddr_box fa47_2 rfl) rfl rfl rfl ?_
                            refine gop (y_load Tryd.isAgg3 rfl (cell_box 5 rfl rfl)) rfl rfl rfl ?_
                            refine gop (y_indexAddr (m := l[k].left.toNat) Tryd.underlying50 Tryd.sizeOf4 rfl rfl (by omega) (by omega) (by omega)) rfl rfl rfl ?_
                            refine gop (y_load Tryd.isAgg4 rfl (cells_rowl 4 (f := boolCells) (l := pad false (foldTo (evN F) l k) l.length) rfl (by rw [pad_len (by rw [foldTo_len]; omega)]) (fun _ => rfl) (by rw [pad_old (by rw [foldTo_len]; omega)]; exact gB_get (by rw [foldTo_len]; omega)) 0 _ rfl)) rfl rfl rfl ?_
                            refine gop (y_not rfl) rfl rfl rfl ?_
                            refine gop (y_indexAddr (m := k) Tryd.underlying50 Tryd.sizeOf4 rfl rfl (by omega) (by omega) (by omega)) rfl rfl rfl ?_
                            refine gop_store_row 4 (f := boolCells) (l := pad false (foldTo (evN F) l k) l.length) (k := k) (o := 0) (v := .bool _) (a := false) (a' := _) (fun _ => rfl) rfl rfl rfl Tryd.sizeOf4 rfl rfl rfl rfl (pad_len (by rw [foldTo_len]; omega)).symm (pad_at (foldTo_len k) hk1) (Nat.le_of_ble_eq_true rfl) rfl rfl ?_
                            refine gops_nil ?_
                            rw [hev, pad_set (foldTo_len k) hk1]
                            refine gcut3_end (()) (trivial) trivial ⟨rfl, rfl, rfl, rfl, rfl, rfl, trivial⟩ ⟨_, rfl⟩
                          · 
                            replace hc100 := of_decide_eq_false hc100
                            refine gseq fun N22 hN22 => ?_
                            refine greg ?_
                            refine gop (y_eql rfl rfl) rfl rfl rfl ?_
                            refine gop (y_assign (v := .bool _) rfl) rfl rfl rfl ?_
                            refine gops_nil ?_
                            refine hN22 _ _ ?_
                            refine gfrom [(3, .pointer _), (5, .pointer _), (7, .slice (some _) _ _), (8, .int _ _), (9, .pointer _), (40, .slice _ _ _), (41, .int _ _), (42, .int _ _), (111, .bool _)] ⟨rfl, rfl, rfl, rfl, rfl, rfl, rfl, rfl, rfl, trivial⟩ fun σ => ?_
                            refine gcond (b := _) rfl (fun hc111 => ?_) (fun hc111 => ?_)
                            · 
                              replace hc111 := of_decide_eq_true hc111
                              have hev : evN F l[k] (foldTo (evN F) l k) = _ := ev6 hc111
                              obtain ⟨hl0, hl1⟩ := hkl (by rw [hc111]; decide)
                              obtain ⟨hr0, hr1⟩ := hkr (by rw [hc111]; decide)
                              refine greg ?_
                              refine gop (y_move (v := .slice (some _) _ _) rfl) rfl rfl rfl ?_
                              refine gop (y_move (v := .int _ _) rfl) rfl rfl rfl ?_
                              refine gop (y_move (v := .slice (some _) _ _) rfl) rfl rfl rfl ?_
                              refine gop (y_fieldAddr_box fa47_2 rfl) rfl rfl rfl ?_
                              refine gop (y_load Tryd.isAgg3 rfl (cell_box 5 rfl rfl)) rfl rfl rfl ?_
                              refine gop (y_indexAddr (m := l[k].left.toNat) Tryd.underlying50 Tryd.sizeOf4 rfl rfl (by omega) (by omega) (by omega)) rfl rfl rfl ?_
                              refine gop (y_load Tryd.isAgg4 rfl (cells_rowl 4 (f := boolCells) (l := pad false (foldTo (evN F) l k) l.length) rfl (by rw [pad_len (by rw [foldTo_len]; omega)]) (fun _ => rfl) (by rw [pad_old (by rw [foldTo_len]; omega)]; exact gB_get (by rw [foldTo_len]; omega)) 0 _ rfl)) rfl rfl rfl ?_
                              refine gop (y_move (v := .bool _) rfl) rfl rfl rfl ?_
                              refine gop_if (want := true) rfl rfl rfl rfl rfl rfl (fun hg120 => ?_) (fun hg120 => ?_)
                              · 
                                have hg120d := hg120
                                refine gop (y_bare (y_move (v := .slice (some _) _ _) rfl)) rfl rfl rfl ?_
                                refine gop_on rfl rfl rfl rfl hg120 ?_
                                refine gop (y_bare (y_fieldAddr_box fa47_3 rfl)) rfl rfl rfl ?_
                                refine gop_on rfl rfl rfl rfl hg120 ?_
                                refine gop (y_bare (y_load Tryd.isAgg3 rfl (cell_box 5 rfl rfl))) rfl rfl rfl ?_
                                refine gop_on rfl rfl rfl rfl hg120 ?_
                                refine gop (y_bare (y_indexAddr (m := l[k].right.toNat) Tryd.underlying50 Tryd.sizeOf4 rfl rfl (by omega) (by omega) (by omega))) rfl rfl rfl ?_
                                refine gop_on rfl rfl rfl rfl hg120 ?_
                                refine gop (y_bare (y_load Tryd.isAgg4 rfl (cells_rowl 4 (f := boolCells) (l := pad false (foldTo (evN F) l k) l.length) rfl (by rw [pad_len (by rw [foldTo_len]; omega)]) (fun _ => rfl) (by rw [pad_old (by rw [foldTo_len]; omega)]; exact gB_get (by rw [foldTo_len]; omega)) 0 _ rfl))) rfl rfl rfl ?_
                                refine gop (y_pick_t (v := .bool _) rfl hg120 rfl) rfl rfl rfl ?_
                                refine gop (y_indexAddr (m := k) Tryd.underlying50 Tryd.sizeOf4 rfl rfl (by omega) (by omega) (by omega)) rfl rfl rfl ?_
                                refine gop_store_row 4 (f := boolCells) (l := pad false (foldTo (evN F) l k) l.length) (k := k) (o := 0) (v := .bool _) (a := false) (a' := _) (fun _ => rfl) rfl rfl rfl Tryd.sizeOf4 rfl rfl rfl rfl (pad_len (by rw [foldTo_len]; omega)).symm (pad_at (foldTo_len k) hk1) (Nat.le_of_ble_eq_true rfl) rfl rfl ?_
                                refine gops_nil ?_
                                rw [hev, pad_set (foldTo_len k) hk1, hg120]
                                first | rw [Bool.true_and] | rw [Bool.not_true, Bool.false_and]
                                refine gcut3_end (()) (trivial) trivial ⟨rfl, rfl, rfl, rfl, rfl, rfl, trivial⟩ ⟨_, rfl⟩
                              · 
                                have hg120d := hg120
                                refine gop_off rfl rfl rfl rfl hg120 rfl rfl ?_
                                refine gop_off rfl rfl rfl rfl hg120 rfl rfl ?_
                                refine gop_off rfl rfl rfl rfl hg120 rfl rfl ?_
                                refine gop_off rfl rfl rfl rfl hg120 rfl rfl ?_
                                refine gop (y_pick_f (v := .bool _) rfl hg120 rfl) rfl rfl rfl ?_
                                refine gop (y_indexAddr (m := k) Tryd.underlying50 Tryd.sizeOf4 rfl rfl (by omega) (by omega) (by omega)) rfl rfl rfl ?_
                                refine gop_store_row 4 (f := boolCells) (l := pad false (foldTo (evN F) l k) l.length) (k := k) (o := 0) (v := .bool _) (a := false) (a' := _) (fun _ => rfl) rfl rfl rfl Tryd.sizeOf4 rfl rfl rfl rfl (pad_len (by rw [foldTo_len]; omega)).symm (pad_at (foldTo_len k) hk1) (Nat.le_of_ble_eq_true rfl) rfl rfl ?_
                                refine gops_nil ?_
                                rw [hev, pad_set (foldTo_len k) hk1, hg120]
                                first | rw [Bool.true_and] | rw [Bool.not_true, Bool.false_and]
                                refine gcut3_end (()) (trivial) trivial ⟨rfl, rfl, rfl, rfl, rfl, rfl, trivial⟩ ⟨_, rfl⟩
                            · 
                              replace hc111 := of_decide_eq_false hc111
                              have h7 : l[k].kind = 7 := by omega
                              have hev : evN F l[k] (foldTo (evN F) l k) = _ := ev7 h7
                              obtain ⟨hl0, hl1⟩ := hkl (by rw [h7]; decide)
                              obtain ⟨hr0, hr1⟩ := hkr (by rw [h7]; decide)
                              refine greg ?_
                              refine gop (y_move (v := .slice (some _) _ _) rfl) rfl rfl rfl ?_
                              refine gop (y_move (v := .int _ _) rfl) rfl rfl rfl ?_
                              refine gop (y_move (v := .slice (some _) _ _) rfl) rfl rfl rfl ?_
                              refine gop (y_fieldAddr_box fa47_2 rfl) rfl rfl rfl ?_
                              refine gop (y_load Tryd.isAgg3 rfl (cell_box 5 rfl rfl)) rfl rfl rfl ?_
                              refine gop (y_indexAddr (m := l[k].left.toNat) Tryd.underlying50 Tryd.sizeOf4 rfl rfl (by omega) (by omega) (by omega)) rfl rfl rfl ?_
                              refine gop (y_load Tryd.isAgg4 rfl (cells_rowl 4 (f := boolCells) (l := pad false (foldTo (evN F) l k) l.length) rfl (by rw [pad_len (by rw [foldTo_len]; omega)]) (fun _ => rfl) (by rw [pad_old (by rw [foldTo_len]; omega)]; exact gB_get (by rw [foldTo_len]; omega)) 0 _ rfl)) rfl rfl rfl ?_
                              refine gop (y_move (v := .bool _) rfl) rfl rfl rfl ?_
                              refine gop_if (want := false) rfl rfl rfl rfl rfl rfl (fun hg56 => ?_) (fun hg56 => ?_)
                              · 
                                have hg56d := hg56
                                refine gop (y_bare (y_move (v := .slice (some _) _ _) rfl)) rfl rfl rfl ?_
                                refine gop_on rfl rfl rfl rfl hg56 ?_
                                refine gop (y_bare (y_fieldAddr_box fa47_3 rfl)) rfl rfl rfl ?_
                                refine gop_on rfl rfl rfl rfl hg56 ?_
                                refine gop (y_bare (y_load Tryd.isAgg3 rfl (cell_box 5 rfl rfl))) rfl rfl rfl ?_
                                refine gop_on rfl rfl rfl rfl hg56 ?_
                                refine gop (y_bare (y_indexAddr (m := l[k].right.toNat) Tryd.underlying50 Tryd.sizeOf4 rfl rfl (by omega) (by omega) (by omega))) rfl rfl rfl ?_
                                refine gop_on rfl rfl rfl rfl hg56 ?_
                                refine gop (y_bare (y_load Tryd.isAgg4 rfl (cells_rowl 4 (f := boolCells) (l := pad false (foldTo (evN F) l k) l.length) rfl (by rw [pad_len (by rw [foldTo_len]; omega)]) (fun _ => rfl) (by rw [pad_old (by rw [foldTo_len]; omega)]; exact gB_get (by rw [foldTo_len]; omega)) 0 _ rfl))) rfl rfl rfl ?_
                                refine gop (y_pick_f (v := .bool _) rfl hg56 rfl) rfl rfl rfl ?_
                                refine gop (y_indexAddr (m := k) Tryd.underlying50 Tryd.sizeOf4 rfl rfl (by omega) (by omega) (by omega)) rfl rfl rfl ?_
                                refine gop_store_row 4 (f := boolCells) (l := pad false (foldTo (evN F) l k) l.length) (k := k) (o := 0) (v := .bool _) (a := false) (a' := _) (fun _ => rfl) rfl rfl rfl Tryd.sizeOf4 rfl rfl rfl rfl (pad_len (by rw [foldTo_len]; omega)).symm (pad_at (foldTo_len k) hk1) (Nat.le_of_ble_eq_true rfl) rfl rfl ?_
                                refine gops_nil ?_
                                rw [hev, pad_set (foldTo_len k) hk1, hg56]
                                first | rw [Bool.false_or] | rw [Bool.not_false, Bool.true_or]
                                refine gcut3_end (()) (trivial) trivial ⟨rfl, rfl, rfl, rfl, rfl, rfl, trivial⟩ ⟨_, rfl⟩
                              · 
                                have hg56d := hg56
                                refine gop_off rfl rfl rfl rfl hg56 rfl rfl ?_
                                refine gop_off rfl rfl rfl rfl hg56 rfl rfl ?_
                                refine gop_off rfl rfl rfl rfl hg56 rfl rfl ?_
                                refine gop_off rfl rfl rfl rfl hg56 rfl rfl ?_
                                refine gop (y_pick_t (v := .bool _) rfl hg56 rfl) rfl rfl rfl ?_
                                refine gop (y_indexAddr (m := k) Tryd.underlying50 Tryd.sizeOf4 rfl rfl (by omega) (by omega) (by omega)) rfl rfl rfl ?_
                                refine gop_store_row 4 (f := boolCells) (l := pad false (foldTo (evN F) l k) l.length) (k := k) (o := 0) (v := .bool _) (a := false) (a' := _) (fun _ => rfl) rfl rfl rfl Tryd.sizeOf4 rfl rfl rfl rfl (pad_len (by rw [foldTo_len]; omega)).symm (pad_at (foldTo_len k) hk1) (Nat.le_of_ble_eq_true rfl) rfl rfl ?_
                                refine gops_nil ?_
                                rw [hev, pad_set (foldTo_len k) hk1, hg56]
                                first | rw [Bool.false_or] | rw [Bool.not_false, Bool.true_or]
                                refine gcut3_end (()) (trivial) trivial ⟨rfl, rfl, rfl, rfl, rfl, rfl, trivial⟩ ⟨_, rfl⟩
                ·
                  intro g hcut σ
                  refine hN14 _ _ ?_
                  refine greg ?_
                  refine gop (y_add rfl rfl ⟨by omega, by omega⟩) rfl rfl rfl ?_
                  refine gop (y_move (v := .int _ _) rfl) rfl rfl rfl ?_
                  refine gops_nil ?_
                  rw [show evN F l[k] (foldTo (evN F) l k) = evN F (nAt l k) (foldTo (evN F) l k) by rw [nAt_at hk1]]
                  refine gnext2 (k + 1) (by omega) (show k + 1 ≤ _ by omega) ⟨rfl, trivial⟩ ⟨rfl, rfl, rfl, rfl, rfl, trivial⟩ ⟨_, rfl⟩
              · 
                replace hc43 := of_decide_eq_false hc43
                refine gexit ?_
                refine hN10 _ _ ?_
                refine gfrom [(5, .pointer _), (7, .slice (some _) _ _)] ⟨rfl, rfl, trivial⟩ fun σ => ?_
                refine gseq fun N23 hN23 => ?_
                refine greg ?_
                refine gop (y_move (v := .slice (some _) _ _) rfl) rfl rfl rfl ?_
                refine gop (y_move (v := .slice (some _) _ _) rfl) rfl rfl rfl ?_
                refine gop (y_len Tryd.underlying50 rfl) rfl rfl rfl ?_
                refine gop (y_sub rfl rfl ⟨by omega, by omega⟩) rfl rfl rfl ?_
                refine gop (y_indexAddr (m := l.length - 1) Tryd.underlying50 Tryd.sizeOf4 rfl rfl (by omega) (by omega) (by omega)) rfl rfl rfl ?_
                refine gop (y_load Tryd.isAgg4 rfl (cells_rowl 4 (f := boolCells) (l := pad false (foldTo (evN F) l k) l.length) rfl (by rw [pad_len (by rw [foldTo_len]; omega)]) (fun _ => rfl) (by rw [pad_old (by rw [foldTo_len]; omega), foldTo_get _ _ (by omega)]) 0 _ rfl)) rfl rfl rfl ?_
                refine gop (y_build (vs := []) (cells := #[.int .i64 0, .int .i64 0]) rfl bd28_) rfl rfl rfl ?_
                refine gop (y_assign (v := .bool _) rfl) rfl rfl rfl ?_
                refine gop_store 2 (v := .agg #[_, _]) (cs' := #[_, _]) rfl rfl Tryd.sizeOf28 rfl rfl rfl rfl (Nat.le_of_ble_eq_true rfl) rfl rfl ?_
                refine gops_nil ?_
                refine hN23 _ _ ?_
                refine gT [box b2 _, box b3 _, box b5 _, box b6 _, rowl _ _ _ _ _ _] rfl ?_
                refine gfrom [(4, .bool _), (5, .pointer _)] ⟨rfl, rfl, trivial⟩ fun σ => ?_
                refine gret fun w1 hM => ?_
                refine ⟨_, res2 rfl (rt (v := .bool _) rfl) (rc 2 (cs := [_, _]) hM rfl rfl Tryd.isAgg28 Tryd.sizeOf28 rfl), ?_⟩
                exact ⟨by rw [hF, hV], hM.low⟩
        · 
          have hg29d := of_decide_eq_true hg29
          refine gop_off rfl rfl rfl rfl hg29 rfl rfl ?_
          refine gop_off rfl rfl rfl rfl hg29 rfl rfl ?_
          refine gop (y_pick_t (v := .bool _) rfl hg29 rfl) rfl rfl rfl ?_
          refine gops_nil ?_
          refine hN7 _ _ ?_
          refine gfrom [(2, .pointer _), (3, .pointer _), (5, .pointer _), (33, .bool _)] ⟨rfl, rfl, rfl, rfl, trivial⟩ fun σ => ?_
          refine gcond (b := _) rfl (fun hc33 => ?_) (fun hc33 => ?_)
          · 
            obtain ⟨hF, hV⟩ := evalF_range hc14 (F := F) (by unfold factsBad; omega)
            refine gseq fun N24 hN24 => ?_
            refine greg ?_
            refine gop (y_build (vs := [(0, _), (1, _)]) (cells := #[_, _]) rfl (bd28_0_1 _ _)) rfl rfl rfl ?_
            refine gop (y_assign (v := .bool _) rfl) rfl rfl rfl ?_
            refine gop_store 2 (v := .agg #[_, _]) (cs' := #[_, _]) rfl rfl Tryd.sizeOf28 rfl rfl rfl rfl (Nat.le_of_ble_eq_true rfl) rfl rfl ?_
            refine gops_nil ?_
            refine hN24 _ _ ?_
            refine gT [box b2 _, box b3 _, box b5 _, box b6 _] rfl ?_
            refine gfrom [(4, .bool _), (5, .pointer _)] ⟨rfl, rfl, trivial⟩ fun σ => ?_
            refine gret fun w1 hM => ?_
            refine ⟨_, res2 rfl (rt (v := .bool _) rfl) (rc 2 (cs := [_, _]) hM rfl rfl Tryd.isAgg28 Tryd.sizeOf28 rfl), ?_⟩
            exact ⟨by rw [hF, hV], hM.low⟩
          · 
            cases hc33
      · 
        have hg24d := of_decide_eq_true hg24
        refine gop_off rfl rfl rfl rfl hg24 rfl rfl ?_
        refine gop_off rfl rfl rfl rfl hg24 rfl rfl ?_
        refine gop (y_pick_t (v := .bool _) rfl hg24 rfl) rfl rfl rfl ?_
        refine gop (y_move (v := .bool _) rfl) rfl rfl rfl ?_
        refine gop_off rfl rfl rfl rfl rfl rfl rfl ?_
        refine gop_off rfl rfl rfl rfl rfl rfl rfl ?_
        refine gop_off rfl rfl rfl rfl rfl rfl rfl ?_
        refine gop (y_pick_t (v := .bool _) rfl rfl rfl) rfl rfl rfl ?_
        refine gops_nil ?_
        refine hN7 _ _ ?_
        refine gfrom [(2, .pointer _), (3, .pointer _), (5, .pointer _), (33, .bool _)] ⟨rfl, rfl, rfl, rfl, trivial⟩ fun σ => ?_
        refine gcond (b := _) rfl (fun hc33 => ?_) (fun hc33 => ?_)
        · 
          obtain ⟨hF, hV⟩ := evalF_range hc14 (F := F) (by unfold factsBad; omega)
          refine gseq fun N25 hN25 => ?_
          refine greg ?_
          refine gop (y_build (vs := [(0, _), (1, _)]) (cells := #[_, _]) rfl (bd28_0_1 _ _)) rfl rfl rfl ?_
          refine gop (y_assign (v := .bool _) rfl) rfl rfl rfl ?_
          refine gop_store 2 (v := .agg #[_, _]) (cs' := #[_, _]) rfl rfl Tryd.sizeOf28 rfl rfl rfl rfl (Nat.le_of_ble_eq_true rfl) rfl rfl ?_
          refine gops_nil ?_
          refine hN25 _ _ ?_
          refine gT [box b2 _, box b3 _, box b5 _, box b6 _] rfl ?_
          refine gfrom [(4, .bool _), (5, .pointer _)] ⟨rfl, rfl, trivial⟩ fun σ => ?_
          refine gret fun w1 hM => ?_
          refine ⟨_, res2 rfl (rt (v := .bool _) rfl) (rc 2 (cs := [_, _]) hM rfl rfl Tryd.isAgg28 Tryd.sizeOf28 rfl), ?_⟩
          exact ⟨by rw [hF, hV], hM.low⟩
        · 
          cases hc33
    · 
      have hg19d := of_decide_eq_true hg19
      refine gop_off rfl rfl rfl rfl hg19 rfl rfl ?_
      refine gop_off rfl rfl rfl rfl hg19 rfl rfl ?_
      refine gop (y_pick_t (v := .bool _) rfl hg19 rfl) rfl rfl rfl ?_
      refine gop (y_move (v := .bool _) rfl) rfl rfl rfl ?_
      refine gop_off rfl rfl rfl rfl rfl rfl rfl ?_
      refine gop_off rfl rfl rfl rfl rfl rfl rfl ?_
      refine gop_off rfl rfl rfl rfl rfl rfl rfl ?_
      refine gop (y_pick_t (v := .bool _) rfl rfl rfl) rfl rfl rfl ?_
      refine gop (y_move (v := .bool _) rfl) rfl rfl rfl ?_
      refine gop_off rfl rfl rfl rfl rfl rfl rfl ?_
      refine gop_off rfl rfl rfl rfl rfl rfl rfl ?_
      refine gop_off rfl rfl rfl rfl rfl rfl rfl ?_
      refine gop (y_pick_t (v := .bool _) rfl rfl rfl) rfl rfl rfl ?_
      refine gops_nil ?_
      refine hN7 _ _ ?_
      refine gfrom [(2, .pointer _), (3, .pointer _), (5, .pointer _), (33, .bool _)] ⟨rfl, rfl, rfl, rfl, trivial⟩ fun σ => ?_
      refine gcond (b := _) rfl (fun hc33 => ?_) (fun hc33 => ?_)
      · 
        obtain ⟨hF, hV⟩ := evalF_range hc14 (F := F) (by unfold factsBad; omega)
        refine gseq fun N26 hN26 => ?_
        refine greg ?_
        refine gop (y_build (vs := [(0, _), (1, _)]) (cells := #[_, _]) rfl (bd28_0_1 _ _)) rfl rfl rfl ?_
        refine gop (y_assign (v := .bool _) rfl) rfl rfl rfl ?_
        refine gop_store 2 (v := .agg #[_, _]) (cs' := #[_, _]) rfl rfl Tryd.sizeOf28 rfl rfl rfl rfl (Nat.le_of_ble_eq_true rfl) rfl rfl ?_
        refine gops_nil ?_
        refine hN26 _ _ ?_
        refine gT [box b2 _, box b3 _, box b5 _, box b6 _] rfl ?_
        refine gfrom [(4, .bool _), (5, .pointer _)] ⟨rfl, rfl, trivial⟩ fun σ => ?_
        refine gret fun w1 hM => ?_
        refine ⟨_, res2 rfl (rt (v := .bool _) rfl) (rc 2 (cs := [_, _]) hM rfl rfl Tryd.isAgg28 Tryd.sizeOf28 rfl), ?_⟩
        exact ⟨by rw [hF, hV], hM.low⟩
      · 
        cases hc33
end Go.Proofs.YtllblbkbglifjaaDoor
namespace Go.Cf
open Go.RowKit
def GoodP (l : List PN) (k : Nat) : Prop := ∀ j (h : j < l.length), j < k → chk l[j] (rootsTo l j) = 0
theorem GoodP.mono {l : List PN} {j k : Nat} (h : GoodP l k) (hjk : j ≤ k) : GoodP l j := fun i hi h1 => h i hi (by omega)
theorem drop_take_app {α : Type} {l a b : List α} {k : Nat} (h : l.take k = a ++ b) : (l.drop a.length).take b.length = b := by
  have hl : a.length + b.length ≤ k := by
    have := congrArg List.length h
    rw [List.length_take, List.length_append] at this; omega
  have := congrArg (List.drop a.length) h
  rw [List.drop_left, List.drop_take] at this
  have h2 := congrArg (List.take b.length) this
  rw [List.take_take, Nat.min_eq_left (by omega), List.take_length] at h2
  exact h2
theorem trees_of {l : List PN} {k : Nat} (hk : k ≤ l.length) (h : GoodP l k) : ∃ ts : List Tr, (∀ t ∈ ts, t.ok) ∧ total ts = k ∧ l.take k = postAll ts 0 ∧ rootsTo l k = ends ts 0 := by
  obtain ⟨ts, h1, h2, h3⟩ := forest k hk h
  refine ⟨ts, h1, ?_, h2, h3⟩
  rw [← postAll_len ts 0, ← h2, List.length_take]; omega
theorem last_tree {l : List PN} {k : Nat} (hk : k ≤ l.length) (h0 : 0 < k) (h : GoodP l k) : ∃ t us, t.ok ∧ At l (k - 1) t ∧ total us + t.size = k ∧ rootsTo l k = ends us 0 ++ [(k : Int) - 1] := by
  obtain ⟨ts, h1, h2, h3, h4⟩ := trees_of hk h
  have hts : 0 < ts.length := by
    cases ts with
    | nil => simp [total] at h2; omega
    | cons _ _ => simp
  obtain ⟨us, t, rfl⟩ := snoc_of hts
  rw [total_app] at h2
  simp only [total] at h2
  refine ⟨t, us, h1 t (by simp), ⟨total us, by omega, ?_⟩, by omega, ?_⟩
  · rw [postAll_app] at h3
    have h5 := drop_take_app h3
    rw [postAll_len, postAll_len] at h5
    simp only [total, postAll, List.append_nil, Nat.zero_add] at h5
    exact h5
  · rw [h4, ends_app]
    simp only [ends]
    congr 2
    omega
theorem At.bin2 {l : List PN} {i : Nat} {k : Int} {a b : Tr} (h : At l i (.bin k a b)) : ∃ m : Nat, m + b.size + 1 = i ∧ nAt l i = ⟨k, 0, (m : Int), (i : Int) - 1⟩ ∧ At l m a ∧ At l (i - 1) b := by
  obtain ⟨off, h1, h2⟩ := h
  simp only [Tr.size] at h1 h2
  have hp := a.pos
  have hq := b.pos
  obtain ⟨h3, h4⟩ := take_part h2 (show (post a off ++ post b (off + a.size)).length = a.size + b.size by rw [List.length_append, post_len, post_len])
  obtain ⟨h5, h6⟩ := take_part h3 (post_len a off)
  rw [post_len] at h6
  have e : off + (a.size + b.size) = i := by omega
  rw [e] at h4
  refine ⟨off + a.size - 1, by omega, ?_, ⟨off, by omega, h5⟩, ⟨off + a.size, by omega, h6⟩⟩
  rw [nAt, one_at h4]
  show PN.mk k 0 _ _ = _
  congr 1 <;> omega
section
variable {n : PN} {r : List Int}
theorem chk_kind (h : n.kind < 1 ∨ 7 < n.kind) : chk n r = 4 := by rw [chk, if_pos h]
theorem chk_num (h : ¬ (n.kind < 1 ∨ 7 < n.kind)) (h2 : n.number < 0 ∨ mostN n.kind < n.number) : chk n r = 3 := by rw [chk, if_neg h, if_pos h2]
theorem chk_leaf (h : ¬ (n.kind < 1 ∨ 7 < n.kind)) (h2 : ¬ (n.number < 0 ∨ mostN n.kind < n.number)) (h3 : n.kind < 5) : chk n r = if n.left ≠ 0 ∨ n.right ≠ 0 then 5 else 0 := by
  have ho : opN n.kind = 0 := by rw [opN, if_neg (by omega), if_neg (by omega)]
  have hw : ∀ i, want r 0 i = 0 := fun i => by rw [want, List.drop_of_length_le (by omega)]; rfl
  rw [chk, if_neg h, if_neg h2, ho, if_neg (by omega), hw, hw]
theorem chk_empty (h : ¬ (n.kind < 1 ∨ 7 < n.kind)) (h2 : ¬ (n.number < 0 ∨ mostN n.kind < n.number)) (h3 : 5 ≤ n.kind) : chk n [] = 5 := by
  have ho : 0 < opN n.kind := by
    unfold opN
    split
    · omega
    · rw [if_pos (by omega)]; omega
  rw [chk, if_neg h, if_neg h2, if_pos (by simpa using ho)]
theorem chk_not {k : Int} {us : List Tr} (h : ¬ (n.kind < 1 ∨ 7 < n.kind)) (h2 : ¬ (n.number < 0 ∨ mostN n.kind < n.number)) (h3 : n.kind = 5) : chk n (ends us 0 ++ [k]) = if n.left ≠ k ∨ n.right ≠ 0 then 5 else 0 := by
  have ho : opN n.kind = 1 := by rw [h3]; rfl
  have h4 : (ends us 0 ++ [k]).length - 1 = (ends us 0).length := by simp
  rw [chk, if_neg h, if_neg h2, ho, if_neg (by simp), want, want, h4, List.drop_left]
  rfl
theorem chk_bin {k : Int} {us : List Tr} (h : ¬ (n.kind < 1 ∨ 7 < n.kind)) (h2 : ¬ (n.number < 0 ∨ mostN n.kind < n.number)) (h3 : 6 ≤ n.kind) :
    chk n (ends us 0 ++ [k]) = if n.right ≠ k ∨ (total us : Int) - 1 < 0 ∨ n.left ≠ (total us : Int) - 1 then 5 else 0 := by
  have ho : opN n.kind = 2 := by rw [opN, if_neg (by omega), if_pos (by omega)]
  rw [chk, if_neg h, if_neg h2, ho]
  by_cases hu : us.length = 0
  · obtain rfl := List.eq_nil_of_length_eq_zero hu
    rw [if_pos (by simp [ends]), if_pos (by simp [total])]
  · obtain ⟨vs, a, rfl⟩ := snoc_of (l := us) (by omega)
    have hp := a.pos
    have ht : total (vs ++ [a]) = total vs + a.size := by rw [total_app]; simp [total]
    have he : ends (vs ++ [a]) 0 ++ [k] = ends vs 0 ++ [((total vs + a.size : Nat) : Int) - 1, k] := by
      rw [ends_app]; simp [ends]
    have h4 : (ends vs 0 ++ [((total vs + a.size : Nat) : Int) - 1, k]).length - 2 = (ends vs 0).length := by simp
    rw [if_neg (by simp [ends_len]), he, want, want, h4, List.drop_left, ht]
    show (if n.left ≠ ((total vs + a.size : Nat) : Int) - 1 ∨ n.right ≠ k then (5 : Int) else 0) = _
    by_cases c : n.left ≠ ((total vs + a.size : Nat) : Int) - 1 ∨ n.right ≠ k
    · rw [if_pos c, if_pos (by rcases c with c | c; exact .inr (.inr c); exact .inl c)]
    · rw [if_neg c, if_neg (by omega)]
end
theorem whole_of {l : List PN} {t : Tr} {us : List Tr} (h1 : total us + t.size = l.length) : t.size = l.length ↔ us.length = 0 := by
  constructor
  · intro h
    have : total us = 0 := by omega
    cases us with
    | nil => rfl
    | cons a us => have := a.pos; simp [total] at *; omega
  · intro h
    rw [List.eq_nil_of_length_eq_zero h] at h1
    simpa [total] using h1
theorem depth_pos : ∀ t : Tr, 1 ≤ t.depth ∧ t.depth ≤ t.size
  | .leaf _ _ => ⟨by simp [Tr.depth], by simp [Tr.depth, Tr.size]⟩
  | .neg t => by have := depth_pos t; simp only [Tr.depth, Tr.size]; omega
  | .bin _ a b => by have := depth_pos a; have := depth_pos b; simp only [Tr.depth, Tr.size]; omega
theorem At.size_le {l : List PN} {i : Nat} {t : Tr} (h : At l i t) : t.size ≤ i + 1 := by obtain ⟨off, h1, _⟩ := h; omega
end Go.Cf
namespace Go.Cf
theorem tree_at {l : List PN} {i : Nat} {t : Tr} (ho : t.ok) (h : At l i t) (hi : i < l.length) :
    (l[i].kind < 5 → t.size = 1 ∧ t.depth = 1 ∧ t = .leaf l[i].kind l[i].number ∧ 1 ≤ l[i].kind ∧ 0 ≤ l[i].number ∧ l[i].number ≤ mostN l[i].kind) ∧
    (¬ l[i].kind < 5 → 1 ≤ i ∧ l[i].kind ≤ 7 ∧ ∃ b, b.ok ∧ At l (i - 1) b ∧ (l[i].kind = 5 → t = .neg b ∧ l[i].left = (i : Int) - 1) ∧ (l[i].kind ≠ 5 → ∃ a m, a.ok ∧ At l m a ∧ m + b.size + 1 = i ∧ t = .bin l[i].kind a b ∧ l[i].left = (m : Int) ∧ l[i].right = (i : Int) - 1)) := by
  rw [← nAt_at hi]
  match t, ho, h with
  | .leaf k n, ho, h =>
    rw [h.leaf]
    obtain ⟨h1, h2, h3, h4⟩ := ho
    exact ⟨fun _ => ⟨rfl, rfl, rfl, h1, h3, h4⟩, fun h9 => absurd (show k < 5 by omega) h9⟩
  | .neg b, ho, h =>
    obtain ⟨h1, h2, h3⟩ := h.neg
    rw [h2]
    exact ⟨fun h9 => absurd (show (5 : Int) < 5 from h9) (by omega), fun _ => ⟨h1, (show (5 : Int) ≤ 7 by omega), b, ho, h3, fun _ => ⟨rfl, rfl⟩, fun h9 => absurd rfl h9⟩⟩
  | .bin k a b, ho, h =>
    obtain ⟨m, h1, h2, h3, h4⟩ := h.bin2
    have hk : k = 6 ∨ k = 7 := ho.1
    rw [h2]
    exact ⟨fun h9 => absurd (show k < 5 from h9) (by omega), fun _ => ⟨by omega, by show k ≤ 7; omega, b, ho.2.2, h4, fun h9 => absurd (show k = 5 from h9) (by omega), fun _ => ⟨a, m, ho.2.1, h3, h1, rfl, rfl, rfl⟩⟩⟩
theorem size_neg (b : Tr) : (Tr.neg b).size = b.size + 1 := rfl
theorem size_bin (k : Int) (a b : Tr) : (Tr.bin k a b).size = a.size + b.size + 1 := rfl
theorem depth_neg (b : Tr) : (Tr.neg b).depth = b.depth + 1 := rfl
theorem depth_bin (k : Int) (a b : Tr) : (Tr.bin k a b).depth = max (a.depth + 1) (b.depth + 1) := rfl
end Go.Cf
namespace Go.Proofs.YtllblbkbglifjaaDoor
open Go.RowKit Go.Cf
set_option maxRecDepth 10000
set_option maxHeartbeats 4000000 in
theorem refSize_any (A : Option Addr) (c : Nat) (l : List PN) (hlc : l.length ≤ c) (hcm : c ≤ maxLen) (z : Nat) : ∀ (t : Tr) (i : Int) (m : Nat) (w : World), t.size = z → i = (m : Int) → Rdl w 0 4 pnCells A l → t.ok → At l m t →
    Calls Tryd.prog 22 #[.slice A l.length c, .int .i64 i] w fun e w' => e = .returned (.int .i64 (t.size : Int)) ∧ Below w.heap.size w w' := by
  have hlm : l.length ≤ 9223372036854775807 := by have h9 := Nat.le_trans hlc hcm; unfold maxLen at h9; omega
  refine Nat.strongRecOn z ?_
  intro z ih t i m w hz hi hl hok hat
  have hm1 := hat.lt
  obtain ⟨ad, rfl, -, hca⟩ := hl.at_ hm1
  obtain ⟨hsm, hbg⟩ := tree_at hok hat hm1
  have hsz := hat.size_le
  have hps := t.pos
  refine gcalls Tryd.func22 rfl Tryd.ntmps22 (Nat.le_of_ble_eq_true rfl) ?_
  refine gfrom [(0, .slice _ _ _), (1, .int _ _)] ⟨rfl, rfl, trivial⟩ fun σ => ?_
  refine gseq fun N1 hN1 => ?_
  refine greg ?_
  refine gop (y_assign (v := .int _ _) rfl) rfl rfl rfl ?_
  refine gops_nil ?_
  refine hN1 _ _ ?_
  refine gfrom [(0, .slice _ _ _), (1, .int _ _)] ⟨rfl, rfl, trivial⟩ fun σ => ?_
  refine gseq fun N2 hN2 => ?_
  refine gseq fun N3 hN3 => ?_
  refine greg ?_
  refine gop (y_move (v := .int _ _) rfl) rfl rfl rfl ?_
  refine gop (y_lss rfl rfl) rfl rfl rfl ?_
  refine gops_nil ?_
  refine hN3 _ _ ?_
  refine gfrom [(0, .slice _ _ _), (1, .int _ _), (9, .bool _)] ⟨rfl, rfl, rfl, trivial⟩ fun σ => ?_
  refine gcond (b := _) rfl (fun hc9 => ?_) (fun hc9 => ?_)
  · 
     exfalso; have h9 := of_decide_eq_true hc9; omega
  · 
    replace hc9 := of_decide_eq_false hc9
    refine gskip ?_
    refine hN2 _ _ ?_
    refine gfrom [(0, .slice _ _ _), (1, .int _ _)] ⟨rfl, rfl, trivial⟩ fun σ => ?_
    refine gseq fun N4 hN4 => ?_
    refine greg ?_
    refine gop (y_move (v := .slice _ _ _) rfl) rfl rfl rfl ?_
    refine gop (y_move (v := .int _ _) rfl) rfl rfl rfl ?_
    refine gop (y_indexAddr (m := m) Tryd.underlying22 Tryd.sizeOf47 rfl rfl (by omega) (by omega) (by omega)) rfl rfl rfl ?_
    refine gop (y_loads (cs := [_, _, _, _]) Tryd.isAgg47 Tryd.sizeOf47 rfl rfl (cells_base hca)) rfl rfl rfl ?_
    refine gop_alloc (cs := #[.int .i64 0, .int .i64 0, .int .i64 0, .int .i64 0]) Tryd.zeroValue47 rfl rfl (fun b5 hb5 => ?_)
    refine gop_store 0 (v := .agg #[_, _, _, _]) (cs' := #[_, _, _, _]) rfl rfl Tryd.sizeOf47 rfl rfl rfl rfl (Nat.le_of_ble_eq_true rfl) rfl rfl ?_
    refine gops_nil ?_
    refine hN4 _ _ ?_
    refine gT [box b5 _] rfl ?_
    refine gfrom [(0, .slice _ _ _), (1, .int _ _), (5, .pointer _)] ⟨rfl, rfl, rfl, trivial⟩ fun σ => ?_
    refine gseq fun N5 hN5 => ?_
    refine gseq fun N6 hN6 => ?_
    refine greg ?_
    refine gop (y_fieldAddr_box fa47_0 rfl) rfl rfl rfl ?_
    refine gop (y_load Tryd.isAgg3 rfl (cell_box 0 rfl rfl)) rfl rfl rfl ?_
    refine gop (y_lss rfl rfl) rfl rfl rfl ?_
    refine gops_nil ?_
    refine hN6 _ _ ?_
    refine gfrom [(0, .slice _ _ _), (1, .int _ _), (5, .pointer _), (16, .bool _)] ⟨rfl, rfl, rfl, rfl, trivial⟩ fun σ => ?_
    refine gcond (b := _) rfl (fun hc16 => ?_) (fun hc16 => ?_)
    · 
      replace hc16 := of_decide_eq_true hc16
      obtain ⟨hs1, -⟩ := hsm hc16
      refine gseq fun N7 hN7 => ?_
      refine greg ?_
      refine gop (y_assign (v := .int _ _) rfl) rfl rfl rfl ?_
      refine gops_nil ?_
      refine hN7 _ _ ?_
      refine gfrom [(4, .int _ _)] ⟨rfl, trivial⟩ fun σ => ?_
      refine gret fun w1 hM => ?_
      refine ⟨_, res1 rfl (rt (v := .int _ _) rfl), ?_⟩
      exact ⟨by (first | rw [hs1] | rw [h9]); (first | rfl | (congr 2; omega)), hM.low⟩
    · 
      replace hc16 := of_decide_eq_false hc16
      obtain ⟨hi1, hk7, b, hbo, hbt, h5, h67⟩ := hbg (by omega)
      have hbs := b.pos
      have hbz : b.size < z := by
        by_cases h9 : l[m].kind = 5
        · have h8 := (h5 h9).1; rw [h8, size_neg] at hz; omega
        · obtain ⟨a, _, _, _, _, h8, _⟩ := h67 h9; have ha := a.pos; rw [h8, size_bin] at hz; omega
      refine gskip ?_
      refine hN5 _ _ ?_
      refine gfrom [(0, .slice _ _ _), (1, .int _ _), (5, .pointer _)] ⟨rfl, rfl, rfl, trivial⟩ fun σ => ?_
      refine gseq fun N8 hN8 => ?_
      refine greg ?_
      refine gop (y_move (v := .slice _ _ _) rfl) rfl rfl rfl ?_
      refine gop (y_move (v := .int _ _) rfl) rfl rfl rfl ?_
      refine gop (y_sub rfl rfl ⟨by omega, by omega⟩) rfl rfl rfl ?_
      refine gop_pure (e_call (vs := [.slice _ _ _, .int _ _]) Tryd.func22 rfl (by kernel_rfl) rfl) (fun w hM => ih b.size (by omega) b _ (m - 1) w rfl (by omega) (hl.base hM) hbo hbt) rfl rfl rfl ?_
      refine gop (y_assign (v := .int _ _) rfl) rfl rfl rfl ?_
      refine gops_nil ?_
      refine hN8 _ _ ?_
      refine gfrom [(0, .slice _ _ _), (1, .int _ _), (5, .pointer _), (6, .int _ _)] ⟨rfl, rfl, rfl, rfl, trivial⟩ fun σ => ?_
      refine gseq fun N9 hN9 => ?_
      refine gseq fun N10 hN10 => ?_
      refine greg ?_
      refine gop (y_move (v := .int _ _) rfl) rfl rfl rfl ?_
      refine gop (y_lss rfl rfl) rfl rfl rfl ?_
      refine gop (y_move (v := .bool _) rfl) rfl rfl rfl ?_
      refine gop_if (want := false) rfl rfl rfl rfl rfl rfl (fun hg23 => ?_) (fun hg23 => ?_)
      · 
        have hg23d := of_decide_eq_false hg23
        refine gop (y_bare (y_fieldAddr_box fa47_0 rfl)) rfl rfl rfl ?_
        refine gop_on rfl rfl rfl rfl hg23 ?_
        refine gop (y_bare (y_load Tryd.isAgg3 rfl (cell_box 0 rfl rfl))) rfl rfl rfl ?_
        refine gop_on rfl rfl rfl rfl hg23 ?_
        refine gop (y_bare (y_eql rfl rfl)) rfl rfl rfl ?_
        refine gop (y_pick_f (v := .bool _) rfl hg23 rfl) rfl rfl rfl ?_
        refine gops_nil ?_
        refine hN10 _ _ ?_
        refine gfrom [(0, .slice _ _ _), (1, .int _ _), (6, .int _ _), (27, .bool _)] ⟨rfl, rfl, rfl, rfl, trivial⟩ fun σ => ?_
        refine gcond (b := _) rfl (fun hc27 => ?_) (fun hc27 => ?_)
        · 
          have h5k : l[m].kind = 5 := of_decide_eq_true hc27
          have h9 : t.size = b.size + 1 := by rw [(h5 h5k).1, size_neg]
          refine gseq fun N11 hN11 => ?_
          refine greg ?_
          refine gop (y_move (v := .int _ _) rfl) rfl rfl rfl ?_
          refine gop (y_add rfl rfl ⟨by omega, by omega⟩) rfl rfl rfl ?_
          refine gop (y_assign (v := .int _ _) rfl) rfl rfl rfl ?_
          refine gops_nil ?_
          refine hN11 _ _ ?_
          refine gfrom [(4, .int _ _)] ⟨rfl, trivial⟩ fun σ => ?_
          refine gret fun w1 hM => ?_
          refine ⟨_, res1 rfl (rt (v := .int _ _) rfl), ?_⟩
          exact ⟨by (first | rw [hs1] | rw [h9]); (first | rfl | (congr 2; omega)), hM.low⟩
        · 
          have h5k : ¬ l[m].kind = 5 := of_decide_eq_false hc27
          obtain ⟨a, q, hao, hat2, hq, h8, -, -⟩ := h67 h5k
          have h9 : t.size = a.size + b.size + 1 := by rw [h8, size_bin]
          have has := a.pos
          refine gskip ?_
          refine hN9 _ _ ?_
          refine gfrom [(0, .slice _ _ _), (1, .int _ _), (6, .int _ _)] ⟨rfl, rfl, rfl, trivial⟩ fun σ => ?_
          refine gseq fun N12 hN12 => ?_
          refine greg ?_
          refine gop (y_move (v := .slice _ _ _) rfl) rfl rfl rfl ?_
          refine gop (y_move (v := .int _ _) rfl) rfl rfl rfl ?_
          refine gop (y_sub rfl rfl ⟨by omega, by omega⟩) rfl rfl rfl ?_
          refine gop (y_move (v := .int _ _) rfl) rfl rfl rfl ?_
          refine gop (y_sub rfl rfl ⟨by omega, by omega⟩) rfl rfl rfl ?_
          refine gop_pure (e_call (vs := [.slice _ _ _, .int _ _]) Tryd.func22 rfl (by kernel_rfl) rfl) (fun w hM => ih a.size (by omega) a _ q w rfl (by omega) (hl.base hM) hao hat2) rfl rfl rfl ?_
          refine gop (y_assign (v := .int _ _) rfl) rfl rfl rfl ?_
          refine gops_nil ?_
          refine hN12 _ _ ?_
          refine gfrom [(6, .int _ _), (7, .int _ _)] ⟨rfl, rfl, trivial⟩ fun σ => ?_
          refine gseq fun N13 hN13 => ?_
          refine gseq fun N14 hN14 => ?_
          refine greg ?_
          refine gop (y_move (v := .int _ _) rfl) rfl rfl rfl ?_
          refine gop (y_lss rfl rfl) rfl rfl rfl ?_
          refine gops_nil ?_
          refine hN14 _ _ ?_
          refine gfrom [(6, .int _ _), (7, .int _ _), (37, .bool _)] ⟨rfl, rfl, rfl, trivial⟩ fun σ => ?_
          refine gcond (b := _) rfl (fun hc37 => ?_) (fun hc37 => ?_)
          · 
             exfalso; have h9 := of_decide_eq_true hc37; omega
          · 
            replace hc37 := of_decide_eq_false hc37
            refine gskip ?_
            refine hN13 _ _ ?_
            refine gfrom [(6, .int _ _), (7, .int _ _)] ⟨rfl, rfl, trivial⟩ fun σ => ?_
            refine gseq fun N15 hN15 => ?_
            refine greg ?_
            refine gop (y_move (v := .int _ _) rfl) rfl rfl rfl ?_
            refine gop (y_add rfl rfl ⟨by omega, by omega⟩) rfl rfl rfl ?_
            refine gop (y_move (v := .int _ _) rfl) rfl rfl rfl ?_
            refine gop (y_add rfl rfl ⟨by omega, by omega⟩) rfl rfl rfl ?_
            refine gop (y_assign (v := .int _ _) rfl) rfl rfl rfl ?_
            refine gops_nil ?_
            refine hN15 _ _ ?_
            refine gfrom [(4, .int _ _)] ⟨rfl, trivial⟩ fun σ => ?_
            refine gret fun w1 hM => ?_
            refine ⟨_, res1 rfl (rt (v := .int _ _) rfl), ?_⟩
            exact ⟨by (first | rw [hs1] | rw [h9]); (first | rfl | (congr 2; omega)), hM.low⟩
      · 
         exfalso; have h9 := of_decide_eq_true hg23; omega
end Go.Proofs.YtllblbkbglifjaaDoor
namespace Go.Cf
open Go.RowKit
def runN (p : Nat → Bool) : Nat → Nat → Nat
  | 0, i => i
  | n + 1, i => if p i = true then runN p n (i + 1) else i
def runB (p : Nat → Bool) (L i : Nat) : Nat := runN p (L - i) i
section
variable {p : Nat → Bool} {L i : Nat}
theorem run_step (h : i < L) (hp : p i = true) : runB p L i = runB p L (i + 1) := by
  unfold runB
  obtain ⟨n, hn⟩ : ∃ n, L - i = n + 1 := ⟨L - i - 1, by omega⟩
  rw [hn, show L - (i + 1) = n by omega, runN, if_pos hp]
theorem run_stop (h : i < L → p i = false) : runB p L i = i := by
  unfold runB
  rcases Nat.lt_or_ge i L with h1 | h1
  · obtain ⟨n, hn⟩ : ∃ n, L - i = n + 1 := ⟨L - i - 1, by omega⟩
    rw [hn, runN, if_neg (by rw [h h1]; decide)]
  · rw [show L - i = 0 by omega]; rfl
theorem run_ge (p : Nat → Bool) (L : Nat) : ∀ (n i : Nat), L - i = n → i ≤ runB p L i ∧ (i ≤ L → runB p L i ≤ L) ∧ (runB p L i < L → p (runB p L i) = false) ∧ ∀ j, i ≤ j → j < runB p L i → p j = true
  | 0, i, h => by
    rw [run_stop (fun h1 => by omega)]
    exact ⟨Nat.le_refl _, fun h => h, fun h1 => by omega, fun j h1 h2 => by omega⟩
  | n + 1, i, h => by
    by_cases hp : p i = true
    · rw [run_step (by omega) hp]
      obtain ⟨h1, h2, h3, h4⟩ := run_ge p L n (i + 1) (by omega)
      refine ⟨by omega, fun _ => h2 (by omega), h3, fun j h5 h6 => ?_⟩
      rcases Nat.lt_or_ge i j with h7 | h7
      · exact h4 j h7 h6
      · obtain rfl : i = j := by omega
        exact hp
    · rw [run_stop (fun _ => by simpa using hp)]
      exact ⟨Nat.le_refl _, fun h => h, fun _ => by simpa using hp, fun j h1 h2 => by omega⟩
end
def spB (s : ByteArray) (j : Nat) : Bool := decide (byteAt s j = 32)
def woB (s : ByteArray) (j : Nat) : Bool := decide (byteAt s j ≠ 32 ∧ byteAt s j ≠ 40 ∧ byteAt s j ≠ 41)
def skipW (s : ByteArray) (i : Nat) : Nat := runB (spB s) s.size i
def endW (s : ByteArray) (i : Nat) : Nat := runB (woB s) s.size i
def nextW (s : ByteArray) (i : Nat) : Nat := if endW s i = i ∧ i < s.size then i + 1 else endW s i
theorem skip_ge (s : ByteArray) (i : Nat) : i ≤ skipW s i := (run_ge _ _ _ i rfl).1
theorem skip_le {s : ByteArray} {i : Nat} (h : i ≤ s.size) : skipW s i ≤ s.size := (run_ge _ _ _ i rfl).2.1 h
theorem skip_skip (s : ByteArray) (i : Nat) : skipW s (skipW s i) = skipW s i := run_stop (run_ge _ _ _ i rfl).2.2.1
theorem end_ge (s : ByteArray) (i : Nat) : i ≤ endW s i := (run_ge _ _ _ i rfl).1
theorem next_ge (s : ByteArray) (i : Nat) : i ≤ nextW s i := by
  unfold nextW
  split
  · omega
  · exact end_ge s i
theorem next_gt {s : ByteArray} {i : Nat} (h : i < s.size) : i < nextW s i := by
  unfold nextW
  have := end_ge s i
  split
  · omega
  · omega
theorem next_le {s : ByteArray} {i : Nat} (h : i ≤ s.size) : nextW s i ≤ s.size := by
  unfold nextW
  have : endW s i ≤ s.size := (run_ge _ _ _ i rfl).2.1 h
  split
  · omega
  · exact this
theorem next_end (s : ByteArray) : nextW s s.size = s.size := by
  have h : endW s s.size = s.size := run_stop (fun h => by omega)
  rw [nextW, h, if_neg (by omega)]
abbrev Tk := Nat × ByteArray
def tksN (s : ByteArray) : Nat → Nat → List Tk
  | 0, _ => []
  | n + 1, i => if skipW s i < s.size then (skipW s i, s.extract (skipW s i) (nextW s (skipW s i))) :: tksN s n (nextW s (skipW s i)) else []
def tks (s : ByteArray) (i : Nat) : List Tk := tksN s (s.size - i) i
theorem tksN_more (s : ByteArray) : ∀ (n m i : Nat), s.size - i ≤ n → s.size - i ≤ m → tksN s n i = tksN s m i
  | 0, 0, _, _, _ => rfl
  | 0, m + 1, i, h, _ => by rw [tksN, tksN, if_neg (by have := skip_ge s i; omega)]
  | n + 1, 0, i, _, h => by rw [tksN, tksN, if_neg (by have := skip_ge s i; omega)]
  | n + 1, m + 1, i, h1, h2 => by
    rw [tksN, tksN]
    split
    · rename_i h3
      have := skip_ge s i
      have := next_gt h3
      rw [tksN_more s n m _ (by omega) (by omega)]
    · rfl
theorem tks_nil {s : ByteArray} {i : Nat} (h : ¬ skipW s i < s.size) : tks s i = [] := by
  unfold tks
  cases s.size - i with
  | zero => rfl
  | succ n => rw [tksN, if_neg h]
theorem tks_cons {s : ByteArray} {i : Nat} (h : skipW s i < s.size) : tks s i = (skipW s i, s.extract (skipW s i) (nextW s (skipW s i))) :: tks s (nextW s (skipW s i)) := by
  have h1 := skip_ge s i
  have h2 := next_gt h
  unfold tks
  obtain ⟨n, hn⟩ : ∃ n, s.size - i = n + 1 := ⟨s.size - i - 1, by omega⟩
  rw [hn, tksN, if_pos h, tksN_more s n _ _ (by omega) (Nat.le_refl _)]
theorem tks_skip (s : ByteArray) (i : Nat) : tks s (skipW s i) = tks s i := by
  by_cases h : skipW s i < s.size
  · rw [tks_cons h, tks_cons (by rw [skip_skip]; exact h), skip_skip]
  · rw [tks_nil h, tks_nil (by rw [skip_skip]; exact h)]
theorem tks_len (s : ByteArray) : ∀ (n i : Nat), s.size - i = n → (tks s i).length ≤ n := by
  intro n
  induction n using Nat.strongRecOn with
  | _ n ih =>
    intro i hi
    by_cases h : skipW s i < s.size
    · have h1 := skip_ge s i
      have h2 := next_gt h
      rw [tks_cons h, List.length_cons]
      have := ih (s.size - nextW s (skipW s i)) (by omega) _ rfl
      omega
    · rw [tks_nil h]; exact Nat.zero_le _
inductive Res
  | bad (c : Int) (p : Nat)
  | ok (t : Tr) (ts : List Tk)
def hd : List Tk → ByteArray
  | [] => ⟨#[]⟩
  | x :: _ => x.2
def pos (L : Nat) : List Tk → Nat
  | [] => L
  | x :: _ => x.1
abbrev wNot : ByteArray := ⟨#[110, 111, 116]⟩
abbrev wL : ByteArray := ⟨#[40]⟩
abbrev wR : ByteArray := ⟨#[41]⟩
abbrev wScore : ByteArray := ⟨#[115, 99, 111, 114, 101]⟩
abbrev wUser : ByteArray := ⟨#[117, 115, 101, 114]⟩
abbrev wOwners : ByteArray := ⟨#[111, 119, 110, 101, 114, 115]⟩
abbrev wTests : ByteArray := ⟨#[116, 101, 115, 116, 115]⟩
abbrev wAnd : ByteArray := ⟨#[97, 110, 100]⟩
abbrev wOr : ByteArray := ⟨#[111, 114]⟩
def signL (lv : Nat) : ByteArray := if lv = 1 then wAnd else wOr
def kindL (lv : Nat) : Int := if lv = 1 then 6 else 7
theorem sign_ne (lv : Nat) : signL lv ≠ ⟨#[]⟩ := by unfold signL; split <;> decide
def numV (w : ByteArray) : Option Int := match Lib.atoiAll w.data.toList with
  | .ok n => if Lib.itoa n = w.data.toList then some n else none
  | _ => none
theorem numV_nil : numV ⟨#[]⟩ = none := rfl
def numR (L : Nat) (k : Int) (ts : List Tk) : Res := match numV (hd ts) with
  | none => .bad 1 (pos L ts)
  | some n => if n < 0 ∨ mostN k < n then .bad 3 (pos L ts) else .ok (.leaf k n) ts.tail
def bindR : Res → (Tr → List Tk → Res) → Res
  | .bad c p, _ => .bad c p
  | .ok t ts, f => f t ts
def fac (L : Nat) (rd2 rd0 : List Tk → Res) (ts : List Tk) : Res :=
  if hd ts = wNot then bindR (rd2 ts.tail) fun t ts' => .ok (.neg t) ts'
  else if hd ts = wL then bindR (rd0 ts.tail) fun t ts' => if hd ts' = wR then .ok t ts'.tail else .bad 1 (pos L ts')
  else if hd ts = wScore then numR L 1 ts.tail
  else if hd ts = wUser then numR L 4 ts.tail
  else if hd ts = wOwners then .ok (.leaf 2 0) ts.tail
  else if hd ts = wTests then .ok (.leaf 3 0) ts.tail
  else .bad 1 (pos L ts)
def rd (L : Nat) : Nat → Nat → Option Tr → List Tk → Res
  | 0, _, _, ts => .bad 1 (pos L ts)
  | n + 1, lv, some t, ts => if hd ts = signL lv then bindR (rd L n (lv + 1) none ts.tail) fun t2 ts' => rd L n lv (some (.bin (kindL lv) t t2)) ts' else .ok t ts
  | n + 1, lv, none, ts => if lv = 2 then fac L (rd L n 2 none) (rd L n 0 none) ts else bindR (rd L n (lv + 1) none ts) fun t ts' => rd L n lv (some t) ts'
theorem bind_ok {r : Res} {f : Tr → List Tk → Res} {t : Tr} {ts : List Tk} (h : bindR r f = .ok t ts) : ∃ a us, r = .ok a us ∧ f a us = .ok t ts := by
  cases r with
  | bad => cases h
  | ok a us => exact ⟨a, us, rfl, h⟩
theorem hd_pos {ts : List Tk} (h : hd ts ≠ ⟨#[]⟩) : ts.tail.length + 1 = ts.length := by
  cases ts with
  | nil => exact absurd rfl h
  | cons x ts => simp
theorem num_ok {L : Nat} {k : Int} {t : Tr} {ts ts' : List Tk} (hk : 1 ≤ k ∧ k ≤ 4) (h : numR L k ts = .ok t ts') : t.ok ∧ t.size + ts'.length ≤ ts.length := by
  unfold numR at h
  split at h
  · cases h
  · rename_i n hn
    split at h
    · cases h
    · cases h
      have := hd_pos (ts := ts) (fun h9 => by rw [h9, numV_nil] at hn; cases hn)
      exact ⟨⟨hk.1, hk.2, by omega, by omega⟩, by simp only [Tr.size]; omega⟩
theorem rd_ok (L : Nat) : ∀ (n lv : Nat) (o : Option Tr) (ts : List Tk) (t : Tr) (ts' : List Tk), (∀ a, o = some a → a.ok) → rd L n lv o ts = .ok t ts' →
    t.ok ∧ t.size + ts'.length ≤ ts.length + (o.map Tr.size).getD 0
  | 0, _, _, _, _, _, _, h => by simp [rd] at h
  | n + 1, lv, some a, ts, t, ts', ho, h => by
    rw [rd] at h
    split at h
    · rename_i h1
      obtain ⟨b, us, h2, h3⟩ := bind_ok h
      have := hd_pos (ts := ts) (by rw [h1]; exact sign_ne lv)
      obtain ⟨h4, h5⟩ := rd_ok L n _ none _ _ _ (fun _ h => by cases h) h2
      have hk : kindL lv = 6 ∨ kindL lv = 7 := by unfold kindL; split <;> simp
      obtain ⟨h6, h7⟩ := rd_ok L n _ (some _) _ _ _ (fun x hx => by cases hx; exact ⟨hk, ho a rfl, h4⟩) h3
      refine ⟨h6, ?_⟩
      simp only [Option.map, Option.getD, Tr.size] at h5 h7 ⊢
      omega
    · cases h
      exact ⟨ho _ rfl, by simp only [Option.map, Option.getD]; omega⟩
  | n + 1, lv, none, ts, t, ts', _, h => by
    rw [rd] at h
    split at h
    · unfold fac at h
      split at h
      · rename_i h1
        have := hd_pos (ts := ts) (by rw [h1]; decide)
        obtain ⟨b, us, h2, h3⟩ := bind_ok h
        obtain ⟨h4, h5⟩ := rd_ok L n _ none _ _ _ (fun _ h => by cases h) h2
        cases h3
        refine ⟨h4, ?_⟩
        simp only [Option.map, Option.getD, Tr.size] at h5 ⊢
        omega
      split at h
      · rename_i h1
        have := hd_pos (ts := ts) (by rw [h1]; decide)
        obtain ⟨b, us, h2, h3⟩ := bind_ok h
        obtain ⟨h4, h5⟩ := rd_ok L n _ none _ _ _ (fun _ h => by cases h) h2
        split at h3
        · rename_i h6
          cases h3
          have := hd_pos (ts := us) (by rw [h6]; decide)
          refine ⟨h4, ?_⟩
          simp only [Option.map, Option.getD] at h5 ⊢
          omega
        · cases h3
      split at h
      · rename_i h1
        have := hd_pos (ts := ts) (by rw [h1]; decide)
        obtain ⟨h2, h3⟩ := num_ok ⟨by decide, by decide⟩ h
        exact ⟨h2, by simp only [Option.map, Option.getD]; omega⟩
      split at h
      · rename_i h1
        have := hd_pos (ts := ts) (by rw [h1]; decide)
        obtain ⟨h2, h3⟩ := num_ok ⟨by decide, by decide⟩ h
        exact ⟨h2, by simp only [Option.map, Option.getD]; omega⟩
      split at h
      · rename_i h1
        have := hd_pos (ts := ts) (by rw [h1]; decide)
        cases h
        exact ⟨⟨by decide, by decide, by decide, by decide⟩, by simp only [Option.map, Option.getD, Tr.size]; omega⟩
      split at h
      · rename_i h1
        have := hd_pos (ts := ts) (by rw [h1]; decide)
        cases h
        exact ⟨⟨by decide, by decide, by decide, by decide⟩, by simp only [Option.map, Option.getD, Tr.size]; omega⟩
      · cases h
    · obtain ⟨b, us, h2, h3⟩ := bind_ok h
      obtain ⟨h4, h5⟩ := rd_ok L n _ none _ _ _ (fun _ h => by cases h) h2
      obtain ⟨h6, h7⟩ := rd_ok L n _ (some _) _ _ _ (fun x hx => by cases hx; exact h4) h3
      refine ⟨h6, ?_⟩
      simp only [Option.map, Option.getD] at h5 h7 ⊢
      omega
def rankW (w : ByteArray) : Nat := if w = wNot then 3 else if w = wAnd then 2 else if w = wOr then 1 else 0
def topW (s : ByteArray) : List Tr → Option (List Tr)
  | [] => none
  | [a] => if s = wNot then some [.neg a] else none
  | b :: a :: ω => if s = wNot then some (.neg b :: a :: ω) else some (.bin (8 - rankW s) a b :: ω)
def redW (low : Nat) : List ByteArray → List Tr → List ByteArray × List Tr
  | [], ω => ([], ω)
  | s :: σ, ω => if low ≤ rankW s then (match topW s ω with | some ω' => redW low σ ω' | none => (s :: σ, ω)) else (s :: σ, ω)
inductive Md
  | want
  | num (k : Int)
  | got
inductive End
  | bad (c : Int) (p : Nat)
  | ok (ω : List Tr)
def op (L : Nat) : List Tk → Md → List ByteArray → List Tr → Nat → End
  | [], .got, σ, ω, o => if 0 < o then .bad 1 L else .ok (redW 1 σ ω).2
  | [], _, _, _, _ => .bad 1 L
  | x :: ts, .want, σ, ω, o =>
    if x.2 = wNot then op L ts .want (wNot :: σ) ω o
    else if x.2 = wL then op L ts .want (wL :: σ) ω (o + 1)
    else if x.2 = wOwners then op L ts .got σ (.leaf 2 0 :: ω) o
    else if x.2 = wTests then op L ts .got σ (.leaf 3 0 :: ω) o
    else if x.2 = wScore then op L ts (.num 1) σ ω o
    else if x.2 = wUser then op L ts (.num 4) σ ω o
    else .bad 1 x.1
  | x :: ts, .num k, σ, ω, o => match numV x.2 with
    | none => .bad 1 x.1
    | some n => if n < 0 ∨ mostN k < n then .bad 3 x.1 else op L ts .got σ (.leaf k n :: ω) o
  | x :: ts, .got, σ, ω, o =>
    if x.2 = wR ∧ 0 < o then op L ts .got (redW 1 σ ω).1.tail (redW 1 σ ω).2 (o - 1)
    else if x.2 = wAnd then op L ts .want (wAnd :: (redW 2 σ ω).1) (redW 2 σ ω).2 o
    else if x.2 = wOr then op L ts .want (wOr :: (redW 1 σ ω).1) (redW 1 σ ω).2 o
    else .bad 1 x.1
end Go.Cf
namespace Go.Cf
open Go.RowKit
def madeR (t : Tr) : Fault × List PN := if 24 < t.size ∨ 12 < t.depth then (⟨10, -1⟩, []) else (⟨0, 0⟩, post t 0)
def fuelOf (s : ByteArray) : Nat := 3 * (tks s 0).length + 3
def parR (s : ByteArray) : Fault × List PN := if 200 < s.size then (⟨2, -1⟩, []) else match rd s.size (fuelOf s) 0 none (tks s 0) with
  | .bad c p => (⟨c, p⟩, [])
  | .ok t us => if us = [] then madeR t else (⟨1, pos s.size us⟩, [])
end Go.Cf
namespace Go.Cf
open Go.RowKit
section
variable {P : Program} {w0 : World} {T : List Reg} {ρ : Env} {dst : Option Tmp} {ty t yt : TypeId} {pos : String} {af : Array Edge} {gd : Option (Nat × Bool)} {x y : Operand} {a b : Int}
theorem y_half (hx : ev ρ x = .int .i64 a) (hy : ev ρ y = .int .i64 2) (h0 : 0 ≤ a) (h1 : a ≤ 255) : Yield P w0 T ρ ⟨dst, .binOp .quo t x y yt, ty, pos, af, gd⟩ (.int .i64 (a / 2)) := fun w _ => by
  have h : IntKind.i64.wrap (a.tdiv 2) = a / 2 := by rw [Int.tdiv_eq_ediv_of_nonneg h0, IntKind.wrap_i64]; omega
  simp [execOp, go_sem, hx, hy, Op.intDiv, h]
theorem y_odd (hx : ev ρ x = .int .i64 a) (hy : ev ρ y = .int .i64 2) (h0 : 0 ≤ a) : Yield P w0 T ρ ⟨dst, .binOp .rem t x y yt, ty, pos, af, gd⟩ (.int .i64 (a % 2)) := fun w _ => by
  have h : a.tmod 2 = a % 2 := Int.tmod_eq_emod_of_nonneg h0
  simp [execOp, go_sem, hx, hy, Op.intDiv, h]
end
theorem half_pow {u : Int} {k : Nat} (h : 0 ≤ u) (h1 : u ≤ 255) : u / 2 ^ k / 2 = u / 2 ^ (k + 1) ∧ 0 ≤ u / 2 ^ k ∧ u / 2 ^ k ≤ 255 := by
  obtain ⟨n, rfl⟩ := Int.eq_ofNat_of_zero_le h
  have e : ((n : Int) / 2 ^ k) = ((n / 2 ^ k : Nat) : Int) := by simp
  have e2 : ((n : Int) / 2 ^ (k + 1)) = ((n / 2 ^ (k + 1) : Nat) : Int) := by simp
  have h3 : n / 2 ^ k ≤ n := Nat.div_le_self _ _
  have h4 : n / 2 ^ (k + 1) = n / 2 ^ k / 2 := by rw [Nat.pow_succ, ← Nat.div_div_eq_div_mul]
  rw [h4] at e2
  have h1' : (n : Int) ≤ 255 := h1
  show (n : Int) / 2 ^ k / 2 = (n : Int) / 2 ^ (k + 1) ∧ 0 ≤ (n : Int) / 2 ^ k ∧ (n : Int) / 2 ^ k ≤ 255
  rw [e, e2]
  generalize n / 2 ^ k = r at *
  refine ⟨by omega, by omega, by omega⟩
theorem tree_big {l : List PN} {i : Nat} {t : Tr} (ho : t.ok) (h : At l i t) (hi : i < l.length) (hk : ¬ l[i].kind < 5) : 1 ≤ i ∧ l[i].kind ≤ 7 ∧ ∃ c q, c.ok ∧ At l q c ∧ l[i].left = ((q : Nat) : Int) ∧ c.size < t.size ∧ q < i ∧
    (l[i].kind = 5 → t = .neg c) ∧ (l[i].kind ≠ 5 → ∃ b, b.ok ∧ At l (i - 1) b ∧ b.size < t.size ∧ l[i].right = ((i - 1 : Nat) : Int) ∧ t = .bin l[i].kind c b) := by
  obtain ⟨-, hbg⟩ := tree_at ho h hi
  obtain ⟨h1, h2, b, hbo, hbt, h5, h67⟩ := hbg hk
  refine ⟨h1, h2, ?_⟩
  by_cases h9 : l[i].kind = 5
  · obtain ⟨e1, e2⟩ := h5 h9
    exact ⟨b, i - 1, hbo, hbt, by omega, by rw [e1, size_neg]; omega, by omega, fun _ => e1, fun h => absurd h9 h⟩
  · obtain ⟨a, m, hao, hat, hm, e1, e2, e3⟩ := h67 h9
    have := a.pos
    have := b.pos
    exact ⟨a, m, hao, hat, e2, by rw [e1, size_bin]; omega, by omega, fun h => absurd h h9, fun _ => ⟨b, hbo, hbt, by rw [e1, size_bin]; omega, by omega, e1⟩⟩
def baL (l : List UInt8) : ByteArray := ⟨l.toArray⟩
theorem baL_app (a b : List UInt8) : baL a ++ baL b = baL (a ++ b) := by
  apply ByteArray.ext
  rw [ByteArray.data_append]
  simp [baL]
theorem baL_size (l : List UInt8) : (baL l).size = l.length := by show l.toArray.size = _; simp
theorem baL_data (l : List UInt8) : (baL l).data.toList = l := by simp [baL]
abbrev tScore : List UInt8 := [115, 99, 111, 114, 101, 32]
abbrev tUser : List UInt8 := [117, 115, 101, 114, 32]
abbrev tOwners : List UInt8 := [111, 119, 110, 101, 114, 115]
abbrev tTests : List UInt8 := [116, 101, 115, 116, 115]
abbrev tNot : List UInt8 := [110, 111, 116, 32]
abbrev tAnd : List UInt8 := [32, 97, 110, 100, 32]
abbrev tOr : List UInt8 := [32, 111, 114, 32]
def lvK (k : Int) : Nat := if k = 7 then 0 else if k = 6 then 1 else 2
def parL (c : Prop) [Decidable c] (l : List UInt8) : List UInt8 := if c then 40 :: (l ++ [41]) else l
def showB : Tr → Nat → List UInt8
  | .leaf k n, _ => if k = 1 then tScore ++ Lib.decDigits n.toNat else if k = 4 then tUser ++ Lib.decDigits n.toNat else if k = 2 then tOwners else tTests
  | .neg t, _ => tNot ++ showB t 2
  | .bin k a b, q => parL (lvK k < q) (showB a (lvK k) ++ (if k = 6 then tAnd else tOr) ++ showB b (lvK k + 1))
theorem dig_one {n : Int} (h0 : 0 ≤ n) (h1 : n ≤ 8) : Lib.decDigits n.toNat = [UInt8.ofNat (48 + n.toNat)] := by
  rw [Lib.decDigits, dif_pos (by omega)]
theorem showB_len : ∀ (t : Tr) (q : Nat), t.ok → (showB t q).length ≤ 10 * t.size
  | .leaf k n, q, h => by
    obtain ⟨h1, h2, h3, h4⟩ := h
    have := mostN_le k
    rw [showB, dig_one h3 (by omega)]
    simp only [Tr.size]
    (repeat' split) <;> simp
  | .neg t, q, h => by
    have := showB_len t 2 h
    rw [showB, List.length_append, size_neg]
    have : tNot.length = 4 := rfl
    omega
  | .bin k a b, q, h => by
    have h1 := showB_len a (lvK k) h.2.1
    have h2 := showB_len b (lvK k + 1) h.2.2
    have h3 : (if k = 6 then tAnd else tOr).length ≤ 5 := by split <;> decide
    rw [showB, size_bin, parL]
    split
    · simp only [List.length_cons, List.length_append, List.length_nil] at *; omega
    · simp only [List.length_append] at *; omega
def nrm : Tr → Bool → Tr
  | .leaf k n, x => if x then .neg (.leaf k n) else .leaf k n
  | .neg t, x => nrm t (!x)
  | .bin k a b, x => .bin (if x then 13 - k else k) (nrm a x) (nrm b x)
theorem nrm_ok : ∀ (t : Tr) (x : Bool), t.ok → (nrm t x).ok ∧ (nrm t x).size ≤ 2 * t.size
  | .leaf k n, x, h => by
    rw [nrm]
    split
    · exact ⟨h, by simp [Tr.size]⟩
    · exact ⟨h, by simp [Tr.size]⟩
  | .neg t, x, h => by
    obtain ⟨h1, h2⟩ := nrm_ok t (!x) h
    exact ⟨h1, by rw [size_neg, nrm]; omega⟩
  | .bin k a b, x, h => by
    obtain ⟨h1, h2⟩ := nrm_ok a x h.2.1
    obtain ⟨h3, h4⟩ := nrm_ok b x h.2.2
    have hk := h.1
    refine ⟨⟨?_, h1, h3⟩, ?_⟩
    · split <;> omega
    · rw [nrm, size_bin, size_bin]; omega
end Go.Cf
namespace Go.Cf
def kindT : Tr → Int
  | .leaf k _ => k
  | .neg _ => 5
  | .bin k _ _ => k
theorem parL_no {c : Prop} [Decidable c] {x : List UInt8} (h : ¬ c) : parL c x = x := if_neg h
theorem show_par {t : Tr} {v : Nat} (h : t.ok) (hv : v ≤ 2) : showB t v = parL (lvK (kindT t) < v) (showB t 0) := by
  cases t with
  | leaf k n =>
    obtain ⟨h1, h2, _⟩ := h
    have e : lvK k = 2 := by unfold lvK; rw [if_neg (by omega), if_neg (by omega)]
    rw [showB, showB, parL_no (by show ¬ lvK k < v; omega)]
  | neg t => rw [showB, showB, parL_no (by show ¬ 2 < v; omega)]
  | bin k a b =>
    rw [showB, showB, parL_no (c := lvK k < 0) (by omega)]; rfl
theorem kind_at {l : List PN} {i : Nat} {t : Tr} (h : At l i t) (hi : i < l.length) : l[i].kind = kindT t := by
  rw [← nAt_at hi]
  match t, h with
  | .leaf k n, h => rw [h.leaf]; rfl
  | .neg b, h => rw [h.neg.2.1]; rfl
  | .bin k a b, h =>
    obtain ⟨m, _, _, h3, _⟩ := h.bin
    rw [h3]; rfl
theorem par_yes {c : Prop} [Decidable c] {x : List UInt8} (h : c) : baL (parL c x) = ⟨#[40]⟩ ++ baL x ++ ⟨#[41]⟩ := by
  rw [parL, if_pos h, show (⟨#[40]⟩ : ByteArray) = baL [40] from rfl, show (⟨#[41]⟩ : ByteArray) = baL [41] from rfl, baL_app, baL_app]; rfl
theorem par_no {c : Prop} [Decidable c] {x : List UInt8} (h : ¬ c) : baL (parL c x) = baL x := by rw [parL, if_neg h]
theorem dig_cut {n : Int} (h0 : 0 ≤ n) (h1 : n ≤ 8) : (⟨#[48, 49, 50, 51, 52, 53, 54, 55, 56]⟩ : ByteArray).extract n.toNat (n + 1).toNat = baL (Lib.decDigits n.toNat) := by
  rw [dig_one h0 h1]
  obtain ⟨k, rfl⟩ := Int.eq_ofNat_of_zero_le h0
  have hk : k ≤ 8 := by have : (k : Int) ≤ 8 := h1; omega
  match k, hk with
  | 0, _ => rfl
  | 1, _ => rfl
  | 2, _ => rfl
  | 3, _ => rfl
  | 4, _ => rfl
  | 5, _ => rfl
  | 6, _ => rfl
  | 7, _ => rfl
  | 8, _ => rfl
theorem show_and (a b : Tr) : showB (.bin 6 a b) 0 = showB a 1 ++ tAnd ++ showB b 2 := by simp [showB, parL, lvK]
theorem show_or (a b : Tr) : showB (.bin 7 a b) 0 = showB a 0 ++ tOr ++ showB b 1 := by simp [showB, parL, lvK]
end Go.Cf
namespace Go.Cf
theorem upto_step {α : Type} {k i j : Int} {x y : α} (h : i + 1 = j) (hk : k ≠ j) : (if k ≤ i then x else y) = if k ≤ j then x else y := by
  by_cases h9 : k ≤ i
  · rw [if_pos h9, if_pos (by omega)]
  · rw [if_neg h9, if_neg (by omega)]
theorem lvK_is (k : Int) : (k ≠ 6 ∧ k ≠ 7 ∧ lvK k = 2) ∨ (k = 6 ∧ lvK k = 1) ∨ (k = 7 ∧ lvK k = 0) := by
  by_cases h7 : k = 7
  · exact .inr (.inr ⟨h7, by rw [lvK, if_pos h7]⟩)
  · by_cases h6 : k = 6
    · exact .inr (.inl ⟨h6, by rw [lvK, if_neg h7, if_pos h6]⟩)
    · exact .inl ⟨h6, h7, by rw [lvK, if_neg h7, if_neg h6]⟩
end Go.Cf
namespace Go.Proofs.YtllblbkbglifjaaDoor
open Go.RowKit Go.Cf
set_option maxRecDepth 10000
set_option maxHeartbeats 1000000 in
theorem refMost_any (w : World) (k : Int) : Calls Tryd.prog 36 #[.int .i64 k] w fun e w' => e = .returned (.int .i64 (mostN k)) ∧ Below w.heap.size w w' := by
  refine gcalls Tryd.func36 rfl Tryd.ntmps36 (Nat.le_of_ble_eq_true rfl) ?_
  refine gfrom [(0, .int _ _)] ⟨rfl, trivial⟩ fun σ => ?_
  refine gseq fun N1 hN1 => ?_
  refine greg ?_
  refine gop (y_assign (v := .int _ _) rfl) rfl rfl rfl ?_
  refine gops_nil ?_
  refine hN1 _ _ ?_
  refine gfrom [(0, .int _ _)] ⟨rfl, trivial⟩ fun σ => ?_
  refine gseq fun N2 hN2 => ?_
  refine gseq fun N3 hN3 => ?_
  refine greg ?_
  refine gop (y_move (v := .int _ _) rfl) rfl rfl rfl ?_
  refine gop (y_eql rfl rfl) rfl rfl rfl ?_
  refine gops_nil ?_
  refine hN3 _ _ ?_
  refine gfrom [(0, .int _ _), (4, .bool _)] ⟨rfl, rfl, trivial⟩ fun σ => ?_
  refine gcond (b := _) rfl (fun hc4 => ?_) (fun hc4 => ?_)
  · 
    replace hc4 := of_decide_eq_true hc4
    refine gseq fun N4 hN4 => ?_
    refine greg ?_
    refine gop (y_assign (v := .int _ _) rfl) rfl rfl rfl ?_
    refine gops_nil ?_
    refine hN4 _ _ ?_
    refine gfrom [(2, .int _ _)] ⟨rfl, trivial⟩ fun σ => ?_
    refine gret fun w1 hM => ?_
    refine ⟨_, res1 rfl (rt (v := .int _ _) rfl), ?_⟩
    exact ⟨by unfold mostN; first | rw [if_pos (by omega)] | rw [if_neg (by omega), if_pos (by omega)] | rw [if_neg (by omega), if_neg (by omega)], hM.low⟩
  · 
    replace hc4 := of_decide_eq_false hc4
    refine gskip ?_
    refine hN2 _ _ ?_
    refine gfrom [(0, .int _ _)] ⟨rfl, trivial⟩ fun σ => ?_
    refine gseq fun N5 hN5 => ?_
    refine gseq fun N6 hN6 => ?_
    refine greg ?_
    refine gop (y_move (v := .int _ _) rfl) rfl rfl rfl ?_
    refine gop (y_eql rfl rfl) rfl rfl rfl ?_
    refine gops_nil ?_
    refine hN6 _ _ ?_
    refine gfrom [(6, .bool _)] ⟨rfl, trivial⟩ fun σ => ?_
    refine gcond (b := _) rfl (fun hc6 => ?_) (fun hc6 => ?_)
    · 
      replace hc6 := of_decide_eq_true hc6
      refine gseq fun N7 hN7 => ?_
      refine greg ?_
      refine gop (y_assign (v := .int _ _) rfl) rfl rfl rfl ?_
      refine gops_nil ?_
      refine hN7 _ _ ?_
      refine gfrom [(2, .int _ _)] ⟨rfl, trivial⟩ fun σ => ?_
      refine gret fun w1 hM => ?_
      refine ⟨_, res1 rfl (rt (v := .int _ _) rfl), ?_⟩
      exact ⟨by unfold mostN; first | rw [if_pos (by omega)] | rw [if_neg (by omega), if_pos (by omega)] | rw [if_neg (by omega), if_neg (by omega)], hM.low⟩
    · 
      replace hc6 := of_decide_eq_false hc6
      refine gskip ?_
      refine hN5 _ _ ?_
      refine gfrom [] trivial fun σ => ?_
      refine gseq fun N8 hN8 => ?_
      refine greg ?_
      refine gop (y_assign (v := .int _ _) rfl) rfl rfl rfl ?_
      refine gops_nil ?_
      refine hN8 _ _ ?_
      refine gfrom [(2, .int _ _)] ⟨rfl, trivial⟩ fun σ => ?_
      refine gret fun w1 hM => ?_
      refine ⟨_, res1 rfl (rt (v := .int _ _) rfl), ?_⟩
      exact ⟨by unfold mostN; first | rw [if_pos (by omega)] | rw [if_neg (by omega), if_pos (by omega)] | rw [if_neg (by omega), if_neg (by omega)], hM.low⟩
set_option maxHeartbeats 1000000 in
theorem fault_any (w : World) (c i : Int) : Calls Tryd.prog 16 #[.int .i64 c, .int .i64 i] w fun e w' => e = .returned (fv ⟨c, i⟩) ∧ Below w.heap.size w w' := by
  refine gcalls Tryd.func16 rfl Tryd.ntmps16 (Nat.le_of_ble_eq_true rfl) ?_
  refine gfrom [(0, .int _ _), (1, .int _ _)] ⟨rfl, rfl, trivial⟩ fun σ => ?_
  refine gseq fun N1 hN1 => ?_
  refine greg ?_
  refine gop_alloc (cs := #[.int .i64 0, .int .i64 0]) Tryd.zeroValue28 rfl rfl (fun b4 hb4 => ?_)
  refine gops_nil ?_
  refine hN1 _ _ ?_
  refine gT [box b4 _] rfl ?_
  refine gfrom [(0, .int _ _), (1, .int _ _), (4, .pointer _)] ⟨rfl, rfl, rfl, trivial⟩ fun σ => ?_
  refine gseq fun N2 hN2 => ?_
  refine greg ?_
  refine gop (y_move (v := .int _ _) rfl) rfl rfl rfl ?_
  refine gop (y_move (v := .int _ _) rfl) rfl rfl rfl ?_
  refine gop (y_build (vs := [(0, .int _ _), (1, .int _ _)]) (cells := #[_, _]) rfl (bd28_0_1 _ _)) rfl rfl rfl ?_
  refine gop_store 0 (v := .agg #[_, _]) (cs' := #[_, _]) rfl rfl Tryd.sizeOf28 rfl rfl rfl rfl (Nat.le_of_ble_eq_true rfl) rfl rfl ?_
  refine gops_nil ?_
  refine hN2 _ _ ?_
  refine gT [box b4 _] rfl ?_
  refine gfrom [(4, .pointer _)] ⟨rfl, trivial⟩ fun σ => ?_
  refine gret fun w1 hM => ?_
  refine ⟨_, res1 rfl (rc 0 (cs := [_, _]) hM rfl rfl Tryd.isAgg28 Tryd.sizeOf28 rfl), ?_⟩
  exact ⟨rfl, hM.low⟩
set_option maxHeartbeats 4000000 in
theorem refDepth_any (A : Option Addr) (c : Nat) (l : List PN) (hlc : l.length ≤ c) (hcm : c ≤ maxLen) (z : Nat) : ∀ (t : Tr) (i : Int) (m : Nat) (w : World), t.size = z → i = (m : Int) → Rdl w 0 4 pnCells A l → t.ok → At l m t →
    Calls Tryd.prog 23 #[.slice A l.length c, .int .i64 i] w fun e w' => e = .returned (.int .i64 t.depth) ∧ Below w.heap.size w w' := by
  have hlm : l.length ≤ 9223372036854775807 := by have h9 := Nat.le_trans hlc hcm; unfold maxLen at h9; omega
  refine Nat.strongRecOn z ?_
  intro z ih t i m w hz hi hl hok hat
  have hm1 := hat.lt
  obtain ⟨ad, rfl, -, hca⟩ := hl.at_ hm1
  obtain ⟨hsm, hbg⟩ := tree_at hok hat hm1
  have hsz := hat.size_le
  have hps := t.pos
  refine gcalls Tryd.func23 rfl Tryd.ntmps23 (Nat.le_of_ble_eq_true rfl) ?_
  refine gfrom [(0, .slice _ _ _), (1, .int _ _)] ⟨rfl, rfl, trivial⟩ fun σ => ?_
  refine gseq fun N1 hN1 => ?_
  refine greg ?_
  refine gop (y_assign (v := .int _ _) rfl) rfl rfl rfl ?_
  refine gops_nil ?_
  refine hN1 _ _ ?_
  refine gfrom [(0, .slice _ _ _), (1, .int _ _)] ⟨rfl, rfl, trivial⟩ fun σ => ?_
  refine gseq fun N2 hN2 => ?_
  refine greg ?_
  refine gop (y_move (v := .slice _ _ _) rfl) rfl rfl rfl ?_
  refine gop (y_move (v := .int _ _) rfl) rfl rfl rfl ?_
  refine gop (y_indexAddr (m := m) Tryd.underlying22 Tryd.sizeOf47 rfl rfl (by omega) (by omega) (by omega)) rfl rfl rfl ?_
  refine gop (y_loads (cs := [_, _, _, _]) Tryd.isAgg47 Tryd.sizeOf47 rfl rfl (cells_base hca)) rfl rfl rfl ?_
  refine gop_alloc (cs := #[.int .i64 0, .int .i64 0, .int .i64 0, .int .i64 0]) Tryd.zeroValue47 rfl rfl (fun b5 hb5 => ?_)
  refine gop_store 0 (v := .agg #[_, _, _, _]) (cs' := #[_, _, _, _]) rfl rfl Tryd.sizeOf47 rfl rfl rfl rfl (Nat.le_of_ble_eq_true rfl) rfl rfl ?_
  refine gops_nil ?_
  refine hN2 _ _ ?_
  refine gT [box b5 _] rfl ?_
  refine gfrom [(0, .slice _ _ _), (5, .pointer _)] ⟨rfl, rfl, trivial⟩ fun σ => ?_
  refine gseq fun N3 hN3 => ?_
  refine gseq fun N4 hN4 => ?_
  refine greg ?_
  refine gop (y_fieldAddr_box fa47_0 rfl) rfl rfl rfl ?_
  refine gop (y_load Tryd.isAgg3 rfl (cell_box 0 rfl rfl)) rfl rfl rfl ?_
  refine gop (y_lss rfl rfl) rfl rfl rfl ?_
  refine gops_nil ?_
  refine hN4 _ _ ?_
  refine gfrom [(0, .slice _ _ _), (5, .pointer _), (13, .bool _)] ⟨rfl, rfl, rfl, trivial⟩ fun σ => ?_
  refine gcond (b := _) rfl (fun hc13 => ?_) (fun hc13 => ?_)
  · 
    replace hc13 := of_decide_eq_true hc13
    obtain ⟨-, hs1, -⟩ := hsm hc13
    refine gseq fun N5 hN5 => ?_
    refine greg ?_
    refine gop (y_assign (v := .int _ _) rfl) rfl rfl rfl ?_
    refine gops_nil ?_
    refine hN5 _ _ ?_
    refine gfrom [(4, .int _ _)] ⟨rfl, trivial⟩ fun σ => ?_
    refine gret fun w1 hM => ?_
    refine ⟨_, res1 rfl (rt (v := .int _ _) rfl), ?_⟩
    exact ⟨by (first | rw [hs1] | rw [hd]), hM.low⟩
  · 
    replace hc13 := of_decide_eq_false hc13
    obtain ⟨hi1, hk7, d, q, hdo, hdt, hdl, hds, hdq, h5, h67⟩ := tree_big hok hat hm1 hc13
    have hdp := depth_pos d
    have hdz := hdt.size_le
    refine gskip ?_
    refine hN3 _ _ ?_
    refine gfrom [(0, .slice _ _ _), (5, .pointer _)] ⟨rfl, rfl, trivial⟩ fun σ => ?_
    refine gseq fun N6 hN6 => ?_
    refine greg ?_
    refine gop (y_move (v := .slice _ _ _) rfl) rfl rfl rfl ?_
    refine gop (y_fieldAddr_box fa47_2 rfl) rfl rfl rfl ?_
    refine gop (y_load Tryd.isAgg3 rfl (cell_box 0 rfl rfl)) rfl rfl rfl ?_
    refine gop_pure (e_call (vs := [.slice _ _ _, .int _ _]) Tryd.func23 rfl (by kernel_rfl) rfl) (fun w hM => ih d.size (by omega) d _ q w rfl hdl (hl.base hM) hdo hdt) rfl rfl rfl ?_
    refine gop (y_assign (v := .int _ _) rfl) rfl rfl rfl ?_
    refine gops_nil ?_
    refine hN6 _ _ ?_
    refine gfrom [(0, .slice _ _ _), (5, .pointer _), (6, .int _ _)] ⟨rfl, rfl, rfl, trivial⟩ fun σ => ?_
    refine gseq fun N7 hN7 => ?_
    refine gseq fun N8 hN8 => ?_
    refine greg ?_
    refine gop (y_fieldAddr_box fa47_0 rfl) rfl rfl rfl ?_
    refine gop (y_load Tryd.isAgg3 rfl (cell_box 0 rfl rfl)) rfl rfl rfl ?_
    refine gop (y_gtr rfl rfl) rfl rfl rfl ?_
    refine gops_nil ?_
    refine hN8 _ _ ?_
    refine gfrom [(0, .slice _ _ _), (5, .pointer _), (6, .int _ _), (20, .bool _)] ⟨rfl, rfl, rfl, rfl, trivial⟩ fun σ => ?_
    refine gcond (b := _) rfl (fun hc20 => ?_) (fun hc20 => ?_)
    · 
      replace hc20 := of_decide_eq_true hc20
      obtain ⟨b, hbo, hbt, hbs, hbr, he⟩ := h67 (by omega)
      have hbp := depth_pos b
      have hbz := hbt.size_le
      have hd : t.depth = max d.depth b.depth + 1 := by rw [he, depth_bin]; omega
      refine greg ?_
      refine gop (y_move (v := .int _ _) rfl) rfl rfl rfl ?_
      refine gop (y_move (v := .slice _ _ _) rfl) rfl rfl rfl ?_
      refine gop (y_fieldAddr_box fa47_3 rfl) rfl rfl rfl ?_
      refine gop (y_load Tryd.isAgg3 rfl (cell_box 0 rfl rfl)) rfl rfl rfl ?_
      refine gop_pure (e_call (vs := [.slice _ _ _, .int _ _]) Tryd.func23 rfl (by kernel_rfl) rfl) (fun w hM => ih b.size (by omega) b _ (m - 1) w rfl hbr (hl.base hM) hbo hbt) rfl rfl rfl ?_
      refine gop (y_max rfl rfl) rfl rfl rfl ?_
      refine gop (y_assign (v := .int _ _) rfl) rfl rfl rfl ?_
      refine gops_nil ?_
      refine hN7 _ _ ?_
      refine gfrom [(6, .int _ _)] ⟨rfl, trivial⟩ fun σ => ?_
      refine gseq fun N9 hN9 => ?_
      refine greg ?_
      refine gop (y_move (v := .int _ _) rfl) rfl rfl rfl ?_
      refine gop (y_add rfl rfl ⟨by omega, by omega⟩) rfl rfl rfl ?_
      refine gop (y_assign (v := .int _ _) rfl) rfl rfl rfl ?_
      refine gops_nil ?_
      refine hN9 _ _ ?_
      refine gfrom [(4, .int _ _)] ⟨rfl, trivial⟩ fun σ => ?_
      refine gret fun w1 hM => ?_
      refine ⟨_, res1 rfl (rt (v := .int _ _) rfl), ?_⟩
      exact ⟨by (first | rw [hs1] | rw [hd]), hM.low⟩
    · 
      replace hc20 := of_decide_eq_false hc20
      have hd : t.depth = d.depth + 1 := by rw [h5 (by omega), depth_neg]
      refine gskip ?_
      refine hN7 _ _ ?_
      refine gfrom [(6, .int _ _)] ⟨rfl, trivial⟩ fun σ => ?_
      refine gseq fun N10 hN10 => ?_
      refine greg ?_
      refine gop (y_move (v := .int _ _) rfl) rfl rfl rfl ?_
      refine gop (y_add rfl rfl ⟨by omega, by omega⟩) rfl rfl rfl ?_
      refine gop (y_assign (v := .int _ _) rfl) rfl rfl rfl ?_
      refine gops_nil ?_
      refine hN10 _ _ ?_
      refine gfrom [(4, .int _ _)] ⟨rfl, trivial⟩ fun σ => ?_
      refine gret fun w1 hM => ?_
      refine ⟨_, res1 rfl (rt (v := .int _ _) rfl), ?_⟩
      exact ⟨by (first | rw [hs1] | rw [hd]), hM.low⟩
set_option maxHeartbeats 4000000 in
theorem nodeCode_any (w : World) (A : Option Addr) (c : Nat) (l : List PN) (hl : Rdl w 0 4 pnCells A l) (hlc : l.length ≤ c) (hcm : c ≤ maxLen) (k : Nat) (hk1 : k < l.length) (hg : GoodP l k) : Calls Tryd.prog 21 #[.slice A l.length c, .int .i64 (k : Int)] w fun e w' => e = .returned (.int .i64 (chk l[k] (rootsTo l k))) ∧ Below w.heap.size w w' := by
  have hlm : l.length ≤ 9223372036854775807 := by have h9 := Nat.le_trans hlc hcm; unfold maxLen at h9; omega
  obtain ⟨ad, rfl, -, hca⟩ := hl.at_ hk1
  refine gcalls Tryd.func21 rfl Tryd.ntmps21 (Nat.le_of_ble_eq_true rfl) ?_
  refine gfrom [(0, .slice _ _ _), (1, .int _ _)] ⟨rfl, rfl, trivial⟩ fun σ => ?_
  refine gseq fun N1 hN1 => ?_
  refine greg ?_
  refine gop (y_assign (v := .int _ _) rfl) rfl rfl rfl ?_
  refine gops_nil ?_
  refine hN1 _ _ ?_
  refine gfrom [(0, .slice _ _ _), (1, .int _ _)] ⟨rfl, rfl, trivial⟩ fun σ => ?_
  refine gseq fun N2 hN2 => ?_
  refine greg ?_
  refine gop (y_move (v := .slice _ _ _) rfl) rfl rfl rfl ?_
  refine gop (y_move (v := .int _ _) rfl) rfl rfl rfl ?_
  refine gop (y_indexAddr (m := k) Tryd.underlying22 Tryd.sizeOf47 rfl rfl (by omega) (by omega) (by omega)) rfl rfl rfl ?_
  refine gop (y_loads (cs := [_, _, _, _]) Tryd.isAgg47 Tryd.sizeOf47 rfl rfl (cells_base hca)) rfl rfl rfl ?_
  refine gop_alloc (cs := #[.int .i64 0, .int .i64 0, .int .i64 0, .int .i64 0]) Tryd.zeroValue47 rfl rfl (fun b5 hb5 => ?_)
  refine gop_store 0 (v := .agg #[_, _, _, _]) (cs' := #[_, _, _, _]) rfl rfl Tryd.sizeOf47 rfl rfl rfl rfl (Nat.le_of_ble_eq_true rfl) rfl rfl ?_
  refine gops_nil ?_
  refine hN2 _ _ ?_
  refine gT [box b5 _] rfl ?_
  refine gfrom [(0, .slice _ _ _), (1, .int _ _), (5, .pointer _)] ⟨rfl, rfl, rfl, trivial⟩ fun σ => ?_
  refine gseq fun N3 hN3 => ?_
  refine gseq fun N4 hN4 => ?_
  refine greg ?_
  refine gop (y_fieldAddr_box fa47_0 rfl) rfl rfl rfl ?_
  refine gop (y_load Tryd.isAgg3 rfl (cell_box 0 rfl rfl)) rfl rfl rfl ?_
  refine gop (y_lss rfl rfl) rfl rfl rfl ?_
  refine gop (y_move (v := .bool _) rfl) rfl rfl rfl ?_
  refine gop_if (want := false) rfl rfl rfl rfl rfl rfl (fun hg14 => ?_) (fun hg14 => ?_)
  · 
    have hg14d := of_decide_eq_false hg14
    refine gop (y_bare (y_fieldAddr_box fa47_0 rfl)) rfl rfl rfl ?_
    refine gop_on rfl rfl rfl rfl hg14 ?_
    refine gop (y_bare (y_load Tryd.isAgg3 rfl (cell_box 0 rfl rfl))) rfl rfl rfl ?_
    refine gop_on rfl rfl rfl rfl hg14 ?_
    refine gop (y_bare (y_gtr rfl rfl)) rfl rfl rfl ?_
    refine gop (y_pick_f (v := .bool _) rfl hg14 rfl) rfl rfl rfl ?_
    refine gops_nil ?_
    refine hN4 _ _ ?_
    refine gfrom [(0, .slice _ _ _), (1, .int _ _), (5, .pointer _), (18, .bool _)] ⟨rfl, rfl, rfl, rfl, trivial⟩ fun σ => ?_
    refine gcond (b := _) rfl (fun hc18 => ?_) (fun hc18 => ?_)
    · 
      replace hc18 := of_decide_eq_true hc18
      have hC : chk l[k] (rootsTo l k) = 4 := chk_kind (by omega)
      refine gseq fun N5 hN5 => ?_
      refine greg ?_
      refine gop (y_assign (v := .int _ _) rfl) rfl rfl rfl ?_
      refine gops_nil ?_
      refine hN5 _ _ ?_
      refine gfrom [(4, .int _ _)] ⟨rfl, trivial⟩ fun σ => ?_
      refine gret fun w1 hM => ?_
      refine ⟨_, res1 rfl (rt (v := .int _ _) rfl), ?_⟩
      exact ⟨by rw [hC], hM.low⟩
    · 
      replace hc18 := of_decide_eq_false hc18
      have hk7 : ¬ (l[k].kind < 1 ∨ 7 < l[k].kind) := by omega
      refine gskip ?_
      refine hN3 _ _ ?_
      refine gfrom [(0, .slice _ _ _), (1, .int _ _), (5, .pointer _)] ⟨rfl, rfl, rfl, trivial⟩ fun σ => ?_
      refine gseq fun N6 hN6 => ?_
      refine gseq fun N7 hN7 => ?_
      refine greg_q (by kernel_rfl) (by kernel_rfl) ?_
      refine gq (y_fieldAddr_box fa47_1 rfl) rfl rfl rfl ?_
      refine gq (y_load Tryd.isAgg3 rfl (cell_box 0 rfl rfl)) rfl rfl rfl ?_
      refine gq (y_lss rfl rfl) rfl rfl rfl ?_
      refine gq (y_move (v := .bool _) rfl) rfl rfl rfl ?_
      refine gq_if (want := false) rfl rfl rfl rfl rfl rfl (fun hg22 => ?_) (fun hg22 => ?_)
      · 
        have hg22d := of_decide_eq_false hg22
        refine gq (y_bare (y_fieldAddr_box fa47_1 rfl)) rfl rfl rfl ?_
        refine gq_on rfl rfl rfl rfl hg22 ?_
        refine gq (y_bare (y_load Tryd.isAgg3 rfl (cell_box 0 rfl rfl))) rfl rfl rfl ?_
        refine gq_on rfl rfl rfl rfl hg22 ?_
        refine gq (y_bare (y_fieldAddr_box fa47_0 rfl)) rfl rfl rfl ?_
        refine gq_on rfl rfl rfl rfl hg22 ?_
        refine gq (y_bare (y_load Tryd.isAgg3 rfl (cell_box 0 rfl rfl))) rfl rfl rfl ?_
        refine gq_on rfl rfl rfl rfl hg22 ?_
        refine gq_pure (e_call (vs := [.int _ _]) Tryd.func36 rfl (by kernel_rfl) rfl) (fun w hM => refMost_any w _) rfl rfl rfl ?_
        refine gq_on rfl rfl rfl rfl hg22 ?_
        refine gq (y_bare (y_gtr rfl rfl)) rfl rfl rfl ?_
        refine gq (y_pick_f (v := .bool _) rfl hg22 rfl) rfl rfl rfl ?_
        refine gqs_nil ?_
        refine hN7 _ _ ?_
        refine gfrom [(0, .slice _ _ _), (1, .int _ _), (5, .pointer _), (29, .bool _)] ⟨rfl, rfl, rfl, rfl, trivial⟩ fun σ => ?_
        refine gcond (b := _) rfl (fun hc29 => ?_) (fun hc29 => ?_)
        · 
          replace hc29 := of_decide_eq_true hc29
          have hC : chk l[k] (rootsTo l k) = 3 := chk_num hk7 (by omega)
          refine gseq fun N8 hN8 => ?_
          refine greg ?_
          refine gop (y_assign (v := .int _ _) rfl) rfl rfl rfl ?_
          refine gops_nil ?_
          refine hN8 _ _ ?_
          refine gfrom [(4, .int _ _)] ⟨rfl, trivial⟩ fun σ => ?_
          refine gret fun w1 hM => ?_
          refine ⟨_, res1 rfl (rt (v := .int _ _) rfl), ?_⟩
          exact ⟨by rw [hC], hM.low⟩
        · 
          replace hc29 := of_decide_eq_false hc29
          have hn7 : ¬ (l[k].number < 0 ∨ mostN l[k].kind < l[k].number) := by omega
          refine gskip ?_
          refine hN6 _ _ ?_
          refine gfrom [(0, .slice _ _ _), (1, .int _ _), (5, .pointer _)] ⟨rfl, rfl, rfl, trivial⟩ fun σ => ?_
          refine gseq fun N9 hN9 => ?_
          refine gseq fun N10 hN10 => ?_
          refine greg ?_
          refine gop (y_fieldAddr_box fa47_0 rfl) rfl rfl rfl ?_
          refine gop (y_load Tryd.isAgg3 rfl (cell_box 0 rfl rfl)) rfl rfl rfl ?_
          refine gop (y_lss rfl rfl) rfl rfl rfl ?_
          refine gops_nil ?_
          refine hN10 _ _ ?_
          refine gfrom [(0, .slice _ _ _), (1, .int _ _), (5, .pointer _), (32, .bool _)] ⟨rfl, rfl, rfl, rfl, trivial⟩ fun σ => ?_
          refine gcond (b := _) rfl (fun hc32 => ?_) (fun hc32 => ?_)
          · 
            replace hc32 := of_decide_eq_true hc32
            refine gseq fun N11 hN11 => ?_
            refine gseq fun N12 hN12 => ?_
            refine greg ?_
            refine gop (y_fieldAddr_box fa47_2 rfl) rfl rfl rfl ?_
            refine gop (y_load Tryd.isAgg3 rfl (cell_box 0 rfl rfl)) rfl rfl rfl ?_
            refine gop (y_neq rfl rfl) rfl rfl rfl ?_
            refine gop (y_move (v := .bool _) rfl) rfl rfl rfl ?_
            refine gop_if (want := false) rfl rfl rfl rfl rfl rfl (fun hg36 => ?_) (fun hg36 => ?_)
            · 
              have hg36d := Decidable.not_not.1 (of_decide_eq_false hg36)
              refine gop (y_bare (y_fieldAddr_box fa47_3 rfl)) rfl rfl rfl ?_
              refine gop_on rfl rfl rfl rfl hg36 ?_
              refine gop (y_bare (y_load Tryd.isAgg3 rfl (cell_box 0 rfl rfl))) rfl rfl rfl ?_
              refine gop_on rfl rfl rfl rfl hg36 ?_
              refine gop (y_bare (y_neq rfl rfl)) rfl rfl rfl ?_
              refine gop (y_pick_f (v := .bool _) rfl hg36 rfl) rfl rfl rfl ?_
              refine gops_nil ?_
              refine hN12 _ _ ?_
              refine gfrom [(40, .bool _)] ⟨rfl, trivial⟩ fun σ => ?_
              refine gcond (b := _) rfl (fun hc40 => ?_) (fun hc40 => ?_)
              · 
                replace hc40 := of_decide_eq_true hc40
                have hC : chk l[k] (rootsTo l k) = 5 := by rw [chk_leaf hk7 hn7 (by omega), if_pos (by omega)]
                refine gseq fun N13 hN13 => ?_
                refine greg ?_
                refine gop (y_assign (v := .int _ _) rfl) rfl rfl rfl ?_
                refine gops_nil ?_
                refine hN13 _ _ ?_
                refine gfrom [(4, .int _ _)] ⟨rfl, trivial⟩ fun σ => ?_
                refine gret fun w1 hM => ?_
                refine ⟨_, res1 rfl (rt (v := .int _ _) rfl), ?_⟩
                exact ⟨by rw [hC], hM.low⟩
              · 
                replace hc40 := Decidable.not_not.1 (of_decide_eq_false hc40)
                have hC : chk l[k] (rootsTo l k) = 0 := by rw [chk_leaf hk7 hn7 (by omega), if_neg (by omega)]
                refine gskip ?_
                refine hN11 _ _ ?_
                refine gfrom [] trivial fun σ => ?_
                refine gseq fun N14 hN14 => ?_
                refine greg ?_
                refine gop (y_assign (v := .int _ _) rfl) rfl rfl rfl ?_
                refine gops_nil ?_
                refine hN14 _ _ ?_
                refine gfrom [(4, .int _ _)] ⟨rfl, trivial⟩ fun σ => ?_
                refine gret fun w1 hM => ?_
                refine ⟨_, res1 rfl (rt (v := .int _ _) rfl), ?_⟩
                exact ⟨by rw [hC], hM.low⟩
            · 
              have hg36d := of_decide_eq_true hg36
              refine gop_off rfl rfl rfl rfl hg36 rfl rfl ?_
              refine gop_off rfl rfl rfl rfl hg36 rfl rfl ?_
              refine gop (y_pick_t (v := .bool _) rfl hg36 rfl) rfl rfl rfl ?_
              refine gops_nil ?_
              refine hN12 _ _ ?_
              refine gfrom [(40, .bool _)] ⟨rfl, trivial⟩ fun σ => ?_
              refine gcond (b := _) rfl (fun hc40 => ?_) (fun hc40 => ?_)
              · 
                have hC : chk l[k] (rootsTo l k) = 5 := by rw [chk_leaf hk7 hn7 (by omega), if_pos (by omega)]
                refine gseq fun N15 hN15 => ?_
                refine greg ?_
                refine gop (y_assign (v := .int _ _) rfl) rfl rfl rfl ?_
                refine gops_nil ?_
                refine hN15 _ _ ?_
                refine gfrom [(4, .int _ _)] ⟨rfl, trivial⟩ fun σ => ?_
                refine gret fun w1 hM => ?_
                refine ⟨_, res1 rfl (rt (v := .int _ _) rfl), ?_⟩
                exact ⟨by rw [hC], hM.low⟩
              · 
                cases hc40
          · 
            replace hc32 := of_decide_eq_false hc32
            refine gskip ?_
            refine hN9 _ _ ?_
            refine gfrom [(0, .slice _ _ _), (1, .int _ _), (5, .pointer _)] ⟨rfl, rfl, rfl, trivial⟩ fun σ => ?_
            refine gseq fun N16 hN16 => ?_
            refine gseq fun N17 hN17 => ?_
            refine greg ?_
            refine gop (y_move (v := .int _ _) rfl) rfl rfl rfl ?_
            refine gop (y_eql rfl rfl) rfl rfl rfl ?_
            refine gops_nil ?_
            refine hN17 _ _ ?_
            refine gfrom [(0, .slice _ _ _), (1, .int _ _), (5, .pointer _), (42, .bool _)] ⟨rfl, rfl, rfl, rfl, trivial⟩ fun σ => ?_
            refine gcond (b := _) rfl (fun hc42 => ?_) (fun hc42 => ?_)
            · 
              replace hc42 := of_decide_eq_true hc42
              have hC : chk l[k] (rootsTo l k) = 5 := by
                have h0 : k = 0 := by omega
                subst h0
                exact chk_empty hk7 hn7 (by omega)
              refine gseq fun N18 hN18 => ?_
              refine greg ?_
              refine gop (y_assign (v := .int _ _) rfl) rfl rfl rfl ?_
              refine gops_nil ?_
              refine hN18 _ _ ?_
              refine gfrom [(4, .int _ _)] ⟨rfl, trivial⟩ fun σ => ?_
              refine gret fun w1 hM => ?_
              refine ⟨_, res1 rfl (rt (v := .int _ _) rfl), ?_⟩
              exact ⟨by rw [hC], hM.low⟩
            · 
              replace hc42 := of_decide_eq_false hc42
              obtain ⟨b, us, hbo, hbt, hus, hr⟩ := last_tree (Nat.le_of_lt hk1) (by omega) hg
              have hbz := b.pos
              refine gskip ?_
              refine hN16 _ _ ?_
              refine gfrom [(0, .slice _ _ _), (1, .int _ _), (5, .pointer _)] ⟨rfl, rfl, rfl, trivial⟩ fun σ => ?_
              refine gseq fun N19 hN19 => ?_
              refine gseq fun N20 hN20 => ?_
              refine greg ?_
              refine gop (y_fieldAddr_box fa47_0 rfl) rfl rfl rfl ?_
              refine gop (y_load Tryd.isAgg3 rfl (cell_box 0 rfl rfl)) rfl rfl rfl ?_
              refine gop (y_eql rfl rfl) rfl rfl rfl ?_
              refine gops_nil ?_
              refine hN20 _ _ ?_
              refine gfrom [(0, .slice _ _ _), (1, .int _ _), (5, .pointer _), (45, .bool _)] ⟨rfl, rfl, rfl, rfl, trivial⟩ fun σ => ?_
              refine gcond (b := _) rfl (fun hc45 => ?_) (fun hc45 => ?_)
              · 
                replace hc45 := of_decide_eq_true hc45
                refine gseq fun N21 hN21 => ?_
                refine gseq fun N22 hN22 => ?_
                refine greg ?_
                refine gop (y_fieldAddr_box fa47_2 rfl) rfl rfl rfl ?_
                refine gop (y_load Tryd.isAgg3 rfl (cell_box 0 rfl rfl)) rfl rfl rfl ?_
                refine gop (y_move (v := .int _ _) rfl) rfl rfl rfl ?_
                refine gop (y_sub rfl rfl ⟨by omega, by omega⟩) rfl rfl rfl ?_
                refine gop (y_neq rfl rfl) rfl rfl rfl ?_
                refine gop (y_move (v := .bool _) rfl) rfl rfl rfl ?_
                refine gop_if (want := false) rfl rfl rfl rfl rfl rfl (fun hg51 => ?_) (fun hg51 => ?_)
                · 
                  have hg51d := Decidable.not_not.1 (of_decide_eq_false hg51)
                  refine gop (y_bare (y_fieldAddr_box fa47_3 rfl)) rfl rfl rfl ?_
                  refine gop_on rfl rfl rfl rfl hg51 ?_
                  refine gop (y_bare (y_load Tryd.isAgg3 rfl (cell_box 0 rfl rfl))) rfl rfl rfl ?_
                  refine gop_on rfl rfl rfl rfl hg51 ?_
                  refine gop (y_bare (y_neq rfl rfl)) rfl rfl rfl ?_
                  refine gop (y_pick_f (v := .bool _) rfl hg51 rfl) rfl rfl rfl ?_
                  refine gops_nil ?_
                  refine hN22 _ _ ?_
                  refine gfrom [(55, .bool _)] ⟨rfl, trivial⟩ fun σ => ?_
                  refine gcond (b := _) rfl (fun hc55 => ?_) (fun hc55 => ?_)
                  · 
                    replace hc55 := of_decide_eq_true hc55
                    have hC : chk l[k] (rootsTo l k) = 5 := by rw [hr, chk_not hk7 hn7 (by omega), if_pos (by omega)]
                    refine gseq fun N23 hN23 => ?_
                    refine greg ?_
                    refine gop (y_assign (v := .int _ _) rfl) rfl rfl rfl ?_
                    refine gops_nil ?_
                    refine hN23 _ _ ?_
                    refine gfrom [(4, .int _ _)] ⟨rfl, trivial⟩ fun σ => ?_
                    refine gret fun w1 hM => ?_
                    refine ⟨_, res1 rfl (rt (v := .int _ _) rfl), ?_⟩
                    exact ⟨by rw [hC], hM.low⟩
                  · 
                    replace hc55 := Decidable.not_not.1 (of_decide_eq_false hc55)
                    have hC : chk l[k] (rootsTo l k) = 0 := by rw [hr, chk_not hk7 hn7 (by omega), if_neg (by omega)]
                    refine gskip ?_
                    refine hN21 _ _ ?_
                    refine gfrom [] trivial fun σ => ?_
                    refine gseq fun N24 hN24 => ?_
                    refine greg ?_
                    refine gop (y_assign (v := .int _ _) rfl) rfl rfl rfl ?_
                    refine gops_nil ?_
                    refine hN24 _ _ ?_
                    refine gfrom [(4, .int _ _)] ⟨rfl, trivial⟩ fun σ => ?_
                    refine gret fun w1 hM => ?_
                    refine ⟨_, res1 rfl (rt (v := .int _ _) rfl), ?_⟩
                    exact ⟨by rw [hC], hM.low⟩
                · 
                  have hg51d := of_decide_eq_true hg51
                  refine gop_off rfl rfl rfl rfl hg51 rfl rfl ?_
                  refine gop_off rfl rfl rfl rfl hg51 rfl rfl ?_
                  refine gop (y_pick_t (v := .bool _) rfl hg51 rfl) rfl rfl rfl ?_
                  refine gops_nil ?_
                  refine hN22 _ _ ?_
                  refine gfrom [(55, .bool _)] ⟨rfl, trivial⟩ fun σ => ?_
                  refine gcond (b := _) rfl (fun hc55 => ?_) (fun hc55 => ?_)
                  · 
                    have hC : chk l[k] (rootsTo l k) = 5 := by rw [hr, chk_not hk7 hn7 (by omega), if_pos (by omega)]
                    refine gseq fun N25 hN25 => ?_
                    refine greg ?_
                    refine gop (y_assign (v := .int _ _) rfl) rfl rfl rfl ?_
                    refine gops_nil ?_
                    refine hN25 _ _ ?_
                    refine gfrom [(4, .int _ _)] ⟨rfl, trivial⟩ fun σ => ?_
                    refine gret fun w1 hM => ?_
                    refine ⟨_, res1 rfl (rt (v := .int _ _) rfl), ?_⟩
                    exact ⟨by rw [hC], hM.low⟩
                  · 
                    cases hc55
              · 
                replace hc45 := of_decide_eq_false hc45
                refine gskip ?_
                refine hN19 _ _ ?_
                refine gfrom [(0, .slice _ _ _), (1, .int _ _), (5, .pointer _)] ⟨rfl, rfl, rfl, trivial⟩ fun σ => ?_
                refine gseq fun N26 hN26 => ?_
                refine greg ?_
                refine gop (y_move (v := .int _ _) rfl) rfl rfl rfl ?_
                refine gop (y_sub rfl rfl ⟨by omega, by omega⟩) rfl rfl rfl ?_
                refine gop (y_move (v := .slice _ _ _) rfl) rfl rfl rfl ?_
                refine gop (y_move (v := .int _ _) rfl) rfl rfl rfl ?_
                refine gop (y_sub rfl rfl ⟨by omega, by omega⟩) rfl rfl rfl ?_
                refine gop_pure (e_call (vs := [.slice _ _ _, .int _ _]) Tryd.func22 rfl (by kernel_rfl) rfl) (fun w hM => refSize_any _ c l hlc hcm b.size b _ (k - 1) w rfl (by omega) (hl.base hM) hbo hbt) rfl rfl rfl ?_
                refine gop (y_sub rfl rfl ⟨by omega, by omega⟩) rfl rfl rfl ?_
                refine gop (y_assign (v := .int _ _) rfl) rfl rfl rfl ?_
                refine gops_nil ?_
                refine hN26 _ _ ?_
                refine gfrom [(1, .int _ _), (5, .pointer _), (6, .int _ _)] ⟨rfl, rfl, rfl, trivial⟩ fun σ => ?_
                refine gseq fun N27 hN27 => ?_
                refine gseq fun N28 hN28 => ?_
                refine greg ?_
                refine gop (y_fieldAddr_box fa47_3 rfl) rfl rfl rfl ?_
                refine gop (y_load Tryd.isAgg3 rfl (cell_box 0 rfl rfl)) rfl rfl rfl ?_
                refine gop (y_move (v := .int _ _) rfl) rfl rfl rfl ?_
                refine gop (y_sub rfl rfl ⟨by omega, by omega⟩) rfl rfl rfl ?_
                refine gop (y_neq rfl rfl) rfl rfl rfl ?_
                refine gop (y_move (v := .bool _) rfl) rfl rfl rfl ?_
                refine gop_if (want := false) rfl rfl rfl rfl rfl rfl (fun hg68 => ?_) (fun hg68 => ?_)
                · 
                  have hg68d := Decidable.not_not.1 (of_decide_eq_false hg68)
                  refine gop (y_bare (y_move (v := .int _ _) rfl)) rfl rfl rfl ?_
                  refine gop_on rfl rfl rfl rfl hg68 ?_
                  refine gop (y_bare (y_lss rfl rfl)) rfl rfl rfl ?_
                  refine gop (y_pick_f (v := .bool _) rfl hg68 rfl) rfl rfl rfl ?_
                  refine gop (y_move (v := .bool _) rfl) rfl rfl rfl ?_
                  refine gop_if (want := false) rfl rfl rfl rfl rfl rfl (fun hg72 => ?_) (fun hg72 => ?_)
                  · 
                    have hg72d := of_decide_eq_false hg72
                    refine gop (y_bare (y_fieldAddr_box fa47_2 rfl)) rfl rfl rfl ?_
                    refine gop_on rfl rfl rfl rfl hg72 ?_
                    refine gop (y_bare (y_load Tryd.isAgg3 rfl (cell_box 0 rfl rfl))) rfl rfl rfl ?_
                    refine gop_on rfl rfl rfl rfl hg72 ?_
                    refine gop (y_bare (y_move (v := .int _ _) rfl)) rfl rfl rfl ?_
                    refine gop_on rfl rfl rfl rfl hg72 ?_
                    refine gop (y_bare (y_neq rfl rfl)) rfl rfl rfl ?_
                    refine gop (y_pick_f (v := .bool _) rfl hg72 rfl) rfl rfl rfl ?_
                    refine gops_nil ?_
                    refine hN28 _ _ ?_
                    refine gfrom [(77, .bool _)] ⟨rfl, trivial⟩ fun σ => ?_
                    refine gcond (b := _) rfl (fun hc77 => ?_) (fun hc77 => ?_)
                    · 
                      replace hc77 := of_decide_eq_true hc77
                      have hC : chk l[k] (rootsTo l k) = 5 := by rw [hr, chk_bin hk7 hn7 (by omega), if_pos (by omega)]
                      refine gseq fun N29 hN29 => ?_
                      refine greg ?_
                      refine gop (y_assign (v := .int _ _) rfl) rfl rfl rfl ?_
                      refine gops_nil ?_
                      refine hN29 _ _ ?_
                      refine gfrom [(4, .int _ _)] ⟨rfl, trivial⟩ fun σ => ?_
                      refine gret fun w1 hM => ?_
                      refine ⟨_, res1 rfl (rt (v := .int _ _) rfl), ?_⟩
                      exact ⟨by rw [hC], hM.low⟩
                    · 
                      replace hc77 := Decidable.not_not.1 (of_decide_eq_false hc77)
                      have hC : chk l[k] (rootsTo l k) = 0 := by rw [hr, chk_bin hk7 hn7 (by omega), if_neg (by omega)]
                      refine gskip ?_
                      refine hN27 _ _ ?_
                      refine gfrom [] trivial fun σ => ?_
                      refine gseq fun N30 hN30 => ?_
                      refine greg ?_
                      refine gop (y_assign (v := .int _ _) rfl) rfl rfl rfl ?_
                      refine gops_nil ?_
                      refine hN30 _ _ ?_
                      refine gfrom [(4, .int _ _)] ⟨rfl, trivial⟩ fun σ => ?_
                      refine gret fun w1 hM => ?_
                      refine ⟨_, res1 rfl (rt (v := .int _ _) rfl), ?_⟩
                      exact ⟨by rw [hC], hM.low⟩
                  · 
                    have hg72d := of_decide_eq_true hg72
                    refine gop_off rfl rfl rfl rfl hg72 rfl rfl ?_
                    refine gop_off rfl rfl rfl rfl hg72 rfl rfl ?_
                    refine gop_off rfl rfl rfl rfl hg72 rfl rfl ?_
                    refine gop (y_pick_t (v := .bool _) rfl hg72 rfl) rfl rfl rfl ?_
                    refine gops_nil ?_
                    refine hN28 _ _ ?_
                    refine gfrom [(77, .bool _)] ⟨rfl, trivial⟩ fun σ => ?_
                    refine gcond (b := _) rfl (fun hc77 => ?_) (fun hc77 => ?_)
                    · 
                      have hC : chk l[k] (rootsTo l k) = 5 := by rw [hr, chk_bin hk7 hn7 (by omega), if_pos (by omega)]
                      refine gseq fun N31 hN31 => ?_
                      refine greg ?_
                      refine gop (y_assign (v := .int _ _) rfl) rfl rfl rfl ?_
                      refine gops_nil ?_
                      refine hN31 _ _ ?_
                      refine gfrom [(4, .int _ _)] ⟨rfl, trivial⟩ fun σ => ?_
                      refine gret fun w1 hM => ?_
                      refine ⟨_, res1 rfl (rt (v := .int _ _) rfl), ?_⟩
                      exact ⟨by rw [hC], hM.low⟩
                    · 
                      cases hc77
                · 
                  have hg68d := of_decide_eq_true hg68
                  refine gop_off rfl rfl rfl rfl hg68 rfl rfl ?_
                  refine gop (y_pick_t (v := .bool _) rfl hg68 rfl) rfl rfl rfl ?_
                  refine gop (y_move (v := .bool _) rfl) rfl rfl rfl ?_
                  refine gop_off rfl rfl rfl rfl rfl rfl rfl ?_
                  refine gop_off rfl rfl rfl rfl rfl rfl rfl ?_
                  refine gop_off rfl rfl rfl rfl rfl rfl rfl ?_
                  refine gop_off rfl rfl rfl rfl rfl rfl rfl ?_
                  refine gop (y_pick_t (v := .bool _) rfl rfl rfl) rfl rfl rfl ?_
                  refine gops_nil ?_
                  refine hN28 _ _ ?_
                  refine gfrom [(77, .bool _)] ⟨rfl, trivial⟩ fun σ => ?_
                  refine gcond (b := _) rfl (fun hc77 => ?_) (fun hc77 => ?_)
                  · 
                    have hC : chk l[k] (rootsTo l k) = 5 := by rw [hr, chk_bin hk7 hn7 (by omega), if_pos (by omega)]
                    refine gseq fun N32 hN32 => ?_
                    refine greg ?_
                    refine gop (y_assign (v := .int _ _) rfl) rfl rfl rfl ?_
                    refine gops_nil ?_
                    refine hN32 _ _ ?_
                    refine gfrom [(4, .int _ _)] ⟨rfl, trivial⟩ fun σ => ?_
                    refine gret fun w1 hM => ?_
                    refine ⟨_, res1 rfl (rt (v := .int _ _) rfl), ?_⟩
                    exact ⟨by rw [hC], hM.low⟩
                  · 
                    cases hc77
      · 
        have hg22d := of_decide_eq_true hg22
        refine gq_off rfl rfl rfl rfl hg22 rfl rfl ?_
        refine gq_off rfl rfl rfl rfl hg22 rfl rfl ?_
        refine gq_off rfl rfl rfl rfl hg22 rfl rfl ?_
        refine gq_off rfl rfl rfl rfl hg22 rfl rfl ?_
        refine gq_off rfl rfl rfl rfl hg22 rfl rfl ?_
        refine gq (y_pick_t (v := .bool _) rfl hg22 rfl) rfl rfl rfl ?_
        refine gqs_nil ?_
        refine hN7 _ _ ?_
        refine gfrom [(0, .slice _ _ _), (1, .int _ _), (5, .pointer _), (29, .bool _)] ⟨rfl, rfl, rfl, rfl, trivial⟩ fun σ => ?_
        refine gcond (b := _) rfl (fun hc29 => ?_) (fun hc29 => ?_)
        · 
          have hC : chk l[k] (rootsTo l k) = 3 := chk_num hk7 (by omega)
          refine gseq fun N33 hN33 => ?_
          refine greg ?_
          refine gop (y_assign (v := .int _ _) rfl) rfl rfl rfl ?_
          refine gops_nil ?_
          refine hN33 _ _ ?_
          refine gfrom [(4, .int _ _)] ⟨rfl, trivial⟩ fun σ => ?_
          refine gret fun w1 hM => ?_
          refine ⟨_, res1 rfl (rt (v := .int _ _) rfl), ?_⟩
          exact ⟨by rw [hC], hM.low⟩
        · 
          cases hc29
  · 
    have hg14d := of_decide_eq_true hg14
    refine gop_off rfl rfl rfl rfl hg14 rfl rfl ?_
    refine gop_off rfl rfl rfl rfl hg14 rfl rfl ?_
    refine gop (y_pick_t (v := .bool _) rfl hg14 rfl) rfl rfl rfl ?_
    refine gops_nil ?_
    refine hN4 _ _ ?_
    refine gfrom [(0, .slice _ _ _), (1, .int _ _), (5, .pointer _), (18, .bool _)] ⟨rfl, rfl, rfl, rfl, trivial⟩ fun σ => ?_
    refine gcond (b := _) rfl (fun hc18 => ?_) (fun hc18 => ?_)
    · 
      have hC : chk l[k] (rootsTo l k) = 4 := chk_kind (by omega)
      refine gseq fun N34 hN34 => ?_
      refine greg ?_
      refine gop (y_assign (v := .int _ _) rfl) rfl rfl rfl ?_
      refine gops_nil ?_
      refine hN34 _ _ ?_
      refine gfrom [(4, .int _ _)] ⟨rfl, trivial⟩ fun σ => ?_
      refine gret fun w1 hM => ?_
      refine ⟨_, res1 rfl (rt (v := .int _ _) rfl), ?_⟩
      exact ⟨by rw [hC], hM.low⟩
    · 
      cases hc18
set_option maxHeartbeats 4000000 in
theorem polFault_any (w : World) (A : Option Addr) (c : Nat) (l : List PN) (hl : Rdl w 0 4 pnCells A l) (hlc : l.length ≤ c) (hcm : c ≤ maxLen) : Calls Tryd.prog 8 #[.agg #[.slice A l.length c]] w fun e w' => e = .returned (fv (polF l)) ∧ Below w.heap.size w w' := by
  have hlm : l.length ≤ 9223372036854775807 := by have h9 := Nat.le_trans hlc hcm; unfold maxLen at h9; omega
  refine gcalls Tryd.func8 rfl Tryd.ntmps8 (Nat.le_of_ble_eq_true rfl) ?_
  refine gfrom [(0, .agg #[_])] ⟨rfl, trivial⟩ fun σ => ?_
  refine gseq fun N1 hN1 => ?_
  refine greg ?_
  refine gop_box (v := .agg #[_]) (cs := #[_]) rfl rfl rfl (fun b1 hb1 => ?_)
  refine gop_alloc (cs := #[.int .i64 0, .int .i64 0]) Tryd.zeroValue28 rfl rfl (fun b2 hb2 => ?_)
  refine gops_nil ?_
  refine hN1 _ _ ?_
  refine gT [box b1 _, box b2 _] rfl ?_
  refine gfrom [(1, .pointer _), (2, .pointer _)] ⟨rfl, rfl, trivial⟩ fun σ => ?_
  refine gseq fun N2 hN2 => ?_
  refine greg ?_
  refine gop (y_fieldAddr_box fa24_0 rfl) rfl rfl rfl ?_
  refine gop (y_load Tryd.isAgg22 rfl (cell_box 0 rfl rfl)) rfl rfl rfl ?_
  refine gop (y_len Tryd.underlying22 rfl) rfl rfl rfl ?_
  refine gop (y_assign (v := .int _ _) rfl) rfl rfl rfl ?_
  refine gops_nil ?_
  refine hN2 _ _ ?_
  refine gfrom [(1, .pointer _), (2, .pointer _), (3, .int _ _)] ⟨rfl, rfl, rfl, trivial⟩ fun σ => ?_
  refine gseq fun N3 hN3 => ?_
  refine gseq fun N4 hN4 => ?_
  refine greg ?_
  refine gop (y_move (v := .int _ _) rfl) rfl rfl rfl ?_
  refine gop (y_eql rfl rfl) rfl rfl rfl ?_
  refine gops_nil ?_
  refine hN4 _ _ ?_
  refine gfrom [(1, .pointer _), (2, .pointer _), (3, .int _ _), (9, .bool _)] ⟨rfl, rfl, rfl, rfl, trivial⟩ fun σ => ?_
  refine gcond (b := _) rfl (fun hc9 => ?_) (fun hc9 => ?_)
  · 
    replace hc9 := of_decide_eq_true hc9
    have hF : polF l = ⟨9, -1⟩ := by rw [polF, if_pos (by omega)]
    refine gseq fun N5 hN5 => ?_
    refine greg ?_
    refine gop_pure (e_call (vs := [_, _]) Tryd.func16 rfl (by kernel_rfl) rfl) (fun w hM => fault_any w _ _) rfl rfl rfl ?_
    refine gop_store 1 (v := .agg #[_, _]) (cs' := #[_, _]) rfl rfl Tryd.sizeOf28 rfl rfl rfl rfl (Nat.le_of_ble_eq_true rfl) rfl rfl ?_
    refine gops_nil ?_
    refine hN5 _ _ ?_
    refine gT [box b1 _, box b2 _] rfl ?_
    refine gfrom [(2, .pointer _)] ⟨rfl, trivial⟩ fun σ => ?_
    refine gret fun w1 hM => ?_
    refine ⟨_, res1 rfl (rc 1 (cs := [_, _]) hM rfl rfl Tryd.isAgg28 Tryd.sizeOf28 rfl), ?_⟩
    exact ⟨by rw [hF], hM.low⟩
  · 
    replace hc9 := of_decide_eq_false hc9
    refine gskip ?_
    refine hN3 _ _ ?_
    refine gfrom [(1, .pointer _), (2, .pointer _), (3, .int _ _)] ⟨rfl, rfl, rfl, trivial⟩ fun σ => ?_
    refine gseq fun N6 hN6 => ?_
    refine gseq fun N7 hN7 => ?_
    refine greg ?_
    refine gop (y_move (v := .int _ _) rfl) rfl rfl rfl ?_
    refine gop (y_gtr rfl rfl) rfl rfl rfl ?_
    refine gops_nil ?_
    refine hN7 _ _ ?_
    refine gfrom [(1, .pointer _), (2, .pointer _), (3, .int _ _), (12, .bool _)] ⟨rfl, rfl, rfl, rfl, trivial⟩ fun σ => ?_
    refine gcond (b := _) rfl (fun hc12 => ?_) (fun hc12 => ?_)
    · 
      replace hc12 := of_decide_eq_true hc12
      have hF : polF l = ⟨2, -1⟩ := by rw [polF, if_neg (by omega), if_pos (by omega)]
      refine gseq fun N8 hN8 => ?_
      refine greg ?_
      refine gop_pure (e_call (vs := [_, _]) Tryd.func16 rfl (by kernel_rfl) rfl) (fun w hM => fault_any w _ _) rfl rfl rfl ?_
      refine gop_store 1 (v := .agg #[_, _]) (cs' := #[_, _]) rfl rfl Tryd.sizeOf28 rfl rfl rfl rfl (Nat.le_of_ble_eq_true rfl) rfl rfl ?_
      refine gops_nil ?_
      refine hN8 _ _ ?_
      refine gT [box b1 _, box b2 _] rfl ?_
      refine gfrom [(2, .pointer _)] ⟨rfl, trivial⟩ fun σ => ?_
      refine gret fun w1 hM => ?_
      refine ⟨_, res1 rfl (rc 1 (cs := [_, _]) hM rfl rfl Tryd.isAgg28 Tryd.sizeOf28 rfl), ?_⟩
      exact ⟨by rw [hF], hM.low⟩
    · 
      replace hc12 := of_decide_eq_false hc12
      refine gskip ?_
      refine hN6 _ _ ?_
      refine gfrom [(1, .pointer _), (2, .pointer _), (3, .int _ _)] ⟨rfl, rfl, rfl, trivial⟩ fun σ => ?_
      refine gseq fun N9 hN9 => ?_
      refine gseq fun N10 hN10 => ?_
      refine greg ?_
      refine gop (y_assign (v := .int _ _) rfl) rfl rfl rfl ?_
      refine gops_nil ?_
      refine hN10 _ _ ?_
      refine gfrom [(1, .pointer _), (2, .pointer _), (3, .int _ _), (4, .int _ _)] ⟨rfl, rfl, rfl, rfl, trivial⟩ fun σ => ?_
      refine gblock ?_
      refine gfrom2 [(4, .int _ _)] [(1, .pointer _), (2, .pointer _), (3, .int _ _)] ⟨rfl, trivial⟩ ⟨rfl, rfl, rfl, trivial⟩ fun σ => ?_
      refine gloop2 (G := Nat) (fun k => k ≤ l.length ∧ GoodP l k) (fun k => l.length - k) (fun k => [(4, .int .i64 (k : Int))]) (fun k => []) (0) ?h0 ⟨rfl, trivial⟩ ⟨rfl, rfl, rfl, trivial⟩ rfl ?round
      case h0 => exact ⟨Nat.zero_le _, fun _ _ h => absurd h (by omega)⟩
      case round =>
        intro k hφ σ
        obtain ⟨hk, hz⟩ := hφ
        refine gseq fun N11 hN11 => ?_
        refine gseq fun N12 hN12 => ?_
        refine greg ?_
        refine gop (y_move (v := .int _ _) rfl) rfl rfl rfl ?_
        refine gop (y_move (v := .int _ _) rfl) rfl rfl rfl ?_
        refine gop (y_lss rfl rfl) rfl rfl rfl ?_
        refine gops_nil ?_
        refine hN12 _ _ ?_
        refine gfrom [(1, .pointer _), (2, .pointer _), (3, .int _ _), (4, .int _ _), (16, .bool _)] ⟨rfl, rfl, rfl, rfl, rfl, trivial⟩ fun σ => ?_
        refine gcond (b := _) rfl (fun hc16 => ?_) (fun hc16 => ?_)
        · 
          replace hc16 := of_decide_eq_true hc16
          have hk1 : k < l.length := by omega
          refine gskip ?_
          refine hN11 _ _ ?_
          refine gfrom [(1, .pointer _), (2, .pointer _), (3, .int _ _), (4, .int _ _)] ⟨rfl, rfl, rfl, rfl, trivial⟩ fun σ => ?_
          refine gseq fun N13 hN13 => ?_
          refine gblock ?_
          refine gseq fun N14 hN14 => ?_
          refine greg ?_
          refine gop (y_fieldAddr_box fa24_0 rfl) rfl rfl rfl ?_
          refine gop (y_load Tryd.isAgg22 rfl (cell_box 0 rfl rfl)) rfl rfl rfl ?_
          refine gop (y_move (v := .int _ _) rfl) rfl rfl rfl ?_
          refine gop_pure (e_call (vs := [.slice _ _ _, .int _ _]) Tryd.func21 rfl (by kernel_rfl) rfl) (fun w hM => nodeCode_any w A c l (hl.base hM) hlc hcm k hk1 hz) rfl rfl rfl ?_
          refine gop (y_neq rfl rfl) rfl rfl rfl ?_
          refine gops_nil ?_
          refine hN14 _ _ ?_
          refine gfrom [(1, .pointer _), (2, .pointer _), (3, .int _ _), (4, .int _ _), (23, .bool _)] ⟨rfl, rfl, rfl, rfl, rfl, trivial⟩ fun σ => ?_
          refine gcond (b := _) rfl (fun hc23 => ?_) (fun hc23 => ?_)
          · 
            replace hc23 := of_decide_eq_true hc23
            have hs1 := scan_at (f := fun k n => chk n (rootsTo l k)) hk1 hz hc23
            have hF : polF l = ⟨chk l[k] (rootsTo l k), k⟩ := by rw [polF, if_neg (by omega), if_neg (by omega), if_pos (by rw [scanP_, hs1]; exact fun h => hc23 (congrArg Fault.code h)), scanP_, hs1]
            refine gseq fun N15 hN15 => ?_
            refine greg ?_
            refine gop (y_fieldAddr_box fa24_0 rfl) rfl rfl rfl ?_
            refine gop (y_load Tryd.isAgg22 rfl (cell_box 0 rfl rfl)) rfl rfl rfl ?_
            refine gop (y_move (v := .int _ _) rfl) rfl rfl rfl ?_
            refine gop_pure (e_call (vs := [.slice _ _ _, .int _ _]) Tryd.func21 rfl (by kernel_rfl) rfl) (fun w hM => nodeCode_any w A c l (hl.base hM) hlc hcm k hk1 hz) rfl rfl rfl ?_
            refine gop (y_move (v := .int _ _) rfl) rfl rfl rfl ?_
            refine gop_pure (e_call (vs := [.int _ _, .int _ _]) Tryd.func16 rfl (by kernel_rfl) rfl) (fun w hM => fault_any w _ _) rfl rfl rfl ?_
            refine gop_store 1 (v := .agg #[_, _]) (cs' := #[_, _]) rfl rfl Tryd.sizeOf28 rfl rfl rfl rfl (Nat.le_of_ble_eq_true rfl) rfl rfl ?_
            refine gops_nil ?_
            refine hN15 _ _ ?_
            refine gT [box b1 _, box b2 _] rfl ?_
            refine gfrom [(2, .pointer _)] ⟨rfl, trivial⟩ fun σ => ?_
            refine gret fun w1 hM => ?_
            refine ⟨_, res1 rfl (rc 1 (cs := [_, _]) hM rfl rfl Tryd.isAgg28 Tryd.sizeOf28 rfl), ?_⟩
            exact ⟨by rw [hF], hM.low⟩
          · 
            replace hc23 := Decidable.not_not.1 (of_decide_eq_false hc23)
            refine gskip ?_
            refine hN13 _ _ ?_
            refine gfrom [(1, .pointer _), (2, .pointer _), (3, .int _ _), (4, .int _ _)] ⟨rfl, rfl, rfl, rfl, trivial⟩ fun σ => ?_
            refine greg ?_
            refine gop (y_move (v := .int _ _) rfl) rfl rfl rfl ?_
            refine gop (y_add rfl rfl ⟨by omega, by omega⟩) rfl rfl rfl ?_
            refine gop (y_assign (v := .int _ _) rfl) rfl rfl rfl ?_
            refine gops_nil ?_
            refine gnext2 (k + 1) (by omega) (⟨by show k + 1 ≤ _; omega, fun j h hj => by rcases Nat.lt_succ_iff_lt_or_eq.1 hj with h1 | rfl; exact hz j h h1; exact hc23⟩) ⟨rfl, trivial⟩ ⟨rfl, rfl, rfl, trivial⟩ ⟨_, rfl⟩
        · 
          replace hc16 := of_decide_eq_false hc16
          have hall : ∀ j (h : j < l.length), chk l[j] (rootsTo l j) = 0 := fun j h => hz j h (by omega)
          have hs0 : scanP_ l = ⟨0, 0⟩ := scan_ok hall
          have hF0 : polF l = if (rootsTo l l.length).length ≠ 1 then ⟨5, -1⟩ else if 12 < depL l then ⟨10, -1⟩ else ⟨0, 0⟩ := by rw [polF, if_neg (by omega), if_neg (by omega), hs0, if_neg (fun h => h rfl)]
          obtain rfl : k = l.length := by omega
          obtain ⟨b, us, hbo, hbt, hus, hr⟩ := last_tree (Nat.le_refl _) (by omega) hz
          have hbz := b.pos
          have hdl : depL l = b.depth := dep_at b _ hbo hbt
          have hwh := whole_of hus
          have hrl : (rootsTo l l.length).length = us.length + 1 := by rw [hr, List.length_append, ends_len]; rfl
          refine gexit ?_
          refine hN9 _ _ ?_
          refine gfrom [(1, .pointer _), (2, .pointer _), (3, .int _ _)] ⟨rfl, rfl, rfl, trivial⟩ fun σ => ?_
          refine gseq fun N16 hN16 => ?_
          refine gseq fun N17 hN17 => ?_
          refine greg ?_
          refine gop (y_fieldAddr_box fa24_0 rfl) rfl rfl rfl ?_
          refine gop (y_load Tryd.isAgg22 rfl (cell_box 0 rfl rfl)) rfl rfl rfl ?_
          refine gop (y_move (v := .int _ _) rfl) rfl rfl rfl ?_
          refine gop (y_sub rfl rfl ⟨by omega, by omega⟩) rfl rfl rfl ?_
          refine gop_pure (e_call (vs := [.slice _ _ _, .int _ _]) Tryd.func22 rfl (by kernel_rfl) rfl) (fun w hM => refSize_any A c l hlc hcm b.size b _ (l.length - 1) w rfl (by omega) (hl.base hM) hbo hbt) rfl rfl rfl ?_
          refine gop (y_move (v := .int _ _) rfl) rfl rfl rfl ?_
          refine gop (y_neq rfl rfl) rfl rfl rfl ?_
          refine gops_nil ?_
          refine hN17 _ _ ?_
          refine gfrom [(1, .pointer _), (2, .pointer _), (3, .int _ _), (36, .bool _)] ⟨rfl, rfl, rfl, rfl, trivial⟩ fun σ => ?_
          refine gcond (b := _) rfl (fun hc36 => ?_) (fun hc36 => ?_)
          · 
            replace hc36 := of_decide_eq_true hc36
            have hF : polF l = ⟨5, -1⟩ := by rw [hF0, if_pos (by omega)]
            refine gseq fun N18 hN18 => ?_
            refine greg ?_
            refine gop_pure (e_call (vs := [_, _]) Tryd.func16 rfl (by kernel_rfl) rfl) (fun w hM => fault_any w _ _) rfl rfl rfl ?_
            refine gop_store 1 (v := .agg #[_, _]) (cs' := #[_, _]) rfl rfl Tryd.sizeOf28 rfl rfl rfl rfl (Nat.le_of_ble_eq_true rfl) rfl rfl ?_
            refine gops_nil ?_
            refine hN18 _ _ ?_
            refine gT [box b1 _, box b2 _] rfl ?_
            refine gfrom [(2, .pointer _)] ⟨rfl, trivial⟩ fun σ => ?_
            refine gret fun w1 hM => ?_
            refine ⟨_, res1 rfl (rc 1 (cs := [_, _]) hM rfl rfl Tryd.isAgg28 Tryd.sizeOf28 rfl), ?_⟩
            exact ⟨by rw [hF], hM.low⟩
          · 
            replace hc36 := Decidable.not_not.1 (of_decide_eq_false hc36)
            have hr1 : ¬ (rootsTo l l.length).length ≠ 1 := by omega
            refine gskip ?_
            refine hN16 _ _ ?_
            refine gfrom [(1, .pointer _), (2, .pointer _), (3, .int _ _)] ⟨rfl, rfl, rfl, trivial⟩ fun σ => ?_
            refine gseq fun N19 hN19 => ?_
            refine gseq fun N20 hN20 => ?_
            refine greg ?_
            refine gop (y_fieldAddr_box fa24_0 rfl) rfl rfl rfl ?_
            refine gop (y_load Tryd.isAgg22 rfl (cell_box 0 rfl rfl)) rfl rfl rfl ?_
            refine gop (y_move (v := .int _ _) rfl) rfl rfl rfl ?_
            refine gop (y_sub rfl rfl ⟨by omega, by omega⟩) rfl rfl rfl ?_
            refine gop_pure (e_call (vs := [.slice _ _ _, .int _ _]) Tryd.func23 rfl (by kernel_rfl) rfl) (fun w hM => refDepth_any A c l hlc hcm b.size b _ (l.length - 1) w rfl (by omega) (hl.base hM) hbo hbt) rfl rfl rfl ?_
            refine gop (y_gtr rfl rfl) rfl rfl rfl ?_
            refine gops_nil ?_
            refine hN20 _ _ ?_
            refine gfrom [(2, .pointer _), (43, .bool _)] ⟨rfl, rfl, trivial⟩ fun σ => ?_
            refine gcond (b := _) rfl (fun hc43 => ?_) (fun hc43 => ?_)
            · 
              replace hc43 := of_decide_eq_true hc43
              have hF : polF l = ⟨10, -1⟩ := by rw [hF0, if_neg hr1, if_pos (by omega)]
              refine gseq fun N21 hN21 => ?_
              refine greg ?_
              refine gop_pure (e_call (vs := [_, _]) Tryd.func16 rfl (by kernel_rfl) rfl) (fun w hM => fault_any w _ _) rfl rfl rfl ?_
              refine gop_store 1 (v := .agg #[_, _]) (cs' := #[_, _]) rfl rfl Tryd.sizeOf28 rfl rfl rfl rfl (Nat.le_of_ble_eq_true rfl) rfl rfl ?_
              refine gops_nil ?_
              refine hN21 _ _ ?_
              refine gT [box b1 _, box b2 _] rfl ?_
              refine gfrom [(2, .pointer _)] ⟨rfl, trivial⟩ fun σ => ?_
              refine gret fun w1 hM => ?_
              refine ⟨_, res1 rfl (rc 1 (cs := [_, _]) hM rfl rfl Tryd.isAgg28 Tryd.sizeOf28 rfl), ?_⟩
              exact ⟨by rw [hF], hM.low⟩
            · 
              replace hc43 := of_decide_eq_false hc43
              have hF : polF l = ⟨0, 0⟩ := by rw [hF0, if_neg hr1, if_neg (by omega)]
              refine gskip ?_
              refine hN19 _ _ ?_
              refine gfrom [(2, .pointer _)] ⟨rfl, trivial⟩ fun σ => ?_
              refine gseq fun N22 hN22 => ?_
              refine greg ?_
              refine gop_pure (e_call (vs := [_, _]) Tryd.func16 rfl (by kernel_rfl) rfl) (fun w hM => fault_any w _ _) rfl rfl rfl ?_
              refine gop_store 1 (v := .agg #[_, _]) (cs' := #[_, _]) rfl rfl Tryd.sizeOf28 rfl rfl rfl rfl (Nat.le_of_ble_eq_true rfl) rfl rfl ?_
              refine gops_nil ?_
              refine hN22 _ _ ?_
              refine gT [box b1 _, box b2 _] rfl ?_
              refine gfrom [(2, .pointer _)] ⟨rfl, trivial⟩ fun σ => ?_
              refine gret fun w1 hM => ?_
              refine ⟨_, res1 rfl (rc 1 (cs := [_, _]) hM rfl rfl Tryd.isAgg28 Tryd.sizeOf28 rfl), ?_⟩
              exact ⟨by rw [hF], hM.low⟩
end Go.Proofs.YtllblbkbglifjaaDoor
namespace Go.Proofs.YtllblbkbglifjaaDoor
open Go.RowKit Go.Cf
set_option maxRecDepth 10000
set_option maxHeartbeats 4000000 in
theorem refTrue_any (A : Option Addr) (c : Nat) (l : List PN) (hlc : l.length ≤ c) (hcm : c ≤ maxLen) (F : PFacts) (hu0 : 0 ≤ F.users) (hu1 : F.users ≤ 255) (z : Nat) : ∀ (t : Tr) (i : Int) (m : Nat) (w : World), t.size = z → i = (m : Int) → Rdl w 0 4 pnCells A l → t.ok → At l m t →
    Calls Tryd.prog 17 #[.agg #[.slice A l.length c], .int .i64 i, factsV F] w fun e w' => e = .returned (.bool (valAt (evN F) l m)) ∧ Below w.heap.size w w' := by
  have hlm : l.length ≤ 9223372036854775807 := by have h9 := Nat.le_trans hlc hcm; unfold maxLen at h9; omega
  refine Nat.strongRecOn z ?_
  intro z ih t i m w hz hi hl hok hat
  have hm1 := hat.lt
  obtain ⟨ad, rfl, -, hca⟩ := hl.at_ hm1
  obtain ⟨hsm, hbg⟩ := tree_at hok hat hm1
  have hsz := hat.size_le
  have hps := t.pos
  have hV : valAt (evN F) l m = evN F l[m] (foldTo (evN F) l m) := by rw [valAt, nAt_at hm1]
  refine gcalls Tryd.func17 rfl Tryd.ntmps17 (Nat.le_of_ble_eq_true rfl) ?_
  refine gfrom [(0, .agg #[_]), (1, .int _ _), (2, factsV F)] ⟨rfl, rfl, rfl, trivial⟩ fun σ => ?_
  refine gseq fun N1 hN1 => ?_
  refine greg ?_
  refine gop_box (v := .agg #[_]) (cs := #[_]) rfl rfl rfl (fun b3 hb3 => ?_)
  refine gop_box (v := factsV F) (cs := #[_, _, _, _]) rfl rfl rfl (fun b5 hb5 => ?_)
  refine gop (y_assign (v := .bool _) rfl) rfl rfl rfl ?_
  refine gops_nil ?_
  refine hN1 _ _ ?_
  refine gT [box b3 _, box b5 _] rfl ?_
  refine gfrom [(1, .int _ _), (3, .pointer _), (5, .pointer _)] ⟨rfl, rfl, rfl, trivial⟩ fun σ => ?_
  refine gseq fun N2 hN2 => ?_
  refine greg ?_
  refine gop (y_fieldAddr_box fa24_0 rfl) rfl rfl rfl ?_
  refine gop (y_load Tryd.isAgg22 rfl (cell_box 0 rfl rfl)) rfl rfl rfl ?_
  refine gop (y_move (v := .int _ _) rfl) rfl rfl rfl ?_
  refine gop (y_indexAddr (m := m) Tryd.underlying22 Tryd.sizeOf47 rfl rfl (by omega) (by omega) (by omega)) rfl rfl rfl ?_
  refine gop (y_loads (cs := [_, _, _, _]) Tryd.isAgg47 Tryd.sizeOf47 rfl rfl (cells_base hca)) rfl rfl rfl ?_
  refine gop_alloc (cs := #[.int .i64 0, .int .i64 0, .int .i64 0, .int .i64 0]) Tryd.zeroValue47 rfl rfl (fun b7 hb7 => ?_)
  refine gop_store 2 (v := .agg #[_, _, _, _]) (cs' := #[_, _, _, _]) rfl rfl Tryd.sizeOf47 rfl rfl rfl rfl (Nat.le_of_ble_eq_true rfl) rfl rfl ?_
  refine gops_nil ?_
  refine hN2 _ _ ?_
  refine gT [box b3 _, box b5 _, box b7 _] rfl ?_
  refine gfrom [(3, .pointer _), (5, .pointer _), (7, .pointer _)] ⟨rfl, rfl, rfl, trivial⟩ fun σ => ?_
  refine gseq fun N3 hN3 => ?_
  refine gseq fun N4 hN4 => ?_
  refine greg ?_
  refine gop (y_fieldAddr_box fa47_0 rfl) rfl rfl rfl ?_
  refine gop (y_load Tryd.isAgg3 rfl (cell_box 2 rfl rfl)) rfl rfl rfl ?_
  refine gop (y_eql rfl rfl) rfl rfl rfl ?_
  refine gops_nil ?_
  refine hN4 _ _ ?_
  refine gfrom [(3, .pointer _), (5, .pointer _), (7, .pointer _), (19, .bool _)] ⟨rfl, rfl, rfl, rfl, trivial⟩ fun σ => ?_
  refine gcond (b := _) rfl (fun hc19 => ?_) (fun hc19 => ?_)
  · 
    replace hc19 := of_decide_eq_true hc19
    have hE : valAt (evN F) l m = _ := hV.trans (ev1 hc19)
    refine gseq fun N5 hN5 => ?_
    refine greg ?_
    refine gop (y_fieldAddr_box fa26_0 rfl) rfl rfl rfl ?_
    refine gop (y_load Tryd.isAgg3 rfl (cell_box 1 rfl rfl)) rfl rfl rfl ?_
    refine gop (y_fieldAddr_box fa47_1 rfl) rfl rfl rfl ?_
    refine gop (y_load Tryd.isAgg3 rfl (cell_box 2 rfl rfl)) rfl rfl rfl ?_
    refine gop (y_geq rfl rfl) rfl rfl rfl ?_
    refine gop (y_assign (v := .bool _) rfl) rfl rfl rfl ?_
    refine gops_nil ?_
    refine hN5 _ _ ?_
    refine gfrom [(6, .bool _)] ⟨rfl, trivial⟩ fun σ => ?_
    refine gret fun w1 hM => ?_
    refine ⟨_, res1 rfl (rt (v := .bool _) rfl), ?_⟩
    exact ⟨by first | (rw [hE]; done) | (rw [hE, hu]; done) | (rw [hE]; simp_all; done) | (rw [hE]; grind), hM.low⟩
  · 
    replace hc19 := of_decide_eq_false hc19
    refine gskip ?_
    refine hN3 _ _ ?_
    refine gfrom [(3, .pointer _), (5, .pointer _), (7, .pointer _)] ⟨rfl, rfl, rfl, trivial⟩ fun σ => ?_
    refine gseq fun N6 hN6 => ?_
    refine gseq fun N7 hN7 => ?_
    refine greg ?_
    refine gop (y_fieldAddr_box fa47_0 rfl) rfl rfl rfl ?_
    refine gop (y_load Tryd.isAgg3 rfl (cell_box 2 rfl rfl)) rfl rfl rfl ?_
    refine gop (y_eql rfl rfl) rfl rfl rfl ?_
    refine gops_nil ?_
    refine hN7 _ _ ?_
    refine gfrom [(3, .pointer _), (5, .pointer _), (7, .pointer _), (27, .bool _)] ⟨rfl, rfl, rfl, rfl, trivial⟩ fun σ => ?_
    refine gcond (b := _) rfl (fun hc27 => ?_) (fun hc27 => ?_)
    · 
      replace hc27 := of_decide_eq_true hc27
      have hE : valAt (evN F) l m = _ := hV.trans (ev2 hc27)
      refine gseq fun N8 hN8 => ?_
      refine greg ?_
      refine gop (y_fieldAddr_box fa26_1 rfl) rfl rfl rfl ?_
      refine gop (y_load Tryd.isAgg4 rfl (cell_box 1 rfl rfl)) rfl rfl rfl ?_
      refine gop (y_assign (v := .bool _) rfl) rfl rfl rfl ?_
      refine gops_nil ?_
      refine hN8 _ _ ?_
      refine gfrom [(6, .bool _)] ⟨rfl, trivial⟩ fun σ => ?_
      refine gret fun w1 hM => ?_
      refine ⟨_, res1 rfl (rt (v := .bool _) rfl), ?_⟩
      exact ⟨by first | (rw [hE]; done) | (rw [hE, hu]; done) | (rw [hE]; simp_all; done) | (rw [hE]; grind), hM.low⟩
    · 
      replace hc27 := of_decide_eq_false hc27
      refine gskip ?_
      refine hN6 _ _ ?_
      refine gfrom [(3, .pointer _), (5, .pointer _), (7, .pointer _)] ⟨rfl, rfl, rfl, trivial⟩ fun σ => ?_
      refine gseq fun N9 hN9 => ?_
      refine gseq fun N10 hN10 => ?_
      refine greg ?_
      refine gop (y_fieldAddr_box fa47_0 rfl) rfl rfl rfl ?_
      refine gop (y_load Tryd.isAgg3 rfl (cell_box 2 rfl rfl)) rfl rfl rfl ?_
      refine gop (y_eql rfl rfl) rfl rfl rfl ?_
      refine gops_nil ?_
      refine hN10 _ _ ?_
      refine gfrom [(3, .pointer _), (5, .pointer _), (7, .pointer _), (32, .bool _)] ⟨rfl, rfl, rfl, rfl, trivial⟩ fun σ => ?_
      refine gcond (b := _) rfl (fun hc32 => ?_) (fun hc32 => ?_)
      · 
        replace hc32 := of_decide_eq_true hc32
        have hE : valAt (evN F) l m = _ := hV.trans (ev3 hc32)
        refine gseq fun N11 hN11 => ?_
        refine greg ?_
        refine gop (y_fieldAddr_box fa26_2 rfl) rfl rfl rfl ?_
        refine gop (y_load Tryd.isAgg4 rfl (cell_box 1 rfl rfl)) rfl rfl rfl ?_
        refine gop (y_assign (v := .bool _) rfl) rfl rfl rfl ?_
        refine gops_nil ?_
        refine hN11 _ _ ?_
        refine gfrom [(6, .bool _)] ⟨rfl, trivial⟩ fun σ => ?_
        refine gret fun w1 hM => ?_
        refine ⟨_, res1 rfl (rt (v := .bool _) rfl), ?_⟩
        exact ⟨by first | (rw [hE]; done) | (rw [hE, hu]; done) | (rw [hE]; simp_all; done) | (rw [hE]; grind), hM.low⟩
      · 
        replace hc32 := of_decide_eq_false hc32
        refine gskip ?_
        refine hN9 _ _ ?_
        refine gfrom [(3, .pointer _), (5, .pointer _), (7, .pointer _)] ⟨rfl, rfl, rfl, trivial⟩ fun σ => ?_
        refine gseq fun N12 hN12 => ?_
        refine gseq fun N13 hN13 => ?_
        refine greg ?_
        refine gop (y_fieldAddr_box fa47_0 rfl) rfl rfl rfl ?_
        refine gop (y_load Tryd.isAgg3 rfl (cell_box 2 rfl rfl)) rfl rfl rfl ?_
        refine gop (y_eql rfl rfl) rfl rfl rfl ?_
        refine gops_nil ?_
        refine hN13 _ _ ?_
        refine gfrom [(3, .pointer _), (5, .pointer _), (7, .pointer _), (37, .bool _)] ⟨rfl, rfl, rfl, rfl, trivial⟩ fun σ => ?_
        refine gcond (b := _) rfl (fun hc37 => ?_) (fun hc37 => ?_)
        · 
          replace hc37 := of_decide_eq_true hc37
          have hE : valAt (evN F) l m = _ := hV.trans (ev4 hc37)
          obtain ⟨-, -, -, -, hn0, hn1⟩ := hsm (by omega)
          have hmn := (mostN_le l[m].kind).2
          refine gseq fun N14 hN14 => ?_
          refine greg ?_
          refine gop (y_fieldAddr_box fa26_3 rfl) rfl rfl rfl ?_
          refine gop (y_load Tryd.isAgg3 rfl (cell_box 1 rfl rfl)) rfl rfl rfl ?_
          refine gop (y_assign (v := .int _ _) rfl) rfl rfl rfl ?_
          refine gops_nil ?_
          refine hN14 _ _ ?_
          refine gfrom [(7, .pointer _), (8, .int _ _)] ⟨rfl, rfl, trivial⟩ fun σ => ?_
          refine gseq fun N15 hN15 => ?_
          refine gseq fun N16 hN16 => ?_
          refine greg ?_
          refine gop (y_assign (v := .int _ _) rfl) rfl rfl rfl ?_
          refine gops_nil ?_
          refine hN16 _ _ ?_
          refine gfrom [(7, .pointer _), (8, .int _ _), (9, .int _ _)] ⟨rfl, rfl, rfl, trivial⟩ fun σ => ?_
          refine gblock ?_
          refine gfrom2 [(8, .int _ _), (9, .int _ _)] [(7, .pointer _)] ⟨rfl, rfl, trivial⟩ ⟨rfl, trivial⟩ fun σ => ?_
          refine gloop2 (G := Nat × Int) (fun (k, u) => k ≤ l[m].number.toNat ∧ u = F.users / 2 ^ k) (fun (k, u) => l[m].number.toNat - k) (fun (k, u) => [(8, .int .i64 u), (9, .int .i64 (k : Int))]) (fun (k, u) => []) ((0, F.users)) ?h0 ⟨rfl, rfl, trivial⟩ ⟨rfl, trivial⟩ rfl ?round
          case h0 => exact ⟨Nat.zero_le _, by simp⟩
          case round =>
            rintro ⟨k, u⟩ hφ σ
            obtain ⟨hk, hu⟩ := hφ
            have hp := half_pow (k := k) hu0 hu1
            rw [← hu] at hp
            refine gseq fun N17 hN17 => ?_
            refine gseq fun N18 hN18 => ?_
            refine greg ?_
            refine gop (y_move (v := .int _ _) rfl) rfl rfl rfl ?_
            refine gop (y_fieldAddr_box fa47_1 rfl) rfl rfl rfl ?_
            refine gop (y_load Tryd.isAgg3 rfl (cell_box 2 rfl rfl)) rfl rfl rfl ?_
            refine gop (y_lss rfl rfl) rfl rfl rfl ?_
            refine gops_nil ?_
            refine hN18 _ _ ?_
            refine gfrom [(7, .pointer _), (8, .int _ _), (9, .int _ _), (43, .bool _)] ⟨rfl, rfl, rfl, rfl, trivial⟩ fun σ => ?_
            refine gcond (b := _) rfl (fun hc43 => ?_) (fun hc43 => ?_)
            · 
              replace hc43 := of_decide_eq_true hc43
              refine gskip ?_
              refine hN17 _ _ ?_
              refine gfrom [(7, .pointer _), (8, .int _ _), (9, .int _ _)] ⟨rfl, rfl, rfl, trivial⟩ fun σ => ?_
              refine gseq fun N19 hN19 => ?_
              refine gblock ?_
              refine greg ?_
              refine gop (y_move (v := .int _ _) rfl) rfl rfl rfl ?_
              refine gop (y_half rfl rfl hp.2.1 hp.2.2) rfl rfl rfl ?_
              refine gop (y_assign (v := .int _ _) rfl) rfl rfl rfl ?_
              refine gops_nil ?_
              refine hN19 _ _ ?_
              refine gfrom [(7, .pointer _), (8, .int _ _), (9, .int _ _)] ⟨rfl, rfl, rfl, trivial⟩ fun σ => ?_
              refine greg ?_
              refine gop (y_move (v := .int _ _) rfl) rfl rfl rfl ?_
              refine gop (y_add rfl rfl ⟨by omega, by omega⟩) rfl rfl rfl ?_
              refine gop (y_assign (v := .int _ _) rfl) rfl rfl rfl ?_
              refine gops_nil ?_
              refine gnext2 ((k + 1, u / 2)) (by show l[m].number.toNat - (k + 1) < l[m].number.toNat - k; omega) (⟨by show k + 1 ≤ _; omega, hp.1⟩) ⟨rfl, rfl, trivial⟩ ⟨rfl, trivial⟩ ⟨_, rfl⟩
            · 
              replace hc43 := of_decide_eq_false hc43
              obtain rfl : k = l[m].number.toNat := by omega
              refine gexit ?_
              refine hN15 _ _ ?_
              refine gfrom [(8, .int _ _)] ⟨rfl, trivial⟩ fun σ => ?_
              refine gseq fun N20 hN20 => ?_
              refine greg ?_
              refine gop (y_move (v := .int _ _) rfl) rfl rfl rfl ?_
              refine gop (y_odd rfl rfl hp.2.1) rfl rfl rfl ?_
              refine gop (y_eql rfl rfl) rfl rfl rfl ?_
              refine gop (y_assign (v := .bool _) rfl) rfl rfl rfl ?_
              refine gops_nil ?_
              refine hN20 _ _ ?_
              refine gfrom [(6, .bool _)] ⟨rfl, trivial⟩ fun σ => ?_
              refine gret fun w1 hM => ?_
              refine ⟨_, res1 rfl (rt (v := .bool _) rfl), ?_⟩
              exact ⟨by first | (rw [hE]; done) | (rw [hE, hu]; done) | (rw [hE]; simp_all; done) | (rw [hE]; grind), hM.low⟩
        · 
          replace hc37 := of_decide_eq_false hc37
          have hnk : ¬ l[m].kind < 5 := fun h => by have h9 := (hsm h).2.2.2.1; omega
          obtain ⟨hi1, hk7, d, q, hdo, hdt, hdl, hds, hdq, h5, h67⟩ := tree_big hok hat hm1 hnk
          have hdp := depth_pos d
          have hdz := hdt.size_le
          have hgl : gB (foldTo (evN F) l m) l[m].left = valAt (evN F) l q := by rw [hdl]; exact gB_fold hdq
          refine gskip ?_
          refine hN12 _ _ ?_
          refine gfrom [(3, .pointer _), (5, .pointer _), (7, .pointer _)] ⟨rfl, rfl, rfl, trivial⟩ fun σ => ?_
          refine gseq fun N21 hN21 => ?_
          refine greg ?_
          refine gop (y_loads (cs := [_]) Tryd.isAgg24 Tryd.sizeOf24 rfl rfl (cells_box 0 rfl)) rfl rfl rfl ?_
          refine gop (y_fieldAddr_box fa47_2 rfl) rfl rfl rfl ?_
          refine gop (y_load Tryd.isAgg3 rfl (cell_box 2 rfl rfl)) rfl rfl rfl ?_
          refine gop (y_loads (cs := [_, _, _, _]) Tryd.isAgg26 Tryd.sizeOf26 rfl rfl (cells_box 1 rfl)) rfl rfl rfl ?_
          refine gop_pure (e_call (vs := [.agg #[_], .int _ _, .agg #[_, _, _, _]]) Tryd.func17 rfl (by kernel_rfl) rfl) (fun w hM => ih d.size (by omega) d _ q w rfl hdl (hl.base hM) hdo hdt) rfl rfl rfl ?_
          refine gop (y_assign (v := .bool _) rfl) rfl rfl rfl ?_
          refine gops_nil ?_
          refine hN21 _ _ ?_
          refine gfrom [(3, .pointer _), (5, .pointer _), (7, .pointer _), (10, .bool _)] ⟨rfl, rfl, rfl, rfl, trivial⟩ fun σ => ?_
          refine gseq fun N22 hN22 => ?_
          refine gseq fun N23 hN23 => ?_
          refine greg ?_
          refine gop (y_fieldAddr_box fa47_0 rfl) rfl rfl rfl ?_
          refine gop (y_load Tryd.isAgg3 rfl (cell_box 2 rfl rfl)) rfl rfl rfl ?_
          refine gop (y_eql rfl rfl) rfl rfl rfl ?_
          refine gops_nil ?_
          refine hN23 _ _ ?_
          refine gfrom [(3, .pointer _), (5, .pointer _), (7, .pointer _), (10, .bool _), (58, .bool _)] ⟨rfl, rfl, rfl, rfl, rfl, trivial⟩ fun σ => ?_
          refine gcond (b := _) rfl (fun hc58 => ?_) (fun hc58 => ?_)
          · 
            replace hc58 := of_decide_eq_true hc58
            have hE : valAt (evN F) l m = !valAt (evN F) l q := (hV.trans (ev5 hc58)).trans (by rw [hgl])
            refine gseq fun N24 hN24 => ?_
            refine greg ?_
            refine gop (y_move (v := .bool _) rfl) rfl rfl rfl ?_
            refine gop (y_not rfl) rfl rfl rfl ?_
            refine gop (y_assign (v := .bool _) rfl) rfl rfl rfl ?_
            refine gops_nil ?_
            refine hN24 _ _ ?_
            refine gfrom [(6, .bool _)] ⟨rfl, trivial⟩ fun σ => ?_
            refine gret fun w1 hM => ?_
            refine ⟨_, res1 rfl (rt (v := .bool _) rfl), ?_⟩
            exact ⟨by first | (rw [hE]; done) | (rw [hE, hu]; done) | (rw [hE]; simp_all; done) | (rw [hE]; grind), hM.low⟩
          · 
            replace hc58 := of_decide_eq_false hc58
            obtain ⟨b, hbo, hbt, hbs, hbr, he⟩ := h67 hc58
            have hgr : gB (foldTo (evN F) l m) l[m].right = valAt (evN F) l (m - 1) := by rw [hbr]; exact gB_fold (by omega)
            refine gskip ?_
            refine hN22 _ _ ?_
            refine gfrom [(3, .pointer _), (5, .pointer _), (7, .pointer _), (10, .bool _)] ⟨rfl, rfl, rfl, rfl, trivial⟩ fun σ => ?_
            refine gseq fun N25 hN25 => ?_
            refine greg ?_
            refine gop (y_loads (cs := [_]) Tryd.isAgg24 Tryd.sizeOf24 rfl rfl (cells_box 0 rfl)) rfl rfl rfl ?_
            refine gop (y_fieldAddr_box fa47_3 rfl) rfl rfl rfl ?_
            refine gop (y_load Tryd.isAgg3 rfl (cell_box 2 rfl rfl)) rfl rfl rfl ?_
            refine gop (y_loads (cs := [_, _, _, _]) Tryd.isAgg26 Tryd.sizeOf26 rfl rfl (cells_box 1 rfl)) rfl rfl rfl ?_
            refine gop_pure (e_call (vs := [.agg #[_], .int _ _, .agg #[_, _, _, _]]) Tryd.func17 rfl (by kernel_rfl) rfl) (fun w hM => ih b.size (by omega) b _ (m - 1) w rfl hbr (hl.base hM) hbo hbt) rfl rfl rfl ?_
            refine gop (y_assign (v := .bool _) rfl) rfl rfl rfl ?_
            refine gops_nil ?_
            refine hN25 _ _ ?_
            refine gfrom [(7, .pointer _), (10, .bool _), (11, .bool _)] ⟨rfl, rfl, rfl, trivial⟩ fun σ => ?_
            refine gseq fun N26 hN26 => ?_
            refine gseq fun N27 hN27 => ?_
            refine greg ?_
            refine gop (y_fieldAddr_box fa47_0 rfl) rfl rfl rfl ?_
            refine gop (y_load Tryd.isAgg3 rfl (cell_box 2 rfl rfl)) rfl rfl rfl ?_
            refine gop (y_eql rfl rfl) rfl rfl rfl ?_
            refine gops_nil ?_
            refine hN27 _ _ ?_
            refine gfrom [(10, .bool _), (11, .bool _), (68, .bool _)] ⟨rfl, rfl, rfl, trivial⟩ fun σ => ?_
            refine gcond (b := _) rfl (fun hc68 => ?_) (fun hc68 => ?_)
            · 
              replace hc68 := of_decide_eq_true hc68
              have hE : valAt (evN F) l m = (valAt (evN F) l q && valAt (evN F) l (m - 1)) := (hV.trans (ev6 hc68)).trans (by rw [hgl, hgr])
              refine gseq fun N28 hN28 => ?_
              refine greg ?_
              refine gop (y_move (v := .bool _) rfl) rfl rfl rfl ?_
              refine gop (y_move (v := .bool _) rfl) rfl rfl rfl ?_
              refine gop_if (want := true) rfl rfl rfl rfl rfl rfl (fun hg70 => ?_) (fun hg70 => ?_)
              · 
                have hg70d := hg70
                refine gop (y_bare (y_move (v := .bool _) rfl)) rfl rfl rfl ?_
                refine gop (y_pick_t (v := .bool _) rfl hg70 rfl) rfl rfl rfl ?_
                refine gop (y_assign (v := .bool _) rfl) rfl rfl rfl ?_
                refine gops_nil ?_
                refine hN28 _ _ ?_
                refine gfrom [(6, .bool _)] ⟨rfl, trivial⟩ fun σ => ?_
                refine gret fun w1 hM => ?_
                refine ⟨_, res1 rfl (rt (v := .bool _) rfl), ?_⟩
                exact ⟨by first | (rw [hE]; done) | (rw [hE, hu]; done) | (rw [hE]; simp_all; done) | (rw [hE]; grind), hM.low⟩
              · 
                have hg70d := hg70
                refine gop (y_pick_f (v := .bool _) rfl hg70 rfl) rfl rfl rfl ?_
                refine gop (y_assign (v := .bool _) rfl) rfl rfl rfl ?_
                refine gops_nil ?_
                refine hN28 _ _ ?_
                refine gfrom [(6, .bool _)] ⟨rfl, trivial⟩ fun σ => ?_
                refine gret fun w1 hM => ?_
                refine ⟨_, res1 rfl (rt (v := .bool _) rfl), ?_⟩
                exact ⟨by first | (rw [hE]; done) | (rw [hE, hu]; done) | (rw [hE]; simp_all; done) | (rw [hE]; grind), hM.low⟩
            · 
              replace hc68 := of_decide_eq_false hc68
              have hE : valAt (evN F) l m = (valAt (evN F) l q || valAt (evN F) l (m - 1)) := (hV.trans (ev7 (by omega))).trans (by rw [hgl, hgr])
              refine gskip ?_
              refine hN26 _ _ ?_
              refine gfrom [(10, .bool _), (11, .bool _)] ⟨rfl, rfl, trivial⟩ fun σ => ?_
              refine gseq fun N29 hN29 => ?_
              refine greg ?_
              refine gop (y_move (v := .bool _) rfl) rfl rfl rfl ?_
              refine gop (y_move (v := .bool _) rfl) rfl rfl rfl ?_
              refine gop_if (want := false) rfl rfl rfl rfl rfl rfl (fun hg74 => ?_) (fun hg74 => ?_)
              · 
                have hg74d := hg74
                refine gop (y_bare (y_move (v := .bool _) rfl)) rfl rfl rfl ?_
                refine gop (y_pick_f (v := .bool _) rfl hg74 rfl) rfl rfl rfl ?_
                refine gop (y_assign (v := .bool _) rfl) rfl rfl rfl ?_
                refine gops_nil ?_
                refine hN29 _ _ ?_
                refine gfrom [(6, .bool _)] ⟨rfl, trivial⟩ fun σ => ?_
                refine gret fun w1 hM => ?_
                refine ⟨_, res1 rfl (rt (v := .bool _) rfl), ?_⟩
                exact ⟨by first | (rw [hE]; done) | (rw [hE, hu]; done) | (rw [hE]; simp_all; done) | (rw [hE]; grind), hM.low⟩
              · 
                have hg74d := hg74
                refine gop (y_pick_t (v := .bool _) rfl hg74 rfl) rfl rfl rfl ?_
                refine gop (y_assign (v := .bool _) rfl) rfl rfl rfl ?_
                refine gops_nil ?_
                refine hN29 _ _ ?_
                refine gfrom [(6, .bool _)] ⟨rfl, trivial⟩ fun σ => ?_
                refine gret fun w1 hM => ?_
                refine ⟨_, res1 rfl (rt (v := .bool _) rfl), ?_⟩
                exact ⟨by first | (rw [hE]; done) | (rw [hE, hu]; done) | (rw [hE]; simp_all; done) | (rw [hE]; grind), hM.low⟩
end Go.Proofs.YtllblbkbglifjaaDoor
namespace Go.Proofs
open Go.Shelf
def Tryd.laysM171_ren : Go.Shelf.Ren := ⟨fun | 171 => 40 | 243 => 46 | 246 => 50 | 283 => 53 | 284 => 54 | 285 => 55 | 286 => 56 | 129 => 60 | 317 => 59 | 318 => 61 | 319 => 62 | 320 => 63 | 337 => 69 | 338 => 70 | n => n, fun | 3 => 3 | 9 => 9 | 2 => 2 | 4 => 4 | 171 => 90 | 0 => 0 | 53 => 83 | 37 => 93 | 5 => 5 | 173 => 94 | 212 => 98 | 51 => 99 | 20 => 20 | 213 => 100 | 46 => 102 | 232 => 117 | 233 => 118 | n => n, fun | 17 => 1 | 18 => 4 | 19 => 5 | n => n⟩
theorem Tryd.laysM171 : Go.Proofs.LaysM.n171 Tryd.prog Tryd.laysM171_ren := {
  mixed := by kernel_rfl
  f129 := Tryd.func60.trans (congrArg some (by kernel_rfl))
  f171 := Tryd.func40.trans (congrArg some (by kernel_rfl))
  f243 := Tryd.func46.trans (congrArg some (by kernel_rfl))
  f246 := Tryd.func50.trans (congrArg some (by kernel_rfl))
  f283 := Tryd.func53.trans (congrArg some (by kernel_rfl))
  f284 := Tryd.func54.trans (congrArg some (by kernel_rfl))
  f285 := Tryd.func55.trans (congrArg some (by kernel_rfl))
  f286 := Tryd.func56.trans (congrArg some (by kernel_rfl))
  f317 := Tryd.func59.trans (congrArg some (by kernel_rfl))
  f318 := Tryd.func61.trans (congrArg some (by kernel_rfl))
  f319 := Tryd.func62.trans (congrArg some (by kernel_rfl))
  f320 := Tryd.func63.trans (congrArg some (by kernel_rfl))
  f337 := Tryd.func69.trans (congrArg some (by kernel_rfl))
  f338 := Tryd.func70.trans (congrArg some (by kernel_rfl))
  t0 := Tryd.underlying0
  a0 := Tryd.isAgg0
  z0 := Tryd.sizeOf0
  v0 := Tryd.zeroValue0
  t2 := Tryd.underlying2
  a2 := Tryd.isAgg2
  z2 := Tryd.sizeOf2
  v2 := Tryd.zeroValue2
  t3 := Tryd.underlying3
  a3 := Tryd.isAgg3
  z3 := Tryd.sizeOf3
  v3 := Tryd.zeroValue3
  t4 := Tryd.underlying4
  a4 := Tryd.isAgg4
  z4 := Tryd.sizeOf4
  v4 := Tryd.zeroValue4
  t5 := Tryd.underlying5
  a5 := Tryd.isAgg5
  z5 := Tryd.sizeOf5
  v5 := Tryd.zeroValue5
  t9 := Tryd.underlying9
  a9 := Tryd.isAgg9
  z9 := Tryd.sizeOf9
  v9 := Tryd.zeroValue9
  t20 := Tryd.underlying20
  a20 := Tryd.isAgg20
  z20 := Tryd.sizeOf20
  v20 := Tryd.zeroValue20
  t37 := Tryd.underlying93
  a37 := Tryd.isAgg93
  z37 := Tryd.sizeOf93
  v37 := Tryd.zeroValue93
  t46 := Tryd.underlying102
  a46 := Tryd.isAgg102
  z46 := Tryd.sizeOf102
  v46 := Tryd.zeroValue102
  t51 := Tryd.underlying99
  a51 := Tryd.isAgg99
  z51 := Tryd.sizeOf99
  v51 := Tryd.zeroValue99
  t53 := Tryd.underlying83
  a53 := Tryd.isAgg83
  z53 := Tryd.sizeOf83
  v53 := Tryd.zeroValue83
  t171 := Tryd.underlying90
  a171 := Tryd.isAgg90
  z171 := Tryd.sizeOf90
  v171 := Tryd.zeroValue90
  t173 := Tryd.underlying94
  a173 := Tryd.isAgg94
  z173 := Tryd.sizeOf94
  v173 := Tryd.zeroValue94
  t212 := Tryd.underlying98
  a212 := Tryd.isAgg98
  z212 := Tryd.sizeOf98
  v212 := Tryd.zeroValue98
  t213 := Tryd.underlying100
  a213 := Tryd.isAgg100
  z213 := Tryd.sizeOf100
  t232 := Tryd.underlying117
  a232 := Tryd.isAgg117
  z232 := Tryd.sizeOf117
  v232 := Tryd.zeroValue117
  t233 := Tryd.underlying118
  a233 := Tryd.isAgg118
  z233 := Tryd.sizeOf118
  v233 := Tryd.zeroValue118
  g17 := by kernel_rfl
  g18 := by kernel_rfl
  g19 := by kernel_rfl
  i0 := by kernel_rfl
  i2 := by kernel_rfl
  i3 := by kernel_rfl
  i4 := by kernel_rfl
  i5 := by kernel_rfl
  i9 := by kernel_rfl
  i20 := by kernel_rfl
  i37 := by kernel_rfl
  i46 := by kernel_rfl
  i51 := by kernel_rfl
  i53 := by kernel_rfl
  i171 := by kernel_rfl
  i173 := by kernel_rfl
  i212 := by kernel_rfl
  i232 := by kernel_rfl
  i233 := by kernel_rfl
  m17 := by kernel_rfl
  m18 := by kernel_rfl
  m19 := by kernel_rfl }
open Go.RowKit Go.Sort Go.Lib in

theorem Tryd.strconv_Itoa (n : Int) (h0 : -9223372036854775808 ≤ n) (h1 : n ≤ 9223372036854775807) (w : World) (htab : Lib.TabIs Tryd.prog w "internal/strconv.uint64pow10" .u64 Lib.pow10Tab) :
    Calls Tryd.prog 40 #[.int .i64 n] w fun e w' => e = .returned (.string ⟨(Lib.itoa n).toArray⟩) ∧ ∃ k os, w' = grow (w.drewN k) os := Any.strconv_Itoa Tryd.laysM171 n h0 h1 w htab
def Tryd.lays171_ren : Go.Shelf.Ren := ⟨fun | 171 => 40 | 243 => 46 | 246 => 50 | 283 => 53 | 284 => 54 | 285 => 55 | 286 => 56 | 129 => 60 | 317 => 59 | 318 => 61 | 319 => 62 | 320 => 63 | 337 => 69 | 338 => 70 | n => n, fun | 3 => 3 | 9 => 9 | 2 => 2 | 4 => 4 | 171 => 90 | 0 => 0 | 53 => 83 | 37 => 93 | 5 => 5 | 173 => 94 | 212 => 98 | 51 => 99 | 20 => 20 | 213 => 100 | 46 => 102 | 232 => 117 | 233 => 118 | n => n, fun | 17 => 1 | 18 => 4 | 19 => 5 | n => n⟩
theorem Tryd.lays171 : Go.Proofs.Lays.n171 Tryd.prog Tryd.lays171_ren := {
  mixed := by kernel_rfl
  f129 := Tryd.func60.trans (congrArg some (by kernel_rfl))
  f171 := Tryd.func40.trans (congrArg some (by kernel_rfl))
  f243 := Tryd.func46.trans (congrArg some (by kernel_rfl))
  f246 := Tryd.func50.trans (congrArg some (by kernel_rfl))
  f283 := Tryd.func53.trans (congrArg some (by kernel_rfl))
  f284 := Tryd.func54.trans (congrArg some (by kernel_rfl))
  f285 := Tryd.func55.trans (congrArg some (by kernel_rfl))
  f286 := Tryd.func56.trans (congrArg some (by kernel_rfl))
  f317 := Tryd.func59.trans (congrArg some (by kernel_rfl))
  f318 := Tryd.func61.trans (congrArg some (by kernel_rfl))
  f319 := Tryd.func62.trans (congrArg some (by kernel_rfl))
  f320 := Tryd.func63.trans (congrArg some (by kernel_rfl))
  f337 := Tryd.func69.trans (congrArg some (by kernel_rfl))
  f338 := Tryd.func70.trans (congrArg some (by kernel_rfl))
  t0 := Tryd.underlying0
  a0 := Tryd.isAgg0
  z0 := Tryd.sizeOf0
  v0 := Tryd.zeroValue0
  t2 := Tryd.underlying2
  a2 := Tryd.isAgg2
  z2 := Tryd.sizeOf2
  v2 := Tryd.zeroValue2
  t3 := Tryd.underlying3
  a3 := Tryd.isAgg3
  z3 := Tryd.sizeOf3
  v3 := Tryd.zeroValue3
  t4 := Tryd.underlying4
  a4 := Tryd.isAgg4
  z4 := Tryd.sizeOf4
  v4 := Tryd.zeroValue4
  t5 := Tryd.underlying5
  a5 := Tryd.isAgg5
  z5 := Tryd.sizeOf5
  v5 := Tryd.zeroValue5
  t9 := Tryd.underlying9
  a9 := Tryd.isAgg9
  z9 := Tryd.sizeOf9
  v9 := Tryd.zeroValue9
  t20 := Tryd.underlying20
  a20 := Tryd.isAgg20
  z20 := Tryd.sizeOf20
  v20 := Tryd.zeroValue20
  t37 := Tryd.underlying93
  a37 := Tryd.isAgg93
  z37 := Tryd.sizeOf93
  v37 := Tryd.zeroValue93
  t46 := Tryd.underlying102
  a46 := Tryd.isAgg102
  z46 := Tryd.sizeOf102
  v46 := Tryd.zeroValue102
  t51 := Tryd.underlying99
  a51 := Tryd.isAgg99
  z51 := Tryd.sizeOf99
  v51 := Tryd.zeroValue99
  t53 := Tryd.underlying83
  a53 := Tryd.isAgg83
  z53 := Tryd.sizeOf83
  v53 := Tryd.zeroValue83
  t171 := Tryd.underlying90
  a171 := Tryd.isAgg90
  z171 := Tryd.sizeOf90
  v171 := Tryd.zeroValue90
  t173 := Tryd.underlying94
  a173 := Tryd.isAgg94
  z173 := Tryd.sizeOf94
  v173 := Tryd.zeroValue94
  t212 := Tryd.underlying98
  a212 := Tryd.isAgg98
  z212 := Tryd.sizeOf98
  v212 := Tryd.zeroValue98
  t213 := Tryd.underlying100
  a213 := Tryd.isAgg100
  z213 := Tryd.sizeOf100
  t232 := Tryd.underlying117
  a232 := Tryd.isAgg117
  z232 := Tryd.sizeOf117
  v232 := Tryd.zeroValue117
  t233 := Tryd.underlying118
  a233 := Tryd.isAgg118
  z233 := Tryd.sizeOf118
  v233 := Tryd.zeroValue118
  g17 := by kernel_rfl
  g18 := by kernel_rfl
  g19 := by kernel_rfl }
open Go.RowKit Go.Sort Go.Lib in

theorem Tryd.strconv_Itoa_small (i : Nat) (hi : i < 100) (w : World) :
    Calls Tryd.prog 40 #[.int .i64 i] w fun e w' => e = .returned (.string ⟨(Lib.decDigits i).toArray⟩) ∧ w' = w := Any.strconv_Itoa_small Tryd.lays171 i hi w
def Tryd.laysC172_ren : Go.Shelf.Ren := ⟨fun | 172 => 52 | 244 => 57 | 245 => 58 | 247 => 64 | 279 => 65 | 280 => 66 | 281 => 67 | 282 => 68 | 287 => 71 | 316 => 72 | 171 => 40 | 205 => 73 | 321 => 74 | 322 => 75 | 243 => 46 | 246 => 50 | 283 => 53 | 284 => 54 | 285 => 55 | 286 => 56 | 129 => 60 | 317 => 59 | 318 => 61 | 319 => 62 | 320 => 63 | 337 => 69 | 338 => 70 | n => n, fun | 9 => 9 | 3 => 3 | 75 => 87 | 76 => 88 | 4 => 4 | 5 => 5 | 167 => 104 | 37 => 93 | 0 => 0 | 85 => 105 | 2 => 2 | 168 => 107 | 53 => 83 | 175 => 111 | 46 => 102 | 210 => 115 | 127 => 120 | 145 => 123 | 143 => 121 | 21 => 21 | 171 => 90 | 173 => 94 | 212 => 98 | 51 => 99 | 20 => 20 | 213 => 100 | 232 => 117 | 233 => 118 | 80 => 84 | n => n, fun | 15 => 2 | 16 => 3 | 17 => 1 | 18 => 4 | 19 => 5 | n => n⟩
theorem Tryd.laysC172 : Go.Proofs.LaysC.n172 Tryd.prog Tryd.laysC172_ren := {
  mixed := by kernel_rfl
  f129 := Tryd.func60.trans (congrArg some (by kernel_rfl))
  f171 := Tryd.func40.trans (congrArg some (by kernel_rfl))
  f172 := Tryd.func52.trans (congrArg some (by kernel_rfl))
  f205 := Tryd.func73.trans (congrArg some (by kernel_rfl))
  f243 := Tryd.func46.trans (congrArg some (by kernel_rfl))
  f244 := Tryd.func57.trans (congrArg some (by kernel_rfl))
  f245 := Tryd.func58.trans (congrArg some (by kernel_rfl))
  f246 := Tryd.func50.trans (congrArg some (by kernel_rfl))
  f247 := Tryd.func64.trans (congrArg some (by kernel_rfl))
  f279 := Tryd.func65.trans (congrArg some (by kernel_rfl))
  f280 := Tryd.func66.trans (congrArg some (by kernel_rfl))
  f281 := Tryd.func67.trans (congrArg some (by kernel_rfl))
  f282 := Tryd.func68.trans (congrArg some (by kernel_rfl))
  f283 := Tryd.func53.trans (congrArg some (by kernel_rfl))
  f284 := Tryd.func54.trans (congrArg some (by kernel_rfl))
  f285 := Tryd.func55.trans (congrArg some (by kernel_rfl))
  f286 := Tryd.func56.trans (congrArg some (by kernel_rfl))
  f287 := Tryd.func71.trans (congrArg some (by kernel_rfl))
  f316 := Tryd.func72.trans (congrArg some (by kernel_rfl))
  f317 := Tryd.func59.trans (congrArg some (by kernel_rfl))
  f318 := Tryd.func61.trans (congrArg some (by kernel_rfl))
  f319 := Tryd.func62.trans (congrArg some (by kernel_rfl))
  f320 := Tryd.func63.trans (congrArg some (by kernel_rfl))
  f321 := Tryd.func74.trans (congrArg some (by kernel_rfl))
  f322 := Tryd.func75.trans (congrArg some (by kernel_rfl))
  f337 := Tryd.func69.trans (congrArg some (by kernel_rfl))
  f338 := Tryd.func70.trans (congrArg some (by kernel_rfl))
  t0 := Tryd.underlying0
  a0 := Tryd.isAgg0
  z0 := Tryd.sizeOf0
  v0 := Tryd.zeroValue0
  t2 := Tryd.underlying2
  a2 := Tryd.isAgg2
  z2 := Tryd.sizeOf2
  v2 := Tryd.zeroValue2
  t3 := Tryd.underlying3
  a3 := Tryd.isAgg3
  z3 := Tryd.sizeOf3
  v3 := Tryd.zeroValue3
  t4 := Tryd.underlying4
  a4 := Tryd.isAgg4
  z4 := Tryd.sizeOf4
  v4 := Tryd.zeroValue4
  t5 := Tryd.underlying5
  a5 := Tryd.isAgg5
  z5 := Tryd.sizeOf5
  v5 := Tryd.zeroValue5
  t9 := Tryd.underlying9
  a9 := Tryd.isAgg9
  z9 := Tryd.sizeOf9
  v9 := Tryd.zeroValue9
  t20 := Tryd.underlying20
  a20 := Tryd.isAgg20
  z20 := Tryd.sizeOf20
  v20 := Tryd.zeroValue20
  t21 := Tryd.underlying21
  a21 := Tryd.isAgg21
  z21 := Tryd.sizeOf21
  v21 := Tryd.zeroValue21
  t37 := Tryd.underlying93
  a37 := Tryd.isAgg93
  z37 := Tryd.sizeOf93
  v37 := Tryd.zeroValue93
  t46 := Tryd.underlying102
  a46 := Tryd.isAgg102
  z46 := Tryd.sizeOf102
  v46 := Tryd.zeroValue102
  t51 := Tryd.underlying99
  a51 := Tryd.isAgg99
  z51 := Tryd.sizeOf99
  v51 := Tryd.zeroValue99
  t53 := Tryd.underlying83
  a53 := Tryd.isAgg83
  z53 := Tryd.sizeOf83
  v53 := Tryd.zeroValue83
  t75 := Tryd.underlying87
  a75 := Tryd.isAgg87
  z75 := Tryd.sizeOf87
  v75 := Tryd.zeroValue87
  t76 := Tryd.underlying88
  a76 := Tryd.isAgg88
  z76 := Tryd.sizeOf88
  v76 := Tryd.zeroValue88
  t85 := Tryd.underlying105
  a85 := Tryd.isAgg105
  z85 := Tryd.sizeOf105
  v85 := Tryd.zeroValue105
  t127 := Tryd.underlying120
  a127 := Tryd.isAgg120
  z127 := Tryd.sizeOf120
  v127 := Tryd.zeroValue120
  t143 := Tryd.underlying121
  a143 := Tryd.isAgg121
  z143 := Tryd.sizeOf121
  v143 := Tryd.zeroValue121
  t145 := Tryd.underlying123
  a145 := Tryd.isAgg123
  z145 := Tryd.sizeOf123
  v145 := Tryd.zeroValue123
  t167 := Tryd.underlying104
  a167 := Tryd.isAgg104
  z167 := Tryd.sizeOf104
  v167 := Tryd.zeroValue104
  t168 := Tryd.underlying107
  a168 := Tryd.isAgg107
  z168 := Tryd.sizeOf107
  v168 := Tryd.zeroValue107
  t171 := Tryd.underlying90
  a171 := Tryd.isAgg90
  z171 := Tryd.sizeOf90
  v171 := Tryd.zeroValue90
  t173 := Tryd.underlying94
  a173 := Tryd.isAgg94
  z173 := Tryd.sizeOf94
  v173 := Tryd.zeroValue94
  t175 := Tryd.underlying111
  a175 := Tryd.isAgg111
  z175 := Tryd.sizeOf111
  v175 := Tryd.zeroValue111
  t210 := Tryd.underlying115
  a210 := Tryd.isAgg115
  z210 := Tryd.sizeOf115
  v210 := Tryd.zeroValue115
  t212 := Tryd.underlying98
  a212 := Tryd.isAgg98
  z212 := Tryd.sizeOf98
  v212 := Tryd.zeroValue98
  t213 := Tryd.underlying100
  a213 := Tryd.isAgg100
  z213 := Tryd.sizeOf100
  t232 := Tryd.underlying117
  a232 := Tryd.isAgg117
  z232 := Tryd.sizeOf117
  v232 := Tryd.zeroValue117
  t233 := Tryd.underlying118
  a233 := Tryd.isAgg118
  z233 := Tryd.sizeOf118
  v233 := Tryd.zeroValue118
  g15 := by kernel_rfl
  g16 := by kernel_rfl
  g17 := by kernel_rfl
  g18 := by kernel_rfl
  g19 := by kernel_rfl
  t80 := Tryd.underlying84
  a80 := Tryd.isAgg84
  z80 := Tryd.sizeOf84
  v80 := Tryd.zeroValue84
  i0 := by kernel_rfl
  i2 := by kernel_rfl
  i3 := by kernel_rfl
  i4 := by kernel_rfl
  i5 := by kernel_rfl
  i9 := by kernel_rfl
  i20 := by kernel_rfl
  i21 := by kernel_rfl
  i37 := by kernel_rfl
  i46 := by kernel_rfl
  i51 := by kernel_rfl
  i53 := by kernel_rfl
  i75 := by kernel_rfl
  i76 := by kernel_rfl
  i80 := by kernel_rfl
  i85 := by kernel_rfl
  i127 := by kernel_rfl
  i143 := by kernel_rfl
  i145 := by kernel_rfl
  i167 := by kernel_rfl
  i168 := by kernel_rfl
  i171 := by kernel_rfl
  i173 := by kernel_rfl
  i175 := by kernel_rfl
  i210 := by kernel_rfl
  i212 := by kernel_rfl
  i232 := by kernel_rfl
  i233 := by kernel_rfl
  m15 := by kernel_rfl
  m16 := by kernel_rfl
  m17 := by kernel_rfl
  m18 := by kernel_rfl
  m19 := by kernel_rfl
  c0 := by kernel_rfl
  c2 := by kernel_rfl
  c3 := by kernel_rfl
  c4 := by kernel_rfl
  c5 := by kernel_rfl
  c9 := by kernel_rfl
  c20 := by kernel_rfl
  c21 := by kernel_rfl
  c37 := by kernel_rfl
  c46 := by kernel_rfl
  c51 := by kernel_rfl
  c53 := by kernel_rfl
  c75 := by kernel_rfl
  c76 := by kernel_rfl
  c80 := by kernel_rfl
  c85 := by kernel_rfl
  c127 := by kernel_rfl
  c143 := by kernel_rfl
  c145 := by kernel_rfl
  c167 := by kernel_rfl
  c168 := by kernel_rfl
  c171 := by kernel_rfl
  c173 := by kernel_rfl
  c175 := by kernel_rfl
  c210 := by kernel_rfl
  c212 := by kernel_rfl
  c213 := by kernel_rfl
  c232 := by kernel_rfl
  c233 := by kernel_rfl }
open Go.RowKit in

theorem Tryd.strconv_Atoi_ok (s : ByteArray) (hmax : s.size ≤ 9223372036854775806) (v : Int) (h : Lib.atoiAll s.data.toList = .ok v) (w : World) :
    Calls Tryd.prog 52 #[.string s] w fun e w' => e = .returned (.tuple #[.int .i64 v, .nilIface]) ∧ (w' = w ∨ ∃ t, w' = Lib.bytesWorld w 5 t) := Any.strconv_Atoi_ok Tryd.laysC172 s hmax v h w
open Go.RowKit in

theorem Tryd.strconv_Atoi_syntax (s : ByteArray) (hlim : s.size ≤ 281474976710656) (h : Lib.atoiAll s.data.toList = Lib.atoiAll []) (ev : Value) (w : World) (hv : w.cell? ⟨2, 0, none⟩ = some ev) (hev : ev = .nilIface ∨ ∃ te pe, ev = .iface te pe) :
    Calls Tryd.prog 52 #[.string s] w fun e w' => ∃ N, e = .returned (.tuple #[.int .i64 (0), .iface 107 (.pointer (some ⟨N, 0, none⟩))]) ∧ w.heap.size ≤ N ∧ w'.heap[N]? = some (.cells #[.string ⟨#[65, 116, 111, 105]⟩, .string s, ev] 115 (0, 0)) ∧ Below w.heap.size w w' := Any.strconv_Atoi_syntax Tryd.laysC172 s hlim h ev w hv hev
open Go.RowKit in

theorem Tryd.strconv_Atoi_range (s : ByteArray) (hlim : s.size ≤ 281474976710656) (h : Lib.atoiAll s.data.toList = .range) (ev : Value) (w : World) (hv : w.cell? ⟨3, 0, none⟩ = some ev) (hev : ev = .nilIface ∨ ∃ te pe, ev = .iface te pe) :
    Calls Tryd.prog 52 #[.string s] w fun e w' => ∃ N, e = .returned (.tuple #[.int .i64 (Lib.atoiSat s.data.toList), .iface 107 (.pointer (some ⟨N, 0, none⟩))]) ∧ w.heap.size ≤ N ∧ w'.heap[N]? = some (.cells #[.string ⟨#[65, 116, 111, 105]⟩, .string s, ev] 115 (0, 0)) ∧ Below w.heap.size w w' := Any.strconv_Atoi_range Tryd.laysC172 s hlim h ev w hv hev
end Go.Proofs
namespace Go.Cf
open Go.RowKit
def AtoiEnd (s : ByteArray) (n : Int) (er : Value) (b : Bool) : Prop := (er = .nilIface ∧ b = false ∧ Lib.atoiAll s.data.toList = .ok n) ∨ ((∃ t p, er = .iface t p) ∧ b = true ∧ numV s = none)
theorem AtoiEnd.ok {s : ByteArray} {n : Int} {er : Value} {b : Bool} (h : AtoiEnd s n er b) (hb : b = false) : Lib.atoiAll s.data.toList = .ok n := by
  rcases h with ⟨_, _, h⟩ | ⟨_, h, _⟩
  · exact h
  · rw [h] at hb; cases hb
theorem num_bad {s : ByteArray} {n : Int} {er : Value} {b : Bool} (h : AtoiEnd s n er b) (hb : b = true ∨ baL (Lib.itoa n) ≠ s) : numV s = none := by
  rcases h with ⟨_, h1, h2⟩ | ⟨_, _, h2⟩
  · rcases hb with hb | hb
    · rw [h1] at hb; cases hb
    · rw [numV, h2]
      exact if_neg (fun h9 => hb (by rw [h9]; rfl))
  · exact h2
theorem num_good {s : ByteArray} {n : Int} {er : Value} {b : Bool} (h : AtoiEnd s n er b) (hb : b = false) (h2 : baL (Lib.itoa n) = s) : numV s = some n := by
  rw [numV, h.ok hb]
  exact if_pos (by rw [← h2, baL_data])
theorem mem_nil {w w' : World} (h : Below w.heap.size w w') : Mem w [] w' := ⟨h, by simp, by simp, by simp, List.Pairwise.nil⟩
section
variable {P : Program} {w0 : World} {T : List Reg} {ρ : Env} {dst : Option Tmp} {ty t yt : TypeId} {pos : String} {af : Array Edge} {gd : Option (Nat × Bool)} {x y : Operand}
theorem y_errne {y' : Value} {s : ByteArray} {n : Int} {er : Value} {b : Bool} (ht : P.isIface t = true) (h : AtoiEnd s n er b) (hx : ev ρ x = er) (hy : ev ρ (.const y') = .nilIface) : Yield P w0 T ρ ⟨dst, .binOp .neq t x (.const y') yt, ty, pos, af, gd⟩ (.bool b) := fun w _ => by
  rcases h with ⟨rfl, rfl, _⟩ | ⟨⟨te, pe, rfl⟩, rfl, _⟩
  · have h9 := run_neq_nil_nil_at (P := P) w t ht
    simp [execOp, go_sem, hx, hy, h9]
  · have h9 := run_neq_iface_nil (P := P) w t ht te pe
    simp [execOp, go_sem, hx, hy, h9]
end
theorem var_below {P : Program} {B g : Nat} {w w' : World} {n : String} {cs : Array Value} (h : Below B w w') (hg : P.globalNamed n = some g) (hgB : g < B) (hv : w.var? P n = some cs) : w'.var? P n = some cs := by
  unfold World.var? at hv ⊢
  simp only [hg, Option.bind_some] at hv ⊢
  rw [h.block g hgB]
  exact hv
end Go.Cf
namespace Go.Proofs.YtllblbkbglifjaaDoor
open Go.RowKit Go.Cf
structure LaidP (w : World) : Prop where
  tab : Lib.TabIs Tryd.prog w "internal/strconv.uint64pow10" .u64 Lib.pow10Tab
  syn : ∃ te pe, w.cell? ⟨2, 0, none⟩ = some (.iface te pe)
  rng : ∃ te pe, w.cell? ⟨3, 0, none⟩ = some (.iface te pe)
  size : 4 ≤ w.heap.size
theorem LaidP.below {w w' : World} {B : Nat} (h : LaidP w) (hb : Below B w w') (hB : 4 ≤ B) : LaidP w' := by
  obtain ⟨te, pe, h1⟩ := h.syn
  obtain ⟨tr, pr, h2⟩ := h.rng
  refine ⟨?_, ⟨te, pe, ?_⟩, ⟨tr, pr, ?_⟩, Nat.le_trans h.size hb.size⟩
  · have hg : Tryd.prog.globalNamed "internal/strconv.uint64pow10" = some 1 := by kernel_rfl
    exact var_below hb hg (by omega) h.tab
  · rw [hb.cell (by show 2 < B; omega)]; exact h1
  · rw [hb.cell (by show 3 < B; omega)]; exact h2
theorem LaidP.base {w0 w : World} {T : List Reg} (h : LaidP w0) (hM : Mem w0 T w) : LaidP w := h.below hM.low h.size
theorem itoa_any (w : World) (n : Int) (h0 : -9223372036854775808 ≤ n) (h1 : n ≤ 9223372036854775807) (hL : LaidP w) : Calls Tryd.prog 40 #[.int .i64 n] w fun e w' => e = .returned (.string (baL (Lib.itoa n))) ∧ Below w.heap.size w w' :=
  (Tryd.strconv_Itoa n h0 h1 w hL.tab).mono fun _ _ ⟨h1, k, os, h2⟩ => ⟨h1, by rw [h2]; exact Lib.below_grow _ w (Nat.le_refl _) k os⟩
theorem itoaS_any (w : World) (n : Int) (h0 : 0 ≤ n) (h1 : n < 100) : Calls Tryd.prog 40 #[.int .i64 n] w fun e w' => e = .returned (.string (baL (Lib.decDigits n.toNat))) ∧ Below w.heap.size w w' := by
  have h := (Tryd.strconv_Itoa_small n.toNat (by omega) w).mono (R' := fun e w' => e = .returned (.string (baL (Lib.decDigits n.toNat))) ∧ Below w.heap.size w w') fun _ _ ⟨h1, h2⟩ => ⟨h1, by rw [h2]; exact Below.refl _ _⟩
  rw [show ((n.toNat : Nat) : Int) = n by omega] at h
  exact h
theorem atoi_any (w : World) (s : ByteArray) (hs : s.size ≤ 4000000) (hL : LaidP w) : Calls Tryd.prog 52 #[.string s] w fun e w' => ∃ n er b, e = .returned (.tuple #[.int .i64 n, er]) ∧ AtoiEnd s n er b ∧ Below w.heap.size w w' := by
  rcases h : Lib.atoiAll s.data.toList with v | _ | _
  ·
    refine (Tryd.strconv_Atoi_ok s (by omega) v h w).mono fun _ _ ⟨h1, h2⟩ => ⟨_, _, false, h1, .inl ⟨rfl, rfl, h⟩, ?_⟩
    rcases h2 with rfl | ⟨t, rfl⟩
    · exact Below.refl _ _
    · exact Lib.bytesWorld_below _ _ _
  ·
    obtain ⟨te, pe, hv⟩ := hL.syn
    exact (Tryd.strconv_Atoi_syntax s (by omega) h _ w hv (.inr ⟨te, pe, rfl⟩)).mono fun _ _ ⟨N, h1, _, _, h2⟩ => ⟨_, _, true, h1, .inr ⟨⟨_, _, rfl⟩, rfl, by rw [numV, h]⟩, h2⟩
  ·
    obtain ⟨te, pe, hv⟩ := hL.rng
    exact (Tryd.strconv_Atoi_range s (by omega) h _ w hv (.inr ⟨te, pe, rfl⟩)).mono fun _ _ ⟨N, h1, _, _, h2⟩ => ⟨_, _, true, h1, .inr ⟨⟨_, _, rfl⟩, rfl, by rw [numV, h]⟩, h2⟩
end Go.Proofs.YtllblbkbglifjaaDoor
namespace Go.Proofs.YtllblbkbglifjaaDoor
open Go.RowKit Go.Cf
set_option maxRecDepth 10000
set_option maxHeartbeats 1000000 in
theorem polLevel_any (w : World) (k : Int) : Calls Tryd.prog 39 #[.int .i64 k] w fun e w' => e = .returned (.int .i64 (lvK k : Nat)) ∧ Below w.heap.size w w' := by
  refine gcalls Tryd.func39 rfl Tryd.ntmps39 (Nat.le_of_ble_eq_true rfl) ?_
  refine gfrom [(0, .int _ _)] ⟨rfl, trivial⟩ fun σ => ?_
  refine gseq fun N1 hN1 => ?_
  refine greg ?_
  refine gop (y_assign (v := .int _ _) rfl) rfl rfl rfl ?_
  refine gops_nil ?_
  refine hN1 _ _ ?_
  refine gfrom [(0, .int _ _)] ⟨rfl, trivial⟩ fun σ => ?_
  refine gseq fun N2 hN2 => ?_
  refine gseq fun N3 hN3 => ?_
  refine greg ?_
  refine gop (y_move (v := .int _ _) rfl) rfl rfl rfl ?_
  refine gops_nil ?_
  refine hN3 _ _ ?_
  refine gfrom [(3, .int _ _)] ⟨rfl, trivial⟩ fun σ => ?_
  refine gblock ?_
  refine gseq fun N4 hN4 => ?_
  refine greg ?_
  refine gop (y_eql rfl rfl) rfl rfl rfl ?_
  refine gop (y_assign (v := .bool _) rfl) rfl rfl rfl ?_
  refine gops_nil ?_
  refine hN4 _ _ ?_
  refine gfrom [(3, .int _ _), (4, .bool _)] ⟨rfl, rfl, trivial⟩ fun σ => ?_
  refine gcond (b := _) rfl (fun hc4 => ?_) (fun hc4 => ?_)
  · 
    replace hc4 := of_decide_eq_true hc4
    refine gseq fun N5 hN5 => ?_
    refine greg ?_
    refine gop (y_assign (v := .int _ _) rfl) rfl rfl rfl ?_
    refine gops_nil ?_
    refine hN5 _ _ ?_
    refine gfrom [(2, .int _ _)] ⟨rfl, trivial⟩ fun σ => ?_
    refine gret fun w1 hM => ?_
    refine ⟨_, res1 rfl (rt (v := .int _ _) rfl), ?_⟩
    exact ⟨by unfold lvK; first | (rw [if_pos (by omega)]; rfl) | (rw [if_neg (by omega), if_pos (by omega)]; rfl) | (rw [if_neg (by omega), if_neg (by omega)]; rfl), hM.low⟩
  · 
    replace hc4 := of_decide_eq_false hc4
    refine gseq fun N6 hN6 => ?_
    refine greg ?_
    refine gop (y_eql rfl rfl) rfl rfl rfl ?_
    refine gop (y_assign (v := .bool _) rfl) rfl rfl rfl ?_
    refine gops_nil ?_
    refine hN6 _ _ ?_
    refine gfrom [(6, .bool _)] ⟨rfl, trivial⟩ fun σ => ?_
    refine gcond (b := _) rfl (fun hc6 => ?_) (fun hc6 => ?_)
    · 
      replace hc6 := of_decide_eq_true hc6
      refine gseq fun N7 hN7 => ?_
      refine greg ?_
      refine gop (y_assign (v := .int _ _) rfl) rfl rfl rfl ?_
      refine gops_nil ?_
      refine hN7 _ _ ?_
      refine gfrom [(2, .int _ _)] ⟨rfl, trivial⟩ fun σ => ?_
      refine gret fun w1 hM => ?_
      refine ⟨_, res1 rfl (rt (v := .int _ _) rfl), ?_⟩
      exact ⟨by unfold lvK; first | (rw [if_pos (by omega)]; rfl) | (rw [if_neg (by omega), if_pos (by omega)]; rfl) | (rw [if_neg (by omega), if_neg (by omega)]; rfl), hM.low⟩
    · 
      replace hc6 := of_decide_eq_false hc6
      refine gskip ?_
      refine hN2 _ _ ?_
      refine gfrom [] trivial fun σ => ?_
      refine gseq fun N8 hN8 => ?_
      refine greg ?_
      refine gop (y_assign (v := .int _ _) rfl) rfl rfl rfl ?_
      refine gops_nil ?_
      refine hN8 _ _ ?_
      refine gfrom [(2, .int _ _)] ⟨rfl, trivial⟩ fun σ => ?_
      refine gret fun w1 hM => ?_
      refine ⟨_, res1 rfl (rt (v := .int _ _) rfl), ?_⟩
      exact ⟨by unfold lvK; first | (rw [if_pos (by omega)]; rfl) | (rw [if_neg (by omega), if_pos (by omega)]; rfl) | (rw [if_neg (by omega), if_neg (by omega)]; rfl), hM.low⟩
end Go.Proofs.YtllblbkbglifjaaDoor
namespace Go.Proofs.YtllblbkbglifjaaDoor
open Go.RowKit Go.Cf
set_option maxRecDepth 10000
set_option maxHeartbeats 8000000 in
theorem polShow_any (A : Option Addr) (c : Nat) (l : List PN) (hlc : l.length ≤ c) (hcm : c ≤ maxLen) (hln : l.length ≤ 1000) (z : Nat) : ∀ (t : Tr) (v : Nat) (vi i : Int) (m : Nat) (w : World), v ≤ 2 → vi = (v : Int) → t.size = z → i = (m : Int) → Rdl w 0 4 pnCells A l → t.ok → At l m t →
    Calls Tryd.prog 24 #[.agg #[.slice A l.length c], .int .i64 i, .int .i64 vi] w fun e w' => e = .returned (.string (baL (showB t v))) ∧ Below w.heap.size w w' := by
  have hlm : l.length ≤ 9223372036854775807 := by have h9 := Nat.le_trans hlc hcm; unfold maxLen at h9; omega
  refine Nat.strongRecOn z ?_
  intro z ih t v vi i m w hv hvi hz hi hl hok hat
  have hm1 := hat.lt
  obtain ⟨ad, rfl, -, hca⟩ := hl.at_ hm1
  obtain ⟨hsm, hbg⟩ := tree_at hok hat hm1
  have hsz := hat.size_le
  have hps := t.pos
  have hSP := show_par hok hv
  have hkt := kind_at hat hm1
  rw [← hkt] at hSP
  have hlen := showB_len t 0 hok
  have hsz2 := hat.size_le
  refine gcalls Tryd.func24 rfl Tryd.ntmps24 (Nat.le_of_ble_eq_true rfl) ?_
  refine gfrom [(0, .agg #[_]), (1, .int _ _), (2, .int _ _)] ⟨rfl, rfl, rfl, trivial⟩ fun σ => ?_
  refine gseq fun N1 hN1 => ?_
  refine greg ?_
  refine gop_box (v := .agg #[_]) (cs := #[_]) rfl rfl rfl (fun b3 hb3 => ?_)
  refine gop (y_assign (v := .string _) rfl) rfl rfl rfl ?_
  refine gops_nil ?_
  refine hN1 _ _ ?_
  refine gT [box b3 _] rfl ?_
  refine gfrom [(1, .int _ _), (2, .int _ _), (3, .pointer _)] ⟨rfl, rfl, rfl, trivial⟩ fun σ => ?_
  refine gseq fun N2 hN2 => ?_
  refine greg ?_
  refine gop (y_fieldAddr_box fa24_0 rfl) rfl rfl rfl ?_
  refine gop (y_load Tryd.isAgg22 rfl (cell_box 0 rfl rfl)) rfl rfl rfl ?_
  refine gop (y_move (v := .int _ _) rfl) rfl rfl rfl ?_
  refine gop (y_indexAddr (m := m) Tryd.underlying22 Tryd.sizeOf47 rfl rfl (by omega) (by omega) (by omega)) rfl rfl rfl ?_
  refine gop (y_loads (cs := [_, _, _, _]) Tryd.isAgg47 Tryd.sizeOf47 rfl rfl (cells_base hca)) rfl rfl rfl ?_
  refine gop_alloc (cs := #[.int .i64 0, .int .i64 0, .int .i64 0, .int .i64 0]) Tryd.zeroValue47 rfl rfl (fun b7 hb7 => ?_)
  refine gop_store 1 (v := .agg #[_, _, _, _]) (cs' := #[_, _, _, _]) rfl rfl Tryd.sizeOf47 rfl rfl rfl rfl (Nat.le_of_ble_eq_true rfl) rfl rfl ?_
  refine gops_nil ?_
  refine hN2 _ _ ?_
  refine gT [box b3 _, box b7 _] rfl ?_
  refine gfrom [(2, .int _ _), (3, .pointer _), (7, .pointer _)] ⟨rfl, rfl, rfl, trivial⟩ fun σ => ?_
  refine gseq fun N3 hN3 => ?_
  refine greg ?_
  refine gop (y_fieldAddr_box fa47_0 rfl) rfl rfl rfl ?_
  refine gop (y_load Tryd.isAgg3 rfl (cell_box 1 rfl rfl)) rfl rfl rfl ?_
  refine gop_pure (e_call (vs := [.int _ _]) Tryd.func39 rfl (by kernel_rfl) rfl) (fun w hM => polLevel_any w _) rfl rfl rfl ?_
  refine gop (y_assign (v := .int _ _) rfl) rfl rfl rfl ?_
  refine gops_nil ?_
  refine hN3 _ _ ?_
  refine gfrom [(2, .int _ _), (3, .pointer _), (7, .pointer _), (8, .int _ _)] ⟨rfl, rfl, rfl, rfl, trivial⟩ fun σ => ?_
  refine gseq fun N4 hN4 => ?_
  refine greg ?_
  refine gop (y_assign (v := .string _) rfl) rfl rfl rfl ?_
  refine gops_nil ?_
  refine hN4 _ _ ?_
  refine gfrom [(2, .int _ _), (3, .pointer _), (7, .pointer _), (8, .int _ _)] ⟨rfl, rfl, rfl, rfl, trivial⟩ fun σ => ?_
  refine gseq fun N5 hN5 => ?_
  refine gfrom [(2, .int _ _), (3, .pointer _), (7, .pointer _), (8, .int _ _)] ⟨rfl, rfl, rfl, rfl, trivial⟩ fun σ => ?_
  refine gcut3 (Lf := [(2, .int _ _), (8, .int _ _)]) (G := Unit) (fun g => True) (fun g => [(9, .string (baL (showB t 0)))]) (fun g => []) ⟨rfl, rfl, trivial⟩ ?_ ?_
  ·
    refine gseq fun N6 hN6 => ?_
    refine greg ?_
    refine gop (y_fieldAddr_box fa47_0 rfl) rfl rfl rfl ?_
    refine gop (y_load Tryd.isAgg3 rfl (cell_box 1 rfl rfl)) rfl rfl rfl ?_
    refine gops_nil ?_
    refine hN6 _ _ ?_
    refine gfrom [(2, .int _ _), (3, .pointer _), (7, .pointer _), (8, .int _ _), (19, .int _ _)] ⟨rfl, rfl, rfl, rfl, rfl, trivial⟩ fun σ => ?_
    refine gblock ?_
    refine gseq fun N7 hN7 => ?_
    refine greg ?_
    refine gop (y_eql rfl rfl) rfl rfl rfl ?_
    refine gop (y_assign (v := .bool _) rfl) rfl rfl rfl ?_
    refine gops_nil ?_
    refine hN7 _ _ ?_
    refine gfrom [(2, .int _ _), (3, .pointer _), (7, .pointer _), (8, .int _ _), (19, .int _ _), (33, .bool _)] ⟨rfl, rfl, rfl, rfl, rfl, rfl, trivial⟩ fun σ => ?_
    refine gcond (b := _) rfl (fun hc33 => ?_) (fun hc33 => ?_)
    · 
      replace hc33 := of_decide_eq_true hc33
      obtain ⟨-, -, htl, hk1, hn0, hn1⟩ := hsm (by omega)
      have hmn := mostN_le l[m].kind
      have hdl : (Lib.decDigits l[m].number.toNat).length = 1 := by rw [dig_one hn0 (by omega)]; rfl
      have h0 : showB t 0 = tScore ++ Lib.decDigits l[m].number.toNat := by rw [htl, showB, if_pos hc33]
      refine greg ?_
      refine gop (y_fieldAddr_box fa47_1 rfl) rfl rfl rfl ?_
      refine gop (y_load Tryd.isAgg3 rfl (cell_box 1 rfl rfl)) rfl rfl rfl ?_
      refine gop_pure (e_call (vs := [.int _ _]) Tryd.func40 rfl (by kernel_rfl) rfl) (fun w hM => itoaS_any w l[m].number (by omega) (by omega)) rfl rfl rfl ?_
      refine gop (y_cat rfl rfl (by rw [baL_size]; show 6 + _ ≤ _; omega)) rfl rfl rfl ?_
      refine gop (y_assign (v := .string _) rfl) rfl rfl rfl ?_
      refine gops_nil ?_
      refine gcut3_end (()) (trivial) ⟨(congrArg Value.string (by rw [h0]; first | rfl | exact baL_app _ _ | (rw [← baL_app, ← baL_app]; rfl))), trivial⟩ ⟨rfl, rfl, trivial⟩ ⟨_, rfl⟩
    · 
      replace hc33 := of_decide_eq_false hc33
      refine gseq fun N8 hN8 => ?_
      refine greg ?_
      refine gop (y_eql rfl rfl) rfl rfl rfl ?_
      refine gop (y_assign (v := .bool _) rfl) rfl rfl rfl ?_
      refine gops_nil ?_
      refine hN8 _ _ ?_
      refine gfrom [(2, .int _ _), (3, .pointer _), (7, .pointer _), (8, .int _ _), (19, .int _ _), (39, .bool _)] ⟨rfl, rfl, rfl, rfl, rfl, rfl, trivial⟩ fun σ => ?_
      refine gcond (b := _) rfl (fun hc39 => ?_) (fun hc39 => ?_)
      · 
        replace hc39 := of_decide_eq_true hc39
        obtain ⟨-, -, htl, hk1, hn0, hn1⟩ := hsm (by omega)
        have hmn := mostN_le l[m].kind
        have hdl : (Lib.decDigits l[m].number.toNat).length = 1 := by rw [dig_one hn0 (by omega)]; rfl
        have h0 : showB t 0 = tUser ++ Lib.decDigits l[m].number.toNat := by rw [htl, showB, if_neg (by omega), if_pos hc39]
        refine greg ?_
        refine gop (y_fieldAddr_box fa47_1 rfl) rfl rfl rfl ?_
        refine gop (y_load Tryd.isAgg3 rfl (cell_box 1 rfl rfl)) rfl rfl rfl ?_
        refine gop_pure (e_call (vs := [.int _ _]) Tryd.func40 rfl (by kernel_rfl) rfl) (fun w hM => itoaS_any w l[m].number (by omega) (by omega)) rfl rfl rfl ?_
        refine gop (y_cat rfl rfl (by rw [baL_size]; show 5 + _ ≤ _; omega)) rfl rfl rfl ?_
        refine gop (y_assign (v := .string _) rfl) rfl rfl rfl ?_
        refine gops_nil ?_
        refine gcut3_end (()) (trivial) ⟨(congrArg Value.string (by rw [h0]; first | rfl | exact baL_app _ _ | (rw [← baL_app, ← baL_app]; rfl))), trivial⟩ ⟨rfl, rfl, trivial⟩ ⟨_, rfl⟩
      · 
        replace hc39 := of_decide_eq_false hc39
        refine gseq fun N9 hN9 => ?_
        refine greg ?_
        refine gop (y_eql rfl rfl) rfl rfl rfl ?_
        refine gop (y_assign (v := .bool _) rfl) rfl rfl rfl ?_
        refine gops_nil ?_
        refine hN9 _ _ ?_
        refine gfrom [(2, .int _ _), (3, .pointer _), (7, .pointer _), (8, .int _ _), (19, .int _ _), (45, .bool _)] ⟨rfl, rfl, rfl, rfl, rfl, rfl, trivial⟩ fun σ => ?_
        refine gcond (b := _) rfl (fun hc45 => ?_) (fun hc45 => ?_)
        · 
          replace hc45 := of_decide_eq_true hc45
          obtain ⟨-, -, htl, hk1, hn0, hn1⟩ := hsm (by omega)
          have hmn := mostN_le l[m].kind
          have hdl : (Lib.decDigits l[m].number.toNat).length = 1 := by rw [dig_one hn0 (by omega)]; rfl
          have h0 : showB t 0 = tOwners := by rw [htl, showB, if_neg (by omega), if_neg (by omega), if_pos hc45]
          refine greg ?_
          refine gop (y_assign (v := .string _) rfl) rfl rfl rfl ?_
          refine gops_nil ?_
          refine gcut3_end (()) (trivial) ⟨(congrArg Value.string (by rw [h0]; first | rfl | exact baL_app _ _ | (rw [← baL_app, ← baL_app]; rfl))), trivial⟩ ⟨rfl, rfl, trivial⟩ ⟨_, rfl⟩
        · 
          replace hc45 := of_decide_eq_false hc45
          refine gseq fun N10 hN10 => ?_
          refine greg ?_
          refine gop (y_eql rfl rfl) rfl rfl rfl ?_
          refine gop (y_assign (v := .bool _) rfl) rfl rfl rfl ?_
          refine gops_nil ?_
          refine hN10 _ _ ?_
          refine gfrom [(2, .int _ _), (3, .pointer _), (7, .pointer _), (8, .int _ _), (19, .int _ _), (47, .bool _)] ⟨rfl, rfl, rfl, rfl, rfl, rfl, trivial⟩ fun σ => ?_
          refine gcond (b := _) rfl (fun hc47 => ?_) (fun hc47 => ?_)
          · 
            replace hc47 := of_decide_eq_true hc47
            obtain ⟨-, -, htl, hk1, hn0, hn1⟩ := hsm (by omega)
            have hmn := mostN_le l[m].kind
            have hdl : (Lib.decDigits l[m].number.toNat).length = 1 := by rw [dig_one hn0 (by omega)]; rfl
            have h0 : showB t 0 = tTests := by rw [htl, showB, if_neg (by omega), if_neg (by omega), if_neg (by omega)]
            refine greg ?_
            refine gop (y_assign (v := .string _) rfl) rfl rfl rfl ?_
            refine gops_nil ?_
            refine gcut3_end (()) (trivial) ⟨(congrArg Value.string (by rw [h0]; first | rfl | exact baL_app _ _ | (rw [← baL_app, ← baL_app]; rfl))), trivial⟩ ⟨rfl, rfl, trivial⟩ ⟨_, rfl⟩
          · 
            replace hc47 := of_decide_eq_false hc47
            have hnk : ¬ l[m].kind < 5 := fun h => by have h9 := (hsm h).2.2.2.1; omega
            obtain ⟨hi1, hk7, d, q, hdo, hdt, hdl, hds, hdq, h5, h67⟩ := tree_big hok hat hm1 hnk
            have hdp := depth_pos d
            have hdz := hdt.size_le
            have hl0 := showB_len d 0 hdo
            have hl1 := showB_len d 1 hdo
            have hl2 := showB_len d 2 hdo
            refine gseq fun N11 hN11 => ?_
            refine greg ?_
            refine gop (y_eql rfl rfl) rfl rfl rfl ?_
            refine gop (y_assign (v := .bool _) rfl) rfl rfl rfl ?_
            refine gops_nil ?_
            refine hN11 _ _ ?_
            refine gfrom [(2, .int _ _), (3, .pointer _), (7, .pointer _), (8, .int _ _), (19, .int _ _), (49, .bool _)] ⟨rfl, rfl, rfl, rfl, rfl, rfl, trivial⟩ fun σ => ?_
            refine gcond (b := _) rfl (fun hc49 => ?_) (fun hc49 => ?_)
            · 
              replace hc49 := of_decide_eq_true hc49
              have h0 : showB t 0 = tNot ++ showB d 2 := by rw [h5 hc49, showB]
              refine greg ?_
              refine gop (y_loads (cs := [_]) Tryd.isAgg24 Tryd.sizeOf24 rfl rfl (cells_box 0 rfl)) rfl rfl rfl ?_
              refine gop (y_fieldAddr_box fa47_2 rfl) rfl rfl rfl ?_
              refine gop (y_load Tryd.isAgg3 rfl (cell_box 1 rfl rfl)) rfl rfl rfl ?_
              refine gop_pure (e_call (vs := [.agg #[_], .int _ _, _]) Tryd.func24 rfl (by kernel_rfl) rfl) (fun w hM => ih d.size (by omega) d 2 _ _ q w (by omega) rfl rfl hdl (hl.base hM) hdo hdt) rfl rfl rfl ?_
              refine gop (y_cat rfl rfl (by rw [baL_size]; show 4 + _ ≤ _; omega)) rfl rfl rfl ?_
              refine gop (y_assign (v := .string _) rfl) rfl rfl rfl ?_
              refine gops_nil ?_
              refine gcut3_end (()) (trivial) ⟨(congrArg Value.string (by rw [h0]; first | rfl | exact baL_app _ _ | (rw [← baL_app, ← baL_app]; rfl))), trivial⟩ ⟨rfl, rfl, trivial⟩ ⟨_, rfl⟩
            · 
              replace hc49 := of_decide_eq_false hc49
              obtain ⟨b, hbo, hbt, hbs, hbr, he⟩ := h67 (by omega)
              have hbl1 := showB_len b 1 hbo
              have hbl2 := showB_len b 2 hbo
              have hbz := hbt.size_le
              refine gseq fun N12 hN12 => ?_
              refine greg ?_
              refine gop (y_eql rfl rfl) rfl rfl rfl ?_
              refine gop (y_assign (v := .bool _) rfl) rfl rfl rfl ?_
              refine gops_nil ?_
              refine hN12 _ _ ?_
              refine gfrom [(2, .int _ _), (3, .pointer _), (7, .pointer _), (8, .int _ _), (56, .bool _)] ⟨rfl, rfl, rfl, rfl, rfl, trivial⟩ fun σ => ?_
              refine gcond (b := _) rfl (fun hc56 => ?_) (fun hc56 => ?_)
              · 
                replace hc56 := of_decide_eq_true hc56
                have h0 : showB t 0 = showB d 1 ++ tAnd ++ showB b 2 := by rw [he, hc56, show_and]
                have hlv : lvK l[m].kind = 1 := by rw [hc56]; rfl
                refine greg_q (by kernel_rfl) (by kernel_rfl) ?_
                refine gq (y_loads (cs := [_]) Tryd.isAgg24 Tryd.sizeOf24 rfl rfl (cells_box 0 rfl)) rfl rfl rfl ?_
                refine gq (y_fieldAddr_box fa47_2 rfl) rfl rfl rfl ?_
                refine gq (y_load Tryd.isAgg3 rfl (cell_box 1 rfl rfl)) rfl rfl rfl ?_
                refine gq (y_move (v := .int _ _) rfl) rfl rfl rfl ?_
                refine gq_pure (e_call (vs := [.agg #[_], .int _ _, .int _ _]) Tryd.func24 rfl (by kernel_rfl) rfl) (fun w hM => ih d.size (by omega) d 1 _ _ q w (by omega) (by omega) rfl hdl (hl.base hM) hdo hdt) rfl rfl rfl ?_
                refine gq (y_cat rfl rfl (by rw [baL_size]; show _ + 5 ≤ _; omega)) rfl rfl rfl ?_
                refine gq (y_loads (cs := [_]) Tryd.isAgg24 Tryd.sizeOf24 rfl rfl (cells_box 0 rfl)) rfl rfl rfl ?_
                refine gq (y_fieldAddr_box fa47_3 rfl) rfl rfl rfl ?_
                refine gq (y_load Tryd.isAgg3 rfl (cell_box 1 rfl rfl)) rfl rfl rfl ?_
                refine gq (y_move (v := .int _ _) rfl) rfl rfl rfl ?_
                refine gq (y_add rfl rfl ⟨by omega, by omega⟩) rfl rfl rfl ?_
                refine gq_pure (e_call (vs := [.agg #[_], .int _ _, .int _ _]) Tryd.func24 rfl (by kernel_rfl) rfl) (fun w hM => ih b.size (by omega) b 2 _ _ (m - 1) w (by omega) (by omega) rfl hbr (hl.base hM) hbo hbt) rfl rfl rfl ?_
                refine gq (y_cat rfl rfl (by rw [ByteArray.size_append, baL_size, baL_size]; show _ + 5 + _ ≤ _; omega)) rfl rfl rfl ?_
                refine gq (y_assign (v := .string _) rfl) rfl rfl rfl ?_
                refine gqs_nil ?_
                refine gcut3_end (()) (trivial) ⟨(congrArg Value.string (by rw [h0]; first | rfl | exact baL_app _ _ | (rw [← baL_app, ← baL_app]; rfl))), trivial⟩ ⟨rfl, rfl, trivial⟩ ⟨_, rfl⟩
              · 
                replace hc56 := of_decide_eq_false hc56
                have h7k : l[m].kind = 7 := by omega
                have h0 : showB t 0 = showB d 0 ++ tOr ++ showB b 1 := by rw [he, h7k, show_or]
                have hlv : lvK l[m].kind = 0 := by rw [h7k]; rfl
                refine greg_q (by kernel_rfl) (by kernel_rfl) ?_
                refine gq (y_loads (cs := [_]) Tryd.isAgg24 Tryd.sizeOf24 rfl rfl (cells_box 0 rfl)) rfl rfl rfl ?_
                refine gq (y_fieldAddr_box fa47_2 rfl) rfl rfl rfl ?_
                refine gq (y_load Tryd.isAgg3 rfl (cell_box 1 rfl rfl)) rfl rfl rfl ?_
                refine gq (y_move (v := .int _ _) rfl) rfl rfl rfl ?_
                refine gq_pure (e_call (vs := [.agg #[_], .int _ _, .int _ _]) Tryd.func24 rfl (by kernel_rfl) rfl) (fun w hM => ih d.size (by omega) d 0 _ _ q w (by omega) (by omega) rfl hdl (hl.base hM) hdo hdt) rfl rfl rfl ?_
                refine gq (y_cat rfl rfl (by rw [baL_size]; show _ + 4 ≤ _; omega)) rfl rfl rfl ?_
                refine gq (y_loads (cs := [_]) Tryd.isAgg24 Tryd.sizeOf24 rfl rfl (cells_box 0 rfl)) rfl rfl rfl ?_
                refine gq (y_fieldAddr_box fa47_3 rfl) rfl rfl rfl ?_
                refine gq (y_load Tryd.isAgg3 rfl (cell_box 1 rfl rfl)) rfl rfl rfl ?_
                refine gq (y_move (v := .int _ _) rfl) rfl rfl rfl ?_
                refine gq (y_add rfl rfl ⟨by omega, by omega⟩) rfl rfl rfl ?_
                refine gq_pure (e_call (vs := [.agg #[_], .int _ _, .int _ _]) Tryd.func24 rfl (by kernel_rfl) rfl) (fun w hM => ih b.size (by omega) b 1 _ _ (m - 1) w (by omega) (by omega) rfl hbr (hl.base hM) hbo hbt) rfl rfl rfl ?_
                refine gq (y_cat rfl rfl (by rw [ByteArray.size_append, baL_size, baL_size]; show _ + 4 + _ ≤ _; omega)) rfl rfl rfl ?_
                refine gq (y_assign (v := .string _) rfl) rfl rfl rfl ?_
                refine gqs_nil ?_
                refine gcut3_end (()) (trivial) ⟨(congrArg Value.string (by rw [h0]; first | rfl | exact baL_app _ _ | (rw [← baL_app, ← baL_app]; rfl))), trivial⟩ ⟨rfl, rfl, trivial⟩ ⟨_, rfl⟩
  ·
    intro g hcut σ
    refine hN5 _ _ ?_
    refine gseq fun N13 hN13 => ?_
    refine gseq fun N14 hN14 => ?_
    refine greg ?_
    refine gop (y_move (v := .int _ _) rfl) rfl rfl rfl ?_
    refine gop (y_move (v := .int _ _) rfl) rfl rfl rfl ?_
    refine gop (y_lss rfl rfl) rfl rfl rfl ?_
    refine gops_nil ?_
    refine hN14 _ _ ?_
    refine gT [box b3 _, box b7 _] rfl ?_
    refine gfrom [(9, .string _), (73, .bool _)] ⟨rfl, rfl, trivial⟩ fun σ => ?_
    refine gcond (b := _) rfl (fun hc73 => ?_) (fun hc73 => ?_)
    · 
      replace hc73 := of_decide_eq_true hc73
      refine gseq fun N15 hN15 => ?_
      refine greg ?_
      refine gop (y_move (v := .string _) rfl) rfl rfl rfl ?_
      refine gop (y_cat rfl rfl (by rw [baL_size]; show 1 + _ ≤ _; omega)) rfl rfl rfl ?_
      refine gop (y_cat rfl rfl (by rw [ByteArray.size_append, baL_size]; show 1 + _ + 1 ≤ _; omega)) rfl rfl rfl ?_
      refine gop (y_assign (v := .string _) rfl) rfl rfl rfl ?_
      refine gops_nil ?_
      refine hN15 _ _ ?_
      refine gfrom [(6, .string _)] ⟨rfl, trivial⟩ fun σ => ?_
      refine gret fun w1 hM => ?_
      refine ⟨_, res1 rfl (rt (v := .string _) rfl), ?_⟩
      exact ⟨by rw [hSP]; first | (rw [par_yes (by omega)]; done) | (rw [par_no (by omega)]; done), hM.low⟩
    · 
      replace hc73 := of_decide_eq_false hc73
      refine gskip ?_
      refine hN13 _ _ ?_
      refine gfrom [(9, .string _)] ⟨rfl, trivial⟩ fun σ => ?_
      refine gseq fun N16 hN16 => ?_
      refine greg ?_
      refine gop (y_move (v := .string _) rfl) rfl rfl rfl ?_
      refine gop (y_assign (v := .string _) rfl) rfl rfl rfl ?_
      refine gops_nil ?_
      refine hN16 _ _ ?_
      refine gfrom [(6, .string _)] ⟨rfl, trivial⟩ fun σ => ?_
      refine gret fun w1 hM => ?_
      refine ⟨_, res1 rfl (rt (v := .string _) rfl), ?_⟩
      exact ⟨by rw [hSP]; first | (rw [par_yes (by omega)]; done) | (rw [par_no (by omega)]; done), hM.low⟩
end Go.Proofs.YtllblbkbglifjaaDoor
