/- Own frame, plain models and walks, part 3 (texts of this claim put together). -/
import Derived.Test.YtbkameioedmlkaaGreatDoorP16b
import Derived.Ground.Names2Prog
import Derived.Ground.Names8Prog
import Derived.Ground.SlgnProg
import Derived.Lib.RowBridge
import Derived.Shelf.LaysC
import Derived.Shelf.LaysM
import Derived.Shelf.SlGeneric
import Derived.Shelf.Slices.Cells
import Derived.Shelf.Slices.Clone
import Derived.Shelf.Slices.CompactS
import Derived.Shelf.Slices.In.SortNone
import Derived.Shelf.SlicesE.Clone
import Derived.Shelf.Small.Bits
import Derived.Shelf.Small.Strs
import Derived.Shelf.Sort.Plain
import Derived.Shelf.Spec.SlicesGrow
import Derived.Shelf.Strconv.Atoi
import Derived.Shelf.Strconv.AtoiAll
import Derived.Shelf.Strconv.AtoiErrFast
import Derived.Shelf.Strconv.AtoiFail
import Derived.Shelf.Strconv.AtoiInnerAll
import Derived.Shelf.Strconv.AtoiLong
import Derived.Shelf.Strconv.Clone
import Derived.Shelf.Strconv.ErrVarAll
import Derived.Shelf.Strconv.Itoa0
import Derived.Shelf.Strconv.Itoa1
import Derived.Shelf.Strconv.Itoa2
import Derived.Shelf.Strconv.Itoa3
import Derived.Shelf.Strconv.Lower
import Derived.Shelf.Strconv.ParseInt10
import Derived.Shelf.Strconv.ParseIntEmpty
import Derived.Shelf.Strconv.ParseUint10
import Derived.Shelf.Strconv.ParseUint10Any
import Derived.Shelf.Strconv.ParseUint10Empty
import Derived.Shelf.Strconv.RangeError
import Derived.Shelf.Strconv.SyntaxError
import Derived.Shelf.Strconv.ToError
import Derived.Shelf.Strconv.ToErrorRange
import Derived.Shelf.Strings.Count
import Derived.Shelf.Strings.Explode
import Derived.Shelf.Strings.Prefix
import Derived.Shelf.Strings.RuneCount
import Derived.Shelf.Strings.Search1
import Derived.Shelf.Strings.Search2
import Derived.Shelf.Strings.Search3
import Derived.Shelf.Strings.Shaped
import Derived.Shelf.Strings.Split
import Derived.Shelf.Strings.SplitShaped
import Derived.Shelf.Unicode.Decode
import Derived.Shelf.Unicode.DecodeAny
import Derived.Shelf.Unicode.DecodeSlow
import Derived.Shelf.Utf8.RuneCount
import Derived.Sort.OwnSorted
import Derived.Test.YtbkameioedmlkaaGreatDoorProg
import Derived.Test.YtbkameioedmlkaaGreatDoorRows
namespace Go.Proofs.YtbkameioedmlkaaGreatDoor
open Go.RowKit Go.Cf
set_option maxRecDepth 10000
theorem bd185_0_1 (x1 : Int) (x2 : Int) : Tryz.prog.built 185 [(0, .int .i64 x1), (1, .int .i64 x2)] = some #[.int .i64 x1, .int .i64 x2] := by kernel_rfl
set_option maxHeartbeats 2000000 in
theorem dMul_any (w : World) (a b : Int) (h0 : 0 ≤ a) (h1 : a < dMod) (h2 : 0 ≤ b) (h3 : b < 9223372036854775808) : Calls Tryz.prog 139 #[.int .i64 a, .int .i64 b] w fun e w' => e = .returned (.int .i64 (mulD a b)) ∧ Below w.heap.size w w' := by
  have hdm : dMod = 2305843009213693951 := rfl
  refine gcalls Tryz.func139 rfl Tryz.ntmps139 (Nat.le_of_ble_eq_true rfl) ?_
  refine gfrom [(0, .int _ _), (1, .int _ _)] ⟨rfl, rfl, trivial⟩ fun σ => ?_
  refine gseq fun N1 hN1 => ?_
  refine greg ?_
  refine gop (y_assign (v := .int _ _) rfl) rfl rfl rfl ?_
  refine gops_nil ?_
  refine hN1 _ _ ?_
  refine gfrom [(0, .int _ _), (1, .int _ _)] ⟨rfl, rfl, trivial⟩ fun σ => ?_
  refine gseq fun N2 hN2 => ?_
  refine greg ?_
  refine gop (y_assign (v := .int _ _) rfl) rfl rfl rfl ?_
  refine gops_nil ?_
  refine hN2 _ _ ?_
  refine gfrom [(0, .int _ _), (1, .int _ _), (5, .int _ _)] ⟨rfl, rfl, rfl, trivial⟩ fun σ => ?_
  refine gseq fun N3 hN3 => ?_
  refine gblock ?_
  refine gfrom2 [(0, .int _ _), (1, .int _ _), (5, .int _ _)] [] ⟨rfl, rfl, rfl, trivial⟩ trivial fun σ => ?_
  refine gloop2 (G := Nat × Int × Int × Int) (fun (n, o, x, y) => MulI n o x y ∧ mulN n o x y = mulD a b) (fun (n, o, x, y) => n) (fun (n, o, x, y) => [(0, .int .i64 x), (1, .int .i64 y), (5, .int .i64 o)]) (fun (n, o, x, y) => []) ((63, 0, a, b)) ?h0 ⟨rfl, rfl, rfl, trivial⟩ trivial rfl ?round
  case h0 => exact ⟨mulI_start h0 h1 h2 h3, rfl⟩
  case round =>
    rintro ⟨n, o, x, y⟩ hφ σ
    obtain ⟨hI, hr⟩ : MulI n o x y ∧ mulN n o x y = mulD a b := hφ
    refine gseq fun N4 hN4 => ?_
    refine gseq fun N5 hN5 => ?_
    refine greg ?_
    refine gop (y_move (v := .int _ _) rfl) rfl rfl rfl ?_
    refine gop (y_gtr rfl rfl) rfl rfl rfl ?_
    refine gops_nil ?_
    refine hN5 _ _ ?_
    refine gfrom [(0, .int _ _), (1, .int _ _), (5, .int _ _), (7, .bool _)] ⟨rfl, rfl, rfl, rfl, trivial⟩ fun σ => ?_
    refine gcond (b := _) rfl (fun hc7 => ?_) (fun hc7 => ?_)
    · 
      replace hc7 := of_decide_eq_true hc7
      have hN := hI.next hc7
      have hE := mulN_next hI hc7
      have hn := hI.pos hc7
      have ho0 := hI.o0
      have ho1 := hI.o1
      have ha0 := hI.a0
      have ha1 := hI.a1
      refine gskip ?_
      refine hN4 _ _ ?_
      refine gfrom [(0, .int _ _), (1, .int _ _), (5, .int _ _)] ⟨rfl, rfl, rfl, trivial⟩ fun σ => ?_
      refine gseq fun N6 hN6 => ?_
      refine gblock ?_
      refine gseq fun N7 hN7 => ?_
      refine gseq fun N8 hN8 => ?_
      refine greg ?_
      refine gop (y_move (v := .int _ _) rfl) rfl rfl rfl ?_
      refine gop (y_and1 rfl rfl) rfl rfl rfl ?_
      refine gop (y_eql rfl rfl) rfl rfl rfl ?_
      refine gops_nil ?_
      refine hN8 _ _ ?_
      refine gfrom [(0, .int _ _), (1, .int _ _), (5, .int _ _), (12, .bool _)] ⟨rfl, rfl, rfl, rfl, trivial⟩ fun σ => ?_
      refine gcond (b := _) rfl (fun hc12 => ?_) (fun hc12 => ?_)
      · 
        replace hc12 := of_decide_eq_true hc12
        refine greg ?_
        refine gop (y_move (v := .int _ _) rfl) rfl rfl rfl ?_
        refine gop (y_move (v := .int _ _) rfl) rfl rfl rfl ?_
        refine gop (y_add rfl rfl ⟨by omega, by omega⟩) rfl rfl rfl ?_
        refine gop (y_rem rfl rfl (by omega) (by decide) (by decide)) rfl rfl rfl ?_
        refine gop (y_assign (v := .int _ _) rfl) rfl rfl rfl ?_
        refine gops_nil ?_
        refine hN7 _ _ ?_
        refine gfrom [(0, .int _ _), (1, .int _ _), (5, .int _ _)] ⟨rfl, rfl, rfl, trivial⟩ fun σ => ?_
        refine greg ?_
        refine gop (y_move (v := .int _ _) rfl) rfl rfl rfl ?_
        refine gop (y_mul rfl rfl ⟨by omega, by omega⟩) rfl rfl rfl ?_
        refine gop (y_rem rfl rfl (by omega) (by decide) (by decide)) rfl rfl rfl ?_
        refine gop (y_assign (v := .int _ _) rfl) rfl rfl rfl ?_
        refine gops_nil ?_
        refine hN6 _ _ ?_
        refine gfrom [(0, .int _ _), (1, .int _ _), (5, .int _ _)] ⟨rfl, rfl, rfl, trivial⟩ fun σ => ?_
        refine greg ?_
        refine gop (y_move (v := .int _ _) rfl) rfl rfl rfl ?_
        refine gop (y_shr1 rfl rfl) rfl rfl rfl ?_
        refine gop (y_assign (v := .int _ _) rfl) rfl rfl rfl ?_
        refine gops_nil ?_
        refine gnext2 ((n - 1, (o + x) % dMod, 2 * x % dMod, y / 2)) (by show n - 1 < n; omega) (⟨by rw [if_pos hc12] at hN; exact hN, by rw [if_pos hc12] at hE; exact hE.trans hr⟩) ⟨rfl, rfl, rfl, trivial⟩ trivial ⟨_, rfl⟩
      · 
        replace hc12 := of_decide_eq_false hc12
        refine gskip ?_
        refine hN7 _ _ ?_
        refine gfrom [(0, .int _ _), (1, .int _ _), (5, .int _ _)] ⟨rfl, rfl, rfl, trivial⟩ fun σ => ?_
        refine greg ?_
        refine gop (y_move (v := .int _ _) rfl) rfl rfl rfl ?_
        refine gop (y_mul rfl rfl ⟨by omega, by omega⟩) rfl rfl rfl ?_
        refine gop (y_rem rfl rfl (by omega) (by decide) (by decide)) rfl rfl rfl ?_
        refine gop (y_assign (v := .int _ _) rfl) rfl rfl rfl ?_
        refine gops_nil ?_
        refine hN6 _ _ ?_
        refine gfrom [(0, .int _ _), (1, .int _ _), (5, .int _ _)] ⟨rfl, rfl, rfl, trivial⟩ fun σ => ?_
        refine greg ?_
        refine gop (y_move (v := .int _ _) rfl) rfl rfl rfl ?_
        refine gop (y_shr1 rfl rfl) rfl rfl rfl ?_
        refine gop (y_assign (v := .int _ _) rfl) rfl rfl rfl ?_
        refine gops_nil ?_
        refine gnext2 ((n - 1, o, 2 * x % dMod, y / 2)) (by show n - 1 < n; omega) (⟨by rw [if_neg hc12] at hN; exact hN, by rw [if_neg hc12] at hE; exact hE.trans hr⟩) ⟨rfl, rfl, rfl, trivial⟩ trivial ⟨_, rfl⟩
    · 
      replace hc7 := of_decide_eq_false hc7
      refine gexit ?_
      refine hN3 _ _ ?_
      refine gfrom [(5, .int _ _)] ⟨rfl, trivial⟩ fun σ => ?_
      refine gseq fun N9 hN9 => ?_
      refine greg ?_
      refine gop (y_move (v := .int _ _) rfl) rfl rfl rfl ?_
      refine gop (y_assign (v := .int _ _) rfl) rfl rfl rfl ?_
      refine gops_nil ?_
      refine hN9 _ _ ?_
      refine gfrom [(4, .int _ _)] ⟨rfl, trivial⟩ fun σ => ?_
      refine gret fun w1 hM => ?_
      refine ⟨_, res1 rfl (rt (v := .int _ _) rfl), ?_⟩
      exact ⟨by rw [← hr, mulN_stop (by omega)], hM.low⟩
set_option maxHeartbeats 2000000 in
theorem dNext_any (w : World) (x y f : Int) (h0 : 0 ≤ x) (h1 : x < dMod) (h2 : 0 ≤ y) (h3 : y ≤ dMod) (h4 : 0 ≤ f) (h5 : f < 9223372036854775808) : Calls Tryz.prog 112 #[.agg #[.int .i64 x, .int .i64 y], .int .i64 f] w fun e w' => e = .returned (.int .i64 (nextD x y f)) ∧ Below w.heap.size w w' := by
  have hdm : dMod = 2305843009213693951 := rfl
  obtain ⟨hb0, hb1⟩ := mulD_bd h0 h1 h4 h5
  refine gcalls Tryz.func112 rfl Tryz.ntmps112 (Nat.le_of_ble_eq_true rfl) ?_
  refine gfrom [(0, .agg #[_, _]), (1, .int _ _)] ⟨rfl, rfl, trivial⟩ fun σ => ?_
  refine gseq fun N1 hN1 => ?_
  refine greg ?_
  refine gop_box (v := .agg #[_, _]) (cs := #[_, _]) rfl rfl rfl (fun b2 hb2 => ?_)
  refine gop (y_assign (v := .int _ _) rfl) rfl rfl rfl ?_
  refine gops_nil ?_
  refine hN1 _ _ ?_
  refine gT [box b2 _] rfl ?_
  refine gfrom [(1, .int _ _), (2, .pointer _)] ⟨rfl, rfl, trivial⟩ fun σ => ?_
  refine gseq fun N2 hN2 => ?_
  refine greg_q (by kernel_rfl) (by kernel_rfl) ?_
  refine gq (y_indexAddr_arr (m := 0) Tryz.underlying185 Tryz.sizeOf3 rfl rfl rfl (by omega) (by omega)) rfl rfl rfl ?_
  refine gq (y_load Tryz.isAgg3 rfl (cell_box 0 rfl rfl)) rfl rfl rfl ?_
  refine gq (y_move (v := .int _ _) rfl) rfl rfl rfl ?_
  refine gq_pure (e_call (vs := [.int _ _, .int _ _]) Tryz.func139 rfl (by kernel_rfl) rfl) (fun w hM => dMul_any w x f h0 h1 h4 h5) rfl rfl rfl ?_
  refine gq (y_indexAddr_arr (m := 1) Tryz.underlying185 Tryz.sizeOf3 rfl rfl rfl (by omega) (by omega)) rfl rfl rfl ?_
  refine gq (y_load Tryz.isAgg3 rfl (cell_box 0 rfl rfl)) rfl rfl rfl ?_
  refine gq (y_add rfl rfl ⟨by omega, by omega⟩) rfl rfl rfl ?_
  refine gq (y_rem rfl rfl (by omega) (by decide) (by decide)) rfl rfl rfl ?_
  refine gq (y_assign (v := .int _ _) rfl) rfl rfl rfl ?_
  refine gqs_nil ?_
  refine hN2 _ _ ?_
  refine gfrom [(4, .int _ _)] ⟨rfl, trivial⟩ fun σ => ?_
  refine gret fun w1 hM => ?_
  refine ⟨_, res1 rfl (rt (v := .int _ _) rfl), ?_⟩
  exact ⟨rfl, hM.low⟩
set_option maxHeartbeats 2000000 in
theorem dOf_any (w : World) (A : Option Addr) (c : Nat) (s : ByteArray) (hl : Rdl w 0 1 u8Cells A s.data.toList) (hs : s.size ≤ 4096) : Calls Tryz.prog 84 #[.slice A s.size c] w fun e w' => e = .returned (.tuple #[.int .i64 (ofD s), fv ⟨0, 0⟩]) ∧ Below w.heap.size w w' := by
  have hdm : dMod = 2305843009213693951 := rfl
  refine gcalls Tryz.func84 rfl Tryz.ntmps84 (Nat.le_of_ble_eq_true rfl) ?_
  refine gfrom [(0, .slice _ _ _)] ⟨rfl, trivial⟩ fun σ => ?_
  refine gseq fun N1 hN1 => ?_
  refine greg ?_
  refine gop (y_assign (v := .int _ _) rfl) rfl rfl rfl ?_
  refine gop_alloc (cs := #[.int .i64 0, .int .i64 0]) Tryz.zeroValue33 rfl rfl (fun b3 hb3 => ?_)
  refine gops_nil ?_
  refine hN1 _ _ ?_
  refine gT [box b3 _] rfl ?_
  refine gfrom [(0, .slice _ _ _), (3, .pointer _)] ⟨rfl, rfl, trivial⟩ fun σ => ?_
  refine gseq fun N2 hN2 => ?_
  refine gseq fun N3 hN3 => ?_
  refine greg ?_
  refine gop (y_move (v := .slice _ _ _) rfl) rfl rfl rfl ?_
  refine gop (y_len Tryz.underlying157 rfl) rfl rfl rfl ?_
  refine gop (y_gtr rfl rfl) rfl rfl rfl ?_
  refine gops_nil ?_
  refine hN3 _ _ ?_
  refine gfrom [(0, .slice _ _ _), (3, .pointer _), (9, .bool _)] ⟨rfl, rfl, rfl, trivial⟩ fun σ => ?_
  refine gcond (b := _) rfl (fun hc9 => ?_) (fun hc9 => ?_)
  · 
     exfalso; have h9 := of_decide_eq_true hc9; omega
  · 
    replace hc9 := of_decide_eq_false hc9
    refine gskip ?_
    refine hN2 _ _ ?_
    refine gfrom [(0, .slice _ _ _), (3, .pointer _)] ⟨rfl, rfl, trivial⟩ fun σ => ?_
    refine gseq fun N4 hN4 => ?_
    refine greg ?_
    refine gop (y_assign (v := .int _ _) rfl) rfl rfl rfl ?_
    refine gops_nil ?_
    refine hN4 _ _ ?_
    refine gfrom [(0, .slice _ _ _), (3, .pointer _), (4, .int _ _)] ⟨rfl, rfl, rfl, trivial⟩ fun σ => ?_
    refine gseq fun N5 hN5 => ?_
    refine gseq fun N6 hN6 => ?_
    refine greg ?_
    refine gop (y_move (v := .slice _ _ _) rfl) rfl rfl rfl ?_
    refine gop (y_len Tryz.underlying157 rfl) rfl rfl rfl ?_
    refine gop (y_move (v := .int _ _) rfl) rfl rfl rfl ?_
    refine gops_nil ?_
    refine hN6 _ _ ?_
    refine gfrom [(3, .pointer _), (4, .int _ _), (11, .slice _ _ _), (12, .int _ _), (13, .int _ _)] ⟨rfl, rfl, rfl, rfl, rfl, trivial⟩ fun σ => ?_
    refine gblock ?_
    refine gfrom2 [(4, .int _ _), (13, .int _ _)] [(3, .pointer _), (11, .slice _ _ _), (12, .int _ _)] ⟨rfl, rfl, trivial⟩ ⟨rfl, rfl, rfl, trivial⟩ fun σ => ?_
    refine gloop2 (G := Nat) (fun k => k ≤ s.size) (fun k => s.size - k) (fun k => [(4, .int .i64 (ofL 1 (s.data.toList.take k))), (13, .int .i64 (k : Int))]) (fun k => []) (0) ?h0 ⟨rfl, rfl, trivial⟩ ⟨rfl, rfl, rfl, trivial⟩ rfl ?round
    case h0 => exact Nat.zero_le _
    case round =>
      intro k hφ σ
      have hk : k ≤ s.size := hφ
      refine gseq fun N7 hN7 => ?_
      refine greg ?_
      refine gop (y_lss rfl rfl) rfl rfl rfl ?_
      refine gops_nil ?_
      refine hN7 _ _ ?_
      refine gfrom [(3, .pointer _), (4, .int _ _), (11, .slice _ _ _), (12, .int _ _), (13, .int _ _), (14, .bool _)] ⟨rfl, rfl, rfl, rfl, rfl, rfl, trivial⟩ fun σ => ?_
      refine gseq fun N8 hN8 => ?_
      refine gcond (b := _) rfl (fun hc14 => ?_) (fun hc14 => ?_)
      · 
        replace hc14 := of_decide_eq_true hc14
        have hk1 : k < s.data.toList.length := by simp; omega
        obtain ⟨ad, rfl, -, hca⟩ := hl.at_ hk1
        obtain ⟨ho0, ho1⟩ := ofL_bd (s.data.toList.take k) 1 (by decide)
        have hb8 : (s.data.toList[k]).toNat < 256 := UInt8.toNat_lt _
        refine gskip ?_
        refine hN8 _ _ ?_
        refine gfrom [(3, .pointer _), (4, .int _ _), (11, .slice _ _ _), (12, .int _ _), (13, .int _ _)] ⟨rfl, rfl, rfl, rfl, rfl, trivial⟩ fun σ => ?_
        refine gseq fun N9 hN9 => ?_
        refine gblock ?_
        refine gseq fun N10 hN10 => ?_
        refine greg ?_
        refine gop (y_indexAddr (m := k) Tryz.underlying157 Tryz.sizeOf5 rfl rfl (by omega) (by omega) (by omega)) rfl rfl rfl ?_
        refine gop (y_load Tryz.isAgg5 rfl (cell_base (hca 0 _ rfl))) rfl rfl rfl ?_
        refine gop (y_assign (v := .int _ _) rfl) rfl rfl rfl ?_
        refine gops_nil ?_
        refine hN10 _ _ ?_
        refine gfrom [(3, .pointer _), (4, .int _ _), (6, .int _ _), (11, .slice _ _ _), (12, .int _ _), (13, .int _ _)] ⟨rfl, rfl, rfl, rfl, rfl, rfl, trivial⟩ fun σ => ?_
        refine greg ?_
        refine gop (y_move (v := .int _ _) rfl) rfl rfl rfl ?_
        refine gop (y_move (v := .int _ _) rfl) rfl rfl rfl ?_
        refine gop (y_toInt (by kernel_rfl) Tryz.underlying3 rfl (by omega) (by omega)) rfl rfl rfl ?_
        refine gop (y_add rfl rfl ⟨by omega, by omega⟩) rfl rfl rfl ?_
        refine gop (y_build (vs := [(0, .int _ _), (1, .int _ _)]) (cells := #[_, _]) rfl (bd185_0_1 _ _)) rfl rfl rfl ?_
        refine gop_pure (e_call (vs := [.agg #[_, _], _]) Tryz.func112 rfl (by kernel_rfl) rfl) (fun w hM => dNext_any w _ _ 257 ho0 ho1 (by omega) (by omega) (by decide) (by decide)) rfl rfl rfl ?_
        refine gop (y_assign (v := .int _ _) rfl) rfl rfl rfl ?_
        refine gops_nil ?_
        refine hN9 _ _ ?_
        refine gfrom [(3, .pointer _), (4, .int _ _), (11, .slice _ _ _), (12, .int _ _), (13, .int _ _)] ⟨rfl, rfl, rfl, rfl, rfl, trivial⟩ fun σ => ?_
        refine greg ?_
        refine gop (y_add rfl rfl ⟨by omega, by omega⟩) rfl rfl rfl ?_
        refine gop (y_move (v := .int _ _) rfl) rfl rfl rfl ?_
        refine gops_nil ?_
        refine gnext2 (k + 1) (by omega) (show k + 1 ≤ _ by omega) ⟨(congrArg (Value.int .i64) (ofL_take hk1).symm), rfl, trivial⟩ ⟨rfl, rfl, rfl, trivial⟩ ⟨_, rfl⟩
      · 
        replace hc14 := of_decide_eq_false hc14
        refine gexit ?_
        refine hN5 _ _ ?_
        refine gfrom [(3, .pointer _), (4, .int _ _)] ⟨rfl, rfl, trivial⟩ fun σ => ?_
        refine gseq fun N11 hN11 => ?_
        refine greg ?_
        refine gop (y_move (v := .int _ _) rfl) rfl rfl rfl ?_
        refine gop (y_build (vs := []) (cells := #[.int .i64 0, .int .i64 0]) rfl bd33_) rfl rfl rfl ?_
        refine gop (y_assign (v := .int _ _) rfl) rfl rfl rfl ?_
        refine gop_store 0 (v := .agg #[_, _]) (cs' := #[_, _]) rfl rfl Tryz.sizeOf33 rfl rfl rfl rfl (Nat.le_of_ble_eq_true rfl) rfl rfl ?_
        refine gops_nil ?_
        refine hN11 _ _ ?_
        refine gT [box b3 _] rfl ?_
        refine gfrom [(2, .int _ _), (3, .pointer _)] ⟨rfl, rfl, trivial⟩ fun σ => ?_
        refine gret fun w1 hM => ?_
        refine ⟨_, res2 rfl (rt (v := .int _ _) rfl) (rc 0 (cs := [_, _]) hM rfl rfl Tryz.isAgg33 Tryz.sizeOf33 rfl), ?_⟩
        exact ⟨by rw [List.take_of_length_le (by simp; omega)]; rfl, hM.low⟩
set_option maxHeartbeats 2000000 in
theorem dPair_any (w : World) (a b : Int) (h0 : 0 ≤ a) (h1 : a < dMod) (h2 : 0 ≤ b) (h3 : b < dMod) : Calls Tryz.prog 85 #[.int .i64 a, .int .i64 b] w fun e w' => e = .returned (.int .i64 (pairD a b)) ∧ Below w.heap.size w w' := by
  have hdm : dMod = 2305843009213693951 := rfl
  obtain ⟨hb0, hb1⟩ := nextD_bd b 7 31
  refine gcalls Tryz.func85 rfl Tryz.ntmps85 (Nat.le_of_ble_eq_true rfl) ?_
  refine gfrom [(0, .int _ _), (1, .int _ _)] ⟨rfl, rfl, trivial⟩ fun σ => ?_
  refine gseq fun N1 hN1 => ?_
  refine greg ?_
  refine gop (y_assign (v := .int _ _) rfl) rfl rfl rfl ?_
  refine gops_nil ?_
  refine hN1 _ _ ?_
  refine gfrom [(0, .int _ _), (1, .int _ _)] ⟨rfl, rfl, trivial⟩ fun σ => ?_
  refine gseq fun N2 hN2 => ?_
  refine greg ?_
  refine gop (y_move (v := .int _ _) rfl) rfl rfl rfl ?_
  refine gop (y_move (v := .int _ _) rfl) rfl rfl rfl ?_
  refine gop (y_build (vs := [(0, .int _ _), (1, _)]) (cells := #[_, _]) rfl (bd185_0_1 _ _)) rfl rfl rfl ?_
  refine gop_pure (e_call (vs := [.agg #[_, _], _]) Tryz.func112 rfl (by kernel_rfl) rfl) (fun w hM => dNext_any w b 7 31 h2 h3 (by decide) (by decide) (by decide) (by decide)) rfl rfl rfl ?_
  refine gop (y_build (vs := [(0, .int _ _), (1, .int _ _)]) (cells := #[_, _]) rfl (bd185_0_1 _ _)) rfl rfl rfl ?_
  refine gop_pure (e_call (vs := [.agg #[_, _], _]) Tryz.func112 rfl (by kernel_rfl) rfl) (fun w hM => dNext_any w a _ 1000003 h0 h1 hb0 (by omega) (by decide) (by decide)) rfl rfl rfl ?_
  refine gop (y_assign (v := .int _ _) rfl) rfl rfl rfl ?_
  refine gops_nil ?_
  refine hN2 _ _ ?_
  refine gfrom [(4, .int _ _)] ⟨rfl, trivial⟩ fun σ => ?_
  refine gret fun w1 hM => ?_
  refine ⟨_, res1 rfl (rt (v := .int _ _) rfl), ?_⟩
  exact ⟨rfl, hM.low⟩
set_option maxHeartbeats 4000000 in
theorem dStr_any (w : World) (A : Option Addr) (c : Nat) (l : List ByteArray) (hl : Rdl w 0 1 strCells A l) (hn : l.length ≤ 120) (hz : ∀ s ∈ l, s.size ≤ 80) : Calls Tryz.prog 47 #[.slice A l.length c] w fun e w' => e = .returned (.tuple #[.int .i64 (strD l), fv ⟨0, 0⟩]) ∧ Below w.heap.size w w' := by
  have hdm : dMod = 2305843009213693951 := rfl
  refine gcalls Tryz.func47 rfl Tryz.ntmps47 (Nat.le_of_ble_eq_true rfl) ?_
  refine gfrom [(0, .slice _ _ _)] ⟨rfl, trivial⟩ fun σ => ?_
  refine gseq fun N1 hN1 => ?_
  refine greg ?_
  refine gop (y_assign (v := .int _ _) rfl) rfl rfl rfl ?_
  refine gop_alloc (cs := #[.int .i64 0, .int .i64 0]) Tryz.zeroValue33 rfl rfl (fun b3 hb3 => ?_)
  refine gops_nil ?_
  refine hN1 _ _ ?_
  refine gT [box b3 _] rfl ?_
  refine gfrom [(0, .slice _ _ _), (3, .pointer _)] ⟨rfl, rfl, trivial⟩ fun σ => ?_
  refine gseq fun N2 hN2 => ?_
  refine gseq fun N3 hN3 => ?_
  refine greg ?_
  refine gop (y_move (v := .slice _ _ _) rfl) rfl rfl rfl ?_
  refine gop (y_len Tryz.underlying22 rfl) rfl rfl rfl ?_
  refine gop (y_gtr rfl rfl) rfl rfl rfl ?_
  refine gops_nil ?_
  refine hN3 _ _ ?_
  refine gfrom [(0, .slice _ _ _), (3, .pointer _), (11, .bool _)] ⟨rfl, rfl, rfl, trivial⟩ fun σ => ?_
  refine gcond (b := _) rfl (fun hc11 => ?_) (fun hc11 => ?_)
  · 
     exfalso; have h9 := of_decide_eq_true hc11; omega
  · 
    replace hc11 := of_decide_eq_false hc11
    refine gskip ?_
    refine hN2 _ _ ?_
    refine gfrom [(0, .slice _ _ _), (3, .pointer _)] ⟨rfl, rfl, trivial⟩ fun σ => ?_
    refine gseq fun N4 hN4 => ?_
    refine greg ?_
    refine gop (y_assign (v := .int _ _) rfl) rfl rfl rfl ?_
    refine gops_nil ?_
    refine hN4 _ _ ?_
    refine gfrom [(0, .slice _ _ _), (3, .pointer _), (4, .int _ _)] ⟨rfl, rfl, rfl, trivial⟩ fun σ => ?_
    refine gseq fun N5 hN5 => ?_
    refine gseq fun N6 hN6 => ?_
    refine greg ?_
    refine gop (y_move (v := .slice _ _ _) rfl) rfl rfl rfl ?_
    refine gop (y_len Tryz.underlying22 rfl) rfl rfl rfl ?_
    refine gop (y_move (v := .int _ _) rfl) rfl rfl rfl ?_
    refine gops_nil ?_
    refine hN6 _ _ ?_
    refine gfrom [(3, .pointer _), (4, .int _ _), (13, .slice _ _ _), (14, .int _ _), (15, .int _ _)] ⟨rfl, rfl, rfl, rfl, rfl, trivial⟩ fun σ => ?_
    refine gblock ?_
    refine gfrom2 [(4, .int _ _), (15, .int _ _)] [(3, .pointer _), (13, .slice _ _ _), (14, .int _ _)] ⟨rfl, rfl, trivial⟩ ⟨rfl, rfl, rfl, trivial⟩ fun σ => ?_
    refine gloop2 (G := Nat) (fun k => k ≤ l.length) (fun k => l.length - k) (fun k => [(4, .int .i64 (strL 2 (l.take k))), (15, .int .i64 (k : Int))]) (fun k => []) (0) ?h0 ⟨rfl, rfl, trivial⟩ ⟨rfl, rfl, rfl, trivial⟩ rfl ?round
    case h0 => exact Nat.zero_le _
    case round =>
      intro k hφ σ
      have hk : k ≤ l.length := hφ
      refine gseq fun N7 hN7 => ?_
      refine greg ?_
      refine gop (y_lss rfl rfl) rfl rfl rfl ?_
      refine gops_nil ?_
      refine hN7 _ _ ?_
      refine gfrom [(3, .pointer _), (4, .int _ _), (13, .slice _ _ _), (14, .int _ _), (15, .int _ _), (16, .bool _)] ⟨rfl, rfl, rfl, rfl, rfl, rfl, trivial⟩ fun σ => ?_
      refine gseq fun N8 hN8 => ?_
      refine gcond (b := _) rfl (fun hc16 => ?_) (fun hc16 => ?_)
      · 
        replace hc16 := of_decide_eq_true hc16
        have hk1 : k < l.length := by omega
        obtain ⟨ad, rfl, -, hca⟩ := hl.at_ hk1
        obtain ⟨ho0, ho1⟩ := strL_bd (l.take k) 2 (by decide)
        obtain ⟨hd0, hd1⟩ := ofD_bd l[k]
        have hzk := hz _ (List.getElem_mem hk1)
        refine gskip ?_
        refine hN8 _ _ ?_
        refine gfrom [(3, .pointer _), (4, .int _ _), (13, .slice _ _ _), (14, .int _ _), (15, .int _ _)] ⟨rfl, rfl, rfl, rfl, rfl, trivial⟩ fun σ => ?_
        refine gseq fun N9 hN9 => ?_
        refine gblock ?_
        refine gseq fun N10 hN10 => ?_
        refine greg ?_
        refine gop (y_move (v := .int _ _) rfl) rfl rfl rfl ?_
        refine gop (y_indexAddr (m := k) Tryz.underlying22 Tryz.sizeOf9 rfl rfl (by omega) (by omega) (by omega)) rfl rfl rfl ?_
        refine gop (y_load Tryz.isAgg9 rfl (cell_base (hca 0 _ rfl))) rfl rfl rfl ?_
        refine gop (y_assign (v := .int _ _) rfl) rfl rfl rfl ?_
        refine gop (y_assign (v := .string _) rfl) rfl rfl rfl ?_
        refine gops_nil ?_
        refine hN10 _ _ ?_
        refine gfrom [(3, .pointer _), (4, .int _ _), (5, .int _ _), (6, .string _), (13, .slice _ _ _), (14, .int _ _), (15, .int _ _)] ⟨rfl, rfl, rfl, rfl, rfl, rfl, rfl, trivial⟩ fun σ => ?_
        refine gseq fun N11 hN11 => ?_
        refine greg ?_
        refine gop (y_move (v := .string _) rfl) rfl rfl rfl ?_
        refine gop_bytes Tryz.underlying9 Tryz.underlying157 Tryz.underlying5 rfl rfl (fun b22 c22 hb22 => ?_)
        refine gop_pure (e_call (vs := [.slice (some ⟨b22, 0, none⟩) _ c22]) Tryz.func84 rfl (by kernel_rfl) rfl) (fun w hM => dOf_any w (some ⟨b22, 0, none⟩) c22 l[k] ((brow_rdl (hM.ok _ (List.mem_of_getElem? (i := 1) rfl))).mono (Nat.zero_le _)) (by omega)) rfl rfl rfl ?_
        refine gop (y_move (v := .tuple #[.int _ _, .agg #[_, _]]) rfl) rfl rfl rfl ?_
        refine gop (y_extract (v := .int _ _) rfl rfl) rfl rfl rfl ?_
        refine gop (y_extract (v := .agg #[_, _]) rfl rfl) rfl rfl rfl ?_
        refine gop_alloc (cs := #[.int .i64 0, .int .i64 0]) Tryz.zeroValue33 rfl rfl (fun b8 hb8 => ?_)
        refine gop (y_assign (v := .int _ _) rfl) rfl rfl rfl ?_
        refine gop_store 2 (v := .agg #[_, _]) (cs' := #[_, _]) rfl rfl Tryz.sizeOf33 rfl rfl rfl rfl (Nat.le_of_ble_eq_true rfl) rfl rfl ?_
        refine gops_nil ?_
        refine hN11 _ _ ?_
        refine gT [box b3 _, brow _ _, box b8 _] rfl ?_
        refine gfrom [(3, .pointer _), (4, .int _ _), (5, .int _ _), (7, .int _ _), (8, .pointer _), (13, .slice _ _ _), (14, .int _ _), (15, .int _ _)] ⟨rfl, rfl, rfl, rfl, rfl, rfl, rfl, rfl, trivial⟩ fun σ => ?_
        refine gseq fun N12 hN12 => ?_
        refine gseq fun N13 hN13 => ?_
        refine greg ?_
        refine gop (y_loads (cs := [_, _]) Tryz.isAgg33 Tryz.sizeOf33 rfl rfl (cells_box 2 rfl)) rfl rfl rfl ?_
        refine gop (y_build (vs := []) (cells := #[.int .i64 0, .int .i64 0]) rfl bd33_) rfl rfl rfl ?_
        refine gop (y_bin (vx := .agg #[_, _]) (vy := .agg #[_, _]) rfl rfl (fun w => eg33 _ _ _ _ _ w) (fun w => ne33 _ _ _ _ w)) rfl rfl rfl ?_
        refine gops_nil ?_
        refine hN13 _ _ ?_
        refine gfrom [(3, .pointer _), (4, .int _ _), (5, .int _ _), (7, .int _ _), (8, .pointer _), (13, .slice _ _ _), (14, .int _ _), (15, .int _ _), (28, .bool _)] ⟨rfl, rfl, rfl, rfl, rfl, rfl, rfl, rfl, rfl, trivial⟩ fun σ => ?_
        refine gcond (b := _) rfl (fun hc28 => ?_) (fun hc28 => ?_)
        · 
           exact absurd hc28 (by simp)
        · 
          refine gskip ?_
          refine hN12 _ _ ?_
          refine gfrom [(3, .pointer _), (4, .int _ _), (7, .int _ _), (13, .slice _ _ _), (14, .int _ _), (15, .int _ _)] ⟨rfl, rfl, rfl, rfl, rfl, rfl, trivial⟩ fun σ => ?_
          refine greg ?_
          refine gop (y_move (v := .int _ _) rfl) rfl rfl rfl ?_
          refine gop (y_move (v := .int _ _) rfl) rfl rfl rfl ?_
          refine gop_pure (e_call (vs := [.int _ _, .int _ _]) Tryz.func85 rfl (by kernel_rfl) rfl) (fun w hM => dPair_any w _ _ ho0 ho1 hd0 hd1) rfl rfl rfl ?_
          refine gop (y_assign (v := .int _ _) rfl) rfl rfl rfl ?_
          refine gops_nil ?_
          refine hN9 _ _ ?_
          refine gfrom [(3, .pointer _), (4, .int _ _), (13, .slice _ _ _), (14, .int _ _), (15, .int _ _)] ⟨rfl, rfl, rfl, rfl, rfl, trivial⟩ fun σ => ?_
          refine greg ?_
          refine gop (y_add rfl rfl ⟨by omega, by omega⟩) rfl rfl rfl ?_
          refine gop (y_move (v := .int _ _) rfl) rfl rfl rfl ?_
          refine gops_nil ?_
          refine gnext2 (k + 1) (by omega) (show k + 1 ≤ _ by omega) ⟨(congrArg (Value.int .i64) (strL_take hk1).symm), rfl, trivial⟩ ⟨rfl, rfl, rfl, trivial⟩ ⟨_, rfl⟩
      · 
        replace hc16 := of_decide_eq_false hc16
        refine gexit ?_
        refine hN5 _ _ ?_
        refine gfrom [(3, .pointer _), (4, .int _ _)] ⟨rfl, rfl, trivial⟩ fun σ => ?_
        refine gseq fun N14 hN14 => ?_
        refine greg ?_
        refine gop (y_move (v := .int _ _) rfl) rfl rfl rfl ?_
        refine gop (y_build (vs := []) (cells := #[.int .i64 0, .int .i64 0]) rfl bd33_) rfl rfl rfl ?_
        refine gop (y_assign (v := .int _ _) rfl) rfl rfl rfl ?_
        refine gop_store 0 (v := .agg #[_, _]) (cs' := #[_, _]) rfl rfl Tryz.sizeOf33 rfl rfl rfl rfl (Nat.le_of_ble_eq_true rfl) rfl rfl ?_
        refine gops_nil ?_
        refine hN14 _ _ ?_
        refine gT [box b3 _] rfl ?_
        refine gfrom [(2, .int _ _), (3, .pointer _)] ⟨rfl, rfl, trivial⟩ fun σ => ?_
        refine gret fun w1 hM => ?_
        refine ⟨_, res2 rfl (rt (v := .int _ _) rfl) (rc 0 (cs := [_, _]) hM rfl rfl Tryz.isAgg33 Tryz.sizeOf33 rfl), ?_⟩
        exact ⟨by rw [List.take_of_length_le (by omega)]; rfl, hM.low⟩
end Go.Proofs.YtbkameioedmlkaaGreatDoor
namespace Go.Proofs
open Go.Shelf
def Tryz.lays106_ren : Go.Shelf.Ren := ⟨fun | 106 => 101 | 213 => 119 | 265 => 145 | n => n, fun | 9 => 9 | 3 => 3 | n => n, fun | n => n⟩
theorem Tryz.lays106 : Go.Proofs.Lays.n106 Tryz.prog Tryz.lays106_ren := {
  mixed := by kernel_rfl
  f106 := Tryz.func101.trans (congrArg some (by kernel_rfl))
  f213 := Tryz.func119.trans (congrArg some (by kernel_rfl))
  f265 := Tryz.func145.trans (congrArg some (by kernel_rfl))
  t3 := Tryz.underlying3
  a3 := Tryz.isAgg3
  z3 := Tryz.sizeOf3
  v3 := Tryz.zeroValue3
  t9 := Tryz.underlying9
  a9 := Tryz.isAgg9
  z9 := Tryz.sizeOf9
  v9 := Tryz.zeroValue9 }
open Go.RowKit in

theorem Tryz.strings_Compare (a b : ByteArray) (w : World) :
    Calls Tryz.prog 101 #[.string a, .string b] w fun e w' => e = .returned (.int .i64 (Lib.compareBytes a.data.toList b.data.toList)) ∧ w' = w := Any.strings_Compare Tryz.lays106 a b w
def Tryz.laysM171_ren : Go.Shelf.Ren := ⟨fun | 171 => 144 | 243 => 161 | 246 => 174 | 283 => 179 | 284 => 180 | 285 => 181 | 286 => 182 | 129 => 131 | 317 => 185 | 318 => 186 | 319 => 187 | 320 => 188 | 337 => 189 | 338 => 190 | n => n, fun | 3 => 3 | 9 => 9 | 2 => 2 | 4 => 4 | 171 => 246 | 0 => 0 | 53 => 201 | 37 => 157 | 5 => 5 | 173 => 248 | 212 => 256 | 51 => 199 | 20 => 20 | 213 => 257 | 46 => 180 | 232 => 258 | 233 => 259 | n => n, fun | 17 => 5 | 18 => 6 | 19 => 7 | n => n⟩
theorem Tryz.laysM171 : Go.Proofs.LaysM.n171 Tryz.prog Tryz.laysM171_ren := {
  mixed := by kernel_rfl
  f129 := Tryz.func131.trans (congrArg some (by kernel_rfl))
  f171 := Tryz.func144.trans (congrArg some (by kernel_rfl))
  f243 := Tryz.func161.trans (congrArg some (by kernel_rfl))
  f246 := Tryz.func174.trans (congrArg some (by kernel_rfl))
  f283 := Tryz.func179.trans (congrArg some (by kernel_rfl))
  f284 := Tryz.func180.trans (congrArg some (by kernel_rfl))
  f285 := Tryz.func181.trans (congrArg some (by kernel_rfl))
  f286 := Tryz.func182.trans (congrArg some (by kernel_rfl))
  f317 := Tryz.func185.trans (congrArg some (by kernel_rfl))
  f318 := Tryz.func186.trans (congrArg some (by kernel_rfl))
  f319 := Tryz.func187.trans (congrArg some (by kernel_rfl))
  f320 := Tryz.func188.trans (congrArg some (by kernel_rfl))
  f337 := Tryz.func189.trans (congrArg some (by kernel_rfl))
  f338 := Tryz.func190.trans (congrArg some (by kernel_rfl))
  t0 := Tryz.underlying0
  a0 := Tryz.isAgg0
  z0 := Tryz.sizeOf0
  v0 := Tryz.zeroValue0
  t2 := Tryz.underlying2
  a2 := Tryz.isAgg2
  z2 := Tryz.sizeOf2
  v2 := Tryz.zeroValue2
  t3 := Tryz.underlying3
  a3 := Tryz.isAgg3
  z3 := Tryz.sizeOf3
  v3 := Tryz.zeroValue3
  t4 := Tryz.underlying4
  a4 := Tryz.isAgg4
  z4 := Tryz.sizeOf4
  v4 := Tryz.zeroValue4
  t5 := Tryz.underlying5
  a5 := Tryz.isAgg5
  z5 := Tryz.sizeOf5
  v5 := Tryz.zeroValue5
  t9 := Tryz.underlying9
  a9 := Tryz.isAgg9
  z9 := Tryz.sizeOf9
  v9 := Tryz.zeroValue9
  t20 := Tryz.underlying20
  a20 := Tryz.isAgg20
  z20 := Tryz.sizeOf20
  v20 := Tryz.zeroValue20
  t37 := Tryz.underlying157
  a37 := Tryz.isAgg157
  z37 := Tryz.sizeOf157
  v37 := Tryz.zeroValue157
  t46 := Tryz.underlying180
  a46 := Tryz.isAgg180
  z46 := Tryz.sizeOf180
  v46 := Tryz.zeroValue180
  t51 := Tryz.underlying199
  a51 := Tryz.isAgg199
  z51 := Tryz.sizeOf199
  v51 := Tryz.zeroValue199
  t53 := Tryz.underlying201
  a53 := Tryz.isAgg201
  z53 := Tryz.sizeOf201
  v53 := Tryz.zeroValue201
  t171 := Tryz.underlying246
  a171 := Tryz.isAgg246
  z171 := Tryz.sizeOf246
  v171 := Tryz.zeroValue246
  t173 := Tryz.underlying248
  a173 := Tryz.isAgg248
  z173 := Tryz.sizeOf248
  v173 := Tryz.zeroValue248
  t212 := Tryz.underlying256
  a212 := Tryz.isAgg256
  z212 := Tryz.sizeOf256
  v212 := Tryz.zeroValue256
  t213 := Tryz.underlying257
  a213 := Tryz.isAgg257
  z213 := Tryz.sizeOf257
  t232 := Tryz.underlying258
  a232 := Tryz.isAgg258
  z232 := Tryz.sizeOf258
  v232 := Tryz.zeroValue258
  t233 := Tryz.underlying259
  a233 := Tryz.isAgg259
  z233 := Tryz.sizeOf259
  v233 := Tryz.zeroValue259
  g17 := by kernel_rfl
  g18 := by kernel_rfl
  g19 := by kernel_rfl
  i0 := by kernel_rfl
  i2 := by kernel_rfl
  i3 := by kernel_rfl
  i4 := by kernel_rfl
  i5 := by kernel_rfl
  i9 := by kernel_rfl
  i20 := by kernel_rfl
  i37 := by kernel_rfl
  i46 := by kernel_rfl
  i51 := by kernel_rfl
  i53 := by kernel_rfl
  i171 := by kernel_rfl
  i173 := by kernel_rfl
  i212 := by kernel_rfl
  i232 := by kernel_rfl
  i233 := by kernel_rfl
  m17 := by kernel_rfl
  m18 := by kernel_rfl
  m19 := by kernel_rfl }
open Go.RowKit Go.Sort Go.Lib in

theorem Tryz.strconv_Itoa (n : Int) (h0 : -9223372036854775808 ≤ n) (h1 : n ≤ 9223372036854775807) (w : World) (htab : Lib.TabIs Tryz.prog w "internal/strconv.uint64pow10" .u64 Lib.pow10Tab) :
    Calls Tryz.prog 144 #[.int .i64 n] w fun e w' => e = .returned (.string ⟨(Lib.itoa n).toArray⟩) ∧ ∃ k os, w' = grow (w.drewN k) os := Any.strconv_Itoa Tryz.laysM171 n h0 h1 w htab
def Tryz.laysC172_ren : Go.Shelf.Ren := ⟨fun | 172 => 143 | 244 => 159 | 245 => 160 | 247 => 169 | 279 => 170 | 280 => 171 | 281 => 172 | 282 => 173 | 287 => 176 | 316 => 177 | 171 => 144 | 205 => 178 | 321 => 183 | 322 => 184 | 243 => 161 | 246 => 174 | 283 => 179 | 284 => 180 | 285 => 181 | 286 => 182 | 129 => 131 | 317 => 185 | 318 => 186 | 319 => 187 | 320 => 188 | 337 => 189 | 338 => 190 | n => n, fun | 9 => 9 | 3 => 3 | 75 => 211 | 76 => 212 | 4 => 4 | 5 => 5 | 167 => 231 | 37 => 157 | 0 => 0 | 85 => 232 | 2 => 2 | 168 => 234 | 53 => 201 | 175 => 240 | 46 => 180 | 210 => 244 | 127 => 251 | 145 => 254 | 143 => 252 | 21 => 21 | 171 => 246 | 173 => 248 | 212 => 256 | 51 => 199 | 20 => 20 | 213 => 257 | 232 => 258 | 233 => 259 | 80 => 189 | n => n, fun | 15 => 3 | 16 => 4 | 17 => 5 | 18 => 6 | 19 => 7 | n => n⟩
theorem Tryz.laysC172 : Go.Proofs.LaysC.n172 Tryz.prog Tryz.laysC172_ren := {
  mixed := by kernel_rfl
  f129 := Tryz.func131.trans (congrArg some (by kernel_rfl))
  f171 := Tryz.func144.trans (congrArg some (by kernel_rfl))
  f172 := Tryz.func143.trans (congrArg some (by kernel_rfl))
  f205 := Tryz.func178.trans (congrArg some (by kernel_rfl))
  f243 := Tryz.func161.trans (congrArg some (by kernel_rfl))
  f244 := Tryz.func159.trans (congrArg some (by kernel_rfl))
  f245 := Tryz.func160.trans (congrArg some (by kernel_rfl))
  f246 := Tryz.func174.trans (congrArg some (by kernel_rfl))
  f247 := Tryz.func169.trans (congrArg some (by kernel_rfl))
  f279 := Tryz.func170.trans (congrArg some (by kernel_rfl))
  f280 := Tryz.func171.trans (congrArg some (by kernel_rfl))
  f281 := Tryz.func172.trans (congrArg some (by kernel_rfl))
  f282 := Tryz.func173.trans (congrArg some (by kernel_rfl))
  f283 := Tryz.func179.trans (congrArg some (by kernel_rfl))
  f284 := Tryz.func180.trans (congrArg some (by kernel_rfl))
  f285 := Tryz.func181.trans (congrArg some (by kernel_rfl))
  f286 := Tryz.func182.trans (congrArg some (by kernel_rfl))
  f287 := Tryz.func176.trans (congrArg some (by kernel_rfl))
  f316 := Tryz.func177.trans (congrArg some (by kernel_rfl))
  f317 := Tryz.func185.trans (congrArg some (by kernel_rfl))
  f318 := Tryz.func186.trans (congrArg some (by kernel_rfl))
  f319 := Tryz.func187.trans (congrArg some (by kernel_rfl))
  f320 := Tryz.func188.trans (congrArg some (by kernel_rfl))
  f321 := Tryz.func183.trans (congrArg some (by kernel_rfl))
  f322 := Tryz.func184.trans (congrArg some (by kernel_rfl))
  f337 := Tryz.func189.trans (congrArg some (by kernel_rfl))
  f338 := Tryz.func190.trans (congrArg some (by kernel_rfl))
  t0 := Tryz.underlying0
  a0 := Tryz.isAgg0
  z0 := Tryz.sizeOf0
  v0 := Tryz.zeroValue0
  t2 := Tryz.underlying2
  a2 := Tryz.isAgg2
  z2 := Tryz.sizeOf2
  v2 := Tryz.zeroValue2
  t3 := Tryz.underlying3
  a3 := Tryz.isAgg3
  z3 := Tryz.sizeOf3
  v3 := Tryz.zeroValue3
  t4 := Tryz.underlying4
  a4 := Tryz.isAgg4
  z4 := Tryz.sizeOf4
  v4 := Tryz.zeroValue4
  t5 := Tryz.underlying5
  a5 := Tryz.isAgg5
  z5 := Tryz.sizeOf5
  v5 := Tryz.zeroValue5
  t9 := Tryz.underlying9
  a9 := Tryz.isAgg9
  z9 := Tryz.sizeOf9
  v9 := Tryz.zeroValue9
  t20 := Tryz.underlying20
  a20 := Tryz.isAgg20
  z20 := Tryz.sizeOf20
  v20 := Tryz.zeroValue20
  t21 := Tryz.underlying21
  a21 := Tryz.isAgg21
  z21 := Tryz.sizeOf21
  v21 := Tryz.zeroValue21
  t37 := Tryz.underlying157
  a37 := Tryz.isAgg157
  z37 := Tryz.sizeOf157
  v37 := Tryz.zeroValue157
  t46 := Tryz.underlying180
  a46 := Tryz.isAgg180
  z46 := Tryz.sizeOf180
  v46 := Tryz.zeroValue180
  t51 := Tryz.underlying199
  a51 := Tryz.isAgg199
  z51 := Tryz.sizeOf199
  v51 := Tryz.zeroValue199
  t53 := Tryz.underlying201
  a53 := Tryz.isAgg201
  z53 := Tryz.sizeOf201
  v53 := Tryz.zeroValue201
  t75 := Tryz.underlying211
  a75 := Tryz.isAgg211
  z75 := Tryz.sizeOf211
  v75 := Tryz.zeroValue211
  t76 := Tryz.underlying212
  a76 := Tryz.isAgg212
  z76 := Tryz.sizeOf212
  v76 := Tryz.zeroValue212
  t85 := Tryz.underlying232
  a85 := Tryz.isAgg232
  z85 := Tryz.sizeOf232
  v85 := Tryz.zeroValue232
  t127 := Tryz.underlying251
  a127 := Tryz.isAgg251
  z127 := Tryz.sizeOf251
  v127 := Tryz.zeroValue251
  t143 := Tryz.underlying252
  a143 := Tryz.isAgg252
  z143 := Tryz.sizeOf252
  v143 := Tryz.zeroValue252
  t145 := Tryz.underlying254
  a145 := Tryz.isAgg254
  z145 := Tryz.sizeOf254
  v145 := Tryz.zeroValue254
  t167 := Tryz.underlying231
  a167 := Tryz.isAgg231
  z167 := Tryz.sizeOf231
  v167 := Tryz.zeroValue231
  t168 := Tryz.underlying234
  a168 := Tryz.isAgg234
  z168 := Tryz.sizeOf234
  v168 := Tryz.zeroValue234
  t171 := Tryz.underlying246
  a171 := Tryz.isAgg246
  z171 := Tryz.sizeOf246
  v171 := Tryz.zeroValue246
  t173 := Tryz.underlying248
  a173 := Tryz.isAgg248
  z173 := Tryz.sizeOf248
  v173 := Tryz.zeroValue248
  t175 := Tryz.underlying240
  a175 := Tryz.isAgg240
  z175 := Tryz.sizeOf240
  v175 := Tryz.zeroValue240
  t210 := Tryz.underlying244
  a210 := Tryz.isAgg244
  z210 := Tryz.sizeOf244
  v210 := Tryz.zeroValue244
  t212 := Tryz.underlying256
  a212 := Tryz.isAgg256
  z212 := Tryz.sizeOf256
  v212 := Tryz.zeroValue256
  t213 := Tryz.underlying257
  a213 := Tryz.isAgg257
  z213 := Tryz.sizeOf257
  t232 := Tryz.underlying258
  a232 := Tryz.isAgg258
  z232 := Tryz.sizeOf258
  v232 := Tryz.zeroValue258
  t233 := Tryz.underlying259
  a233 := Tryz.isAgg259
  z233 := Tryz.sizeOf259
  v233 := Tryz.zeroValue259
  g15 := by kernel_rfl
  g16 := by kernel_rfl
  g17 := by kernel_rfl
  g18 := by kernel_rfl
  g19 := by kernel_rfl
  t80 := Tryz.underlying189
  a80 := Tryz.isAgg189
  z80 := Tryz.sizeOf189
  v80 := Tryz.zeroValue189
  i0 := by kernel_rfl
  i2 := by kernel_rfl
  i3 := by kernel_rfl
  i4 := by kernel_rfl
  i5 := by kernel_rfl
  i9 := by kernel_rfl
  i20 := by kernel_rfl
  i21 := by kernel_rfl
  i37 := by kernel_rfl
  i46 := by kernel_rfl
  i51 := by kernel_rfl
  i53 := by kernel_rfl
  i75 := by kernel_rfl
  i76 := by kernel_rfl
  i80 := by kernel_rfl
  i85 := by kernel_rfl
  i127 := by kernel_rfl
  i143 := by kernel_rfl
  i145 := by kernel_rfl
  i167 := by kernel_rfl
  i168 := by kernel_rfl
  i171 := by kernel_rfl
  i173 := by kernel_rfl
  i175 := by kernel_rfl
  i210 := by kernel_rfl
  i212 := by kernel_rfl
  i232 := by kernel_rfl
  i233 := by kernel_rfl
  m15 := by kernel_rfl
  m16 := by kernel_rfl
  m17 := by kernel_rfl
  m18 := by kernel_rfl
  m19 := by kernel_rfl
  c0 := by kernel_rfl
  c2 := by kernel_rfl
  c3 := by kernel_rfl
  c4 := by kernel_rfl
  c5 := by kernel_rfl
  c9 := by kernel_rfl
  c20 := by kernel_rfl
  c21 := by kernel_rfl
  c37 := by kernel_rfl
  c46 := by kernel_rfl
  c51 := by kernel_rfl
  c53 := by kernel_rfl
  c75 := by kernel_rfl
  c76 := by kernel_rfl
  c80 := by kernel_rfl
  c85 := by kernel_rfl
  c127 := by kernel_rfl
  c143 := by kernel_rfl
  c145 := by kernel_rfl
  c167 := by kernel_rfl
  c168 := by kernel_rfl
  c171 := by kernel_rfl
  c173 := by kernel_rfl
  c175 := by kernel_rfl
  c210 := by kernel_rfl
  c212 := by kernel_rfl
  c213 := by kernel_rfl
  c232 := by kernel_rfl
  c233 := by kernel_rfl }
open Go.RowKit in

theorem Tryz.strconv_Atoi_ok (s : ByteArray) (hmax : s.size ≤ 9223372036854775806) (v : Int) (h : Lib.atoiAll s.data.toList = .ok v) (w : World) :
    Calls Tryz.prog 143 #[.string s] w fun e w' => e = .returned (.tuple #[.int .i64 v, .nilIface]) ∧ (w' = w ∨ ∃ t, w' = Lib.bytesWorld w 5 t) := Any.strconv_Atoi_ok Tryz.laysC172 s hmax v h w
open Go.RowKit in

theorem Tryz.strconv_Atoi_syntax (s : ByteArray) (hlim : s.size ≤ 281474976710656) (h : Lib.atoiAll s.data.toList = Lib.atoiAll []) (ev : Value) (w : World) (hv : w.cell? ⟨3, 0, none⟩ = some ev) (hev : ev = .nilIface ∨ ∃ te pe, ev = .iface te pe) :
    Calls Tryz.prog 143 #[.string s] w fun e w' => ∃ N, e = .returned (.tuple #[.int .i64 (0), .iface 234 (.pointer (some ⟨N, 0, none⟩))]) ∧ w.heap.size ≤ N ∧ w'.heap[N]? = some (.cells #[.string ⟨#[65, 116, 111, 105]⟩, .string s, ev] 244 (0, 0)) ∧ Below w.heap.size w w' := Any.strconv_Atoi_syntax Tryz.laysC172 s hlim h ev w hv hev
open Go.RowKit in

theorem Tryz.strconv_Atoi_range (s : ByteArray) (hlim : s.size ≤ 281474976710656) (h : Lib.atoiAll s.data.toList = .range) (ev : Value) (w : World) (hv : w.cell? ⟨4, 0, none⟩ = some ev) (hev : ev = .nilIface ∨ ∃ te pe, ev = .iface te pe) :
    Calls Tryz.prog 143 #[.string s] w fun e w' => ∃ N, e = .returned (.tuple #[.int .i64 (Lib.atoiSat s.data.toList), .iface 234 (.pointer (some ⟨N, 0, none⟩))]) ∧ w.heap.size ≤ N ∧ w'.heap[N]? = some (.cells #[.string ⟨#[65, 116, 111, 105]⟩, .string s, ev] 244 (0, 0)) ∧ Below w.heap.size w w' := Any.strconv_Atoi_range Tryz.laysC172 s hlim h ev w hv hev
def Tryz.lays99_ren : Go.Shelf.Ren := ⟨fun | 99 => 138 | 206 => 157 | n => n, fun | 9 => 9 | 4 => 4 | 3 => 3 | n => n, fun | n => n⟩
theorem Tryz.lays99 : Go.Proofs.Lays.n99 Tryz.prog Tryz.lays99_ren := {
  mixed := by kernel_rfl
  f99 := Tryz.func138.trans (congrArg some (by kernel_rfl))
  f206 := Tryz.func157.trans (congrArg some (by kernel_rfl))
  t3 := Tryz.underlying3
  a3 := Tryz.isAgg3
  z3 := Tryz.sizeOf3
  v3 := Tryz.zeroValue3
  t4 := Tryz.underlying4
  a4 := Tryz.isAgg4
  z4 := Tryz.sizeOf4
  v4 := Tryz.zeroValue4
  t9 := Tryz.underlying9
  a9 := Tryz.isAgg9
  z9 := Tryz.sizeOf9
  v9 := Tryz.zeroValue9 }
open Go.RowKit Go.Lib in

theorem Tryz.strings_HasPrefix (s p : ByteArray) (w : World) :
    Calls Tryz.prog 138 #[.string s, .string p] w fun e w' => e = .returned (.bool (Lib.hasPrefix s.data.toList p.data.toList)) ∧ w' = w := Any.strings_HasPrefix Tryz.lays99 s p w
end Go.Proofs
namespace Go.Proofs.YtbkameioedmlkaaGreatDoor
open Go.RowKit Go.Cf
set_option maxRecDepth 10000
theorem fa85_0 (a : Addr) (w : World) : (Instr.fieldAt 85 (.pointer (some a)) 0).run Tryz.prog w = .ok (.pointer (some (a.add 0))) w := by kernel_rfl
set_option maxHeartbeats 2000000 in
theorem related_any (w : World) (a b : ByteArray) (ha : a.size ≤ 1000000) (hb : b.size ≤ 1000000) : Calls Tryz.prog 111 #[.string a, .string b] w fun e w' => e = .returned (.bool (relP a b)) ∧ Below w.heap.size w w' := by
  refine gcalls Tryz.func111 rfl Tryz.ntmps111 (Nat.le_of_ble_eq_true rfl) ?_
  refine gfrom [(0, .string _), (1, .string _)] ⟨rfl, rfl, trivial⟩ fun σ => ?_
  refine gseq fun N1 hN1 => ?_
  refine greg ?_
  refine gop (y_assign (v := .bool _) rfl) rfl rfl rfl ?_
  refine gops_nil ?_
  refine hN1 _ _ ?_
  refine gfrom [(0, .string _), (1, .string _)] ⟨rfl, rfl, trivial⟩ fun σ => ?_
  refine gseq fun N2 hN2 => ?_
  refine greg ?_
  refine gop (y_move (v := .string _) rfl) rfl rfl rfl ?_
  refine gop (y_move (v := .string _) rfl) rfl rfl rfl ?_
  refine gop (y_eqls rfl rfl) rfl rfl rfl ?_
  refine gop (y_move (v := .bool _) rfl) rfl rfl rfl ?_
  refine gop_if (want := false) rfl rfl rfl rfl rfl rfl (fun hg8 => ?_) (fun hg8 => ?_)
  · 
    have hg8d := hg8
    have hab : decide (a = b) = false := decide_eq_false (sb_ne_f hg8d)
    refine gop (y_bare (y_move (v := .string _) rfl)) rfl rfl rfl ?_
    refine gop_on rfl rfl rfl rfl hg8 ?_
    refine gop (y_bare (y_move (v := .string _) rfl)) rfl rfl rfl ?_
    refine gop_on rfl rfl rfl rfl hg8 ?_
    refine gop (y_bare (y_cat rfl rfl (by show b.size + 1 ≤ _; omega))) rfl rfl rfl ?_
    refine gop_on rfl rfl rfl rfl hg8 ?_
    refine gop_pure (e_call (vs := [.string _, .string _]) Tryz.func138 rfl (by kernel_rfl) rfl) (fun w hM => (Tryz.strings_HasPrefix _ _ w).mono fun _ _ ⟨h1, h2⟩ => ⟨h1, by subst h2; exact Below.refl _ _⟩) rfl rfl rfl ?_
    refine gop (y_pick_f (v := .bool _) rfl hg8 rfl) rfl rfl rfl ?_
    refine gop (y_move (v := .bool _) rfl) rfl rfl rfl ?_
    refine gop_if (want := false) rfl rfl rfl rfl rfl rfl (fun hg14 => ?_) (fun hg14 => ?_)
    · 
      have hg14d := hg14
      have hR : relP a b = hasP b (a ++ slash) := by rw [relP, hab, show hasP a (b ++ slash) = false from hg14d]; rfl
      refine gop (y_bare (y_move (v := .string _) rfl)) rfl rfl rfl ?_
      refine gop_on rfl rfl rfl rfl hg14 ?_
      refine gop (y_bare (y_move (v := .string _) rfl)) rfl rfl rfl ?_
      refine gop_on rfl rfl rfl rfl hg14 ?_
      refine gop (y_bare (y_cat rfl rfl (by show a.size + 1 ≤ _; omega))) rfl rfl rfl ?_
      refine gop_on rfl rfl rfl rfl hg14 ?_
      refine gop_pure (e_call (vs := [.string _, .string _]) Tryz.func138 rfl (by kernel_rfl) rfl) (fun w hM => (Tryz.strings_HasPrefix _ _ w).mono fun _ _ ⟨h1, h2⟩ => ⟨h1, by subst h2; exact Below.refl _ _⟩) rfl rfl rfl ?_
      refine gop (y_pick_f (v := .bool _) rfl hg14 rfl) rfl rfl rfl ?_
      refine gop (y_assign (v := .bool _) rfl) rfl rfl rfl ?_
      refine gops_nil ?_
      refine hN2 _ _ ?_
      refine gfrom [(4, .bool _)] ⟨rfl, trivial⟩ fun σ => ?_
      refine gret fun w1 hM => ?_
      refine ⟨_, res1 rfl (rt (v := .bool _) rfl), ?_⟩
      exact ⟨congrArg (fun b => Ending.returned (Value.bool b)) hR.symm, hM.low⟩
    · 
      have hg14d := hg14
      have hR : relP a b = true := by rw [relP, hab, show hasP a (b ++ slash) = true from hg14d]; rfl
      refine gop_off rfl rfl rfl rfl hg14 rfl rfl ?_
      refine gop_off rfl rfl rfl rfl hg14 rfl rfl ?_
      refine gop_off rfl rfl rfl rfl hg14 rfl rfl ?_
      refine gop (y_pick_t (v := .bool _) rfl hg14 rfl) rfl rfl rfl ?_
      refine gop (y_assign (v := .bool _) rfl) rfl rfl rfl ?_
      refine gops_nil ?_
      refine hN2 _ _ ?_
      refine gfrom [(4, .bool _)] ⟨rfl, trivial⟩ fun σ => ?_
      refine gret fun w1 hM => ?_
      refine ⟨_, res1 rfl (rt (v := .bool _) rfl), ?_⟩
      exact ⟨congrArg (fun b => Ending.returned (Value.bool b)) hR.symm, hM.low⟩
  · 
    have hg8d := hg8
    have hR : relP a b = true := by rw [relP, decide_eq_true (sb_eq_t hg8d)]; rfl
    refine gop_off rfl rfl rfl rfl hg8 rfl rfl ?_
    refine gop_off rfl rfl rfl rfl hg8 rfl rfl ?_
    refine gop_off rfl rfl rfl rfl hg8 rfl rfl ?_
    refine gop (y_pick_t (v := .bool _) rfl hg8 rfl) rfl rfl rfl ?_
    refine gop (y_move (v := .bool _) rfl) rfl rfl rfl ?_
    refine gop_off rfl rfl rfl rfl rfl rfl rfl ?_
    refine gop_off rfl rfl rfl rfl rfl rfl rfl ?_
    refine gop_off rfl rfl rfl rfl rfl rfl rfl ?_
    refine gop_off rfl rfl rfl rfl rfl rfl rfl ?_
    refine gop (y_pick_t (v := .bool _) rfl rfl rfl) rfl rfl rfl ?_
    refine gop (y_assign (v := .bool _) rfl) rfl rfl rfl ?_
    refine gops_nil ?_
    refine hN2 _ _ ?_
    refine gfrom [(4, .bool _)] ⟨rfl, trivial⟩ fun σ => ?_
    refine gret fun w1 hM => ?_
    refine ⟨_, res1 rfl (rt (v := .bool _) rfl), ?_⟩
    exact ⟨congrArg (fun b => Ending.returned (Value.bool b)) hR.symm, hM.low⟩
set_option maxHeartbeats 2000000 in
theorem clash_any (w : World) (A : Option Addr) (n c : Nat) (fs : List FileC) (hR : Rdl w 0 2 fileCells A fs) (hnl : n = fs.length) (hn : fs.length ≤ 1000000) (path : ByteArray) (ex : Int) (hp : path.size ≤ 1000000) (hq : ∀ f ∈ fs, f.pl.path.size ≤ 1000000) : Calls Tryz.prog 83 #[.slice A n c, .string path, .int .i64 ex] w fun e w' => e = .returned (.bool (clashF path ex 0 (fpl fs))) ∧ Below w.heap.size w w' := by
  subst hnl
  refine gcalls Tryz.func83 rfl Tryz.ntmps83 (Nat.le_of_ble_eq_true rfl) ?_
  refine gfrom [(0, .slice _ _ _), (1, .string _), (2, .int _ _)] ⟨rfl, rfl, rfl, trivial⟩ fun σ => ?_
  refine gseq fun N1 hN1 => ?_
  refine greg ?_
  refine gop (y_assign (v := .bool _) rfl) rfl rfl rfl ?_
  refine gops_nil ?_
  refine hN1 _ _ ?_
  refine gfrom [(0, .slice _ _ _), (1, .string _), (2, .int _ _)] ⟨rfl, rfl, rfl, trivial⟩ fun σ => ?_
  refine gseq fun N2 hN2 => ?_
  refine gseq fun N3 hN3 => ?_
  refine greg ?_
  refine gop (y_move (v := .slice _ _ _) rfl) rfl rfl rfl ?_
  refine gop (y_len Tryz.underlying59 rfl) rfl rfl rfl ?_
  refine gop (y_move (v := .int _ _) rfl) rfl rfl rfl ?_
  refine gops_nil ?_
  refine hN3 _ _ ?_
  refine gfrom [(1, .string _), (2, .int _ _), (9, .slice _ _ _), (10, .int _ _), (11, .int _ _)] ⟨rfl, rfl, rfl, rfl, rfl, trivial⟩ fun σ => ?_
  refine gblock ?_
  refine gfrom2 [(11, .int _ _)] [(1, .string _), (2, .int _ _), (9, .slice _ _ _), (10, .int _ _)] ⟨rfl, trivial⟩ ⟨rfl, rfl, rfl, rfl, trivial⟩ fun σ => ?_
  refine gloop2 (G := Nat) (fun k => k ≤ fs.length ∧ ∀ j (h : j < fs.length), j < k → ((0 + j : Nat) : Int) ≠ ex → relP fs[j].pl.path path = false) (fun k => fs.length - k) (fun k => [(11, .int .i64 (k : Int))]) (fun k => []) (0) ?h0 ⟨rfl, trivial⟩ ⟨rfl, rfl, rfl, rfl, trivial⟩ rfl ?round
  case h0 => exact ⟨Nat.zero_le _, fun _ _ h => absurd h (Nat.not_lt_zero _)⟩
  case round =>
    intro k hφ σ
    obtain ⟨hk, hz⟩ := hφ
    refine gseq fun N4 hN4 => ?_
    refine greg ?_
    refine gop (y_lss rfl rfl) rfl rfl rfl ?_
    refine gops_nil ?_
    refine hN4 _ _ ?_
    refine gfrom [(1, .string _), (2, .int _ _), (9, .slice _ _ _), (10, .int _ _), (11, .int _ _), (12, .bool _)] ⟨rfl, rfl, rfl, rfl, rfl, rfl, trivial⟩ fun σ => ?_
    refine gseq fun N5 hN5 => ?_
    refine gcond (b := _) rfl (fun hc12 => ?_) (fun hc12 => ?_)
    · 
      replace hc12 := of_decide_eq_true hc12
      have hk1 : k < fs.length := by omega
      obtain ⟨ad, rfl, -, hca⟩ := hR.at_ hk1
      refine gskip ?_
      refine hN5 _ _ ?_
      refine gfrom [(1, .string _), (2, .int _ _), (9, .slice _ _ _), (10, .int _ _), (11, .int _ _)] ⟨rfl, rfl, rfl, rfl, rfl, trivial⟩ fun σ => ?_
      refine gseq fun N6 hN6 => ?_
      refine gblock ?_
      refine gseq fun N7 hN7 => ?_
      refine greg ?_
      refine gop (y_move (v := .int _ _) rfl) rfl rfl rfl ?_
      refine gop (y_indexAddr (m := k) Tryz.underlying59 Tryz.sizeOf85 rfl rfl (by omega) (by omega) (by omega)) rfl rfl rfl ?_
      refine gop (y_loads (cs := [_, _]) Tryz.isAgg85 Tryz.sizeOf85 rfl rfl (cells_base hca)) rfl rfl rfl ?_
      refine gop_alloc (cs := #[.string .empty, .slice none 0 0]) Tryz.zeroValue85 rfl rfl (fun b8 hb8 => ?_)
      refine gop (y_assign (v := .int _ _) rfl) rfl rfl rfl ?_
      refine gop_store 0 (v := .agg #[_, _]) (cs' := #[_, _]) rfl rfl Tryz.sizeOf85 rfl rfl rfl rfl (Nat.le_of_ble_eq_true rfl) rfl rfl ?_
      refine gops_nil ?_
      refine hN7 _ _ ?_
      refine gT [box b8 _] rfl ?_
      refine gfrom [(1, .string _), (2, .int _ _), (7, .int _ _), (8, .pointer _), (9, .slice _ _ _), (10, .int _ _), (11, .int _ _)] ⟨rfl, rfl, rfl, rfl, rfl, rfl, rfl, trivial⟩ fun σ => ?_
      refine gseq fun N8 hN8 => ?_
      refine greg ?_
      refine gop (y_move (v := .int _ _) rfl) rfl rfl rfl ?_
      refine gop (y_move (v := .int _ _) rfl) rfl rfl rfl ?_
      refine gop (y_neq rfl rfl) rfl rfl rfl ?_
      refine gop (y_move (v := .bool _) rfl) rfl rfl rfl ?_
      refine gop_if (want := true) rfl rfl rfl rfl rfl rfl (fun hg19 => ?_) (fun hg19 => ?_)
      · 
        have hg19d := of_decide_eq_true hg19
        refine gop (y_bare (y_fieldAddr_box fa85_0 rfl)) rfl rfl rfl ?_
        refine gop_on rfl rfl rfl rfl hg19 ?_
        refine gop (y_bare (y_load Tryz.isAgg9 rfl (cell_box 0 rfl rfl))) rfl rfl rfl ?_
        refine gop_on rfl rfl rfl rfl hg19 ?_
        refine gop (y_bare (y_move (v := .string _) rfl)) rfl rfl rfl ?_
        refine gop_on rfl rfl rfl rfl hg19 ?_
        refine gop_pure (e_call (vs := [.string _, .string _]) Tryz.func111 rfl (by kernel_rfl) rfl) (fun w hM => related_any w _ _ (hq _ (List.getElem_mem hk1)) hp) rfl rfl rfl ?_
        refine gop (y_pick_t (v := .bool _) rfl hg19 rfl) rfl rfl rfl ?_
        refine gops_nil ?_
        refine hN8 _ _ ?_
        refine gfrom [(1, .string _), (2, .int _ _), (9, .slice _ _ _), (10, .int _ _), (11, .int _ _), (24, .bool _)] ⟨rfl, rfl, rfl, rfl, rfl, rfl, trivial⟩ fun σ => ?_
        refine gcond (b := _) rfl (fun hc24 => ?_) (fun hc24 => ?_)
        · 
          refine gseq fun N9 hN9 => ?_
          refine greg ?_
          refine gop (y_assign (v := .bool _) rfl) rfl rfl rfl ?_
          refine gops_nil ?_
          refine hN9 _ _ ?_
          refine gfrom [(6, .bool _)] ⟨rfl, trivial⟩ fun σ => ?_
          refine gret fun w1 hM => ?_
          refine ⟨_, res1 rfl (rt (v := .bool _) rfl), ?_⟩
          exact ⟨by rw [clashF_yes (l := fpl fs) k (by simpa using hk1) (by omega) (by rw [List.getElem_map]; exact hc24)], hM.low⟩
        · 
          have hno2 : ((0 + k : Nat) : Int) ≠ ex → relP fs[k].pl.path path = false := by first | exact hno | exact fun _ => hc24
          refine gskip ?_
          refine hN6 _ _ ?_
          refine gfrom [(1, .string _), (2, .int _ _), (9, .slice _ _ _), (10, .int _ _), (11, .int _ _)] ⟨rfl, rfl, rfl, rfl, rfl, trivial⟩ fun σ => ?_
          refine greg ?_
          refine gop (y_add rfl rfl ⟨by omega, by omega⟩) rfl rfl rfl ?_
          refine gop (y_move (v := .int _ _) rfl) rfl rfl rfl ?_
          refine gops_nil ?_
          refine gnext2 (k + 1) (by omega) (⟨by omega, fun j h hj hne => by rcases Nat.lt_succ_iff_lt_or_eq.1 hj with h1 | rfl; exact hz j h h1 hne; exact hno2 hne⟩) ⟨rfl, trivial⟩ ⟨rfl, rfl, rfl, rfl, trivial⟩ ⟨_, rfl⟩
      · 
        have hg19d := Decidable.not_not.1 (of_decide_eq_false hg19)
        have hno : ((0 + k : Nat) : Int) ≠ ex → relP fs[k].pl.path path = false := fun h9 => by exfalso; omega
        refine gop_off rfl rfl rfl rfl hg19 rfl rfl ?_
        refine gop_off rfl rfl rfl rfl hg19 rfl rfl ?_
        refine gop_off rfl rfl rfl rfl hg19 rfl rfl ?_
        refine gop (y_pick_f (v := .bool _) rfl hg19 rfl) rfl rfl rfl ?_
        refine gops_nil ?_
        refine hN8 _ _ ?_
        refine gfrom [(1, .string _), (2, .int _ _), (9, .slice _ _ _), (10, .int _ _), (11, .int _ _), (24, .bool _)] ⟨rfl, rfl, rfl, rfl, rfl, rfl, trivial⟩ fun σ => ?_
        refine gcond (b := _) rfl (fun hc24 => ?_) (fun hc24 => ?_)
        · 
          cases hc24
        · 
          have hno2 : ((0 + k : Nat) : Int) ≠ ex → relP fs[k].pl.path path = false := by first | exact hno | exact fun _ => hc24
          refine gskip ?_
          refine hN6 _ _ ?_
          refine gfrom [(1, .string _), (2, .int _ _), (9, .slice _ _ _), (10, .int _ _), (11, .int _ _)] ⟨rfl, rfl, rfl, rfl, rfl, trivial⟩ fun σ => ?_
          refine greg ?_
          refine gop (y_add rfl rfl ⟨by omega, by omega⟩) rfl rfl rfl ?_
          refine gop (y_move (v := .int _ _) rfl) rfl rfl rfl ?_
          refine gops_nil ?_
          refine gnext2 (k + 1) (by omega) (⟨by omega, fun j h hj hne => by rcases Nat.lt_succ_iff_lt_or_eq.1 hj with h1 | rfl; exact hz j h h1 hne; exact hno2 hne⟩) ⟨rfl, trivial⟩ ⟨rfl, rfl, rfl, rfl, trivial⟩ ⟨_, rfl⟩
    · 
      replace hc12 := of_decide_eq_false hc12
      refine gexit ?_
      refine hN2 _ _ ?_
      refine gfrom [] trivial fun σ => ?_
      refine gseq fun N10 hN10 => ?_
      refine greg ?_
      refine gop (y_assign (v := .bool _) rfl) rfl rfl rfl ?_
      refine gops_nil ?_
      refine hN10 _ _ ?_
      refine gfrom [(6, .bool _)] ⟨rfl, trivial⟩ fun σ => ?_
      refine gret fun w1 hM => ?_
      refine ⟨_, res1 rfl (rt (v := .bool _) rfl), ?_⟩
      exact ⟨by rw [clashF_no (l := fpl fs) (fun j hj hne => by rw [List.getElem_map]; exact hz j (by simpa using hj) (by simp at hj; omega) hne)], hM.low⟩
set_option maxHeartbeats 1000000 in
theorem find1_any (w : World) (f : FileC) (path : ByteArray) : Calls Tryz.prog 100 #[.agg #[.string f.pl.path, .slice f.A f.pl.lines.length f.c], .string path] w fun e w' => e = .returned (.int .i64 (cmpS f.pl.path path)) ∧ Below w.heap.size w w' := by
  refine gcalls Tryz.func100 rfl Tryz.ntmps100 (Nat.le_of_ble_eq_true rfl) ?_
  refine gfrom [(0, .agg #[_, _]), (1, .string _)] ⟨rfl, rfl, trivial⟩ fun σ => ?_
  refine gseq fun N1 hN1 => ?_
  refine greg ?_
  refine gop_box (v := .agg #[_, _]) (cs := #[_, _]) rfl rfl rfl (fun b2 hb2 => ?_)
  refine gop (y_assign (v := .int _ _) rfl) rfl rfl rfl ?_
  refine gops_nil ?_
  refine hN1 _ _ ?_
  refine gT [box b2 _] rfl ?_
  refine gfrom [(1, .string _), (2, .pointer _)] ⟨rfl, rfl, trivial⟩ fun σ => ?_
  refine gseq fun N2 hN2 => ?_
  refine greg ?_
  refine gop (y_fieldAddr_box fa85_0 rfl) rfl rfl rfl ?_
  refine gop (y_load Tryz.isAgg9 rfl (cell_box 0 rfl rfl)) rfl rfl rfl ?_
  refine gop (y_move (v := .string _) rfl) rfl rfl rfl ?_
  refine gop_pure (e_call (vs := [.string _, .string _]) Tryz.func101 rfl (by kernel_rfl) rfl) (fun w hM => (Tryz.strings_Compare _ _ w).mono fun _ _ ⟨h1, h2⟩ => ⟨h1, by subst h2; exact Below.refl _ _⟩) rfl rfl rfl ?_
  refine gop (y_assign (v := .int _ _) rfl) rfl rfl rfl ?_
  refine gops_nil ?_
  refine hN2 _ _ ?_
  refine gfrom [(4, .int _ _)] ⟨rfl, trivial⟩ fun σ => ?_
  refine gret fun w1 hM => ?_
  refine ⟨_, res1 rfl (rt (v := .int _ _) rfl), ?_⟩
  exact ⟨rfl, hM.low⟩
end Go.Proofs.YtbkameioedmlkaaGreatDoor
namespace Go.Proofs.YtbkameioedmlkaaGreatDoor
open Go.RowKit Go.Cf
set_option maxRecDepth 10000
set_option maxHeartbeats 4000000 in
theorem bsf_any (w : World) (A : Option Addr) (c : Nat) (fs : List FileC) (hR : TreeR w 0 A c fs) (v : VTree (fpl fs)) (path : ByteArray) :
    Calls Tryz.prog 99 #[.slice A fs.length c, .string path, .func (.func 100) #[] #[]] w fun e w' => ∃ (k : Nat) (b : Bool), e = .returned (.tuple #[.int .i64 (k : Int), .bool b]) ∧ Below w.heap.size w w' ∧ (b = true → ∃ h : k < fs.length, fs[k].pl.path = path) ∧ (b = false → ∀ f ∈ fs, f.pl.path ≠ path) := by
  have hsl := hR.sb.len
  have hsm := hR.sb.max
  have hmx : maxLen = 9223372036854775807 := rfl
  have hlen : fs.length ≤ 24 := by have h9 := v.len; simpa using h9
  refine gcalls Tryz.func99 rfl Tryz.ntmps99 (Nat.le_of_ble_eq_true rfl) ?_
  refine gfrom [(0, .slice _ _ _), (1, .string _), (2, .func (.func 100) #[] #[])] ⟨rfl, rfl, rfl, trivial⟩ fun σ => ?_
  refine gseq fun N1 hN1 => ?_
  refine greg ?_
  refine gop (y_assign (v := .int _ _) rfl) rfl rfl rfl ?_
  refine gop (y_assign (v := .bool _) rfl) rfl rfl rfl ?_
  refine gops_nil ?_
  refine hN1 _ _ ?_
  refine gfrom [(0, .slice _ _ _), (1, .string _), (2, .func (.func 100) #[] #[])] ⟨rfl, rfl, rfl, trivial⟩ fun σ => ?_
  refine gseq fun N2 hN2 => ?_
  refine greg ?_
  refine gop (y_move (v := .slice _ _ _) rfl) rfl rfl rfl ?_
  refine gop (y_len Tryz.underlying59 rfl) rfl rfl rfl ?_
  refine gop (y_assign (v := .int _ _) rfl) rfl rfl rfl ?_
  refine gops_nil ?_
  refine hN2 _ _ ?_
  refine gfrom [(0, .slice _ _ _), (1, .string _), (2, .func (.func 100) #[] #[]), (8, .int _ _)] ⟨rfl, rfl, rfl, rfl, trivial⟩ fun σ => ?_
  refine gseq fun N3 hN3 => ?_
  refine greg ?_
  refine gop (y_move (v := .int _ _) rfl) rfl rfl rfl ?_
  refine gop (y_assign (v := .int _ _) rfl) rfl rfl rfl ?_
  refine gop (y_assign (v := .int _ _) rfl) rfl rfl rfl ?_
  refine gops_nil ?_
  refine hN3 _ _ ?_
  refine gfrom [(0, .slice _ _ _), (1, .string _), (2, .func (.func 100) #[] #[]), (8, .int _ _), (9, .int _ _), (10, .int _ _)] ⟨rfl, rfl, rfl, rfl, rfl, rfl, trivial⟩ fun σ => ?_
  refine gseq fun N4 hN4 => ?_
  refine gblock ?_
  refine gfrom2 [(9, .int _ _), (10, .int _ _)] [(0, .slice _ _ _), (1, .string _), (2, .func (.func 100) #[] #[]), (8, .int _ _)] ⟨rfl, rfl, trivial⟩ ⟨rfl, rfl, rfl, rfl, trivial⟩ fun σ => ?_
  refine gloop2 (G := Nat × Nat) (fun (i, j) => i ≤ j ∧ j ≤ fs.length ∧ (∀ m (h : m < fs.length), m < i → ltS fs[m].pl.path path) ∧ (∀ m (h : m < fs.length), j ≤ m → ¬ ltS fs[m].pl.path path)) (fun (i, j) => j - i) (fun (i, j) => [(9, .int .i64 (i : Int)), (10, .int .i64 (j : Int))]) (fun (i, j) => []) ((0, fs.length)) ?h0 ⟨rfl, rfl, trivial⟩ ⟨rfl, rfl, rfl, rfl, trivial⟩ rfl ?round
  case h0 => exact ⟨Nat.zero_le _, Nat.le_refl _, fun _ _ h => absurd h (Nat.not_lt_zero _), fun m h h9 => absurd h (by omega)⟩
  case round =>
    rintro ⟨i, j⟩ hφ σ
    obtain ⟨hij, hj, hlo, hhi⟩ : i ≤ j ∧ j ≤ fs.length ∧ (∀ m (h : m < fs.length), m < i → ltS fs[m].pl.path path) ∧ (∀ m (h : m < fs.length), j ≤ m → ¬ ltS fs[m].pl.path path) := hφ
    refine gseq fun N5 hN5 => ?_
    refine gseq fun N6 hN6 => ?_
    refine greg ?_
    refine gop (y_move (v := .int _ _) rfl) rfl rfl rfl ?_
    refine gop (y_move (v := .int _ _) rfl) rfl rfl rfl ?_
    refine gop (y_lss rfl rfl) rfl rfl rfl ?_
    refine gops_nil ?_
    refine hN6 _ _ ?_
    refine gfrom [(0, .slice _ _ _), (1, .string _), (2, .func (.func 100) #[] #[]), (8, .int _ _), (9, .int _ _), (10, .int _ _), (17, .bool _)] ⟨rfl, rfl, rfl, rfl, rfl, rfl, rfl, trivial⟩ fun σ => ?_
    refine gcond (b := _) rfl (fun hc17 => ?_) (fun hc17 => ?_)
    · 
      replace hc17 := of_decide_eq_true hc17
      have hh : (i + j) / 2 < fs.length := by omega
      obtain ⟨ad, rfl, -, hca⟩ := hR.rd.at_ hh
      refine gskip ?_
      refine hN5 _ _ ?_
      refine gfrom [(0, .slice _ _ _), (1, .string _), (2, .func (.func 100) #[] #[]), (8, .int _ _), (9, .int _ _), (10, .int _ _)] ⟨rfl, rfl, rfl, rfl, rfl, rfl, trivial⟩ fun σ => ?_
      refine gblock ?_
      refine gseq fun N7 hN7 => ?_
      refine greg ?_
      refine gop (y_move (v := .int _ _) rfl) rfl rfl rfl ?_
      refine gop (y_move (v := .int _ _) rfl) rfl rfl rfl ?_
      refine gop (y_add rfl rfl ⟨by omega, by omega⟩) rfl rfl rfl ?_
      refine gop (y_toU (by kernel_rfl) Tryz.underlying180 rfl (by omega) (by omega)) rfl rfl rfl ?_
      refine gop (y_shrU rfl rfl) rfl rfl rfl ?_
      refine gop (y_ofU (by kernel_rfl) Tryz.underlying3 rfl (by omega) (by omega)) rfl rfl rfl ?_
      refine gop (y_assign (v := .int _ _) rfl) rfl rfl rfl ?_
      refine gops_nil ?_
      refine hN7 _ _ ?_
      refine gfrom [(0, .slice _ _ _), (1, .string _), (2, .func (.func 100) #[] #[]), (8, .int _ _), (9, .int _ _), (10, .int _ _), (11, .int _ _)] ⟨rfl, rfl, rfl, rfl, rfl, rfl, rfl, trivial⟩ fun σ => ?_
      refine gseq fun N8 hN8 => ?_
      refine greg ?_
      refine gop (y_move (v := .func (.func 100) #[] #[]) rfl) rfl rfl rfl ?_
      refine gop (y_move (v := .slice _ _ _) rfl) rfl rfl rfl ?_
      refine gop (y_move (v := .int _ _) rfl) rfl rfl rfl ?_
      refine gop (y_indexAddr (m := (i + j) / 2) Tryz.underlying59 Tryz.sizeOf85 rfl rfl (by omega) (by omega) (by omega)) rfl rfl rfl ?_
      refine gop (y_loads (cs := [_, _]) Tryz.isAgg85 Tryz.sizeOf85 rfl rfl (cells_base hca)) rfl rfl rfl ?_
      refine gop (y_move (v := .string _) rfl) rfl rfl rfl ?_
      refine gop_pure (e_callv (vs := [.agg #[_, _], .string _]) (cs := []) rfl Tryz.func100 rfl (by kernel_rfl) rfl) (fun w hM => by have hc := find1_any w fs[(i + j) / 2] path; exact hc) rfl rfl rfl ?_
      refine gop (y_lss rfl rfl) rfl rfl rfl ?_
      refine gops_nil ?_
      refine hN8 _ _ ?_
      refine gfrom [(0, .slice _ _ _), (1, .string _), (2, .func (.func 100) #[] #[]), (8, .int _ _), (9, .int _ _), (10, .int _ _), (11, .int _ _), (31, .bool _)] ⟨rfl, rfl, rfl, rfl, rfl, rfl, rfl, rfl, trivial⟩ fun σ => ?_
      refine gcond (b := _) rfl (fun hc31 => ?_) (fun hc31 => ?_)
      · 
        replace hc31 := of_decide_eq_true hc31
        have hlt := cmpS_lt.1 hc31
        have hle2 := bs_left v hh hlt
        refine greg ?_
        refine gop (y_move (v := .int _ _) rfl) rfl rfl rfl ?_
        refine gop (y_add rfl rfl ⟨by omega, by omega⟩) rfl rfl rfl ?_
        refine gop (y_assign (v := .int _ _) rfl) rfl rfl rfl ?_
        refine gops_nil ?_
        refine gnext2 (((i + j) / 2 + 1, j)) (by show j - ((i + j) / 2 + 1) < j - i; omega) (⟨by show (i + j) / 2 + 1 ≤ j; omega, hj, fun m h h9 => hle2 m h (by omega), hhi⟩) ⟨(by first | rfl | exact congrArg (Value.int .i64) (by omega)), (by first | rfl | exact congrArg (Value.int .i64) (by omega)), trivial⟩ ⟨rfl, rfl, rfl, rfl, trivial⟩ ⟨_, rfl⟩
      · 
        replace hc31 := of_decide_eq_false hc31
        have hge := fun h9 => hc31 (cmpS_lt.2 h9)
        have hge2 := bs_right v hh hge
        refine greg ?_
        refine gop (y_move (v := .int _ _) rfl) rfl rfl rfl ?_
        refine gop (y_assign (v := .int _ _) rfl) rfl rfl rfl ?_
        refine gops_nil ?_
        refine gnext2 ((i, (i + j) / 2)) (by show (i + j) / 2 - i < j - i; omega) (⟨by show i ≤ (i + j) / 2; omega, by show (i + j) / 2 ≤ fs.length; omega, hlo, hge2⟩) ⟨(by first | rfl | exact congrArg (Value.int .i64) (by omega)), (by first | rfl | exact congrArg (Value.int .i64) (by omega)), trivial⟩ ⟨rfl, rfl, rfl, rfl, trivial⟩ ⟨_, rfl⟩
    · 
      replace hc17 := of_decide_eq_false hc17
      refine gexit ?_
      refine hN4 _ _ ?_
      refine gfrom [(0, .slice _ _ _), (1, .string _), (2, .func (.func 100) #[] #[]), (8, .int _ _), (9, .int _ _)] ⟨rfl, rfl, rfl, rfl, rfl, trivial⟩ fun σ => ?_
      refine gseq fun N9 hN9 => ?_
      refine greg ?_
      refine gop (y_move (v := .int _ _) rfl) rfl rfl rfl ?_
      refine gop (y_move (v := .int _ _) rfl) rfl rfl rfl ?_
      refine gop (y_move (v := .int _ _) rfl) rfl rfl rfl ?_
      refine gop (y_lss rfl rfl) rfl rfl rfl ?_
      refine gop (y_move (v := .bool _) rfl) rfl rfl rfl ?_
      refine gop_if (want := true) rfl rfl rfl rfl rfl rfl (fun hg39 => ?_) (fun hg39 => ?_)
      · 
        have hg39d := of_decide_eq_true hg39
        have hi : i < fs.length := by omega
        obtain ⟨ad, rfl, -, hcb⟩ := hR.rd.at_ hi
        refine gop (y_bare (y_move (v := .func (.func 100) #[] #[]) rfl)) rfl rfl rfl ?_
        refine gop_on rfl rfl rfl rfl hg39 ?_
        refine gop (y_bare (y_move (v := .slice _ _ _) rfl)) rfl rfl rfl ?_
        refine gop_on rfl rfl rfl rfl hg39 ?_
        refine gop (y_bare (y_move (v := .int _ _) rfl)) rfl rfl rfl ?_
        refine gop_on rfl rfl rfl rfl hg39 ?_
        refine gop (y_bare (y_indexAddr (m := i) Tryz.underlying59 Tryz.sizeOf85 rfl rfl (by omega) (by omega) (by omega))) rfl rfl rfl ?_
        refine gop_on rfl rfl rfl rfl hg39 ?_
        refine gop (y_bare (y_loads (cs := [_, _]) Tryz.isAgg85 Tryz.sizeOf85 rfl rfl (cells_base hcb))) rfl rfl rfl ?_
        refine gop_on rfl rfl rfl rfl hg39 ?_
        refine gop (y_bare (y_move (v := .string _) rfl)) rfl rfl rfl ?_
        refine gop_on rfl rfl rfl rfl hg39 ?_
        refine gop_pure (e_callv (vs := [.agg #[_, _], .string _]) (cs := []) rfl Tryz.func100 rfl (by kernel_rfl) rfl) (fun w hM => by have hc := find1_any w fs[i] path; exact hc) rfl rfl rfl ?_
        refine gop_on rfl rfl rfl rfl hg39 ?_
        refine gop (y_bare (y_eql rfl rfl)) rfl rfl rfl ?_
        refine gop (y_pick_t (v := .bool _) rfl hg39 rfl) rfl rfl rfl ?_
        refine gop (y_assign (v := .int _ _) rfl) rfl rfl rfl ?_
        refine gop (y_assign (v := .bool _) rfl) rfl rfl rfl ?_
        refine gops_nil ?_
        refine hN9 _ _ ?_
        refine gfrom [(6, .int _ _), (7, .bool _)] ⟨rfl, rfl, trivial⟩ fun σ => ?_
        refine gret fun w1 hM => ?_
        refine ⟨_, res2 rfl (rt (v := .int _ _) rfl) (rt (v := .bool _) rfl), ?_⟩
        have hje : j = i := by omega
        subst hje
        first
          | exact ⟨j, decide (cmpS fs[j].pl.path path = 0), rfl, hM.low, fun h => ⟨hi, cmpS_eq.1 (of_decide_eq_true h)⟩, fun h f hf => bs_none v hlo (fun m h8 h9 => hhi m h8 h9) (fun _ h9 => of_decide_eq_false h (cmpS_eq.2 h9)) hf⟩
          | exact ⟨j, false, rfl, hM.low, (fun h => by cases h), fun _ f hf => bs_none v hlo (fun m h8 h9 => hhi m h8 h9) (fun h9 _ => absurd h9 (by omega)) hf⟩
      · 
        have hg39d := of_decide_eq_false hg39
        refine gop_off rfl rfl rfl rfl hg39 rfl rfl ?_
        refine gop_off rfl rfl rfl rfl hg39 rfl rfl ?_
        refine gop_off rfl rfl rfl rfl hg39 rfl rfl ?_
        refine gop_off rfl rfl rfl rfl hg39 rfl rfl ?_
        refine gop_off rfl rfl rfl rfl hg39 rfl rfl ?_
        refine gop_off rfl rfl rfl rfl hg39 rfl rfl ?_
        refine gop_off rfl rfl rfl rfl hg39 rfl rfl ?_
        refine gop (y_pick_f (v := .bool _) rfl hg39 rfl) rfl rfl rfl ?_
        refine gop (y_assign (v := .int _ _) rfl) rfl rfl rfl ?_
        refine gop (y_assign (v := .bool _) rfl) rfl rfl rfl ?_
        refine gops_nil ?_
        refine hN9 _ _ ?_
        refine gfrom [(6, .int _ _), (7, .bool _)] ⟨rfl, rfl, trivial⟩ fun σ => ?_
        refine gret fun w1 hM => ?_
        refine ⟨_, res2 rfl (rt (v := .int _ _) rfl) (rt (v := .bool _) rfl), ?_⟩
        have hje : j = i := by omega
        subst hje
        first
          | exact ⟨j, decide (cmpS fs[j].pl.path path = 0), rfl, hM.low, fun h => ⟨hi, cmpS_eq.1 (of_decide_eq_true h)⟩, fun h f hf => bs_none v hlo (fun m h8 h9 => hhi m h8 h9) (fun _ h9 => of_decide_eq_false h (cmpS_eq.2 h9)) hf⟩
          | exact ⟨j, false, rfl, hM.low, (fun h => by cases h), fun _ f hf => bs_none v hlo (fun m h8 h9 => hhi m h8 h9) (fun h9 _ => absurd h9 (by omega)) hf⟩
set_option maxHeartbeats 2000000 in
theorem treeFind_any (w : World) (A : Option Addr) (c : Nat) (fs : List FileC) (hR : TreeR w 0 A c fs) (v : VTree (fpl fs)) (path : ByteArray) :
    Calls Tryz.prog 69 #[.slice A fs.length c, .string path] w fun e w' => ∃ (k : Nat) (b : Bool), e = .returned (.tuple #[.int .i64 (k : Int), .bool b]) ∧ Below w.heap.size w w' ∧ (b = true → ∃ h : k < fs.length, fs[k].pl.path = path) ∧ (b = false → ∀ f ∈ fs, f.pl.path ≠ path) := by
  refine gcalls Tryz.func69 rfl Tryz.ntmps69 (Nat.le_of_ble_eq_true rfl) ?_
  refine gfrom [(0, .slice _ _ _), (1, .string _)] ⟨rfl, rfl, trivial⟩ fun σ => ?_
  refine gseq fun N1 hN1 => ?_
  refine greg ?_
  refine gop (y_assign (v := .int _ _) rfl) rfl rfl rfl ?_
  refine gop (y_assign (v := .bool _) rfl) rfl rfl rfl ?_
  refine gops_nil ?_
  refine hN1 _ _ ?_
  refine gfrom [(0, .slice _ _ _), (1, .string _)] ⟨rfl, rfl, trivial⟩ fun σ => ?_
  refine gseq fun N2 hN2 => ?_
  refine greg ?_
  refine gop (y_move (v := .slice _ _ _) rfl) rfl rfl rfl ?_
  refine gop (y_move (v := .string _) rfl) rfl rfl rfl ?_
  refine gop_got (fun v T' => T' = [] ∧ ∃ (k : Nat) (b : Bool), v = .tuple #[.int .i64 (k : Int), .bool b] ∧ (b = true → ∃ h : k < fs.length, fs[k].pl.path = path) ∧ (b = false → ∀ f ∈ fs, f.pl.path ≠ path)) (e_call (vs := [.slice _ _ _, .string _, _]) Tryz.func99 rfl (by kernel_rfl) rfl) (fun w hM => (bsf_any w A c fs (hR.base hM) v path).mono fun _ _ ⟨k, b, h1, h2, h3, h4⟩ => ⟨_, [], h1, ⟨rfl, k, b, rfl, h3, h4⟩, (Mem.start w).call h2⟩) rfl rfl rfl ?_
  rintro _ _ ⟨rfl, k, b, rfl, hf1, hf2⟩
  refine gop (y_extract (v := .int _ _) rfl rfl) rfl rfl rfl ?_
  refine gop (y_extract (v := .bool _) rfl rfl) rfl rfl rfl ?_
  refine gop (y_assign (v := .int _ _) rfl) rfl rfl rfl ?_
  refine gop (y_assign (v := .bool _) rfl) rfl rfl rfl ?_
  refine gops_nil ?_
  refine hN2 _ _ ?_
  refine gfrom [(4, .int _ _), (5, .bool _)] ⟨rfl, rfl, trivial⟩ fun σ => ?_
  refine gret fun w1 hM => ?_
  refine ⟨_, res2 rfl (rt (v := .int _ _) rfl) (rt (v := .bool _) rfl), ?_⟩
  exact ⟨k, b, rfl, hM.low, hf1, hf2⟩
end Go.Proofs.YtbkameioedmlkaaGreatDoor
namespace Go.Proofs.YtbkameioedmlkaaGreatDoor
open Go.RowKit Go.Cf
set_option maxRecDepth 10000
theorem fa61_0 (a : Addr) (w : World) : (Instr.fieldAt 61 (.pointer (some a)) 0).run Tryz.prog w = .ok (.pointer (some (a.add 0))) w := by kernel_rfl
theorem fa85_1 (a : Addr) (w : World) : (Instr.fieldAt 85 (.pointer (some a)) 1).run Tryz.prog w = .ok (.pointer (some (a.add 1))) w := by kernel_rfl
set_option maxHeartbeats 8000000 in
theorem treeValidate_any (w : World) (A : Option Addr) (c : Nat) (fs : List FileC) (hR : TreeR w 0 A c fs) : Calls Tryz.prog 45 #[.agg #[.slice A fs.length c]] w fun e w' => e = .returned (fv (treeF (fpl fs))) ∧ Below w.heap.size w w' := by
  have hsl := hR.sb.len
  have hsm := hR.sb.max
  have hmx : maxLen = 9223372036854775807 := rfl
  refine gcalls Tryz.func45 rfl Tryz.ntmps45 (Nat.le_of_ble_eq_true rfl) ?_
  refine gfrom [(0, .agg #[_])] ⟨rfl, trivial⟩ fun σ => ?_
  refine gseq fun N1 hN1 => ?_
  refine greg ?_
  refine gop_box (v := .agg #[_]) (cs := #[_]) rfl rfl rfl (fun b1 hb1 => ?_)
  refine gop_alloc (cs := #[.int .i64 0, .int .i64 0]) Tryz.zeroValue33 rfl rfl (fun b2 hb2 => ?_)
  refine gops_nil ?_
  refine hN1 _ _ ?_
  refine gT [box b1 _, box b2 _] rfl ?_
  refine gfrom [(1, .pointer _), (2, .pointer _)] ⟨rfl, rfl, trivial⟩ fun σ => ?_
  refine gseq fun N2 hN2 => ?_
  refine gseq fun N3 hN3 => ?_
  refine greg ?_
  refine gop (y_fieldAddr_box fa61_0 rfl) rfl rfl rfl ?_
  refine gop (y_load Tryz.isAgg59 rfl (cell_box 0 rfl rfl)) rfl rfl rfl ?_
  refine gop (y_len Tryz.underlying59 rfl) rfl rfl rfl ?_
  refine gop (y_gtr rfl rfl) rfl rfl rfl ?_
  refine gops_nil ?_
  refine hN3 _ _ ?_
  refine gfrom [(1, .pointer _), (2, .pointer _), (9, .bool _)] ⟨rfl, rfl, rfl, trivial⟩ fun σ => ?_
  refine gcond (b := _) rfl (fun hc9 => ?_) (fun hc9 => ?_)
  · 
    replace hc9 := of_decide_eq_true hc9
    have hF : treeF (fpl fs) = ⟨2, -1⟩ := by rw [treeF, if_pos (by simp; omega)]
    refine gseq fun N4 hN4 => ?_
    refine greg ?_
    refine gop (y_build (vs := [(0, _), (1, _)]) (cells := #[_, _]) rfl (bd33_0_1 _ _)) rfl rfl rfl ?_
    refine gop_store 1 (v := .agg #[_, _]) (cs' := #[_, _]) rfl rfl Tryz.sizeOf33 rfl rfl rfl rfl (Nat.le_of_ble_eq_true rfl) rfl rfl ?_
    refine gops_nil ?_
    refine hN4 _ _ ?_
    refine gT [box b1 _, box b2 _] rfl ?_
    refine gfrom [(2, .pointer _)] ⟨rfl, trivial⟩ fun σ => ?_
    refine gret fun w1 hM => ?_
    refine ⟨_, res1 rfl (rc 1 (cs := [_, _]) hM rfl rfl Tryz.isAgg33 Tryz.sizeOf33 rfl), ?_⟩
    exact ⟨by rw [hF], hM.low⟩
  · 
    replace hc9 := of_decide_eq_false hc9
    have hF : treeF (fpl fs) = scan (fun i f => treeC (fpl fs) i f) (fpl fs) := by rw [treeF, if_neg (by simp; omega)]
    refine gskip ?_
    refine hN2 _ _ ?_
    refine gfrom [(1, .pointer _), (2, .pointer _)] ⟨rfl, rfl, trivial⟩ fun σ => ?_
    refine gseq fun N5 hN5 => ?_
    refine gseq fun N6 hN6 => ?_
    refine greg ?_
    refine gop (y_fieldAddr_box fa61_0 rfl) rfl rfl rfl ?_
    refine gop (y_load Tryz.isAgg59 rfl (cell_box 0 rfl rfl)) rfl rfl rfl ?_
    refine gop (y_len Tryz.underlying59 rfl) rfl rfl rfl ?_
    refine gop (y_move (v := .int _ _) rfl) rfl rfl rfl ?_
    refine gops_nil ?_
    refine hN6 _ _ ?_
    refine gfrom [(1, .pointer _), (2, .pointer _), (12, .slice _ _ _), (13, .int _ _), (14, .int _ _)] ⟨rfl, rfl, rfl, rfl, rfl, trivial⟩ fun σ => ?_
    refine gblock ?_
    refine gfrom2 [(14, .int _ _)] [(1, .pointer _), (2, .pointer _), (12, .slice _ _ _), (13, .int _ _)] ⟨rfl, trivial⟩ ⟨rfl, rfl, rfl, rfl, trivial⟩ fun σ => ?_
    refine gloop2 (G := Nat) (fun k => k ≤ fs.length ∧ ∀ j (h : j < fs.length), j < k → treeC (fpl fs) j fs[j].pl = 0) (fun k => fs.length - k) (fun k => [(14, .int .i64 (k : Int))]) (fun k => []) (0) ?h0 ⟨rfl, trivial⟩ ⟨rfl, rfl, rfl, rfl, trivial⟩ rfl ?round
    case h0 => exact ⟨Nat.zero_le _, fun _ _ h => absurd h (Nat.not_lt_zero _)⟩
    case round =>
      intro k hφ σ
      obtain ⟨hk, hz⟩ := hφ
      refine gseq fun N7 hN7 => ?_
      refine greg ?_
      refine gop (y_lss rfl rfl) rfl rfl rfl ?_
      refine gops_nil ?_
      refine hN7 _ _ ?_
      refine gfrom [(1, .pointer _), (2, .pointer _), (12, .slice _ _ _), (13, .int _ _), (14, .int _ _), (15, .bool _)] ⟨rfl, rfl, rfl, rfl, rfl, rfl, trivial⟩ fun σ => ?_
      refine gseq fun N8 hN8 => ?_
      refine gcond (b := _) rfl (fun hc15 => ?_) (fun hc15 => ?_)
      · 
        replace hc15 := of_decide_eq_true hc15
        have hk1 : k < fs.length := by omega
        obtain ⟨ad, rfl, -, hca⟩ := hR.rd.at_ hk1
        have hRk := hR.each _ (List.getElem_mem hk1)
        have hk2 : k < (fpl fs).length := by simpa using hk1
        refine gskip ?_
        refine hN8 _ _ ?_
        refine gfrom [(1, .pointer _), (2, .pointer _), (12, .slice _ _ _), (13, .int _ _), (14, .int _ _)] ⟨rfl, rfl, rfl, rfl, rfl, trivial⟩ fun σ => ?_
        refine gseq fun N9 hN9 => ?_
        refine gblock ?_
        refine gseq fun N10 hN10 => ?_
        refine greg ?_
        refine gop (y_move (v := .int _ _) rfl) rfl rfl rfl ?_
        refine gop (y_indexAddr (m := k) Tryz.underlying59 Tryz.sizeOf85 rfl rfl (by omega) (by omega) (by omega)) rfl rfl rfl ?_
        refine gop (y_loads (cs := [_, _]) Tryz.isAgg85 Tryz.sizeOf85 rfl rfl (cells_base hca)) rfl rfl rfl ?_
        refine gop_alloc (cs := #[.string .empty, .slice none 0 0]) Tryz.zeroValue85 rfl rfl (fun b4 hb4 => ?_)
        refine gop (y_assign (v := .int _ _) rfl) rfl rfl rfl ?_
        refine gop_store 2 (v := .agg #[_, _]) (cs' := #[_, _]) rfl rfl Tryz.sizeOf85 rfl rfl rfl rfl (Nat.le_of_ble_eq_true rfl) rfl rfl ?_
        refine gops_nil ?_
        refine hN10 _ _ ?_
        refine gT [box b1 _, box b2 _, box b4 _] rfl ?_
        refine gfrom [(1, .pointer _), (2, .pointer _), (3, .int _ _), (4, .pointer _), (12, .slice _ _ _), (13, .int _ _), (14, .int _ _)] ⟨rfl, rfl, rfl, rfl, rfl, rfl, rfl, trivial⟩ fun σ => ?_
        refine gseq fun N11 hN11 => ?_
        refine gblock ?_
        refine gseq fun N12 hN12 => ?_
        refine greg ?_
        refine gop (y_fieldAddr_box fa85_0 rfl) rfl rfl rfl ?_
        refine gop (y_load Tryz.isAgg9 rfl (cell_box 2 rfl rfl)) rfl rfl rfl ?_
        refine gop_pure (e_call (vs := [.string _]) Tryz.func44 rfl (by kernel_rfl) rfl) (fun w hM => validPath_any w _) rfl rfl rfl ?_
        refine gop (y_not rfl) rfl rfl rfl ?_
        refine gop (y_assign (v := .bool _) rfl) rfl rfl rfl ?_
        refine gops_nil ?_
        refine hN12 _ _ ?_
        refine gfrom [(1, .pointer _), (2, .pointer _), (3, .int _ _), (4, .pointer _), (12, .slice _ _ _), (13, .int _ _), (14, .int _ _), (19, .bool _)] ⟨rfl, rfl, rfl, rfl, rfl, rfl, rfl, rfl, trivial⟩ fun σ => ?_
        refine gcond (b := _) rfl (fun hc19 => ?_) (fun hc19 => ?_)
        · 
          replace hc19 := not_t hc19
          have hC : treeC (fpl fs) k fs[k].pl = 12 := by rw [treeC, if_pos (by simp [hc19])]
          refine gseq fun N13 hN13 => ?_
          refine greg ?_
          refine gop (y_move (v := .int _ _) rfl) rfl rfl rfl ?_
          refine gop (y_build (vs := [(0, _), (1, .int _ _)]) (cells := #[_, _]) rfl (bd33_0_1 _ _)) rfl rfl rfl ?_
          refine gop_store 1 (v := .agg #[_, _]) (cs' := #[_, _]) rfl rfl Tryz.sizeOf33 rfl rfl rfl rfl (Nat.le_of_ble_eq_true rfl) rfl rfl ?_
          refine gops_nil ?_
          refine hN13 _ _ ?_
          refine gT [box b1 _, box b2 _, box b4 _] rfl ?_
          refine gfrom [(2, .pointer _)] ⟨rfl, trivial⟩ fun σ => ?_
          refine gret fun w1 hM => ?_
          refine ⟨_, res1 rfl (rc 1 (cs := [_, _]) hM rfl rfl Tryz.isAgg33 Tryz.sizeOf33 rfl), ?_⟩
          exact ⟨by rw [hF, tree_at hk1 hz hC (by decide)], hM.low⟩
        · 
          replace hc19 := not_f hc19
          have hpk : pathOk fs[k].pl.path = true := by simpa using hc19
          have hpz : fs[k].pl.path.size ≤ 1000000 := Nat.le_trans (pathOk_size hpk) (by decide)
          have hqz : ∀ f ∈ fs.take k, f.pl.path.size ≤ 1000000 := fun f hf => by obtain ⟨j, hj, rfl⟩ := List.getElem_of_mem hf; rw [List.getElem_take]; exact Nat.le_trans (pathOk_size (treeC_zero (hz j (by simp at hj; omega) (by simp at hj; omega))).1) (by decide)
          have hp1 : ¬ ¬ pathOk fs[k].pl.path = true := fun h9 => h9 hpk
          refine gseq fun N14 hN14 => ?_
          refine greg_q (by kernel_rfl) (by kernel_rfl) ?_
          refine gq (y_move (v := .int _ _) rfl) rfl rfl rfl ?_
          refine gq (y_gtr rfl rfl) rfl rfl rfl ?_
          refine gq (y_move (v := .bool _) rfl) rfl rfl rfl ?_
          refine gq_if (want := true) rfl rfl rfl rfl rfl rfl (fun hg29 => ?_) (fun hg29 => ?_)
          · 
            have hg29d := of_decide_eq_true hg29
            have hk0 : k - 1 < fs.length := by omega
            obtain ⟨ad2, hq2, -, hcb⟩ := hR.rd.at_ hk0
            cases hq2
            have hkp : prevS (fpl fs) k = fs[k - 1].pl.path := by simp [prevS, hk0]
            refine gq (y_bare (y_fieldAddr_box fa85_0 rfl)) rfl rfl rfl ?_
            refine gq_on rfl rfl rfl rfl hg29 ?_
            refine gq (y_bare (y_load Tryz.isAgg9 rfl (cell_box 2 rfl rfl))) rfl rfl rfl ?_
            refine gq_on rfl rfl rfl rfl hg29 ?_
            refine gq (y_bare (y_fieldAddr_box fa61_0 rfl)) rfl rfl rfl ?_
            refine gq_on rfl rfl rfl rfl hg29 ?_
            refine gq (y_bare (y_load Tryz.isAgg59 rfl (cell_box 0 rfl rfl))) rfl rfl rfl ?_
            refine gq_on rfl rfl rfl rfl hg29 ?_
            refine gq (y_bare (y_move (v := .int _ _) rfl)) rfl rfl rfl ?_
            refine gq_on rfl rfl rfl rfl hg29 ?_
            refine gq (y_bare (y_sub rfl rfl ⟨by omega, by omega⟩)) rfl rfl rfl ?_
            refine gq_on rfl rfl rfl rfl hg29 ?_
            refine gq (y_bare (y_indexAddr (m := k - 1) Tryz.underlying59 Tryz.sizeOf85 rfl rfl (by omega) (by omega) (by omega))) rfl rfl rfl ?_
            refine gq_on rfl rfl rfl rfl hg29 ?_
            refine gq (y_bare (y_fieldAddr_add fa85_0 rfl)) rfl rfl rfl ?_
            refine gq_on rfl rfl rfl rfl hg29 ?_
            refine gq (y_bare (y_load Tryz.isAgg9 rfl (cell_base (hcb 0 _ rfl)))) rfl rfl rfl ?_
            refine gq_on rfl rfl rfl rfl hg29 ?_
            refine gq (y_bare (y_leqs rfl rfl)) rfl rfl rfl ?_
            refine gq (y_pick_t (v := .bool _) rfl hg29 rfl) rfl rfl rfl ?_
            refine gq (y_assign (v := .bool _) rfl) rfl rfl rfl ?_
            refine gqs_nil ?_
            refine hN14 _ _ ?_
            refine gfrom [(1, .pointer _), (2, .pointer _), (3, .int _ _), (4, .pointer _), (12, .slice _ _ _), (13, .int _ _), (14, .int _ _), (26, .bool _)] ⟨rfl, rfl, rfl, rfl, rfl, rfl, rfl, rfl, trivial⟩ fun σ => ?_
            refine gcond (b := _) rfl (fun hc26 => ?_) (fun hc26 => ?_)
            · 
              have hC : treeC (fpl fs) k fs[k].pl = 5 := by rw [treeC, if_neg hp1, if_pos ⟨by omega, leS_t hkp hc26⟩]
              refine gseq fun N15 hN15 => ?_
              refine greg ?_
              refine gop (y_move (v := .int _ _) rfl) rfl rfl rfl ?_
              refine gop (y_build (vs := [(0, _), (1, .int _ _)]) (cells := #[_, _]) rfl (bd33_0_1 _ _)) rfl rfl rfl ?_
              refine gop_store 1 (v := .agg #[_, _]) (cs' := #[_, _]) rfl rfl Tryz.sizeOf33 rfl rfl rfl rfl (Nat.le_of_ble_eq_true rfl) rfl rfl ?_
              refine gops_nil ?_
              refine hN15 _ _ ?_
              refine gT [box b1 _, box b2 _, box b4 _] rfl ?_
              refine gfrom [(2, .pointer _)] ⟨rfl, trivial⟩ fun σ => ?_
              refine gret fun w1 hM => ?_
              refine ⟨_, res1 rfl (rc 1 (cs := [_, _]) hM rfl rfl Tryz.isAgg33 Tryz.sizeOf33 rfl), ?_⟩
              exact ⟨by rw [hF, tree_at hk1 hz hC (by decide)], hM.low⟩
            · 
              have hp2 : ¬ (0 < k ∧ ¬ ltS (prevS (fpl fs) k) fs[k].pl.path) := by first | exact fun h9 => h9.2 (leS_f hkp hc26) | exact fun h9 => absurd h9.1 (by omega)
              refine gseq fun N16 hN16 => ?_
              refine greg_q (by kernel_rfl) (by kernel_rfl) ?_
              refine gq (y_fieldAddr_box fa61_0 rfl) rfl rfl rfl ?_
              refine gq (y_load Tryz.isAgg59 rfl (cell_box 0 rfl rfl)) rfl rfl rfl ?_
              refine gq (y_move (v := .int _ _) rfl) rfl rfl rfl ?_
              refine gq (y_prefix (m := k) Tryz.underlying59 Tryz.sizeOf85 rfl rfl (by omega) (by omega) rfl) rfl rfl rfl ?_
              refine gq (y_fieldAddr_box fa85_0 rfl) rfl rfl rfl ?_
              refine gq (y_load Tryz.isAgg9 rfl (cell_box 2 rfl rfl)) rfl rfl rfl ?_
              refine gq_pure (e_call (vs := [.slice _ _ _, .string _, _]) Tryz.func83 rfl (by kernel_rfl) rfl) (fun w hM => by have hc := clash_any w (some ad) k c (fs.take k) (rdl_take (hR.rd.base hM) k) (by simp; omega) (by simp; omega) fs[k].pl.path (-1) hpz hqz; exact hc) rfl rfl rfl ?_
              refine gq (y_assign (v := .bool _) rfl) rfl rfl rfl ?_
              refine gqs_nil ?_
              refine hN16 _ _ ?_
              refine gfrom [(1, .pointer _), (2, .pointer _), (3, .int _ _), (4, .pointer _), (12, .slice _ _ _), (13, .int _ _), (14, .int _ _), (43, .bool _)] ⟨rfl, rfl, rfl, rfl, rfl, rfl, rfl, rfl, trivial⟩ fun σ => ?_
              refine gcond (b := _) rfl (fun hc43 => ?_) (fun hc43 => ?_)
              · 
                have hC : treeC (fpl fs) k fs[k].pl = 7 := by rw [treeC, if_neg hp1, if_neg hp2, if_pos (by rw [← List.map_take]; exact hc43)]
                refine gseq fun N17 hN17 => ?_
                refine greg ?_
                refine gop (y_move (v := .int _ _) rfl) rfl rfl rfl ?_
                refine gop (y_build (vs := [(0, _), (1, .int _ _)]) (cells := #[_, _]) rfl (bd33_0_1 _ _)) rfl rfl rfl ?_
                refine gop_store 1 (v := .agg #[_, _]) (cs' := #[_, _]) rfl rfl Tryz.sizeOf33 rfl rfl rfl rfl (Nat.le_of_ble_eq_true rfl) rfl rfl ?_
                refine gops_nil ?_
                refine hN17 _ _ ?_
                refine gT [box b1 _, box b2 _, box b4 _] rfl ?_
                refine gfrom [(2, .pointer _)] ⟨rfl, trivial⟩ fun σ => ?_
                refine gret fun w1 hM => ?_
                refine ⟨_, res1 rfl (rc 1 (cs := [_, _]) hM rfl rfl Tryz.isAgg33 Tryz.sizeOf33 rfl), ?_⟩
                exact ⟨by rw [hF, tree_at hk1 hz hC (by decide)], hM.low⟩
              · 
                have hC : treeC (fpl fs) k fs[k].pl = (linesF fs[k].pl.lines).code := by rw [treeC, if_neg hp1, if_neg hp2, if_neg (by rw [← List.map_take, show clashF _ _ _ (List.map FileC.pl (fs.take k)) = false from hc43]; simp)]
                refine gskip ?_
                refine hN11 _ _ ?_
                refine gfrom [(1, .pointer _), (2, .pointer _), (3, .int _ _), (4, .pointer _), (12, .slice _ _ _), (13, .int _ _), (14, .int _ _)] ⟨rfl, rfl, rfl, rfl, rfl, rfl, rfl, trivial⟩ fun σ => ?_
                refine gseq fun N18 hN18 => ?_
                refine greg ?_
                refine gop (y_fieldAddr_box fa85_1 rfl) rfl rfl rfl ?_
                refine gop (y_load Tryz.isAgg22 rfl (cell_box 2 rfl rfl)) rfl rfl rfl ?_
                refine gop (y_move (v := .int _ _) rfl) rfl rfl rfl ?_
                refine gop_pure (e_call (vs := [.slice _ _ _, .int _ _]) Tryz.func28 rfl (by kernel_rfl) rfl) (fun w hM => linesSecond_any w _ _ _ (hRk.rd.base hM) (Nat.le_trans hRk.sb.len hRk.sb.max) (k : Int)) rfl rfl rfl ?_
                refine gop_alloc (cs := #[.int .i64 0, .int .i64 0]) Tryz.zeroValue33 rfl rfl (fun b5 hb5 => ?_)
                refine gop_store 3 (v := .agg #[_, _]) (cs' := #[_, _]) rfl rfl Tryz.sizeOf33 rfl rfl rfl rfl (Nat.le_of_ble_eq_true rfl) rfl rfl ?_
                refine gops_nil ?_
                refine hN18 _ _ ?_
                refine gT [box b1 _, box b2 _, box b4 _, box b5 _] rfl ?_
                refine gfrom [(1, .pointer _), (2, .pointer _), (5, .pointer _), (12, .slice _ _ _), (13, .int _ _), (14, .int _ _)] ⟨rfl, rfl, rfl, rfl, rfl, rfl, trivial⟩ fun σ => ?_
                refine gseq fun N19 hN19 => ?_
                refine greg ?_
                refine gop (y_loads (cs := [_, _]) Tryz.isAgg33 Tryz.sizeOf33 rfl rfl (cells_box 3 rfl)) rfl rfl rfl ?_
                refine gop (y_build (vs := []) (cells := #[.int .i64 0, .int .i64 0]) rfl bd33_) rfl rfl rfl ?_
                refine gop (y_bin (vx := .agg #[_, _]) (vy := .agg #[_, _]) rfl rfl (fun w => eg33 _ _ _ _ _ w) (fun w => ne33 _ _ _ _ w)) rfl rfl rfl ?_
                refine gops_nil ?_
                refine hN19 _ _ ?_
                refine gfrom [(1, .pointer _), (2, .pointer _), (5, .pointer _), (12, .slice _ _ _), (13, .int _ _), (14, .int _ _), (59, .bool _)] ⟨rfl, rfl, rfl, rfl, rfl, rfl, rfl, trivial⟩ fun σ => ?_
                refine gcond (b := _) rfl (fun hc59 => ?_) (fun hc59 => ?_)
                · 
                  replace hc59 := fault_ne.1 hc59
                  refine gseq fun N20 hN20 => ?_
                  refine greg ?_
                  refine gop (y_loads (cs := [_, _]) Tryz.isAgg33 Tryz.sizeOf33 rfl rfl (cells_box 3 rfl)) rfl rfl rfl ?_
                  refine gop_store 1 (v := .agg #[_, _]) (cs' := #[_, _]) rfl rfl Tryz.sizeOf33 rfl rfl rfl rfl (Nat.le_of_ble_eq_true rfl) rfl rfl ?_
                  refine gops_nil ?_
                  refine hN20 _ _ ?_
                  refine gT [box b1 _, box b2 _, box b4 _, box b5 _] rfl ?_
                  refine gfrom [(2, .pointer _)] ⟨rfl, trivial⟩ fun σ => ?_
                  refine gret fun w1 hM => ?_
                  refine ⟨_, res1 rfl (rc 1 (cs := [_, _]) hM rfl rfl Tryz.isAgg33 Tryz.sizeOf33 rfl), ?_⟩
                  exact ⟨by rw [hF, tree_at hk1 hz hC (sec_code hc59), secondF, if_pos (sec_ne hc59)], hM.low⟩
                · 
                  replace hc59 := fault_eq.1 hc59
                  have hC0 : treeC (fpl fs) k fs[k].pl = 0 := by rw [hC]; exact sec_zero hc59
                  refine gskip ?_
                  refine hN9 _ _ ?_
                  refine gfrom [(1, .pointer _), (2, .pointer _), (12, .slice _ _ _), (13, .int _ _), (14, .int _ _)] ⟨rfl, rfl, rfl, rfl, rfl, trivial⟩ fun σ => ?_
                  refine greg ?_
                  refine gop (y_add rfl rfl ⟨by omega, by omega⟩) rfl rfl rfl ?_
                  refine gop (y_move (v := .int _ _) rfl) rfl rfl rfl ?_
                  refine gops_nil ?_
                  refine gnext2 (k + 1) (by omega) (⟨by omega, fun j h hj => by rcases Nat.lt_succ_iff_lt_or_eq.1 hj with h1 | rfl; exact hz j h h1; exact hC0⟩) ⟨rfl, trivial⟩ ⟨rfl, rfl, rfl, rfl, trivial⟩ ⟨_, rfl⟩
          · 
            have hg29d := of_decide_eq_false hg29
            refine gq_off rfl rfl rfl rfl hg29 rfl rfl ?_
            refine gq_off rfl rfl rfl rfl hg29 rfl rfl ?_
            refine gq_off rfl rfl rfl rfl hg29 rfl rfl ?_
            refine gq_off rfl rfl rfl rfl hg29 rfl rfl ?_
            refine gq_off rfl rfl rfl rfl hg29 rfl rfl ?_
            refine gq_off rfl rfl rfl rfl hg29 rfl rfl ?_
            refine gq_off rfl rfl rfl rfl hg29 rfl rfl ?_
            refine gq_off rfl rfl rfl rfl hg29 rfl rfl ?_
            refine gq_off rfl rfl rfl rfl hg29 rfl rfl ?_
            refine gq (y_pick_f (v := .bool _) rfl hg29 rfl) rfl rfl rfl ?_
            refine gq (y_assign (v := .bool _) rfl) rfl rfl rfl ?_
            refine gqs_nil ?_
            refine hN14 _ _ ?_
            refine gfrom [(1, .pointer _), (2, .pointer _), (3, .int _ _), (4, .pointer _), (12, .slice _ _ _), (13, .int _ _), (14, .int _ _), (26, .bool _)] ⟨rfl, rfl, rfl, rfl, rfl, rfl, rfl, rfl, trivial⟩ fun σ => ?_
            refine gcond (b := _) rfl (fun hc26 => ?_) (fun hc26 => ?_)
            · 
              cases hc26
            · 
              have hp2 : ¬ (0 < k ∧ ¬ ltS (prevS (fpl fs) k) fs[k].pl.path) := by first | exact fun h9 => h9.2 (leS_f hkp hc26) | exact fun h9 => absurd h9.1 (by omega)
              refine gseq fun N21 hN21 => ?_
              refine greg_q (by kernel_rfl) (by kernel_rfl) ?_
              refine gq (y_fieldAddr_box fa61_0 rfl) rfl rfl rfl ?_
              refine gq (y_load Tryz.isAgg59 rfl (cell_box 0 rfl rfl)) rfl rfl rfl ?_
              refine gq (y_move (v := .int _ _) rfl) rfl rfl rfl ?_
              refine gq (y_prefix (m := k) Tryz.underlying59 Tryz.sizeOf85 rfl rfl (by omega) (by omega) rfl) rfl rfl rfl ?_
              refine gq (y_fieldAddr_box fa85_0 rfl) rfl rfl rfl ?_
              refine gq (y_load Tryz.isAgg9 rfl (cell_box 2 rfl rfl)) rfl rfl rfl ?_
              refine gq_pure (e_call (vs := [.slice _ _ _, .string _, _]) Tryz.func83 rfl (by kernel_rfl) rfl) (fun w hM => by have hc := clash_any w (some ad) k c (fs.take k) (rdl_take (hR.rd.base hM) k) (by simp; omega) (by simp; omega) fs[k].pl.path (-1) hpz hqz; exact hc) rfl rfl rfl ?_
              refine gq (y_assign (v := .bool _) rfl) rfl rfl rfl ?_
              refine gqs_nil ?_
              refine hN21 _ _ ?_
              refine gfrom [(1, .pointer _), (2, .pointer _), (3, .int _ _), (4, .pointer _), (12, .slice _ _ _), (13, .int _ _), (14, .int _ _), (43, .bool _)] ⟨rfl, rfl, rfl, rfl, rfl, rfl, rfl, rfl, trivial⟩ fun σ => ?_
              refine gcond (b := _) rfl (fun hc43 => ?_) (fun hc43 => ?_)
              · 
                have hC : treeC (fpl fs) k fs[k].pl = 7 := by rw [treeC, if_neg hp1, if_neg hp2, if_pos (by rw [← List.map_take]; exact hc43)]
                refine gseq fun N22 hN22 => ?_
                refine greg ?_
                refine gop (y_move (v := .int _ _) rfl) rfl rfl rfl ?_
                refine gop (y_build (vs := [(0, _), (1, .int _ _)]) (cells := #[_, _]) rfl (bd33_0_1 _ _)) rfl rfl rfl ?_
                refine gop_store 1 (v := .agg #[_, _]) (cs' := #[_, _]) rfl rfl Tryz.sizeOf33 rfl rfl rfl rfl (Nat.le_of_ble_eq_true rfl) rfl rfl ?_
                refine gops_nil ?_
                refine hN22 _ _ ?_
                refine gT [box b1 _, box b2 _, box b4 _] rfl ?_
                refine gfrom [(2, .pointer _)] ⟨rfl, trivial⟩ fun σ => ?_
                refine gret fun w1 hM => ?_
                refine ⟨_, res1 rfl (rc 1 (cs := [_, _]) hM rfl rfl Tryz.isAgg33 Tryz.sizeOf33 rfl), ?_⟩
                exact ⟨by rw [hF, tree_at hk1 hz hC (by decide)], hM.low⟩
              · 
                have hC : treeC (fpl fs) k fs[k].pl = (linesF fs[k].pl.lines).code := by rw [treeC, if_neg hp1, if_neg hp2, if_neg (by rw [← List.map_take, show clashF _ _ _ (List.map FileC.pl (fs.take k)) = false from hc43]; simp)]
                refine gskip ?_
                refine hN11 _ _ ?_
                refine gfrom [(1, .pointer _), (2, .pointer _), (3, .int _ _), (4, .pointer _), (12, .slice _ _ _), (13, .int _ _), (14, .int _ _)] ⟨rfl, rfl, rfl, rfl, rfl, rfl, rfl, trivial⟩ fun σ => ?_
                refine gseq fun N23 hN23 => ?_
                refine greg ?_
                refine gop (y_fieldAddr_box fa85_1 rfl) rfl rfl rfl ?_
                refine gop (y_load Tryz.isAgg22 rfl (cell_box 2 rfl rfl)) rfl rfl rfl ?_
                refine gop (y_move (v := .int _ _) rfl) rfl rfl rfl ?_
                refine gop_pure (e_call (vs := [.slice _ _ _, .int _ _]) Tryz.func28 rfl (by kernel_rfl) rfl) (fun w hM => linesSecond_any w _ _ _ (hRk.rd.base hM) (Nat.le_trans hRk.sb.len hRk.sb.max) (k : Int)) rfl rfl rfl ?_
                refine gop_alloc (cs := #[.int .i64 0, .int .i64 0]) Tryz.zeroValue33 rfl rfl (fun b5 hb5 => ?_)
                refine gop_store 3 (v := .agg #[_, _]) (cs' := #[_, _]) rfl rfl Tryz.sizeOf33 rfl rfl rfl rfl (Nat.le_of_ble_eq_true rfl) rfl rfl ?_
                refine gops_nil ?_
                refine hN23 _ _ ?_
                refine gT [box b1 _, box b2 _, box b4 _, box b5 _] rfl ?_
                refine gfrom [(1, .pointer _), (2, .pointer _), (5, .pointer _), (12, .slice _ _ _), (13, .int _ _), (14, .int _ _)] ⟨rfl, rfl, rfl, rfl, rfl, rfl, trivial⟩ fun σ => ?_
                refine gseq fun N24 hN24 => ?_
                refine greg ?_
                refine gop (y_loads (cs := [_, _]) Tryz.isAgg33 Tryz.sizeOf33 rfl rfl (cells_box 3 rfl)) rfl rfl rfl ?_
                refine gop (y_build (vs := []) (cells := #[.int .i64 0, .int .i64 0]) rfl bd33_) rfl rfl rfl ?_
                refine gop (y_bin (vx := .agg #[_, _]) (vy := .agg #[_, _]) rfl rfl (fun w => eg33 _ _ _ _ _ w) (fun w => ne33 _ _ _ _ w)) rfl rfl rfl ?_
                refine gops_nil ?_
                refine hN24 _ _ ?_
                refine gfrom [(1, .pointer _), (2, .pointer _), (5, .pointer _), (12, .slice _ _ _), (13, .int _ _), (14, .int _ _), (59, .bool _)] ⟨rfl, rfl, rfl, rfl, rfl, rfl, rfl, trivial⟩ fun σ => ?_
                refine gcond (b := _) rfl (fun hc59 => ?_) (fun hc59 => ?_)
                · 
                  replace hc59 := fault_ne.1 hc59
                  refine gseq fun N25 hN25 => ?_
                  refine greg ?_
                  refine gop (y_loads (cs := [_, _]) Tryz.isAgg33 Tryz.sizeOf33 rfl rfl (cells_box 3 rfl)) rfl rfl rfl ?_
                  refine gop_store 1 (v := .agg #[_, _]) (cs' := #[_, _]) rfl rfl Tryz.sizeOf33 rfl rfl rfl rfl (Nat.le_of_ble_eq_true rfl) rfl rfl ?_
                  refine gops_nil ?_
                  refine hN25 _ _ ?_
                  refine gT [box b1 _, box b2 _, box b4 _, box b5 _] rfl ?_
                  refine gfrom [(2, .pointer _)] ⟨rfl, trivial⟩ fun σ => ?_
                  refine gret fun w1 hM => ?_
                  refine ⟨_, res1 rfl (rc 1 (cs := [_, _]) hM rfl rfl Tryz.isAgg33 Tryz.sizeOf33 rfl), ?_⟩
                  exact ⟨by rw [hF, tree_at hk1 hz hC (sec_code hc59), secondF, if_pos (sec_ne hc59)], hM.low⟩
                · 
                  replace hc59 := fault_eq.1 hc59
                  have hC0 : treeC (fpl fs) k fs[k].pl = 0 := by rw [hC]; exact sec_zero hc59
                  refine gskip ?_
                  refine hN9 _ _ ?_
                  refine gfrom [(1, .pointer _), (2, .pointer _), (12, .slice _ _ _), (13, .int _ _), (14, .int _ _)] ⟨rfl, rfl, rfl, rfl, rfl, trivial⟩ fun σ => ?_
                  refine greg ?_
                  refine gop (y_add rfl rfl ⟨by omega, by omega⟩) rfl rfl rfl ?_
                  refine gop (y_move (v := .int _ _) rfl) rfl rfl rfl ?_
                  refine gops_nil ?_
                  refine gnext2 (k + 1) (by omega) (⟨by omega, fun j h hj => by rcases Nat.lt_succ_iff_lt_or_eq.1 hj with h1 | rfl; exact hz j h h1; exact hC0⟩) ⟨rfl, trivial⟩ ⟨rfl, rfl, rfl, rfl, trivial⟩ ⟨_, rfl⟩
      · 
        replace hc15 := of_decide_eq_false hc15
        have hF2 : treeF (fpl fs) = ⟨0, 0⟩ := by rw [hF]; exact scan_ok fun j hj => by rw [List.getElem_map]; exact hz j (by simpa using hj) (by simp at hj; omega)
        refine gexit ?_
        refine hN5 _ _ ?_
        refine gfrom [(2, .pointer _)] ⟨rfl, trivial⟩ fun σ => ?_
        refine gseq fun N26 hN26 => ?_
        refine greg ?_
        refine gop (y_build (vs := []) (cells := #[.int .i64 0, .int .i64 0]) rfl bd33_) rfl rfl rfl ?_
        refine gop_store 1 (v := .agg #[_, _]) (cs' := #[_, _]) rfl rfl Tryz.sizeOf33 rfl rfl rfl rfl (Nat.le_of_ble_eq_true rfl) rfl rfl ?_
        refine gops_nil ?_
        refine hN26 _ _ ?_
        refine gT [box b1 _, box b2 _] rfl ?_
        refine gfrom [(2, .pointer _)] ⟨rfl, trivial⟩ fun σ => ?_
        refine gret fun w1 hM => ?_
        refine ⟨_, res1 rfl (rc 1 (cs := [_, _]) hM rfl rfl Tryz.isAgg33 Tryz.sizeOf33 rfl), ?_⟩
        exact ⟨by rw [hF2], hM.low⟩
set_option maxHeartbeats 2000000 in
theorem treeSecond_any (w : World) (A : Option Addr) (c : Nat) (fs : List FileC) (hR : TreeR w 0 A c fs) (i : Int) : Calls Tryz.prog 36 #[.agg #[.slice A fs.length c], .int .i64 i] w fun e w' => e = .returned (fv (secondF (treeF (fpl fs)) i)) ∧ Below w.heap.size w w' := by
  refine gcalls Tryz.func36 rfl Tryz.ntmps36 (Nat.le_of_ble_eq_true rfl) ?_
  refine gfrom [(0, .agg #[_]), (1, .int _ _)] ⟨rfl, rfl, trivial⟩ fun σ => ?_
  refine gseq fun N1 hN1 => ?_
  refine greg ?_
  refine gop_box (v := .agg #[_]) (cs := #[_]) rfl rfl rfl (fun b2 hb2 => ?_)
  refine gop_alloc (cs := #[.int .i64 0, .int .i64 0]) Tryz.zeroValue33 rfl rfl (fun b4 hb4 => ?_)
  refine gops_nil ?_
  refine hN1 _ _ ?_
  refine gT [box b2 _, box b4 _] rfl ?_
  refine gfrom [(1, .int _ _), (2, .pointer _), (4, .pointer _)] ⟨rfl, rfl, rfl, trivial⟩ fun σ => ?_
  refine gseq fun N2 hN2 => ?_
  refine gseq fun N3 hN3 => ?_
  refine greg ?_
  refine gop (y_loads (cs := [_]) Tryz.isAgg61 Tryz.sizeOf61 rfl rfl (cells_box 0 rfl)) rfl rfl rfl ?_
  refine gop_pure (e_call (vs := [.agg #[_]]) Tryz.func45 rfl (by kernel_rfl) rfl) (fun w hM => treeValidate_any w A c fs (hR.base hM)) rfl rfl rfl ?_
  refine gop_alloc (cs := #[.int .i64 0, .int .i64 0]) Tryz.zeroValue33 rfl rfl (fun b5 hb5 => ?_)
  refine gop_store 2 (v := .agg #[_, _]) (cs' := #[_, _]) rfl rfl Tryz.sizeOf33 rfl rfl rfl rfl (Nat.le_of_ble_eq_true rfl) rfl rfl ?_
  refine gops_nil ?_
  refine hN3 _ _ ?_
  refine gT [box b2 _, box b4 _, box b5 _] rfl ?_
  refine gfrom [(1, .int _ _), (4, .pointer _), (5, .pointer _)] ⟨rfl, rfl, rfl, trivial⟩ fun σ => ?_
  refine gseq fun N4 hN4 => ?_
  refine greg ?_
  refine gop (y_loads (cs := [_, _]) Tryz.isAgg33 Tryz.sizeOf33 rfl rfl (cells_box 2 rfl)) rfl rfl rfl ?_
  refine gop (y_build (vs := []) (cells := #[.int .i64 0, .int .i64 0]) rfl bd33_) rfl rfl rfl ?_
  refine gop (y_bin (vx := .agg #[_, _]) (vy := .agg #[_, _]) rfl rfl (fun w => eg33 _ _ _ _ _ w) (fun w => ne33 _ _ _ _ w)) rfl rfl rfl ?_
  refine gops_nil ?_
  refine hN4 _ _ ?_
  refine gfrom [(1, .int _ _), (4, .pointer _), (5, .pointer _), (10, .bool _)] ⟨rfl, rfl, rfl, rfl, trivial⟩ fun σ => ?_
  refine gcond (b := _) rfl (fun hc10 => ?_) (fun hc10 => ?_)
  · 
    replace hc10 := fault_ne.1 hc10
    refine gseq fun N5 hN5 => ?_
    refine greg ?_
    refine gop (y_fieldAddr_box fa33_0 rfl) rfl rfl rfl ?_
    refine gop (y_load Tryz.isAgg3 rfl (cell_box 2 rfl rfl)) rfl rfl rfl ?_
    refine gop (y_move (v := .int _ _) rfl) rfl rfl rfl ?_
    refine gop (y_build (vs := [(0, .int _ _), (1, .int _ _)]) (cells := #[_, _]) rfl (bd33_0_1 _ _)) rfl rfl rfl ?_
    refine gop_store 1 (v := .agg #[_, _]) (cs' := #[_, _]) rfl rfl Tryz.sizeOf33 rfl rfl rfl rfl (Nat.le_of_ble_eq_true rfl) rfl rfl ?_
    refine gops_nil ?_
    refine hN5 _ _ ?_
    refine gT [box b2 _, box b4 _, box b5 _] rfl ?_
    refine gfrom [(4, .pointer _)] ⟨rfl, trivial⟩ fun σ => ?_
    refine gret fun w1 hM => ?_
    refine ⟨_, res1 rfl (rc 1 (cs := [_, _]) hM rfl rfl Tryz.isAgg33 Tryz.sizeOf33 rfl), ?_⟩
    exact ⟨by rw [secondF, if_pos hc10], hM.low⟩
  · 
    replace hc10 := fault_eq.1 hc10
    refine gskip ?_
    refine hN2 _ _ ?_
    refine gfrom [(4, .pointer _)] ⟨rfl, trivial⟩ fun σ => ?_
    refine gseq fun N6 hN6 => ?_
    refine greg ?_
    refine gop (y_build (vs := []) (cells := #[.int .i64 0, .int .i64 0]) rfl bd33_) rfl rfl rfl ?_
    refine gop_store 1 (v := .agg #[_, _]) (cs' := #[_, _]) rfl rfl Tryz.sizeOf33 rfl rfl rfl rfl (Nat.le_of_ble_eq_true rfl) rfl rfl ?_
    refine gops_nil ?_
    refine hN6 _ _ ?_
    refine gT [box b2 _, box b4 _, box b5 _] rfl ?_
    refine gfrom [(4, .pointer _)] ⟨rfl, trivial⟩ fun σ => ?_
    refine gret fun w1 hM => ?_
    refine ⟨_, res1 rfl (rc 1 (cs := [_, _]) hM rfl rfl Tryz.isAgg33 Tryz.sizeOf33 rfl), ?_⟩
    exact ⟨by rw [secondF, if_neg (by simp [hc10])], hM.low⟩
end Go.Proofs.YtbkameioedmlkaaGreatDoor
namespace Go.Proofs.YtbkameioedmlkaaGreatDoor
open Go.RowKit Go.Cf
set_option maxRecDepth 10000
theorem bd70_0_1_2 (x1 : Int) (x2 : ByteArray) (x3 : Int) : Tryz.prog.built 70 [(0, .int .i64 x1), (1, .string x2), (2, .int .i64 x3)] = some #[.int .i64 x1, .string x2, .int .i64 x3] := by kernel_rfl
theorem el70 : Elem Tryz.prog 70 3 32 := elem_of (z := .agg #[.int .i64 0, .string .empty, .int .i64 0]) (by kernel_rfl) rfl (by decide)
set_option maxHeartbeats 1000000 in
theorem isUser_any (w : World) (n : Int) : Calls Tryz.prog 43 #[.int .i64 n] w fun e w' => e = .returned (.bool (decide (0 ≤ n) && decide (n ≤ 7))) ∧ Below w.heap.size w w' := by
  refine gcalls Tryz.func43 rfl Tryz.ntmps43 (Nat.le_of_ble_eq_true rfl) ?_
  refine gfrom [(0, .int _ _)] ⟨rfl, trivial⟩ fun σ => ?_
  refine gseq fun N1 hN1 => ?_
  refine greg ?_
  refine gop (y_assign (v := .bool _) rfl) rfl rfl rfl ?_
  refine gops_nil ?_
  refine hN1 _ _ ?_
  refine gfrom [(0, .int _ _)] ⟨rfl, trivial⟩ fun σ => ?_
  refine gseq fun N2 hN2 => ?_
  refine greg ?_
  refine gop (y_move (v := .int _ _) rfl) rfl rfl rfl ?_
  refine gop (y_geq rfl rfl) rfl rfl rfl ?_
  refine gop (y_move (v := .bool _) rfl) rfl rfl rfl ?_
  refine gop_if (want := true) rfl rfl rfl rfl rfl rfl (fun hg5 => ?_) (fun hg5 => ?_)
  · 
    have hg5d := of_decide_eq_true hg5
    have h9 : decide (0 ≤ n) = true := decide_eq_true (by omega)
    refine gop (y_bare (y_move (v := .int _ _) rfl)) rfl rfl rfl ?_
    refine gop_on rfl rfl rfl rfl hg5 ?_
    refine gop (y_bare (y_leq rfl rfl)) rfl rfl rfl ?_
    refine gop (y_pick_t (v := .bool _) rfl hg5 rfl) rfl rfl rfl ?_
    refine gop (y_assign (v := .bool _) rfl) rfl rfl rfl ?_
    refine gops_nil ?_
    refine hN2 _ _ ?_
    refine gfrom [(2, .bool _)] ⟨rfl, trivial⟩ fun σ => ?_
    refine gret fun w1 hM => ?_
    refine ⟨_, res1 rfl (rt (v := .bool _) rfl), ?_⟩
    exact ⟨by rw [h9]; rfl, hM.low⟩
  · 
    have hg5d := of_decide_eq_false hg5
    have h9 : decide (0 ≤ n) = false := decide_eq_false (by omega)
    refine gop_off rfl rfl rfl rfl hg5 rfl rfl ?_
    refine gop (y_pick_f (v := .bool _) rfl hg5 rfl) rfl rfl rfl ?_
    refine gop (y_assign (v := .bool _) rfl) rfl rfl rfl ?_
    refine gops_nil ?_
    refine hN2 _ _ ?_
    refine gfrom [(2, .bool _)] ⟨rfl, trivial⟩ fun σ => ?_
    refine gret fun w1 hM => ?_
    refine ⟨_, res1 rfl (rt (v := .bool _) rfl), ?_⟩
    exact ⟨by rw [h9]; rfl, hM.low⟩
set_option maxHeartbeats 2000000 in
theorem describe_any (w : World) (A : Option Addr) (c : Nat) (fs : List FileC) (hR : TreeR w 0 A c fs) (v : VTree (fpl fs)) (path : ByteArray) : Calls Tryz.prog 37 #[.agg #[.slice A fs.length c], .string path] w fun e w' => e = .returned (.int .i64 (descP (fpl fs) path)) ∧ Below w.heap.size w w' := by
  have hsl := hR.sb.len
  have hsm := hR.sb.max
  have hmx : maxLen = 9223372036854775807 := rfl
  refine gcalls Tryz.func37 rfl Tryz.ntmps37 (Nat.le_of_ble_eq_true rfl) ?_
  refine gfrom [(0, .agg #[_]), (1, .string _)] ⟨rfl, rfl, trivial⟩ fun σ => ?_
  refine gseq fun N1 hN1 => ?_
  refine greg ?_
  refine gop_box (v := .agg #[_]) (cs := #[_]) rfl rfl rfl (fun b2 hb2 => ?_)
  refine gop (y_assign (v := .int _ _) rfl) rfl rfl rfl ?_
  refine gops_nil ?_
  refine hN1 _ _ ?_
  refine gT [box b2 _] rfl ?_
  refine gfrom [(1, .string _), (2, .pointer _)] ⟨rfl, rfl, trivial⟩ fun σ => ?_
  refine gseq fun N2 hN2 => ?_
  refine greg ?_
  refine gop (y_fieldAddr_box fa61_0 rfl) rfl rfl rfl ?_
  refine gop (y_load Tryz.isAgg59 rfl (cell_box 0 rfl rfl)) rfl rfl rfl ?_
  refine gop (y_move (v := .string _) rfl) rfl rfl rfl ?_
  refine gop_got (fun v T' => T' = [] ∧ ∃ (k : Nat) (b : Bool), v = .tuple #[.int .i64 (k : Int), .bool b] ∧ (b = true → ∃ h : k < fs.length, fs[k].pl.path = path) ∧ (b = false → ∀ f ∈ fs, f.pl.path ≠ path)) (e_call (vs := [.slice _ _ _, .string _]) Tryz.func69 rfl (by kernel_rfl) rfl) (fun w hM => (treeFind_any w A c fs (hR.base hM) v path).mono fun _ _ ⟨k, b, h1, h2, h3, h4⟩ => ⟨_, [], h1, ⟨rfl, k, b, rfl, h3, h4⟩, (Mem.start w).call h2⟩) rfl rfl rfl ?_
  rintro _ _ ⟨rfl, k, b, rfl, hf1, hf2⟩
  refine gop (y_move (v := .tuple #[.int _ _, .bool _]) rfl) rfl rfl rfl ?_
  refine gop (y_extract (v := .int _ _) rfl rfl) rfl rfl rfl ?_
  refine gop (y_extract (v := .bool _) rfl rfl) rfl rfl rfl ?_
  refine gop (y_assign (v := .int _ _) rfl) rfl rfl rfl ?_
  refine gop (y_assign (v := .bool _) rfl) rfl rfl rfl ?_
  refine gops_nil ?_
  refine hN2 _ _ ?_
  refine gfrom [(2, .pointer _), (5, .int _ _), (6, .bool _)] ⟨rfl, rfl, rfl, trivial⟩ fun σ => ?_
  refine gseq fun N3 hN3 => ?_
  refine gseq fun N4 hN4 => ?_
  refine greg ?_
  refine gop (y_move (v := .bool _) rfl) rfl rfl rfl ?_
  refine gop (y_not rfl) rfl rfl rfl ?_
  refine gops_nil ?_
  refine hN4 _ _ ?_
  refine gfrom [(2, .pointer _), (5, .int _ _), (17, .bool _)] ⟨rfl, rfl, rfl, trivial⟩ fun σ => ?_
  refine gcond (b := _) rfl (fun hc17 => ?_) (fun hc17 => ?_)
  · 
    replace hc17 := not_t hc17
    have hD : descP (fpl fs) path = -1 := desc_none (hf2 (by simpa using hc17))
    refine gseq fun N5 hN5 => ?_
    refine greg ?_
    refine gop (y_assign (v := .int _ _) rfl) rfl rfl rfl ?_
    refine gops_nil ?_
    refine hN5 _ _ ?_
    refine gfrom [(4, .int _ _)] ⟨rfl, trivial⟩ fun σ => ?_
    refine gret fun w1 hM => ?_
    refine ⟨_, res1 rfl (rt (v := .int _ _) rfl), ?_⟩
    exact ⟨by rw [hD], hM.low⟩
  · 
    replace hc17 := not_f hc17
    obtain ⟨hk1, hkp⟩ := hf1 (by simpa using hc17)
    obtain ⟨ad, rfl, -, hca⟩ := hR.rd.at_ hk1
    have hRk := hR.each _ (List.getElem_mem hk1)
    have hlz : linesF fs[k].pl.lines = ⟨0, 0⟩ := v.lines _ (List.mem_map_of_mem (List.getElem_mem hk1))
    have hD : descP (fpl fs) path = strD fs[k].pl.lines := desc_at v hk1 hkp
    refine gskip ?_
    refine hN3 _ _ ?_
    refine gfrom [(2, .pointer _), (5, .int _ _)] ⟨rfl, rfl, trivial⟩ fun σ => ?_
    refine gseq fun N6 hN6 => ?_
    refine greg ?_
    refine gop (y_fieldAddr_box fa61_0 rfl) rfl rfl rfl ?_
    refine gop (y_load Tryz.isAgg59 rfl (cell_box 0 rfl rfl)) rfl rfl rfl ?_
    refine gop (y_move (v := .int _ _) rfl) rfl rfl rfl ?_
    refine gop (y_indexAddr (m := k) Tryz.underlying59 Tryz.sizeOf85 rfl rfl (by omega) (by omega) (by omega)) rfl rfl rfl ?_
    refine gop (y_fieldAddr_add fa85_1 rfl) rfl rfl rfl ?_
    refine gop (y_load Tryz.isAgg22 rfl (cell_base (hca 1 _ rfl))) rfl rfl rfl ?_
    refine gop_pure (e_call (vs := [.slice _ _ _]) Tryz.func47 rfl (by kernel_rfl) rfl) (fun w hM => dStr_any w _ _ fs[k].pl.lines (hRk.rd.base hM) (linesF_len hlz) (linesF_sizes hlz)) rfl rfl rfl ?_
    refine gop (y_move (v := .tuple #[.int _ _, .agg #[_, _]]) rfl) rfl rfl rfl ?_
    refine gop (y_extract (v := .int _ _) rfl rfl) rfl rfl rfl ?_
    refine gop (y_extract (v := .agg #[_, _]) rfl rfl) rfl rfl rfl ?_
    refine gop_alloc (cs := #[.int .i64 0, .int .i64 0]) Tryz.zeroValue33 rfl rfl (fun b8 hb8 => ?_)
    refine gop (y_assign (v := .int _ _) rfl) rfl rfl rfl ?_
    refine gop_store 1 (v := .agg #[_, _]) (cs' := #[_, _]) rfl rfl Tryz.sizeOf33 rfl rfl rfl rfl (Nat.le_of_ble_eq_true rfl) rfl rfl ?_
    refine gops_nil ?_
    refine hN6 _ _ ?_
    refine gT [box b2 _, box b8 _] rfl ?_
    refine gfrom [(7, .int _ _)] ⟨rfl, trivial⟩ fun σ => ?_
    refine gseq fun N7 hN7 => ?_
    refine greg ?_
    refine gop (y_move (v := .int _ _) rfl) rfl rfl rfl ?_
    refine gop (y_assign (v := .int _ _) rfl) rfl rfl rfl ?_
    refine gops_nil ?_
    refine hN7 _ _ ?_
    refine gfrom [(4, .int _ _)] ⟨rfl, trivial⟩ fun σ => ?_
    refine gret fun w1 hM => ?_
    refine ⟨_, res1 rfl (rt (v := .int _ _) rfl), ?_⟩
    exact ⟨by rw [hD], hM.low⟩
set_option maxHeartbeats 8000000 in
theorem approve_any (w : World) (A : Option Addr) (c : Nat) (fs : List FileC) (hR : TreeR w 0 A c fs) (u : Int) (PA : Option Addr) (pc : Nat) (ps : List ByteArray) (hps : Rdl w 0 1 strCells PA ps) (hpl : ps.length ≤ pc) (hpm : pc ≤ maxLen) :
    Calls Tryz.prog 26 #[.agg #[.slice A fs.length c], .int .i64 u, .slice PA ps.length pc] w fun e w' => ∃ v T', e = .returned (.tuple #[v, fv (approveF (fpl fs) u ps)]) ∧ T' = [rowl apprCells w.heap.size 70 3 (v) (approveV (fpl fs) u ps)] ∧ Mem w T' w' := by
  have hsl := hR.sb.len
  have hsm := hR.sb.max
  have hmx : maxLen = 9223372036854775807 := rfl
  refine gcalls Tryz.func26 rfl Tryz.ntmps26 (Nat.le_of_ble_eq_true rfl) ?_
  refine gfrom [(0, .agg #[_]), (1, .int _ _), (2, .slice _ _ _)] ⟨rfl, rfl, rfl, trivial⟩ fun σ => ?_
  refine gseq fun N1 hN1 => ?_
  refine greg ?_
  refine gop_box (v := .agg #[_]) (cs := #[_]) rfl rfl rfl (fun b3 hb3 => ?_)
  refine gop (y_assign (v := .slice _ _ _) rfl) rfl rfl rfl ?_
  refine gop_alloc (cs := #[.int .i64 0, .int .i64 0]) Tryz.zeroValue33 rfl rfl (fun b7 hb7 => ?_)
  refine gops_nil ?_
  refine hN1 _ _ ?_
  refine gT [box b3 _, box b7 _] rfl ?_
  refine gfrom [(1, .int _ _), (2, .slice _ _ _), (3, .pointer _), (7, .pointer _)] ⟨rfl, rfl, rfl, rfl, trivial⟩ fun σ => ?_
  refine gseq fun N2 hN2 => ?_
  refine gseq fun N3 hN3 => ?_
  refine greg ?_
  refine gop (y_loads (cs := [_]) Tryz.isAgg61 Tryz.sizeOf61 rfl rfl (cells_box 0 rfl)) rfl rfl rfl ?_
  refine gop_pure (e_call (vs := [.agg #[_], _]) Tryz.func36 rfl (by kernel_rfl) rfl) (fun w hM => treeSecond_any w A c fs (hR.base hM) (-2)) rfl rfl rfl ?_
  refine gop_alloc (cs := #[.int .i64 0, .int .i64 0]) Tryz.zeroValue33 rfl rfl (fun b8 hb8 => ?_)
  refine gop_store 2 (v := .agg #[_, _]) (cs' := #[_, _]) rfl rfl Tryz.sizeOf33 rfl rfl rfl rfl (Nat.le_of_ble_eq_true rfl) rfl rfl ?_
  refine gops_nil ?_
  refine hN3 _ _ ?_
  refine gT [box b3 _, box b7 _, box b8 _] rfl ?_
  refine gfrom [(1, .int _ _), (2, .slice _ _ _), (3, .pointer _), (7, .pointer _), (8, .pointer _)] ⟨rfl, rfl, rfl, rfl, rfl, trivial⟩ fun σ => ?_
  refine gseq fun N4 hN4 => ?_
  refine greg ?_
  refine gop (y_loads (cs := [_, _]) Tryz.isAgg33 Tryz.sizeOf33 rfl rfl (cells_box 2 rfl)) rfl rfl rfl ?_
  refine gop (y_build (vs := []) (cells := #[.int .i64 0, .int .i64 0]) rfl bd33_) rfl rfl rfl ?_
  refine gop (y_bin (vx := .agg #[_, _]) (vy := .agg #[_, _]) rfl rfl (fun w => eg33 _ _ _ _ _ w) (fun w => ne33 _ _ _ _ w)) rfl rfl rfl ?_
  refine gops_nil ?_
  refine hN4 _ _ ?_
  refine gfrom [(1, .int _ _), (2, .slice _ _ _), (3, .pointer _), (7, .pointer _), (8, .pointer _), (16, .bool _)] ⟨rfl, rfl, rfl, rfl, rfl, rfl, trivial⟩ fun σ => ?_
  refine gcond (b := _) rfl (fun hc16 => ?_) (fun hc16 => ?_)
  · 
    replace hc16 := fault_ne.1 hc16
    have hF : approveF (fpl fs) u ps = secondF (treeF (fpl fs)) (-2) := by rw [approveF, if_pos (sec_ne hc16)]
    refine gseq fun N5 hN5 => ?_
    refine greg_e1 [] [(1, room b7 33 2)] (by kernel_rfl) ?_
    refine ge_take 0 (TK := [box b3 _, room b7 33 2, box b8 _]) rfl (by kernel_rfl) (by kernel_rfl) (by kernel_rfl) #[false, true, false] (by kernel_rfl) rfl (y_loads (cs := [_, _]) Tryz.isAgg33 Tryz.sizeOf33 rfl rfl (cells_box 2 rfl)) rfl rfl rfl (weak_room 1 rfl rfl) (listed' := #[true, false, false]) rfl ?_
    refine ge_take 1 (TK := [box b3 _, room b7 33 2, box b8 _]) rfl (by kernel_rfl) (by kernel_rfl) (by kernel_rfl) #[true, false, false] (by kernel_rfl) rfl (y_assign (v := .slice _ _ _) rfl) rfl rfl rfl (weak_room 1 rfl rfl) (listed' := #[true, true, false]) rfl ?_
    refine ge_one 2 (k' := 0) (listed' := #[true, true, true]) (by kernel_rfl) rfl rfl rfl ?_
    refine gop_store 1 (v := .agg #[_, _]) (cs' := #[_, _]) rfl rfl Tryz.sizeOf33 rfl rfl rfl rfl (Nat.le_of_ble_eq_true rfl) rfl rfl ?_
    refine gops_nil ?_
    refine ge_fin (TK := [box b3 _, room b7 33 2, box b8 _]) rfl (weak_room 1 rfl rfl) ?_
    refine ge_done (by kernel_rfl) ?_
    refine hN5 _ _ ?_
    refine gT [box b3 _, box b7 _, box b8 _] rfl ?_
    refine gfrom [(6, .slice _ _ _), (7, .pointer _)] ⟨rfl, rfl, trivial⟩ fun σ => ?_
    refine gret fun w1 hM => ?_
    refine ⟨_, res2 rfl (rt (v := .slice _ _ _) rfl) (rc 1 (cs := [_, _]) hM rfl rfl Tryz.isAgg33 Tryz.sizeOf33 rfl), ?_⟩
    exact ⟨_, _, by rw [hF], by rw [approveV, if_neg (by rw [hF]; exact hc16)]; rfl, (mem_nilrow apprCells 70 3 hM).dropTo 3 rfl⟩
  · 
    replace hc16 := fault_eq.1 hc16
    have htz : treeF (fpl fs) = ⟨0, 0⟩ := sec_ok hc16 (by decide)
    have v := treeF_valid htz
    have hA0 : ¬ treeF (fpl fs) ≠ ⟨0, 0⟩ := fun h9 => h9 htz
    refine gskip ?_
    refine hN2 _ _ ?_
    refine gfrom [(1, .int _ _), (2, .slice _ _ _), (3, .pointer _), (7, .pointer _)] ⟨rfl, rfl, rfl, rfl, trivial⟩ fun σ => ?_
    refine gseq fun N6 hN6 => ?_
    refine gseq fun N7 hN7 => ?_
    refine greg ?_
    refine gop (y_move (v := .int _ _) rfl) rfl rfl rfl ?_
    refine gop_pure (e_call (vs := [.int _ _]) Tryz.func43 rfl (by kernel_rfl) rfl) (fun w hM => isUser_any w u) rfl rfl rfl ?_
    refine gop (y_not rfl) rfl rfl rfl ?_
    refine gops_nil ?_
    refine hN7 _ _ ?_
    refine gfrom [(1, .int _ _), (2, .slice _ _ _), (3, .pointer _), (7, .pointer _), (20, .bool _)] ⟨rfl, rfl, rfl, rfl, rfl, trivial⟩ fun σ => ?_
    refine gcond (b := _) rfl (fun hc20 => ?_) (fun hc20 => ?_)
    · 
      replace hc20 := not_t hc20
      have hF : approveF (fpl fs) u ps = ⟨3, -3⟩ := by rw [approveF, if_neg hA0, if_pos (by simp at hc20; omega)]
      refine gseq fun N8 hN8 => ?_
      refine greg ?_
      refine gop (y_build (vs := [(0, _), (1, _)]) (cells := #[_, _]) rfl (bd33_0_1 _ _)) rfl rfl rfl ?_
      refine gop (y_assign (v := .slice _ _ _) rfl) rfl rfl rfl ?_
      refine gop_store 1 (v := .agg #[_, _]) (cs' := #[_, _]) rfl rfl Tryz.sizeOf33 rfl rfl rfl rfl (Nat.le_of_ble_eq_true rfl) rfl rfl ?_
      refine gops_nil ?_
      refine hN8 _ _ ?_
      refine gT [box b3 _, box b7 _, box b8 _] rfl ?_
      refine gfrom [(6, .slice _ _ _), (7, .pointer _)] ⟨rfl, rfl, trivial⟩ fun σ => ?_
      refine gret fun w1 hM => ?_
      refine ⟨_, res2 rfl (rt (v := .slice _ _ _) rfl) (rc 1 (cs := [_, _]) hM rfl rfl Tryz.isAgg33 Tryz.sizeOf33 rfl), ?_⟩
      exact ⟨_, _, by rw [hF], by rw [approveV, if_neg (by rw [hF]; decide)]; rfl, (mem_nilrow apprCells 70 3 hM).dropTo 3 rfl⟩
    · 
      replace hc20 := not_f hc20
      have hA1 : ¬ (u < 0 ∨ 7 < u) := by simp at hc20; omega
      refine gskip ?_
      refine hN6 _ _ ?_
      refine gfrom [(1, .int _ _), (2, .slice _ _ _), (3, .pointer _), (7, .pointer _)] ⟨rfl, rfl, rfl, rfl, trivial⟩ fun σ => ?_
      refine gseq fun N9 hN9 => ?_
      refine gseq fun N10 hN10 => ?_
      refine greg ?_
      refine gop (y_move (v := .slice _ _ _) rfl) rfl rfl rfl ?_
      refine gop (y_len Tryz.underlying22 rfl) rfl rfl rfl ?_
      refine gop (y_gtr rfl rfl) rfl rfl rfl ?_
      refine gops_nil ?_
      refine hN10 _ _ ?_
      refine gfrom [(1, .int _ _), (2, .slice _ _ _), (3, .pointer _), (7, .pointer _), (24, .bool _)] ⟨rfl, rfl, rfl, rfl, rfl, trivial⟩ fun σ => ?_
      refine gcond (b := _) rfl (fun hc24 => ?_) (fun hc24 => ?_)
      · 
        replace hc24 := of_decide_eq_true hc24
        have hF : approveF (fpl fs) u ps = ⟨2, -1⟩ := by rw [approveF, if_neg hA0, if_neg hA1, if_pos (by omega)]
        refine gseq fun N11 hN11 => ?_
        refine greg ?_
        refine gop (y_build (vs := [(0, _), (1, _)]) (cells := #[_, _]) rfl (bd33_0_1 _ _)) rfl rfl rfl ?_
        refine gop (y_assign (v := .slice _ _ _) rfl) rfl rfl rfl ?_
        refine gop_store 1 (v := .agg #[_, _]) (cs' := #[_, _]) rfl rfl Tryz.sizeOf33 rfl rfl rfl rfl (Nat.le_of_ble_eq_true rfl) rfl rfl ?_
        refine gops_nil ?_
        refine hN11 _ _ ?_
        refine gT [box b3 _, box b7 _, box b8 _] rfl ?_
        refine gfrom [(6, .slice _ _ _), (7, .pointer _)] ⟨rfl, rfl, trivial⟩ fun σ => ?_
        refine gret fun w1 hM => ?_
        refine ⟨_, res2 rfl (rt (v := .slice _ _ _) rfl) (rc 1 (cs := [_, _]) hM rfl rfl Tryz.isAgg33 Tryz.sizeOf33 rfl), ?_⟩
        exact ⟨_, _, by rw [hF], by rw [approveV, if_neg (by rw [hF]; decide)]; rfl, (mem_nilrow apprCells 70 3 hM).dropTo 3 rfl⟩
      · 
        replace hc24 := of_decide_eq_false hc24
        have hFS : approveF (fpl fs) u ps = scan okPath ps := by rw [approveF, if_neg hA0, if_neg hA1, if_neg (by omega)]
        refine gskip ?_
        refine hN9 _ _ ?_
        refine gfrom [(1, .int _ _), (2, .slice _ _ _), (3, .pointer _), (7, .pointer _)] ⟨rfl, rfl, rfl, rfl, trivial⟩ fun σ => ?_
        refine gseq fun N12 hN12 => ?_
        refine greg ?_
        refine gop (y_assign (v := .slice _ _ _) rfl) rfl rfl rfl ?_
        refine gops_nil ?_
        refine hN12 _ _ ?_
        refine gfrom [(1, .int _ _), (2, .slice _ _ _), (3, .pointer _), (7, .pointer _), (9, .slice _ _ _)] ⟨rfl, rfl, rfl, rfl, rfl, trivial⟩ fun σ => ?_
        refine gseq fun N13 hN13 => ?_
        refine gseq fun N14 hN14 => ?_
        refine greg ?_
        refine gop (y_move (v := .slice _ _ _) rfl) rfl rfl rfl ?_
        refine gop (y_len Tryz.underlying22 rfl) rfl rfl rfl ?_
        refine gop (y_move (v := .int _ _) rfl) rfl rfl rfl ?_
        refine gops_nil ?_
        refine hN14 _ _ ?_
        refine gfrom [(1, .int _ _), (3, .pointer _), (7, .pointer _), (9, .slice _ _ _), (26, .slice _ _ _), (27, .int _ _), (28, .int _ _)] ⟨rfl, rfl, rfl, rfl, rfl, rfl, rfl, trivial⟩ fun σ => ?_
        refine gblock ?_
        refine gnilrow apprCells 70 3 ?_
        refine gfrom2 [(9, .slice _ _ _), (28, .int _ _)] [(1, .int _ _), (3, .pointer _), (7, .pointer _), (26, .slice _ _ _), (27, .int _ _)] ⟨rfl, rfl, trivial⟩ ⟨rfl, rfl, rfl, rfl, rfl, trivial⟩ fun σ => ?_
        refine gloop2 (G := Nat × Option Addr × Nat) (fun (k, Av, cv) => k ≤ ps.length ∧ ∀ j (h : j < ps.length), j < k → okPath j ps[j] = 0) (fun (k, Av, cv) => ps.length - k) (fun (k, Av, cv) => [(9, .slice Av (approveL (fpl fs) u (ps.take k)).length cv), (28, .int .i64 (k : Int))]) (fun (k, Av, cv) => [(3, rowl apprCells w.heap.size 70 3 (.slice Av (approveL (fpl fs) u (ps.take k)).length cv) (approveL (fpl fs) u (ps.take k)))]) ((0, none, 0)) ?h0 ⟨rfl, rfl, trivial⟩ ⟨rfl, rfl, rfl, rfl, rfl, trivial⟩ rfl ?round
        case h0 => exact ⟨Nat.zero_le _, fun _ _ h => absurd h (Nat.not_lt_zero _)⟩
        case round =>
          rintro ⟨k, Av, cv⟩ hφ σ
          obtain ⟨hk, hz⟩ : k ≤ ps.length ∧ ∀ j (h : j < ps.length), j < k → okPath j ps[j] = 0 := hφ
          refine gT [box b3 _, box b7 _, box b8 _, rowl _ _ _ _ _ _] rfl ?_
          refine gseq fun N15 hN15 => ?_
          refine greg ?_
          refine gop (y_lss rfl rfl) rfl rfl rfl ?_
          refine gops_nil ?_
          refine hN15 _ _ ?_
          refine gfrom [(1, .int _ _), (3, .pointer _), (7, .pointer _), (9, .slice Av _ cv), (26, .slice _ _ _), (27, .int _ _), (28, .int _ _), (29, .bool _)] ⟨rfl, rfl, rfl, rfl, rfl, rfl, rfl, rfl, trivial⟩ fun σ => ?_
          refine gseq fun N16 hN16 => ?_
          refine gcond (b := _) rfl (fun hc29 => ?_) (fun hc29 => ?_)
          · 
            replace hc29 := of_decide_eq_true hc29
            have hk1 : k < ps.length := by omega
            obtain ⟨ad, rfl, -, hca⟩ := hps.at_ hk1
            refine gskip ?_
            refine hN16 _ _ ?_
            refine gfrom [(1, .int _ _), (3, .pointer _), (7, .pointer _), (9, .slice Av _ cv), (26, .slice _ _ _), (27, .int _ _), (28, .int _ _)] ⟨rfl, rfl, rfl, rfl, rfl, rfl, rfl, trivial⟩ fun σ => ?_
            refine gseq fun N17 hN17 => ?_
            refine gblock ?_
            refine gseq fun N18 hN18 => ?_
            refine greg ?_
            refine gop (y_move (v := .int _ _) rfl) rfl rfl rfl ?_
            refine gop (y_indexAddr (m := k) Tryz.underlying22 Tryz.sizeOf9 rfl rfl (by omega) (by omega) (by omega)) rfl rfl rfl ?_
            refine gop (y_load Tryz.isAgg9 rfl (cell_base (hca 0 _ rfl))) rfl rfl rfl ?_
            refine gop (y_assign (v := .int _ _) rfl) rfl rfl rfl ?_
            refine gop (y_assign (v := .string _) rfl) rfl rfl rfl ?_
            refine gops_nil ?_
            refine hN18 _ _ ?_
            refine gfrom [(1, .int _ _), (3, .pointer _), (7, .pointer _), (9, .slice Av _ cv), (10, .int _ _), (11, .string _), (26, .slice _ _ _), (27, .int _ _), (28, .int _ _)] ⟨rfl, rfl, rfl, rfl, rfl, rfl, rfl, rfl, rfl, trivial⟩ fun σ => ?_
            refine gseq fun N19 hN19 => ?_
            refine gseq fun N20 hN20 => ?_
            refine greg ?_
            refine gop (y_move (v := .string _) rfl) rfl rfl rfl ?_
            refine gop_pure (e_call (vs := [.string _]) Tryz.func44 rfl (by kernel_rfl) rfl) (fun w hM => validPath_any w _) rfl rfl rfl ?_
            refine gop (y_not rfl) rfl rfl rfl ?_
            refine gops_nil ?_
            refine hN20 _ _ ?_
            refine gfrom [(1, .int _ _), (3, .pointer _), (7, .pointer _), (9, .slice Av _ cv), (10, .int _ _), (11, .string _), (26, .slice _ _ _), (27, .int _ _), (28, .int _ _), (35, .bool _)] ⟨rfl, rfl, rfl, rfl, rfl, rfl, rfl, rfl, rfl, rfl, trivial⟩ fun σ => ?_
            refine gcond (b := _) rfl (fun hc35 => ?_) (fun hc35 => ?_)
            · 
              replace hc35 := not_t hc35
              have hF : approveF (fpl fs) u ps = ⟨12, k⟩ := by rw [hFS, scan_at hk1 (fun j h hj => hz j h hj) (by rw [okPath, if_neg (by simpa using hc35)]; decide), okPath, if_neg (by simpa using hc35)]
              refine gseq fun N21 hN21 => ?_
              refine greg ?_
              refine gop (y_move (v := .int _ _) rfl) rfl rfl rfl ?_
              refine gop (y_build (vs := [(0, _), (1, .int _ _)]) (cells := #[_, _]) rfl (bd33_0_1 _ _)) rfl rfl rfl ?_
              refine gop (y_assign (v := .slice _ _ _) rfl) rfl rfl rfl ?_
              refine gop_store 1 (v := .agg #[_, _]) (cs' := #[_, _]) rfl rfl Tryz.sizeOf33 rfl rfl rfl rfl (Nat.le_of_ble_eq_true rfl) rfl rfl ?_
              refine gops_nil ?_
              refine hN21 _ _ ?_
              refine gT [box b3 _, box b7 _, box b8 _, rowl _ _ _ _ _ _] rfl ?_
              refine gfrom [(6, .slice _ _ _), (7, .pointer _)] ⟨rfl, rfl, trivial⟩ fun σ => ?_
              refine gret fun w1 hM => ?_
              refine ⟨_, res2 rfl (rt (v := .slice _ _ _) rfl) (rc 1 (cs := [_, _]) hM rfl rfl Tryz.isAgg33 Tryz.sizeOf33 rfl), ?_⟩
              exact ⟨_, _, by rw [hF], by rw [approveV, if_neg (by rw [hF]; exact fun h => absurd (congrArg Fault.code h) (show ¬ (12 : Int) = 0 by decide))]; rfl, (mem_nilrow apprCells 70 3 hM).dropTo 4 rfl⟩
            · 
              replace hc35 := not_f hc35
              have hpk : okPath k ps[k] = 0 := if_pos (by simpa using hc35)
              refine gskip ?_
              refine hN19 _ _ ?_
              refine gfrom [(1, .int _ _), (3, .pointer _), (7, .pointer _), (9, .slice Av _ cv), (11, .string _), (26, .slice _ _ _), (27, .int _ _), (28, .int _ _)] ⟨rfl, rfl, rfl, rfl, rfl, rfl, rfl, rfl, trivial⟩ fun σ => ?_
              refine greg ?_
              refine gop (y_move (v := .slice Av _ cv) rfl) rfl rfl rfl ?_
              refine gop (y_move (v := .int _ _) rfl) rfl rfl rfl ?_
              refine gop (y_move (v := .string _) rfl) rfl rfl rfl ?_
              refine gop (y_loads (cs := [_]) Tryz.isAgg61 Tryz.sizeOf61 rfl rfl (cells_box 0 rfl)) rfl rfl rfl ?_
              refine gop (y_move (v := .string _) rfl) rfl rfl rfl ?_
              refine gop_pure (e_call (vs := [.agg #[_], .string _]) Tryz.func37 rfl (by kernel_rfl) rfl) (fun w hM => describe_any w _ c fs (hR.base hM) v ps[k]) rfl rfl rfl ?_
              refine gop (y_build (vs := [(0, .int _ _), (1, .string _), (2, .int _ _)]) (cells := #[_, _, _]) rfl (bd70_0_1_2 _ _ _)) rfl rfl rfl ?_
              refine gop_lit (vs := [.agg #[_, _, _]]) (cells := #[_, _, _]) Tryz.underlying58 Tryz.sizeOf70 Tryz.zeroValue70 rfl (by decide) (by decide) rfl rfl rfl rfl (fun b45 hb45 => ?_)
              refine gop_append 3 (f := apprCells) (l2 := [(⟨u, ps[k], descP (fpl fs) ps[k]⟩ : Appr)]) Tryz.underlying58 el70 wide_appr (v := .slice Av _ cv) rfl rfl rfl rfl (fun h => by cases h) (by simp [maxLen, approveL]; omega) (by simp [approveL]; omega) (src_box 4 rfl rfl) rfl (fun v46 => ?_)
              refine gops_fact (fun w hM => own_form (hM.own 3 rfl)) ?_
              rintro ⟨A46, c46, rfl, hc46, hm46⟩
              refine gop (y_assign (v := .slice A46 _ c46) rfl) rfl rfl rfl ?_
              refine gops_nil ?_
              refine hN17 _ _ ?_
              refine gT [box b3 _, box b7 _, box b8 _, rowl _ _ _ _ _ _, box b45 _] rfl ?_
              refine gfrom [(1, .int _ _), (3, .pointer _), (7, .pointer _), (9, .slice A46 _ c46), (26, .slice _ _ _), (27, .int _ _), (28, .int _ _)] ⟨rfl, rfl, rfl, rfl, rfl, rfl, rfl, trivial⟩ fun σ => ?_
              refine greg ?_
              refine gop (y_add rfl rfl ⟨by omega, by omega⟩) rfl rfl rfl ?_
              refine gop (y_move (v := .int _ _) rfl) rfl rfl rfl ?_
              refine gops_nil ?_
              rw [← approveL_succ hk1]
              refine gnext2 ((k + 1, A46, c46)) (by show ps.length - (k + 1) < ps.length - k; omega) (⟨by show k + 1 ≤ _; omega, fun j h hj => by rcases Nat.lt_succ_iff_lt_or_eq.1 hj with h1 | rfl; exact hz j h h1; exact hpk⟩) ⟨(by rw [approveL_succ hk1]; rfl), rfl, trivial⟩ ⟨rfl, rfl, rfl, rfl, rfl, trivial⟩ ⟨_, rfl⟩
          · 
            replace hc29 := of_decide_eq_false hc29
            have hF : approveF (fpl fs) u ps = ⟨0, 0⟩ := by rw [hFS]; exact scan_ok (fun j hj => hz j hj (by omega))
            refine gexit ?_
            refine hN13 _ _ ?_
            refine gfrom [(7, .pointer _), (9, .slice Av _ cv)] ⟨rfl, rfl, trivial⟩ fun σ => ?_
            refine gseq fun N22 hN22 => ?_
            refine greg ?_
            refine gop (y_move (v := .slice Av _ cv) rfl) rfl rfl rfl ?_
            refine gop (y_build (vs := []) (cells := #[.int .i64 0, .int .i64 0]) rfl bd33_) rfl rfl rfl ?_
            refine gop (y_assign (v := .slice Av _ cv) rfl) rfl rfl rfl ?_
            refine gop_store 1 (v := .agg #[_, _]) (cs' := #[_, _]) rfl rfl Tryz.sizeOf33 rfl rfl rfl rfl (Nat.le_of_ble_eq_true rfl) rfl rfl ?_
            refine gops_nil ?_
            refine hN22 _ _ ?_
            refine gT [box b3 _, box b7 _, box b8 _, rowl _ _ _ _ _ _] rfl ?_
            refine gfrom [(6, .slice Av _ cv), (7, .pointer _)] ⟨rfl, rfl, trivial⟩ fun σ => ?_
            refine gret fun w1 hM => ?_
            refine ⟨_, res2 rfl (rt (v := .slice Av _ cv) rfl) (rc 1 (cs := [_, _]) hM rfl rfl Tryz.isAgg33 Tryz.sizeOf33 rfl), ?_⟩
            have hke : ps.take k = ps := List.take_of_length_le (by omega)
            rw [hke] at hM
            exact ⟨_, _, by rw [hF, hke], by rw [approveV, if_pos hF]; rfl, hM.dropTo 3 rfl⟩
end Go.Proofs.YtbkameioedmlkaaGreatDoor
namespace Go.Proofs.YtbkameioedmlkaaGreatDoor
open Go.RowKit Go.Cf
set_option maxRecDepth 10000
theorem fa92_0 (a : Addr) (w : World) : (Instr.fieldAt 92 (.pointer (some a)) 0).run Tryz.prog w = .ok (.pointer (some (a.add 0))) w := by kernel_rfl
theorem fa92_1 (a : Addr) (w : World) : (Instr.fieldAt 92 (.pointer (some a)) 1).run Tryz.prog w = .ok (.pointer (some (a.add 1))) w := by kernel_rfl
theorem fa92_2 (a : Addr) (w : World) : (Instr.fieldAt 92 (.pointer (some a)) 2).run Tryz.prog w = .ok (.pointer (some (a.add 2))) w := by kernel_rfl
theorem bd190_0_1 (x1 : Option Addr) (x1l x1c : Nat) (x2 : Option Addr) (x2l x2c : Nat) : Tryz.prog.built 190 [(0, .slice x1 x1l x1c), (1, .slice x2 x2l x2c)] = some #[.slice x1 x1l x1c, .slice x2 x2l x2c] := by kernel_rfl
theorem fa27_0 (a : Addr) (w : World) : (Instr.fieldAt 27 (.pointer (some a)) 0).run Tryz.prog w = .ok (.pointer (some (a.add 0))) w := by kernel_rfl
set_option maxHeartbeats 1000000 in
theorem end_any (w : World) (h : HunkC) (hb : In64 h.pl.end_) : Calls Tryz.prog 63 #[hunkV h] w fun e w' => e = .returned (.int .i64 h.pl.end_) ∧ Below w.heap.size w w' := by
  unfold In64 Hunk.end_ at hb
  refine gcalls Tryz.func63 rfl Tryz.ntmps63 (Nat.le_of_ble_eq_true rfl) ?_
  refine gfrom [(0, .agg #[_, _, _])] ⟨rfl, trivial⟩ fun σ => ?_
  refine gseq fun N1 hN1 => ?_
  refine greg ?_
  refine gop_box (v := .agg #[_, _, _]) (cs := #[_, _, _]) rfl rfl rfl (fun b1 hb1 => ?_)
  refine gop (y_assign (v := .int _ _) rfl) rfl rfl rfl ?_
  refine gops_nil ?_
  refine hN1 _ _ ?_
  refine gT [box b1 _] rfl ?_
  refine gfrom [(1, .pointer _)] ⟨rfl, trivial⟩ fun σ => ?_
  refine gseq fun N2 hN2 => ?_
  refine greg ?_
  refine gop (y_fieldAddr_box fa92_0 rfl) rfl rfl rfl ?_
  refine gop (y_load Tryz.isAgg3 rfl (cell_box 0 rfl rfl)) rfl rfl rfl ?_
  refine gop (y_fieldAddr_box fa92_1 rfl) rfl rfl rfl ?_
  refine gop (y_load Tryz.isAgg22 rfl (cell_box 0 rfl rfl)) rfl rfl rfl ?_
  refine gop (y_len Tryz.underlying22 rfl) rfl rfl rfl ?_
  refine gop (y_add rfl rfl ⟨by omega, by omega⟩) rfl rfl rfl ?_
  refine gop (y_assign (v := .int _ _) rfl) rfl rfl rfl ?_
  refine gops_nil ?_
  refine hN2 _ _ ?_
  refine gfrom [(2, .int _ _)] ⟨rfl, trivial⟩ fun σ => ?_
  refine gret fun w1 hM => ?_
  refine ⟨_, res1 rfl (rt (v := .int _ _) rfl), ?_⟩
  exact ⟨rfl, hM.low⟩
set_option maxHeartbeats 1000000 in
theorem growth_any (w : World) (h : HunkC) (hb : In64 h.pl.growth) : Calls Tryz.prog 64 #[hunkV h] w fun e w' => e = .returned (.int .i64 h.pl.growth) ∧ Below w.heap.size w w' := by
  unfold In64 Hunk.growth at hb
  refine gcalls Tryz.func64 rfl Tryz.ntmps64 (Nat.le_of_ble_eq_true rfl) ?_
  refine gfrom [(0, .agg #[_, _, _])] ⟨rfl, trivial⟩ fun σ => ?_
  refine gseq fun N1 hN1 => ?_
  refine greg ?_
  refine gop_box (v := .agg #[_, _, _]) (cs := #[_, _, _]) rfl rfl rfl (fun b1 hb1 => ?_)
  refine gop (y_assign (v := .int _ _) rfl) rfl rfl rfl ?_
  refine gops_nil ?_
  refine hN1 _ _ ?_
  refine gT [box b1 _] rfl ?_
  refine gfrom [(1, .pointer _)] ⟨rfl, trivial⟩ fun σ => ?_
  refine gseq fun N2 hN2 => ?_
  refine greg ?_
  refine gop (y_fieldAddr_box fa92_2 rfl) rfl rfl rfl ?_
  refine gop (y_load Tryz.isAgg22 rfl (cell_box 0 rfl rfl)) rfl rfl rfl ?_
  refine gop (y_len Tryz.underlying22 rfl) rfl rfl rfl ?_
  refine gop (y_fieldAddr_box fa92_1 rfl) rfl rfl rfl ?_
  refine gop (y_load Tryz.isAgg22 rfl (cell_box 0 rfl rfl)) rfl rfl rfl ?_
  refine gop (y_len Tryz.underlying22 rfl) rfl rfl rfl ?_
  refine gop (y_sub rfl rfl ⟨by omega, by omega⟩) rfl rfl rfl ?_
  refine gop (y_assign (v := .int _ _) rfl) rfl rfl rfl ?_
  refine gops_nil ?_
  refine hN2 _ _ ?_
  refine gfrom [(2, .int _ _)] ⟨rfl, trivial⟩ fun σ => ?_
  refine gret fun w1 hM => ?_
  refine ⟨_, res1 rfl (rt (v := .int _ _) rfl), ?_⟩
  exact ⟨rfl, hM.low⟩
set_option maxHeartbeats 1000000 in
theorem hunk_any (w : World) (h : HunkC) (hR : HunkR w 0 h) (en : Int) : Calls Tryz.prog 96 #[hunkV h, .int .i64 en] w fun e w' => e = .returned (.int .i64 (hunkC h.pl en)) ∧ Below w.heap.size w w' := by
  refine gcalls Tryz.func96 rfl Tryz.ntmps96 (Nat.le_of_ble_eq_true rfl) ?_
  refine gfrom [(0, .agg #[_, _, _]), (1, .int _ _)] ⟨rfl, rfl, trivial⟩ fun σ => ?_
  refine gseq fun N1 hN1 => ?_
  refine greg ?_
  refine gop_box (v := .agg #[_, _, _]) (cs := #[_, _, _]) rfl rfl rfl (fun b2 hb2 => ?_)
  refine gop (y_assign (v := .int _ _) rfl) rfl rfl rfl ?_
  refine gops_nil ?_
  refine hN1 _ _ ?_
  refine gT [box b2 _] rfl ?_
  refine gfrom [(1, .int _ _), (2, .pointer _)] ⟨rfl, rfl, trivial⟩ fun σ => ?_
  refine gseq fun N2 hN2 => ?_
  refine gseq fun N3 hN3 => ?_
  refine greg ?_
  refine gop (y_fieldAddr_box fa92_0 rfl) rfl rfl rfl ?_
  refine gop (y_load Tryz.isAgg3 rfl (cell_box 0 rfl rfl)) rfl rfl rfl ?_
  refine gop (y_lss rfl rfl) rfl rfl rfl ?_
  refine gop (y_move (v := .bool _) rfl) rfl rfl rfl ?_
  refine gop_if (want := false) rfl rfl rfl rfl rfl rfl (fun hg11 => ?_) (fun hg11 => ?_)
  · 
    have hg11d := of_decide_eq_false hg11
    refine gop (y_bare (y_fieldAddr_box fa92_0 rfl)) rfl rfl rfl ?_
    refine gop_on rfl rfl rfl rfl hg11 ?_
    refine gop (y_bare (y_load Tryz.isAgg3 rfl (cell_box 0 rfl rfl))) rfl rfl rfl ?_
    refine gop_on rfl rfl rfl rfl hg11 ?_
    refine gop (y_bare (y_gtr rfl rfl)) rfl rfl rfl ?_
    refine gop (y_pick_f (v := .bool _) rfl hg11 rfl) rfl rfl rfl ?_
    refine gops_nil ?_
    refine hN3 _ _ ?_
    refine gfrom [(1, .int _ _), (2, .pointer _), (15, .bool _)] ⟨rfl, rfl, rfl, trivial⟩ fun σ => ?_
    refine gcond (b := _) rfl (fun hc15 => ?_) (fun hc15 => ?_)
    · 
      replace hc15 := of_decide_eq_true hc15
      refine gseq fun N4 hN4 => ?_
      refine greg ?_
      refine gop (y_assign (v := .int _ _) rfl) rfl rfl rfl ?_
      refine gops_nil ?_
      refine hN4 _ _ ?_
      refine gfrom [(4, .int _ _)] ⟨rfl, trivial⟩ fun σ => ?_
      refine gret fun w1 hM => ?_
      refine ⟨_, res1 rfl (rt (v := .int _ _) rfl), ?_⟩
      exact ⟨by rw [hunkC, if_pos (by omega)], hM.low⟩
    · 
      replace hc15 := of_decide_eq_false hc15
      have h15 : ¬ (h.pl.at_ < 0 ∨ 120 < h.pl.at_) := by omega
      refine gskip ?_
      refine hN2 _ _ ?_
      refine gfrom [(1, .int _ _), (2, .pointer _)] ⟨rfl, rfl, trivial⟩ fun σ => ?_
      refine gseq fun N5 hN5 => ?_
      refine gseq fun N6 hN6 => ?_
      refine greg ?_
      refine gop (y_fieldAddr_box fa92_1 rfl) rfl rfl rfl ?_
      refine gop (y_load Tryz.isAgg22 rfl (cell_box 0 rfl rfl)) rfl rfl rfl ?_
      refine gop (y_fieldAddr_box fa92_2 rfl) rfl rfl rfl ?_
      refine gop (y_load Tryz.isAgg22 rfl (cell_box 0 rfl rfl)) rfl rfl rfl ?_
      refine gop (y_build (vs := [(0, .slice _ _ _), (1, .slice _ _ _)]) (cells := #[_, _]) rfl (bd190_0_1 _ _ _ _ _ _)) rfl rfl rfl ?_
      refine gop (y_move (v := .int _ _) rfl) rfl rfl rfl ?_
      refine gops_nil ?_
      refine hN6 _ _ ?_
      refine gfrom [(1, .int _ _), (2, .pointer _), (20, .agg #[_, _]), (21, .int _ _)] ⟨rfl, rfl, rfl, rfl, trivial⟩ fun σ => ?_
      refine gblock ?_
      refine gfrom2 [(21, .int _ _)] [(1, .int _ _), (2, .pointer _), (20, .agg #[_, _])] ⟨rfl, trivial⟩ ⟨rfl, rfl, rfl, trivial⟩ fun σ => ?_
      refine gloop2 (G := Nat) (fun k => k ≤ 2 ∧ (0 < k → linesF h.pl.old = ⟨0, 0⟩) ∧ (1 < k → linesF h.pl.new = ⟨0, 0⟩)) (fun k => 2 - k) (fun k => [(21, .int .i64 (k : Int))]) (fun k => []) (0) ?h0 ⟨rfl, trivial⟩ ⟨rfl, rfl, rfl, trivial⟩ rfl ?round
      case h0 => exact ⟨by omega, by omega, by omega⟩
      case round =>
        intro k hφ σ
        obtain ⟨hk, hz0, hz1⟩ := hφ
        refine gseq fun N7 hN7 => ?_
        refine greg ?_
        refine gop (y_lss rfl rfl) rfl rfl rfl ?_
        refine gops_nil ?_
        refine hN7 _ _ ?_
        refine gfrom [(1, .int _ _), (2, .pointer _), (20, .agg #[_, _]), (21, .int _ _), (22, .bool _)] ⟨rfl, rfl, rfl, rfl, rfl, trivial⟩ fun σ => ?_
        refine gseq fun N8 hN8 => ?_
        refine gcond (b := _) rfl (fun hc22 => ?_) (fun hc22 => ?_)
        · 
          replace hc22 := of_decide_eq_true hc22
          have hk01 : k = 0 ∨ k = 1 := by omega
          obtain ⟨A', c', m, hidx, hrd, hml, hres⟩ : ∃ A' c' m, ([.slice h.oA h.pl.old.length h.oc, .slice h.nA h.pl.new.length h.nc] : List Value)[k]? = some (.slice A' m.length c') ∧ Rdl w 0 1 strCells A' m ∧ m.length ≤ maxLen ∧ (k = 0 → m = h.pl.old) ∧ (k = 1 → m = h.pl.new) := by
            rcases hk01 with rfl | rfl
            · exact ⟨h.oA, h.oc, h.pl.old, rfl, hR.old, Nat.le_trans hR.ob.len hR.ob.max, fun _ => rfl, fun h => absurd h (by decide)⟩
            · exact ⟨h.nA, h.nc, h.pl.new, rfl, hR.new, Nat.le_trans hR.nb.len hR.nb.max, fun h => absurd h (by decide), fun _ => rfl⟩
          refine gskip ?_
          refine hN8 _ _ ?_
          refine gfrom [(1, .int _ _), (2, .pointer _), (20, .agg #[_, _]), (21, .int _ _)] ⟨rfl, rfl, rfl, rfl, trivial⟩ fun σ => ?_
          refine gseq fun N9 hN9 => ?_
          refine gblock ?_
          refine gseq fun N10 hN10 => ?_
          refine greg ?_
          refine gop (y_arridx1 (f := fun v : Value => v) (m := k) (l := [.slice h.oA h.pl.old.length h.oc, .slice h.nA h.pl.new.length h.nc]) (a := .slice A' m.length c') Tryz.underlying190 Tryz.sizeOf22 Tryz.isAgg22 rfl rfl rfl (by omega) (by omega) hidx) rfl rfl rfl ?_
          refine gop (y_assign (v := .slice _ _ _) rfl) rfl rfl rfl ?_
          refine gops_nil ?_
          refine hN10 _ _ ?_
          refine gfrom [(1, .int _ _), (2, .pointer _), (6, .slice _ _ _), (20, .agg #[_, _]), (21, .int _ _)] ⟨rfl, rfl, rfl, rfl, rfl, trivial⟩ fun σ => ?_
          refine gseq fun N11 hN11 => ?_
          refine greg ?_
          refine gop (y_move (v := .slice _ _ _) rfl) rfl rfl rfl ?_
          refine gop_pure (e_call (vs := [.slice _ _ _]) Tryz.func58 rfl (by kernel_rfl) rfl) (fun w hM => linesValidate_any w A' c' m (hrd.base hM) hml) rfl rfl rfl ?_
          refine gop_alloc (cs := #[.int .i64 0, .int .i64 0]) Tryz.zeroValue33 rfl rfl (fun b7 hb7 => ?_)
          refine gop_store 1 (v := .agg #[_, _]) (cs' := #[_, _]) rfl rfl Tryz.sizeOf33 rfl rfl rfl rfl (Nat.le_of_ble_eq_true rfl) rfl rfl ?_
          refine gops_nil ?_
          refine hN11 _ _ ?_
          refine gT [box b2 _, box b7 _] rfl ?_
          refine gfrom [(1, .int _ _), (2, .pointer _), (7, .pointer _), (20, .agg #[_, _]), (21, .int _ _)] ⟨rfl, rfl, rfl, rfl, rfl, trivial⟩ fun σ => ?_
          refine gseq fun N12 hN12 => ?_
          refine greg ?_
          refine gop (y_loads (cs := [_, _]) Tryz.isAgg33 Tryz.sizeOf33 rfl rfl (cells_box 1 rfl)) rfl rfl rfl ?_
          refine gop (y_build (vs := []) (cells := #[.int .i64 0, .int .i64 0]) rfl bd33_) rfl rfl rfl ?_
          refine gop (y_bin (vx := .agg #[_, _]) (vy := .agg #[_, _]) rfl rfl (fun w => eg33 _ _ _ _ _ w) (fun w => ne33 _ _ _ _ w)) rfl rfl rfl ?_
          refine gops_nil ?_
          refine hN12 _ _ ?_
          refine gfrom [(1, .int _ _), (2, .pointer _), (7, .pointer _), (20, .agg #[_, _]), (21, .int _ _), (28, .bool _)] ⟨rfl, rfl, rfl, rfl, rfl, rfl, trivial⟩ fun σ => ?_
          refine gcond (b := _) rfl (fun hc28 => ?_) (fun hc28 => ?_)
          · 
            replace hc28 := fault_ne.1 hc28
            have hC : hunkC h.pl en = (linesF m).code := by
              rcases hk01 with rfl | rfl
              · rw [hres.1 rfl] at hc28 ⊢; rw [hunkC, if_neg h15, if_pos hc28]
              · rw [hres.2 rfl] at hc28 ⊢; rw [hunkC, if_neg h15, if_neg (by simp [hz0 (by omega)]), if_pos hc28]
            refine gseq fun N13 hN13 => ?_
            refine greg ?_
            refine gop (y_fieldAddr_box fa33_0 rfl) rfl rfl rfl ?_
            refine gop (y_load Tryz.isAgg3 rfl (cell_box 1 rfl rfl)) rfl rfl rfl ?_
            refine gop (y_assign (v := .int _ _) rfl) rfl rfl rfl ?_
            refine gops_nil ?_
            refine hN13 _ _ ?_
            refine gfrom [(4, .int _ _)] ⟨rfl, trivial⟩ fun σ => ?_
            refine gret fun w1 hM => ?_
            refine ⟨_, res1 rfl (rt (v := .int _ _) rfl), ?_⟩
            exact ⟨by rw [hC], hM.low⟩
          · 
            replace hc28 := fault_eq.1 hc28
            refine gskip ?_
            refine hN9 _ _ ?_
            refine gfrom [(1, .int _ _), (2, .pointer _), (20, .agg #[_, _]), (21, .int _ _)] ⟨rfl, rfl, rfl, rfl, trivial⟩ fun σ => ?_
            refine greg ?_
            refine gop (y_add rfl rfl ⟨by omega, by omega⟩) rfl rfl rfl ?_
            refine gop (y_move (v := .int _ _) rfl) rfl rfl rfl ?_
            refine gops_nil ?_
            refine gnext2 (k + 1) (by omega) (⟨by omega, fun _ => by rcases hk01 with rfl | rfl; exact hres.1 rfl ▸ hc28; exact hz0 (by omega), fun _ => by rcases hk01 with rfl | rfl; omega; exact hres.2 rfl ▸ hc28⟩) ⟨rfl, trivial⟩ ⟨rfl, rfl, rfl, trivial⟩ ⟨_, rfl⟩
        · 
          replace hc22 := of_decide_eq_false hc22
          have hO := hz0 (by omega)
          have hN := hz1 (by omega)
          have hOl := linesF_len hO
          have hNl := linesF_len hN
          have hC : hunkC h.pl en = if h.pl.old.length + h.pl.new.length = 0 ∨ h.pl.at_ ≤ en then 5 else if 120 < h.pl.end_ then 3 else 0 := by rw [hunkC, if_neg h15, if_neg (by simp [hO]), if_neg (by simp [hN])]
          refine gexit ?_
          refine hN5 _ _ ?_
          refine gfrom [(1, .int _ _), (2, .pointer _)] ⟨rfl, rfl, trivial⟩ fun σ => ?_
          refine gseq fun N14 hN14 => ?_
          refine gseq fun N15 hN15 => ?_
          refine greg ?_
          refine gop (y_fieldAddr_box fa92_1 rfl) rfl rfl rfl ?_
          refine gop (y_load Tryz.isAgg22 rfl (cell_box 0 rfl rfl)) rfl rfl rfl ?_
          refine gop (y_len Tryz.underlying22 rfl) rfl rfl rfl ?_
          refine gop (y_fieldAddr_box fa92_2 rfl) rfl rfl rfl ?_
          refine gop (y_load Tryz.isAgg22 rfl (cell_box 0 rfl rfl)) rfl rfl rfl ?_
          refine gop (y_len Tryz.underlying22 rfl) rfl rfl rfl ?_
          refine gop (y_add rfl rfl ⟨by omega, by omega⟩) rfl rfl rfl ?_
          refine gop (y_eql rfl rfl) rfl rfl rfl ?_
          refine gop (y_move (v := .bool _) rfl) rfl rfl rfl ?_
          refine gop_if (want := false) rfl rfl rfl rfl rfl rfl (fun hg40 => ?_) (fun hg40 => ?_)
          · 
            have hg40d := of_decide_eq_false hg40
            refine gop (y_bare (y_fieldAddr_box fa92_0 rfl)) rfl rfl rfl ?_
            refine gop_on rfl rfl rfl rfl hg40 ?_
            refine gop (y_bare (y_load Tryz.isAgg3 rfl (cell_box 0 rfl rfl))) rfl rfl rfl ?_
            refine gop_on rfl rfl rfl rfl hg40 ?_
            refine gop (y_bare (y_move (v := .int _ _) rfl)) rfl rfl rfl ?_
            refine gop_on rfl rfl rfl rfl hg40 ?_
            refine gop (y_bare (y_leq rfl rfl)) rfl rfl rfl ?_
            refine gop (y_pick_f (v := .bool _) rfl hg40 rfl) rfl rfl rfl ?_
            refine gops_nil ?_
            refine hN15 _ _ ?_
            refine gfrom [(2, .pointer _), (45, .bool _)] ⟨rfl, rfl, trivial⟩ fun σ => ?_
            refine gcond (b := _) rfl (fun hc45 => ?_) (fun hc45 => ?_)
            · 
              replace hc45 := of_decide_eq_true hc45
              refine gseq fun N16 hN16 => ?_
              refine greg ?_
              refine gop (y_assign (v := .int _ _) rfl) rfl rfl rfl ?_
              refine gops_nil ?_
              refine hN16 _ _ ?_
              refine gfrom [(4, .int _ _)] ⟨rfl, trivial⟩ fun σ => ?_
              refine gret fun w1 hM => ?_
              refine ⟨_, res1 rfl (rt (v := .int _ _) rfl), ?_⟩
              exact ⟨by rw [hC, if_pos (by omega)], hM.low⟩
            · 
              replace hc45 := of_decide_eq_false hc45
              refine gskip ?_
              refine hN14 _ _ ?_
              refine gfrom [(2, .pointer _)] ⟨rfl, trivial⟩ fun σ => ?_
              refine gseq fun N17 hN17 => ?_
              refine gseq fun N18 hN18 => ?_
              refine greg ?_
              refine gop (y_loads (cs := [_, _, _]) Tryz.isAgg92 Tryz.sizeOf92 rfl rfl (cells_box 0 rfl)) rfl rfl rfl ?_
              refine gop_pure (e_call (vs := [.agg #[_, _, _]]) Tryz.func63 rfl (by kernel_rfl) rfl) (fun w hM => end_any w h (by unfold In64 Hunk.end_; omega)) rfl rfl rfl ?_
              refine gop (y_gtr rfl rfl) rfl rfl rfl ?_
              refine gops_nil ?_
              refine hN18 _ _ ?_
              refine gfrom [(48, .bool _)] ⟨rfl, trivial⟩ fun σ => ?_
              refine gcond (b := _) rfl (fun hc48 => ?_) (fun hc48 => ?_)
              · 
                replace hc48 := of_decide_eq_true hc48
                refine gseq fun N19 hN19 => ?_
                refine greg ?_
                refine gop (y_assign (v := .int _ _) rfl) rfl rfl rfl ?_
                refine gops_nil ?_
                refine hN19 _ _ ?_
                refine gfrom [(4, .int _ _)] ⟨rfl, trivial⟩ fun σ => ?_
                refine gret fun w1 hM => ?_
                refine ⟨_, res1 rfl (rt (v := .int _ _) rfl), ?_⟩
                exact ⟨by rw [hC, if_neg (by omega), if_pos (by omega)], hM.low⟩
              · 
                replace hc48 := of_decide_eq_false hc48
                refine gskip ?_
                refine hN17 _ _ ?_
                refine gfrom [] trivial fun σ => ?_
                refine gseq fun N20 hN20 => ?_
                refine greg ?_
                refine gop (y_assign (v := .int _ _) rfl) rfl rfl rfl ?_
                refine gops_nil ?_
                refine hN20 _ _ ?_
                refine gfrom [(4, .int _ _)] ⟨rfl, trivial⟩ fun σ => ?_
                refine gret fun w1 hM => ?_
                refine ⟨_, res1 rfl (rt (v := .int _ _) rfl), ?_⟩
                exact ⟨by rw [hC, if_neg (by omega), if_neg (by omega)], hM.low⟩
          · 
            have hg40d := of_decide_eq_true hg40
            refine gop_off rfl rfl rfl rfl hg40 rfl rfl ?_
            refine gop_off rfl rfl rfl rfl hg40 rfl rfl ?_
            refine gop_off rfl rfl rfl rfl hg40 rfl rfl ?_
            refine gop (y_pick_t (v := .bool _) rfl hg40 rfl) rfl rfl rfl ?_
            refine gops_nil ?_
            refine hN15 _ _ ?_
            refine gfrom [(2, .pointer _), (45, .bool _)] ⟨rfl, rfl, trivial⟩ fun σ => ?_
            refine gcond (b := _) rfl (fun hc45 => ?_) (fun hc45 => ?_)
            · 
              refine gseq fun N21 hN21 => ?_
              refine greg ?_
              refine gop (y_assign (v := .int _ _) rfl) rfl rfl rfl ?_
              refine gops_nil ?_
              refine hN21 _ _ ?_
              refine gfrom [(4, .int _ _)] ⟨rfl, trivial⟩ fun σ => ?_
              refine gret fun w1 hM => ?_
              refine ⟨_, res1 rfl (rt (v := .int _ _) rfl), ?_⟩
              exact ⟨by rw [hC, if_pos (by omega)], hM.low⟩
            · 
              cases hc45
  · 
    have hg11d := of_decide_eq_true hg11
    refine gop_off rfl rfl rfl rfl hg11 rfl rfl ?_
    refine gop_off rfl rfl rfl rfl hg11 rfl rfl ?_
    refine gop (y_pick_t (v := .bool _) rfl hg11 rfl) rfl rfl rfl ?_
    refine gops_nil ?_
    refine hN3 _ _ ?_
    refine gfrom [(1, .int _ _), (2, .pointer _), (15, .bool _)] ⟨rfl, rfl, rfl, trivial⟩ fun σ => ?_
    refine gcond (b := _) rfl (fun hc15 => ?_) (fun hc15 => ?_)
    · 
      refine gseq fun N22 hN22 => ?_
      refine greg ?_
      refine gop (y_assign (v := .int _ _) rfl) rfl rfl rfl ?_
      refine gops_nil ?_
      refine hN22 _ _ ?_
      refine gfrom [(4, .int _ _)] ⟨rfl, trivial⟩ fun σ => ?_
      refine gret fun w1 hM => ?_
      refine ⟨_, res1 rfl (rt (v := .int _ _) rfl), ?_⟩
      exact ⟨by rw [hunkC, if_pos (by omega)], hM.low⟩
    · 
      cases hc15
set_option maxHeartbeats 1000000 in
theorem patchValidate_any (w : World) (A : Option Addr) (c : Nat) (hs : List HunkC) (hp : PatR w 0 A c hs) : Calls Tryz.prog 62 #[.agg #[.slice A hs.length c]] w fun e w' => e = .returned (fv (patchF (pls hs))) ∧ Below w.heap.size w w' := by
  have hm := Nat.le_trans hp.sb.len hp.sb.max
  unfold maxLen at hm
  refine gcalls Tryz.func62 rfl Tryz.ntmps62 (Nat.le_of_ble_eq_true rfl) ?_
  refine gfrom [(0, .agg #[_])] ⟨rfl, trivial⟩ fun σ => ?_
  refine gseq fun N1 hN1 => ?_
  refine greg ?_
  refine gop_box (v := .agg #[_]) (cs := #[_]) rfl rfl rfl (fun b1 hb1 => ?_)
  refine gop_alloc (cs := #[.int .i64 0, .int .i64 0]) Tryz.zeroValue33 rfl rfl (fun b2 hb2 => ?_)
  refine gops_nil ?_
  refine hN1 _ _ ?_
  refine gT [box b1 _, box b2 _] rfl ?_
  refine gfrom [(1, .pointer _), (2, .pointer _)] ⟨rfl, rfl, trivial⟩ fun σ => ?_
  refine gseq fun N2 hN2 => ?_
  refine gseq fun N3 hN3 => ?_
  refine greg ?_
  refine gop (y_fieldAddr_box fa27_0 rfl) rfl rfl rfl ?_
  refine gop (y_load Tryz.isAgg25 rfl (cell_box 0 rfl rfl)) rfl rfl rfl ?_
  refine gop (y_len Tryz.underlying25 rfl) rfl rfl rfl ?_
  refine gop (y_gtr rfl rfl) rfl rfl rfl ?_
  refine gops_nil ?_
  refine hN3 _ _ ?_
  refine gfrom [(1, .pointer _), (2, .pointer _), (10, .bool _)] ⟨rfl, rfl, rfl, trivial⟩ fun σ => ?_
  refine gcond (b := _) rfl (fun hc10 => ?_) (fun hc10 => ?_)
  · 
    replace hc10 := of_decide_eq_true hc10
    have hF : patchF (pls hs) = ⟨2, -1⟩ := by rw [patchF, if_pos (by simp; omega)]
    refine gseq fun N4 hN4 => ?_
    refine greg ?_
    refine gop (y_build (vs := [(0, _), (1, _)]) (cells := #[_, _]) rfl (bd33_0_1 _ _)) rfl rfl rfl ?_
    refine gop_store 1 (v := .agg #[_, _]) (cs' := #[_, _]) rfl rfl Tryz.sizeOf33 rfl rfl rfl rfl (Nat.le_of_ble_eq_true rfl) rfl rfl ?_
    refine gops_nil ?_
    refine hN4 _ _ ?_
    refine gT [box b1 _, box b2 _] rfl ?_
    refine gfrom [(2, .pointer _)] ⟨rfl, trivial⟩ fun σ => ?_
    refine gret fun w1 hM => ?_
    refine ⟨_, res1 rfl (rc 1 (cs := [_, _]) hM rfl rfl Tryz.isAgg33 Tryz.sizeOf33 rfl), ?_⟩
    exact ⟨by rw [hF], hM.low⟩
  · 
    replace hc10 := of_decide_eq_false hc10
    have hF : patchF (pls hs) = scan (fun k h => hunkC h (prevEnd (pls hs) k)) (pls hs) := by rw [patchF, if_neg (by simp; omega)]
    refine gskip ?_
    refine hN2 _ _ ?_
    refine gfrom [(1, .pointer _), (2, .pointer _)] ⟨rfl, rfl, trivial⟩ fun σ => ?_
    refine gseq fun N5 hN5 => ?_
    refine greg ?_
    refine gop (y_assign (v := .int _ _) rfl) rfl rfl rfl ?_
    refine gops_nil ?_
    refine hN5 _ _ ?_
    refine gfrom [(1, .pointer _), (2, .pointer _), (3, .int _ _)] ⟨rfl, rfl, rfl, trivial⟩ fun σ => ?_
    refine gseq fun N6 hN6 => ?_
    refine gseq fun N7 hN7 => ?_
    refine greg ?_
    refine gop (y_fieldAddr_box fa27_0 rfl) rfl rfl rfl ?_
    refine gop (y_load Tryz.isAgg25 rfl (cell_box 0 rfl rfl)) rfl rfl rfl ?_
    refine gop (y_len Tryz.underlying25 rfl) rfl rfl rfl ?_
    refine gop (y_move (v := .int _ _) rfl) rfl rfl rfl ?_
    refine gops_nil ?_
    refine hN7 _ _ ?_
    refine gfrom [(2, .pointer _), (3, .int _ _), (13, .slice _ _ _), (14, .int _ _), (15, .int _ _)] ⟨rfl, rfl, rfl, rfl, rfl, trivial⟩ fun σ => ?_
    refine gblock ?_
    refine gfrom2 [(3, .int _ _), (15, .int _ _)] [(2, .pointer _), (13, .slice _ _ _), (14, .int _ _)] ⟨rfl, rfl, trivial⟩ ⟨rfl, rfl, rfl, trivial⟩ fun σ => ?_
    refine gloop2 (G := Nat) (fun k => k ≤ hs.length ∧ ∀ j (h : j < (pls hs).length), j < k → hunkC (pls hs)[j] (prevEnd (pls hs) j) = 0) (fun k => hs.length - k) (fun k => [(3, .int .i64 (prevEnd (pls hs) k)), (15, .int .i64 (k : Int))]) (fun k => []) (0) ?h0 ⟨rfl, rfl, trivial⟩ ⟨rfl, rfl, rfl, trivial⟩ rfl ?round
    case h0 => exact ⟨Nat.zero_le _, fun _ _ h => absurd h (by omega)⟩
    case round =>
      intro k hφ σ
      obtain ⟨hk, hz⟩ := hφ
      refine gseq fun N8 hN8 => ?_
      refine greg ?_
      refine gop (y_lss rfl rfl) rfl rfl rfl ?_
      refine gops_nil ?_
      refine hN8 _ _ ?_
      refine gfrom [(2, .pointer _), (3, .int _ _), (13, .slice _ _ _), (14, .int _ _), (15, .int _ _), (16, .bool _)] ⟨rfl, rfl, rfl, rfl, rfl, rfl, trivial⟩ fun σ => ?_
      refine gseq fun N9 hN9 => ?_
      refine gcond (b := _) rfl (fun hc16 => ?_) (fun hc16 => ?_)
      · 
        replace hc16 := of_decide_eq_true hc16
        have hk1 : k < hs.length := by omega
        have hk2 : k < (pls hs).length := by simpa using hk1
        obtain ⟨ad, rfl, -, hcv⟩ := hp.rd.at_ hk1
        have hR := hp.each _ (List.getElem_mem hk1)
        refine gskip ?_
        refine hN9 _ _ ?_
        refine gfrom [(2, .pointer _), (3, .int _ _), (13, .slice _ _ _), (14, .int _ _), (15, .int _ _)] ⟨rfl, rfl, rfl, rfl, rfl, trivial⟩ fun σ => ?_
        refine gseq fun N10 hN10 => ?_
        refine gblock ?_
        refine gseq fun N11 hN11 => ?_
        refine greg ?_
        refine gop (y_move (v := .int _ _) rfl) rfl rfl rfl ?_
        refine gop (y_indexAddr Tryz.underlying25 Tryz.sizeOf92 rfl rfl rfl (by omega) (by omega)) rfl rfl rfl ?_
        refine gop (y_loads (cs := [_, _, _]) Tryz.isAgg92 Tryz.sizeOf92 rfl rfl (cells_base hcv)) rfl rfl rfl ?_
        refine gop_alloc (cs := #[.int .i64 0, .slice none 0 0, .slice none 0 0]) Tryz.zeroValue92 rfl rfl (fun b5 hb5 => ?_)
        refine gop (y_assign (v := .int _ _) rfl) rfl rfl rfl ?_
        refine gop_store 2 (v := .agg #[_, _, _]) (cs' := #[_, _, _]) rfl rfl Tryz.sizeOf92 rfl rfl rfl rfl (Nat.le_of_ble_eq_true rfl) rfl rfl ?_
        refine gops_nil ?_
        refine hN11 _ _ ?_
        refine gT [box b1 _, box b2 _, box b5 _] rfl ?_
        refine gfrom [(2, .pointer _), (3, .int _ _), (4, .int _ _), (5, .pointer _), (13, .slice _ _ _), (14, .int _ _), (15, .int _ _)] ⟨rfl, rfl, rfl, rfl, rfl, rfl, rfl, trivial⟩ fun σ => ?_
        refine gseq fun N12 hN12 => ?_
        refine gseq fun N13 hN13 => ?_
        refine greg ?_
        refine gop (y_loads (cs := [_, _, _]) Tryz.isAgg92 Tryz.sizeOf92 rfl rfl (cells_box 2 rfl)) rfl rfl rfl ?_
        refine gop (y_move (v := .int _ _) rfl) rfl rfl rfl ?_
        refine gop_pure (e_call (vs := [.agg #[_, _, _], .int _ _]) Tryz.func96 rfl (by kernel_rfl) rfl) (fun w hM => hunk_any w hs[k] (HunkR.lasts.base hR hM) _) rfl rfl rfl ?_
        refine gop (y_assign (v := .int _ _) rfl) rfl rfl rfl ?_
        refine gops_nil ?_
        refine hN13 _ _ ?_
        refine gfrom [(2, .pointer _), (4, .int _ _), (5, .pointer _), (6, .int _ _), (13, .slice _ _ _), (14, .int _ _), (15, .int _ _)] ⟨rfl, rfl, rfl, rfl, rfl, rfl, rfl, trivial⟩ fun σ => ?_
        refine gseq fun N14 hN14 => ?_
        refine greg ?_
        refine gop (y_move (v := .int _ _) rfl) rfl rfl rfl ?_
        refine gop (y_neq rfl rfl) rfl rfl rfl ?_
        refine gops_nil ?_
        refine hN14 _ _ ?_
        refine gfrom [(2, .pointer _), (4, .int _ _), (5, .pointer _), (6, .int _ _), (13, .slice _ _ _), (14, .int _ _), (15, .int _ _), (24, .bool _)] ⟨rfl, rfl, rfl, rfl, rfl, rfl, rfl, rfl, trivial⟩ fun σ => ?_
        refine gcond (b := _) rfl (fun hc24 => ?_) (fun hc24 => ?_)
        · 
          replace hc24 := of_decide_eq_true hc24
          refine gseq fun N15 hN15 => ?_
          refine greg ?_
          refine gop (y_move (v := .int _ _) rfl) rfl rfl rfl ?_
          refine gop (y_move (v := .int _ _) rfl) rfl rfl rfl ?_
          refine gop (y_build (vs := [(0, .int _ _), (1, .int _ _)]) (cells := #[_, _]) rfl (bd33_0_1 _ _)) rfl rfl rfl ?_
          refine gop_store 1 (v := .agg #[_, _]) (cs' := #[_, _]) rfl rfl Tryz.sizeOf33 rfl rfl rfl rfl (Nat.le_of_ble_eq_true rfl) rfl rfl ?_
          refine gops_nil ?_
          refine hN15 _ _ ?_
          refine gT [box b1 _, box b2 _, box b5 _] rfl ?_
          refine gfrom [(2, .pointer _)] ⟨rfl, trivial⟩ fun σ => ?_
          refine gret fun w1 hM => ?_
          refine ⟨_, res1 rfl (rc 1 (cs := [_, _]) hM rfl rfl Tryz.isAgg33 Tryz.sizeOf33 rfl), ?_⟩
          exact ⟨by rw [hF, scan_at hk2 hz (by simpa using hc24)]; simp, hM.low⟩
        · 
          replace hc24 := Decidable.not_not.1 (of_decide_eq_false hc24)
          have hv := hunkC_zero.1 hc24
          refine gskip ?_
          refine hN12 _ _ ?_
          refine gfrom [(2, .pointer _), (5, .pointer _), (13, .slice _ _ _), (14, .int _ _), (15, .int _ _)] ⟨rfl, rfl, rfl, rfl, rfl, trivial⟩ fun σ => ?_
          refine greg ?_
          refine gop (y_loads (cs := [_, _, _]) Tryz.isAgg92 Tryz.sizeOf92 rfl rfl (cells_box 2 rfl)) rfl rfl rfl ?_
          refine gop_pure (e_call (vs := [.agg #[_, _, _]]) Tryz.func63 rfl (by kernel_rfl) rfl) (fun w hM => end_any w hs[k] (by have := hv.lo; have := hv.hi; have := hv.oldLen; unfold In64 Hunk.end_; omega)) rfl rfl rfl ?_
          refine gop (y_assign (v := .int _ _) rfl) rfl rfl rfl ?_
          refine gops_nil ?_
          refine hN10 _ _ ?_
          refine gfrom [(2, .pointer _), (3, .int _ _), (13, .slice _ _ _), (14, .int _ _), (15, .int _ _)] ⟨rfl, rfl, rfl, rfl, rfl, trivial⟩ fun σ => ?_
          refine greg ?_
          refine gop (y_add rfl rfl ⟨by omega, by omega⟩) rfl rfl rfl ?_
          refine gop (y_move (v := .int _ _) rfl) rfl rfl rfl ?_
          refine gops_nil ?_
          refine gnext2 (k + 1) (by omega) (⟨by omega, fun j h hj => by rcases Nat.lt_succ_iff_lt_or_eq.1 hj with h1 | rfl; exact hz j h h1; simpa using hc24⟩) ⟨(congrArg (Value.int .i64) (by rw [PV.prev hk2]; simp)), rfl, trivial⟩ ⟨rfl, rfl, rfl, trivial⟩ ⟨_, rfl⟩
      · 
        replace hc16 := of_decide_eq_false hc16
        have hF2 : patchF (pls hs) = ⟨0, 0⟩ := by rw [hF]; exact scan_ok fun j hj => hz j hj (by simp at hj; omega)
        refine gexit ?_
        refine hN6 _ _ ?_
        refine gfrom [(2, .pointer _)] ⟨rfl, trivial⟩ fun σ => ?_
        refine gseq fun N16 hN16 => ?_
        refine greg ?_
        refine gop (y_build (vs := []) (cells := #[.int .i64 0, .int .i64 0]) rfl bd33_) rfl rfl rfl ?_
        refine gop_store 1 (v := .agg #[_, _]) (cs' := #[_, _]) rfl rfl Tryz.sizeOf33 rfl rfl rfl rfl (Nat.le_of_ble_eq_true rfl) rfl rfl ?_
        refine gops_nil ?_
        refine hN16 _ _ ?_
        refine gT [box b1 _, box b2 _] rfl ?_
        refine gfrom [(2, .pointer _)] ⟨rfl, trivial⟩ fun σ => ?_
        refine gret fun w1 hM => ?_
        refine ⟨_, res1 rfl (rc 1 (cs := [_, _]) hM rfl rfl Tryz.isAgg33 Tryz.sizeOf33 rfl), ?_⟩
        exact ⟨by rw [hF2], hM.low⟩
set_option maxHeartbeats 1000000 in
theorem patchSecond_any (w : World) (A : Option Addr) (c : Nat) (hs : List HunkC) (hp : PatR w 0 A c hs) (i : Int) : Calls Tryz.prog 32 #[.agg #[.slice A hs.length c], .int .i64 i] w fun e w' => e = .returned (fv (secondF (patchF (pls hs)) i)) ∧ Below w.heap.size w w' := by
  refine gcalls Tryz.func32 rfl Tryz.ntmps32 (Nat.le_of_ble_eq_true rfl) ?_
  refine gfrom [(0, .agg #[_]), (1, .int _ _)] ⟨rfl, rfl, trivial⟩ fun σ => ?_
  refine gseq fun N1 hN1 => ?_
  refine greg ?_
  refine gop_box (v := .agg #[_]) (cs := #[_]) rfl rfl rfl (fun b2 hb2 => ?_)
  refine gop_alloc (cs := #[.int .i64 0, .int .i64 0]) Tryz.zeroValue33 rfl rfl (fun b4 hb4 => ?_)
  refine gops_nil ?_
  refine hN1 _ _ ?_
  refine gT [box b2 _, box b4 _] rfl ?_
  refine gfrom [(1, .int _ _), (2, .pointer _), (4, .pointer _)] ⟨rfl, rfl, rfl, trivial⟩ fun σ => ?_
  refine gseq fun N2 hN2 => ?_
  refine gseq fun N3 hN3 => ?_
  refine greg ?_
  refine gop (y_loads (cs := [_]) Tryz.isAgg27 Tryz.sizeOf27 rfl rfl (cells_box 0 rfl)) rfl rfl rfl ?_
  refine gop_pure (e_call (vs := [.agg #[_]]) Tryz.func62 rfl (by kernel_rfl) rfl) (fun w hM => patchValidate_any w _ _ _ (PatR.lasts.base hp hM)) rfl rfl rfl ?_
  refine gop_alloc (cs := #[.int .i64 0, .int .i64 0]) Tryz.zeroValue33 rfl rfl (fun b5 hb5 => ?_)
  refine gop_store 2 (v := .agg #[_, _]) (cs' := #[_, _]) rfl rfl Tryz.sizeOf33 rfl rfl rfl rfl (Nat.le_of_ble_eq_true rfl) rfl rfl ?_
  refine gops_nil ?_
  refine hN3 _ _ ?_
  refine gT [box b2 _, box b4 _, box b5 _] rfl ?_
  refine gfrom [(1, .int _ _), (4, .pointer _), (5, .pointer _)] ⟨rfl, rfl, rfl, trivial⟩ fun σ => ?_
  refine gseq fun N4 hN4 => ?_
  refine greg ?_
  refine gop (y_loads (cs := [_, _]) Tryz.isAgg33 Tryz.sizeOf33 rfl rfl (cells_box 2 rfl)) rfl rfl rfl ?_
  refine gop (y_build (vs := []) (cells := #[.int .i64 0, .int .i64 0]) rfl bd33_) rfl rfl rfl ?_
  refine gop (y_bin (vx := .agg #[_, _]) (vy := .agg #[_, _]) rfl rfl (fun w => eg33 _ _ _ _ _ w) (fun w => ne33 _ _ _ _ w)) rfl rfl rfl ?_
  refine gops_nil ?_
  refine hN4 _ _ ?_
  refine gfrom [(1, .int _ _), (4, .pointer _), (5, .pointer _), (10, .bool _)] ⟨rfl, rfl, rfl, rfl, trivial⟩ fun σ => ?_
  refine gcond (b := _) rfl (fun hc10 => ?_) (fun hc10 => ?_)
  · 
    replace hc10 := fault_ne.1 hc10
    refine gseq fun N5 hN5 => ?_
    refine greg ?_
    refine gop (y_fieldAddr_box fa33_0 rfl) rfl rfl rfl ?_
    refine gop (y_load Tryz.isAgg3 rfl (cell_box 2 rfl rfl)) rfl rfl rfl ?_
    refine gop (y_move (v := .int _ _) rfl) rfl rfl rfl ?_
    refine gop (y_build (vs := [(0, .int _ _), (1, .int _ _)]) (cells := #[_, _]) rfl (bd33_0_1 _ _)) rfl rfl rfl ?_
    refine gop_store 1 (v := .agg #[_, _]) (cs' := #[_, _]) rfl rfl Tryz.sizeOf33 rfl rfl rfl rfl (Nat.le_of_ble_eq_true rfl) rfl rfl ?_
    refine gops_nil ?_
    refine hN5 _ _ ?_
    refine gT [box b2 _, box b4 _, box b5 _] rfl ?_
    refine gfrom [(4, .pointer _)] ⟨rfl, trivial⟩ fun σ => ?_
    refine gret fun w1 hM => ?_
    refine ⟨_, res1 rfl (rc 1 (cs := [_, _]) hM rfl rfl Tryz.isAgg33 Tryz.sizeOf33 rfl), ?_⟩
    exact ⟨by rw [secondF, if_pos hc10], hM.low⟩
  · 
    replace hc10 := fault_eq.1 hc10
    refine gskip ?_
    refine hN2 _ _ ?_
    refine gfrom [(4, .pointer _)] ⟨rfl, trivial⟩ fun σ => ?_
    refine gseq fun N6 hN6 => ?_
    refine greg ?_
    refine gop (y_build (vs := []) (cells := #[.int .i64 0, .int .i64 0]) rfl bd33_) rfl rfl rfl ?_
    refine gop_store 1 (v := .agg #[_, _]) (cs' := #[_, _]) rfl rfl Tryz.sizeOf33 rfl rfl rfl rfl (Nat.le_of_ble_eq_true rfl) rfl rfl ?_
    refine gops_nil ?_
    refine hN6 _ _ ?_
    refine gT [box b2 _, box b4 _, box b5 _] rfl ?_
    refine gfrom [(4, .pointer _)] ⟨rfl, trivial⟩ fun σ => ?_
    refine gret fun w1 hM => ?_
    refine ⟨_, res1 rfl (rc 1 (cs := [_, _]) hM rfl rfl Tryz.isAgg33 Tryz.sizeOf33 rfl), ?_⟩
    exact ⟨by rw [secondF, if_neg (by simp [hc10])], hM.low⟩
set_option maxHeartbeats 1000000 in
theorem isLine_any (w : World) (n : Int) : Calls Tryz.prog 31 #[.int .i64 n] w fun e w' => e = .returned (.bool (isLine n)) ∧ Below w.heap.size w w' := by
  refine gcalls Tryz.func31 rfl Tryz.ntmps31 (Nat.le_of_ble_eq_true rfl) ?_
  refine gfrom [(0, .int _ _)] ⟨rfl, trivial⟩ fun σ => ?_
  refine gseq fun N1 hN1 => ?_
  refine greg ?_
  refine gop (y_assign (v := .bool _) rfl) rfl rfl rfl ?_
  refine gops_nil ?_
  refine hN1 _ _ ?_
  refine gfrom [(0, .int _ _)] ⟨rfl, trivial⟩ fun σ => ?_
  refine gseq fun N2 hN2 => ?_
  refine greg ?_
  refine gop (y_move (v := .int _ _) rfl) rfl rfl rfl ?_
  refine gop (y_geq rfl rfl) rfl rfl rfl ?_
  refine gop (y_move (v := .bool _) rfl) rfl rfl rfl ?_
  refine gop_if (want := true) rfl rfl rfl rfl rfl rfl (fun hg5 => ?_) (fun hg5 => ?_)
  · 
    have hg5d := of_decide_eq_true hg5
    refine gop (y_bare (y_move (v := .int _ _) rfl)) rfl rfl rfl ?_
    refine gop_on rfl rfl rfl rfl hg5 ?_
    refine gop (y_bare (y_lss rfl rfl)) rfl rfl rfl ?_
    refine gop (y_pick_t (v := .bool _) rfl hg5 rfl) rfl rfl rfl ?_
    refine gop (y_assign (v := .bool _) rfl) rfl rfl rfl ?_
    refine gops_nil ?_
    refine hN2 _ _ ?_
    refine gfrom [(2, .bool _)] ⟨rfl, trivial⟩ fun σ => ?_
    refine gret fun w1 hM => ?_
    refine ⟨_, res1 rfl (rt (v := .bool _) rfl), ?_⟩
    exact ⟨by simp [isLine, hg5d], hM.low⟩
  · 
    have hg5d := of_decide_eq_false hg5
    refine gop_off rfl rfl rfl rfl hg5 rfl rfl ?_
    refine gop (y_pick_f (v := .bool _) rfl hg5 rfl) rfl rfl rfl ?_
    refine gop (y_assign (v := .bool _) rfl) rfl rfl rfl ?_
    refine gops_nil ?_
    refine hN2 _ _ ?_
    refine gfrom [(2, .bool _)] ⟨rfl, trivial⟩ fun σ => ?_
    refine gret fun w1 hM => ?_
    refine ⟨_, res1 rfl (rt (v := .bool _) rfl), ?_⟩
    exact ⟨by simp [isLine, hg5d], hM.low⟩
set_option maxHeartbeats 1000000 in
theorem place_any (w : World) (A : Option Addr) (c : Nat) (hs : List HunkC) (hp : PatR w 0 A c hs) (hn : hs.length ≤ 130) (hb : ∀ h ∈ pls hs, HB h) (line : Int) (h1 : -1000000000000 ≤ line) (h2 : line ≤ 1000000000000) : Calls Tryz.prog 33 #[.agg #[.slice A hs.length c], .int .i64 line] w fun e w' => e = .returned (.tuple #[.int .i64 (place (pls hs) line 0).1, .bool (place (pls hs) line 0).2]) ∧ Below w.heap.size w w' := by
  refine gcalls Tryz.func33 rfl Tryz.ntmps33 (Nat.le_of_ble_eq_true rfl) ?_
  refine gfrom [(0, .agg #[_]), (1, .int _ _)] ⟨rfl, rfl, trivial⟩ fun σ => ?_
  refine gseq fun N1 hN1 => ?_
  refine greg ?_
  refine gop_box (v := .agg #[_]) (cs := #[_]) rfl rfl rfl (fun b2 hb2 => ?_)
  refine gop (y_assign (v := .int _ _) rfl) rfl rfl rfl ?_
  refine gop (y_assign (v := .bool _) rfl) rfl rfl rfl ?_
  refine gops_nil ?_
  refine hN1 _ _ ?_
  refine gT [box b2 _] rfl ?_
  refine gfrom [(1, .int _ _), (2, .pointer _)] ⟨rfl, rfl, trivial⟩ fun σ => ?_
  refine gseq fun N2 hN2 => ?_
  refine greg ?_
  refine gop (y_assign (v := .int _ _) rfl) rfl rfl rfl ?_
  refine gops_nil ?_
  refine hN2 _ _ ?_
  refine gfrom [(1, .int _ _), (2, .pointer _), (6, .int _ _)] ⟨rfl, rfl, rfl, trivial⟩ fun σ => ?_
  refine gseq fun N3 hN3 => ?_
  refine gseq fun N4 hN4 => ?_
  refine greg ?_
  refine gop (y_fieldAddr_box fa27_0 rfl) rfl rfl rfl ?_
  refine gop (y_load Tryz.isAgg25 rfl (cell_box 0 rfl rfl)) rfl rfl rfl ?_
  refine gop (y_len Tryz.underlying25 rfl) rfl rfl rfl ?_
  refine gop (y_move (v := .int _ _) rfl) rfl rfl rfl ?_
  refine gops_nil ?_
  refine hN4 _ _ ?_
  refine gfrom [(1, .int _ _), (6, .int _ _), (10, .slice _ _ _), (11, .int _ _), (12, .int _ _)] ⟨rfl, rfl, rfl, rfl, rfl, trivial⟩ fun σ => ?_
  refine gblock ?_
  refine gfrom2 [(6, .int _ _), (12, .int _ _)] [(1, .int _ _), (10, .slice _ _ _), (11, .int _ _)] ⟨rfl, rfl, trivial⟩ ⟨rfl, rfl, rfl, trivial⟩ fun σ => ?_
  refine gloop2 (G := Nat × Int) (fun (k, g) => k ≤ hs.length ∧ -(120 * (k : Int)) ≤ g ∧ g ≤ 120 * (k : Int) ∧ place (pls hs) line 0 = place ((pls hs).drop k) line g) (fun (k, g) => hs.length - k) (fun (k, g) => [(6, .int .i64 g), (12, .int .i64 (k : Int))]) (fun (k, g) => []) ((0, 0)) ?h0 ⟨rfl, rfl, trivial⟩ ⟨rfl, rfl, rfl, trivial⟩ rfl ?round
  case h0 => exact ⟨Nat.zero_le _, by decide, by decide, rfl⟩
  case round =>
    rintro ⟨k, g⟩ hφ σ
    obtain ⟨hk, hg1, hg2, hP⟩ := hφ
    refine gseq fun N5 hN5 => ?_
    refine greg ?_
    refine gop (y_lss rfl rfl) rfl rfl rfl ?_
    refine gops_nil ?_
    refine hN5 _ _ ?_
    refine gfrom [(1, .int _ _), (6, .int _ _), (10, .slice _ _ _), (11, .int _ _), (12, .int _ _), (13, .bool _)] ⟨rfl, rfl, rfl, rfl, rfl, rfl, trivial⟩ fun σ => ?_
    refine gseq fun N6 hN6 => ?_
    refine gcond (b := _) rfl (fun hc13 => ?_) (fun hc13 => ?_)
    · 
      replace hc13 := of_decide_eq_true hc13
      have hk1 : k < hs.length := by omega
      have hk2 : k < (pls hs).length := by simpa using hk1
      obtain ⟨ad, rfl, -, hcv⟩ := hp.rd.at_ hk1
      have hB : HB hs[k].pl := hb _ (List.mem_map_of_mem (List.getElem_mem hk1))
      have hB1 := hB.lo
      have hB2 := hB.hi
      have hB3 := hB.old
      have hB4 := hB.new
      have hgr : hs[k].pl.growth = hs[k].pl.new.length - hs[k].pl.old.length := rfl
      have hD := place_drop hk2 line g
      rw [show (pls hs)[k] = hs[k].pl from List.getElem_map ..] at hD
      refine gskip ?_
      refine hN6 _ _ ?_
      refine gfrom [(1, .int _ _), (6, .int _ _), (10, .slice _ _ _), (11, .int _ _), (12, .int _ _)] ⟨rfl, rfl, rfl, rfl, rfl, trivial⟩ fun σ => ?_
      refine gseq fun N7 hN7 => ?_
      refine gblock ?_
      refine gseq fun N8 hN8 => ?_
      refine greg ?_
      refine gop (y_indexAddr Tryz.underlying25 Tryz.sizeOf92 rfl rfl rfl (by omega) (by omega)) rfl rfl rfl ?_
      refine gop (y_loads (cs := [_, _, _]) Tryz.isAgg92 Tryz.sizeOf92 rfl rfl (cells_base hcv)) rfl rfl rfl ?_
      refine gop_alloc (cs := #[.int .i64 0, .slice none 0 0, .slice none 0 0]) Tryz.zeroValue92 rfl rfl (fun b8 hb8 => ?_)
      refine gop_store 1 (v := .agg #[_, _, _]) (cs' := #[_, _, _]) rfl rfl Tryz.sizeOf92 rfl rfl rfl rfl (Nat.le_of_ble_eq_true rfl) rfl rfl ?_
      refine gops_nil ?_
      refine hN8 _ _ ?_
      refine gT [box b2 _, box b8 _] rfl ?_
      refine gfrom [(1, .int _ _), (6, .int _ _), (8, .pointer _), (10, .slice _ _ _), (11, .int _ _), (12, .int _ _)] ⟨rfl, rfl, rfl, rfl, rfl, rfl, trivial⟩ fun σ => ?_
      refine gseq fun N9 hN9 => ?_
      refine gseq fun N10 hN10 => ?_
      refine greg ?_
      refine gop (y_move (v := .int _ _) rfl) rfl rfl rfl ?_
      refine gop (y_fieldAddr_box fa92_0 rfl) rfl rfl rfl ?_
      refine gop (y_load Tryz.isAgg3 rfl (cell_box 1 rfl rfl)) rfl rfl rfl ?_
      refine gop (y_lss rfl rfl) rfl rfl rfl ?_
      refine gops_nil ?_
      refine hN10 _ _ ?_
      refine gfrom [(1, .int _ _), (6, .int _ _), (8, .pointer _), (10, .slice _ _ _), (11, .int _ _), (12, .int _ _), (19, .bool _)] ⟨rfl, rfl, rfl, rfl, rfl, rfl, rfl, trivial⟩ fun σ => ?_
      refine gcond (b := _) rfl (fun hc19 => ?_) (fun hc19 => ?_)
      · 
        replace hc19 := of_decide_eq_true hc19
        have hE : place (pls hs) line 0 = (line + g, true) := by rw [hP, hD, if_pos hc19]
        refine gexit ?_
        refine hN3 _ _ ?_
        refine gfrom [(1, .int _ _), (6, .int _ _)] ⟨rfl, rfl, trivial⟩ fun σ => ?_
        refine gseq fun N11 hN11 => ?_
        refine greg ?_
        refine gop (y_move (v := .int _ _) rfl) rfl rfl rfl ?_
        refine gop (y_move (v := .int _ _) rfl) rfl rfl rfl ?_
        refine gop (y_add rfl rfl ⟨by omega, by omega⟩) rfl rfl rfl ?_
        refine gop (y_assign (v := .int _ _) rfl) rfl rfl rfl ?_
        refine gop (y_assign (v := .bool _) rfl) rfl rfl rfl ?_
        refine gops_nil ?_
        refine hN11 _ _ ?_
        refine gfrom [(4, .int _ _), (5, .bool _)] ⟨rfl, rfl, trivial⟩ fun σ => ?_
        refine gret fun w1 hM => ?_
        refine ⟨_, res2 rfl (rt (v := .int _ _) rfl) (rt (v := .bool _) rfl), ?_⟩
        exact ⟨by rw [hE], hM.low⟩
      · 
        replace hc19 := of_decide_eq_false hc19
        refine gskip ?_
        refine hN9 _ _ ?_
        refine gfrom [(1, .int _ _), (6, .int _ _), (8, .pointer _), (10, .slice _ _ _), (11, .int _ _), (12, .int _ _)] ⟨rfl, rfl, rfl, rfl, rfl, rfl, trivial⟩ fun σ => ?_
        refine gseq fun N12 hN12 => ?_
        refine gseq fun N13 hN13 => ?_
        refine greg ?_
        refine gop (y_move (v := .int _ _) rfl) rfl rfl rfl ?_
        refine gop (y_loads (cs := [_, _, _]) Tryz.isAgg92 Tryz.sizeOf92 rfl rfl (cells_box 1 rfl)) rfl rfl rfl ?_
        refine gop_pure (e_call (vs := [.agg #[_, _, _]]) Tryz.func63 rfl (by kernel_rfl) rfl) (fun w hM => end_any w hs[k] (by have := hB.lo; have := hB.hi; have := hB.old; unfold In64 Hunk.end_; omega)) rfl rfl rfl ?_
        refine gop (y_lss rfl rfl) rfl rfl rfl ?_
        refine gops_nil ?_
        refine hN13 _ _ ?_
        refine gfrom [(1, .int _ _), (6, .int _ _), (8, .pointer _), (10, .slice _ _ _), (11, .int _ _), (12, .int _ _), (23, .bool _)] ⟨rfl, rfl, rfl, rfl, rfl, rfl, rfl, trivial⟩ fun σ => ?_
        refine gcond (b := _) rfl (fun hc23 => ?_) (fun hc23 => ?_)
        · 
          replace hc23 := of_decide_eq_true hc23
          have hE : place (pls hs) line 0 = (hs[k].pl.at_ + g, false) := by rw [hP, hD, if_neg hc19, if_pos hc23]
          refine gseq fun N14 hN14 => ?_
          refine greg ?_
          refine gop (y_fieldAddr_box fa92_0 rfl) rfl rfl rfl ?_
          refine gop (y_load Tryz.isAgg3 rfl (cell_box 1 rfl rfl)) rfl rfl rfl ?_
          refine gop (y_move (v := .int _ _) rfl) rfl rfl rfl ?_
          refine gop (y_add rfl rfl ⟨by omega, by omega⟩) rfl rfl rfl ?_
          refine gop (y_assign (v := .int _ _) rfl) rfl rfl rfl ?_
          refine gop (y_assign (v := .bool _) rfl) rfl rfl rfl ?_
          refine gops_nil ?_
          refine hN14 _ _ ?_
          refine gfrom [(4, .int _ _), (5, .bool _)] ⟨rfl, rfl, trivial⟩ fun σ => ?_
          refine gret fun w1 hM => ?_
          refine ⟨_, res2 rfl (rt (v := .int _ _) rfl) (rt (v := .bool _) rfl), ?_⟩
          exact ⟨by rw [hE], hM.low⟩
        · 
          replace hc23 := of_decide_eq_false hc23
          refine gskip ?_
          refine hN12 _ _ ?_
          refine gfrom [(1, .int _ _), (6, .int _ _), (8, .pointer _), (10, .slice _ _ _), (11, .int _ _), (12, .int _ _)] ⟨rfl, rfl, rfl, rfl, rfl, rfl, trivial⟩ fun σ => ?_
          refine greg ?_
          refine gop (y_move (v := .int _ _) rfl) rfl rfl rfl ?_
          refine gop (y_loads (cs := [_, _, _]) Tryz.isAgg92 Tryz.sizeOf92 rfl rfl (cells_box 1 rfl)) rfl rfl rfl ?_
          refine gop_pure (e_call (vs := [.agg #[_, _, _]]) Tryz.func64 rfl (by kernel_rfl) rfl) (fun w hM => growth_any w hs[k] (by have := hB.old; have := hB.new; unfold In64 Hunk.growth; omega)) rfl rfl rfl ?_
          refine gop (y_add rfl rfl ⟨by omega, by omega⟩) rfl rfl rfl ?_
          refine gop (y_assign (v := .int _ _) rfl) rfl rfl rfl ?_
          refine gops_nil ?_
          refine hN7 _ _ ?_
          refine gfrom [(1, .int _ _), (6, .int _ _), (10, .slice _ _ _), (11, .int _ _), (12, .int _ _)] ⟨rfl, rfl, rfl, rfl, rfl, trivial⟩ fun σ => ?_
          refine greg ?_
          refine gop (y_add rfl rfl ⟨by omega, by omega⟩) rfl rfl rfl ?_
          refine gop (y_move (v := .int _ _) rfl) rfl rfl rfl ?_
          refine gops_nil ?_
          refine gnext2 ((k + 1, g + hs[k].pl.growth)) (by show hs.length - (k + 1) < hs.length - k; omega) (⟨by show k + 1 ≤ _; omega, by show -(120 * ((k + 1 : Nat) : Int)) ≤ _; have := hB.old; have := hB.new; unfold Hunk.growth; omega, by show _ ≤ 120 * ((k + 1 : Nat) : Int); have := hB.old; have := hB.new; unfold Hunk.growth; omega, by rw [hP, hD, if_neg hc19, if_neg hc23]⟩) ⟨rfl, rfl, trivial⟩ ⟨rfl, rfl, rfl, trivial⟩ ⟨_, rfl⟩
    · 
      replace hc13 := of_decide_eq_false hc13
      have hE : place (pls hs) line 0 = (line + g, true) := by rw [hP, List.drop_eq_nil_of_le (by simp; omega), place]
      refine gexit ?_
      refine hN3 _ _ ?_
      refine gfrom [(1, .int _ _), (6, .int _ _)] ⟨rfl, rfl, trivial⟩ fun σ => ?_
      refine gseq fun N15 hN15 => ?_
      refine greg ?_
      refine gop (y_move (v := .int _ _) rfl) rfl rfl rfl ?_
      refine gop (y_move (v := .int _ _) rfl) rfl rfl rfl ?_
      refine gop (y_add rfl rfl ⟨by omega, by omega⟩) rfl rfl rfl ?_
      refine gop (y_assign (v := .int _ _) rfl) rfl rfl rfl ?_
      refine gop (y_assign (v := .bool _) rfl) rfl rfl rfl ?_
      refine gops_nil ?_
      refine hN15 _ _ ?_
      refine gfrom [(4, .int _ _), (5, .bool _)] ⟨rfl, rfl, trivial⟩ fun σ => ?_
      refine gret fun w1 hM => ?_
      refine ⟨_, res2 rfl (rt (v := .int _ _) rfl) (rt (v := .bool _) rfl), ?_⟩
      exact ⟨by rw [hE], hM.low⟩
set_option maxHeartbeats 1000000 in
theorem through_any (w : World) (A : Option Addr) (c : Nat) (ps : List PatC) (hp : PatsR w 0 A ps) (hm : ps.length ≤ maxLen) (line : Int) : Calls Tryz.prog 9 #[.slice A ps.length c, .int .i64 line] w fun e w' => e = .returned (.tuple #[.int .i64 (throughV (ps.map PatC.pl) line).1, .int .i64 ((throughV (ps.map PatC.pl) line).2 : Int), fv (throughF (ps.map PatC.pl) line)]) ∧ Below w.heap.size w w' := by
  unfold maxLen at hm
  refine gcalls Tryz.func9 rfl Tryz.ntmps9 (Nat.le_of_ble_eq_true rfl) ?_
  refine gfrom [(0, .slice _ _ _), (1, .int _ _)] ⟨rfl, rfl, trivial⟩ fun σ => ?_
  refine gseq fun N1 hN1 => ?_
  refine greg ?_
  refine gop (y_assign (v := .int _ _) rfl) rfl rfl rfl ?_
  refine gop (y_assign (v := .int _ _) rfl) rfl rfl rfl ?_
  refine gop_alloc (cs := #[.int .i64 0, .int .i64 0]) Tryz.zeroValue33 rfl rfl (fun b6 hb6 => ?_)
  refine gops_nil ?_
  refine hN1 _ _ ?_
  refine gT [box b6 _] rfl ?_
  refine gfrom [(0, .slice _ _ _), (1, .int _ _), (6, .pointer _)] ⟨rfl, rfl, rfl, trivial⟩ fun σ => ?_
  refine gseq fun N2 hN2 => ?_
  refine gseq fun N3 hN3 => ?_
  refine greg ?_
  refine gop (y_move (v := .slice _ _ _) rfl) rfl rfl rfl ?_
  refine gop (y_len Tryz.underlying23 rfl) rfl rfl rfl ?_
  refine gop (y_gtr rfl rfl) rfl rfl rfl ?_
  refine gops_nil ?_
  refine hN3 _ _ ?_
  refine gfrom [(0, .slice _ _ _), (1, .int _ _), (6, .pointer _), (16, .bool _)] ⟨rfl, rfl, rfl, rfl, trivial⟩ fun σ => ?_
  refine gcond (b := _) rfl (fun hc16 => ?_) (fun hc16 => ?_)
  · 
    replace hc16 := of_decide_eq_true hc16
    have hF : throughF (ps.map PatC.pl) line = ⟨2, -1⟩ := by rw [throughF, if_pos (by simp; omega)]
    have hV : throughV (ps.map PatC.pl) line = (0, 0) := by rw [throughV, hF, if_neg (by decide)]
    refine gseq fun N4 hN4 => ?_
    refine greg ?_
    refine gop (y_build (vs := [(0, _), (1, _)]) (cells := #[_, _]) rfl (bd33_0_1 _ _)) rfl rfl rfl ?_
    refine gop (y_assign (v := .int _ _) rfl) rfl rfl rfl ?_
    refine gop (y_assign (v := .int _ _) rfl) rfl rfl rfl ?_
    refine gop_store 0 (v := .agg #[_, _]) (cs' := #[_, _]) rfl rfl Tryz.sizeOf33 rfl rfl rfl rfl (Nat.le_of_ble_eq_true rfl) rfl rfl ?_
    refine gops_nil ?_
    refine hN4 _ _ ?_
    refine gT [box b6 _] rfl ?_
    refine gfrom [(4, .int _ _), (5, .int _ _), (6, .pointer _)] ⟨rfl, rfl, rfl, trivial⟩ fun σ => ?_
    refine gret fun w1 hM => ?_
    refine ⟨_, res3 rfl (rt (v := .int _ _) rfl) (rt (v := .int _ _) rfl) (rc 0 (cs := [_, _]) hM rfl rfl Tryz.isAgg33 Tryz.sizeOf33 rfl), ?_⟩
    exact ⟨by rw [hF, hV]; rfl, hM.low⟩
  · 
    replace hc16 := of_decide_eq_false hc16
    refine gskip ?_
    refine hN2 _ _ ?_
    refine gfrom [(0, .slice _ _ _), (1, .int _ _), (6, .pointer _)] ⟨rfl, rfl, rfl, trivial⟩ fun σ => ?_
    refine gseq fun N5 hN5 => ?_
    refine gseq fun N6 hN6 => ?_
    refine greg ?_
    refine gop (y_move (v := .int _ _) rfl) rfl rfl rfl ?_
    refine gop_pure (e_call (vs := [.int _ _]) Tryz.func31 rfl (by kernel_rfl) rfl) (fun w hM => isLine_any w _) rfl rfl rfl ?_
    refine gop (y_not rfl) rfl rfl rfl ?_
    refine gops_nil ?_
    refine hN6 _ _ ?_
    refine gfrom [(0, .slice _ _ _), (1, .int _ _), (6, .pointer _), (20, .bool _)] ⟨rfl, rfl, rfl, rfl, trivial⟩ fun σ => ?_
    refine gcond (b := _) rfl (fun hc20 => ?_) (fun hc20 => ?_)
    · 
      replace hc20 := not_t hc20
      have hF : throughF (ps.map PatC.pl) line = ⟨3, -2⟩ := by rw [throughF, if_neg (by simp; omega), if_pos hc20]
      have hV : throughV (ps.map PatC.pl) line = (0, 0) := by rw [throughV, hF, if_neg (by decide)]
      refine gseq fun N7 hN7 => ?_
      refine greg ?_
      refine gop (y_build (vs := [(0, _), (1, _)]) (cells := #[_, _]) rfl (bd33_0_1 _ _)) rfl rfl rfl ?_
      refine gop (y_assign (v := .int _ _) rfl) rfl rfl rfl ?_
      refine gop (y_assign (v := .int _ _) rfl) rfl rfl rfl ?_
      refine gop_store 0 (v := .agg #[_, _]) (cs' := #[_, _]) rfl rfl Tryz.sizeOf33 rfl rfl rfl rfl (Nat.le_of_ble_eq_true rfl) rfl rfl ?_
      refine gops_nil ?_
      refine hN7 _ _ ?_
      refine gT [box b6 _] rfl ?_
      refine gfrom [(4, .int _ _), (5, .int _ _), (6, .pointer _)] ⟨rfl, rfl, rfl, trivial⟩ fun σ => ?_
      refine gret fun w1 hM => ?_
      refine ⟨_, res3 rfl (rt (v := .int _ _) rfl) (rt (v := .int _ _) rfl) (rc 0 (cs := [_, _]) hM rfl rfl Tryz.isAgg33 Tryz.sizeOf33 rfl), ?_⟩
      exact ⟨by rw [hF, hV]; rfl, hM.low⟩
    · 
      replace hc20 := not_f hc20
      have hln := isLine_t hc20
      have hF0 : throughF (ps.map PatC.pl) line = scan (fun _ p => (patchF p).code) (ps.map PatC.pl) := by rw [throughF, if_neg (by simp; omega), if_neg (by simp [hc20])]
      refine gskip ?_
      refine hN5 _ _ ?_
      refine gfrom [(0, .slice _ _ _), (1, .int _ _), (6, .pointer _)] ⟨rfl, rfl, rfl, trivial⟩ fun σ => ?_
      refine gseq fun N8 hN8 => ?_
      refine gseq fun N9 hN9 => ?_
      refine greg ?_
      refine gop (y_move (v := .slice _ _ _) rfl) rfl rfl rfl ?_
      refine gop (y_len Tryz.underlying23 rfl) rfl rfl rfl ?_
      refine gop (y_move (v := .int _ _) rfl) rfl rfl rfl ?_
      refine gops_nil ?_
      refine hN9 _ _ ?_
      refine gfrom [(0, .slice _ _ _), (1, .int _ _), (6, .pointer _), (22, .slice _ _ _), (23, .int _ _), (24, .int _ _)] ⟨rfl, rfl, rfl, rfl, rfl, rfl, trivial⟩ fun σ => ?_
      refine gblock ?_
      refine gfrom2 [(24, .int _ _)] [(0, .slice _ _ _), (1, .int _ _), (6, .pointer _), (22, .slice _ _ _), (23, .int _ _)] ⟨rfl, trivial⟩ ⟨rfl, rfl, rfl, rfl, rfl, trivial⟩ fun σ => ?_
      refine gloop2 (G := Nat) (fun k => k ≤ ps.length ∧ ∀ j (h : j < (ps.map PatC.pl).length), j < k → (patchF (ps.map PatC.pl)[j]).code = 0) (fun k => ps.length - k) (fun k => [(24, .int .i64 (k : Int))]) (fun k => []) (0) ?h0 ⟨rfl, trivial⟩ ⟨rfl, rfl, rfl, rfl, rfl, trivial⟩ rfl ?round
      case h0 => exact ⟨Nat.zero_le _, fun _ _ h => absurd h (by omega)⟩
      case round =>
        intro k hφ σ
        obtain ⟨hk, hz⟩ := hφ
        refine gseq fun N10 hN10 => ?_
        refine greg ?_
        refine gop (y_lss rfl rfl) rfl rfl rfl ?_
        refine gops_nil ?_
        refine hN10 _ _ ?_
        refine gfrom [(0, .slice _ _ _), (1, .int _ _), (6, .pointer _), (22, .slice _ _ _), (23, .int _ _), (24, .int _ _), (25, .bool _)] ⟨rfl, rfl, rfl, rfl, rfl, rfl, rfl, trivial⟩ fun σ => ?_
        refine gseq fun N11 hN11 => ?_
        refine gcond (b := _) rfl (fun hc25 => ?_) (fun hc25 => ?_)
        · 
          replace hc25 := of_decide_eq_true hc25
          have hk1 : k < ps.length := by omega
          have hk2 : k < (ps.map PatC.pl).length := by simpa using hk1
          obtain ⟨ad, rfl, -, hcv⟩ := hp.rd.at_ hk1
          have hpk := hp.each _ (List.getElem_mem hk1)
          refine gskip ?_
          refine hN11 _ _ ?_
          refine gfrom [(0, .slice _ _ _), (1, .int _ _), (6, .pointer _), (22, .slice _ _ _), (23, .int _ _), (24, .int _ _)] ⟨rfl, rfl, rfl, rfl, rfl, rfl, trivial⟩ fun σ => ?_
          refine gseq fun N12 hN12 => ?_
          refine gblock ?_
          refine gseq fun N13 hN13 => ?_
          refine greg ?_
          refine gop (y_move (v := .int _ _) rfl) rfl rfl rfl ?_
          refine gop (y_indexAddr Tryz.underlying23 Tryz.sizeOf27 rfl rfl rfl (by omega) (by omega)) rfl rfl rfl ?_
          refine gop (y_loads (cs := [_]) Tryz.isAgg27 Tryz.sizeOf27 rfl rfl (cells_base hcv)) rfl rfl rfl ?_
          refine gop_alloc (cs := #[.slice none 0 0]) Tryz.zeroValue27 rfl rfl (fun b8 hb8 => ?_)
          refine gop (y_assign (v := .int _ _) rfl) rfl rfl rfl ?_
          refine gop_store 1 (v := .agg #[_]) (cs' := #[_]) rfl rfl Tryz.sizeOf27 rfl rfl rfl rfl (Nat.le_of_ble_eq_true rfl) rfl rfl ?_
          refine gops_nil ?_
          refine hN13 _ _ ?_
          refine gT [box b6 _, box b8 _] rfl ?_
          refine gfrom [(0, .slice _ _ _), (1, .int _ _), (6, .pointer _), (7, .int _ _), (8, .pointer _), (22, .slice _ _ _), (23, .int _ _), (24, .int _ _)] ⟨rfl, rfl, rfl, rfl, rfl, rfl, rfl, rfl, trivial⟩ fun σ => ?_
          refine gseq fun N14 hN14 => ?_
          refine greg ?_
          refine gop (y_loads (cs := [_]) Tryz.isAgg27 Tryz.sizeOf27 rfl rfl (cells_box 1 rfl)) rfl rfl rfl ?_
          refine gop (y_move (v := .int _ _) rfl) rfl rfl rfl ?_
          refine gop_pure (e_call (vs := [.agg #[_], .int _ _]) Tryz.func32 rfl (by kernel_rfl) rfl) (fun w hM => patchSecond_any w _ _ _ (PatR.lasts.base hpk hM) _) rfl rfl rfl ?_
          refine gop_alloc (cs := #[.int .i64 0, .int .i64 0]) Tryz.zeroValue33 rfl rfl (fun b9 hb9 => ?_)
          refine gop_store 2 (v := .agg #[_, _]) (cs' := #[_, _]) rfl rfl Tryz.sizeOf33 rfl rfl rfl rfl (Nat.le_of_ble_eq_true rfl) rfl rfl ?_
          refine gops_nil ?_
          refine hN14 _ _ ?_
          refine gT [box b6 _, box b8 _, box b9 _] rfl ?_
          refine gfrom [(0, .slice _ _ _), (1, .int _ _), (6, .pointer _), (9, .pointer _), (22, .slice _ _ _), (23, .int _ _), (24, .int _ _)] ⟨rfl, rfl, rfl, rfl, rfl, rfl, rfl, trivial⟩ fun σ => ?_
          refine gseq fun N15 hN15 => ?_
          refine greg ?_
          refine gop (y_loads (cs := [_, _]) Tryz.isAgg33 Tryz.sizeOf33 rfl rfl (cells_box 2 rfl)) rfl rfl rfl ?_
          refine gop (y_build (vs := []) (cells := #[.int .i64 0, .int .i64 0]) rfl bd33_) rfl rfl rfl ?_
          refine gop (y_bin (vx := .agg #[_, _]) (vy := .agg #[_, _]) rfl rfl (fun w => eg33 _ _ _ _ _ w) (fun w => ne33 _ _ _ _ w)) rfl rfl rfl ?_
          refine gops_nil ?_
          refine hN15 _ _ ?_
          refine gfrom [(0, .slice _ _ _), (1, .int _ _), (6, .pointer _), (9, .pointer _), (22, .slice _ _ _), (23, .int _ _), (24, .int _ _), (34, .bool _)] ⟨rfl, rfl, rfl, rfl, rfl, rfl, rfl, rfl, trivial⟩ fun σ => ?_
          refine gcond (b := _) rfl (fun hc34 => ?_) (fun hc34 => ?_)
          · 
            replace hc34 := fault_ne.1 hc34
            obtain ⟨hne, hsf⟩ := second_ne hc34
            have hF : throughF (ps.map PatC.pl) line = secondF (patchF ps[k].pl) k := by rw [hF0, scan_at hk2 hz (by simpa using hne), hsf]; simp
            have hV : throughV (ps.map PatC.pl) line = (0, 0) := by rw [throughV, hF, if_neg hc34]
            refine gseq fun N16 hN16 => ?_
            refine greg_e1 [] [(0, room b6 33 2)] (by kernel_rfl) ?_
            refine ge_take 0 (TK := [room b6 33 2, box b8 _, box b9 _]) rfl (by kernel_rfl) (by kernel_rfl) (by kernel_rfl) #[false, true, true, false] (by kernel_rfl) rfl (y_loads (cs := [_, _]) Tryz.isAgg33 Tryz.sizeOf33 rfl rfl (cells_box 2 rfl)) rfl rfl rfl (weak_room 0 rfl rfl) (listed' := #[true, false, false, false]) rfl ?_
            refine ge_take 1 (TK := [room b6 33 2, box b8 _, box b9 _]) rfl (by kernel_rfl) (by kernel_rfl) (by kernel_rfl) #[true, false, false, false] (by kernel_rfl) rfl (y_assign (v := .int _ _) rfl) rfl rfl rfl (weak_room 0 rfl rfl) (listed' := #[true, true, false, false]) rfl ?_
            refine ge_take 2 (TK := [room b6 33 2, box b8 _, box b9 _]) rfl (by kernel_rfl) (by kernel_rfl) (by kernel_rfl) #[true, true, false, false] (by kernel_rfl) rfl (y_assign (v := .int _ _) rfl) rfl rfl rfl (weak_room 0 rfl rfl) (listed' := #[true, true, true, false]) rfl ?_
            refine ge_one 3 (k' := 0) (listed' := #[true, true, true, true]) (by kernel_rfl) rfl rfl rfl ?_
            refine gop_store 0 (v := .agg #[_, _]) (cs' := #[_, _]) rfl rfl Tryz.sizeOf33 rfl rfl rfl rfl (Nat.le_of_ble_eq_true rfl) rfl rfl ?_
            refine gops_nil ?_
            refine ge_fin (TK := [room b6 33 2, box b8 _, box b9 _]) rfl (weak_room 0 rfl rfl) ?_
            refine ge_done (by kernel_rfl) ?_
            refine hN16 _ _ ?_
            refine gT [box b6 _, box b8 _, box b9 _] rfl ?_
            refine gfrom [(4, .int _ _), (5, .int _ _), (6, .pointer _)] ⟨rfl, rfl, rfl, trivial⟩ fun σ => ?_
            refine gret fun w1 hM => ?_
            refine ⟨_, res3 rfl (rt (v := .int _ _) rfl) (rt (v := .int _ _) rfl) (rc 0 (cs := [_, _]) hM rfl rfl Tryz.isAgg33 Tryz.sizeOf33 rfl), ?_⟩
            exact ⟨by rw [hF, hV]; rfl, hM.low⟩
          · 
            replace hc34 := fault_eq.1 hc34
            replace hc34 := second_eq hc34
            refine gskip ?_
            refine hN12 _ _ ?_
            refine gfrom [(0, .slice _ _ _), (1, .int _ _), (6, .pointer _), (22, .slice _ _ _), (23, .int _ _), (24, .int _ _)] ⟨rfl, rfl, rfl, rfl, rfl, rfl, trivial⟩ fun σ => ?_
            refine greg ?_
            refine gop (y_add rfl rfl ⟨by omega, by omega⟩) rfl rfl rfl ?_
            refine gop (y_move (v := .int _ _) rfl) rfl rfl rfl ?_
            refine gops_nil ?_
            refine gnext2 (k + 1) (by omega) (⟨by omega, fun j h hj => by rcases Nat.lt_succ_iff_lt_or_eq.1 hj with h1 | rfl; exact hz j h h1; rw [List.getElem_map, hc34]⟩) ⟨rfl, trivial⟩ ⟨rfl, rfl, rfl, rfl, rfl, trivial⟩ ⟨_, rfl⟩
        · 
          replace hc25 := of_decide_eq_false hc25
          have hz2 : ∀ j (h : j < (ps.map PatC.pl).length), patchF (ps.map PatC.pl)[j] = ⟨0, 0⟩ := fun j hj => patchF_code (hz j hj (by simp at hj; omega))
          have hF : throughF (ps.map PatC.pl) line = ⟨0, 0⟩ := by rw [hF0]; exact scan_ok fun j hj => by rw [hz2 j hj]
          have hV : throughV (ps.map PatC.pl) line = through (ps.map PatC.pl) line := by rw [throughV, if_pos hF]
          refine gexit ?_
          refine hN8 _ _ ?_
          refine gfrom [(0, .slice _ _ _), (1, .int _ _), (6, .pointer _)] ⟨rfl, rfl, rfl, trivial⟩ fun σ => ?_
          refine gseq fun N17 hN17 => ?_
          refine gseq fun N18 hN18 => ?_
          refine greg ?_
          refine gop (y_move (v := .slice _ _ _) rfl) rfl rfl rfl ?_
          refine gop (y_len Tryz.underlying23 rfl) rfl rfl rfl ?_
          refine gop (y_move (v := .int _ _) rfl) rfl rfl rfl ?_
          refine gops_nil ?_
          refine hN18 _ _ ?_
          refine gfrom [(0, .slice _ _ _), (1, .int _ _), (6, .pointer _), (37, .slice _ _ _), (38, .int _ _), (39, .int _ _)] ⟨rfl, rfl, rfl, rfl, rfl, rfl, trivial⟩ fun σ => ?_
          refine gblock ?_
          refine gfrom2 [(1, .int _ _), (39, .int _ _)] [(0, .slice _ _ _), (6, .pointer _), (37, .slice _ _ _), (38, .int _ _)] ⟨rfl, rfl, trivial⟩ ⟨rfl, rfl, rfl, rfl, trivial⟩ fun σ => ?_
          refine gloop2 (G := Nat × Int) (fun (k, ln) => k ≤ ps.length ∧ -(16000 * (k : Int)) ≤ ln ∧ ln ≤ 120 + 16000 * (k : Int) ∧ through (ps.map PatC.pl) line = ((through ((ps.map PatC.pl).drop k) ln).1, (through ((ps.map PatC.pl).drop k) ln).2 + k)) (fun (k, ln) => ps.length - k) (fun (k, ln) => [(1, .int .i64 ln), (39, .int .i64 (k : Int))]) (fun (k, ln) => []) ((0, line)) ?h0 ⟨rfl, rfl, trivial⟩ ⟨rfl, rfl, rfl, rfl, trivial⟩ rfl ?round
          case h0 => exact ⟨Nat.zero_le _, by show -(16000 * ((0 : Nat) : Int)) ≤ line; omega, by show line ≤ 120 + 16000 * ((0 : Nat) : Int); omega, rfl⟩
          case round =>
            rintro ⟨k, ln⟩ hφ σ
            obtain ⟨hk, hl1, hl2, hP⟩ := hφ
            refine gseq fun N19 hN19 => ?_
            refine greg ?_
            refine gop (y_lss rfl rfl) rfl rfl rfl ?_
            refine gops_nil ?_
            refine hN19 _ _ ?_
            refine gfrom [(0, .slice _ _ _), (1, .int _ _), (6, .pointer _), (37, .slice _ _ _), (38, .int _ _), (39, .int _ _), (40, .bool _)] ⟨rfl, rfl, rfl, rfl, rfl, rfl, rfl, trivial⟩ fun σ => ?_
            refine gseq fun N20 hN20 => ?_
            refine gcond (b := _) rfl (fun hc40 => ?_) (fun hc40 => ?_)
            · 
              replace hc40 := of_decide_eq_true hc40
              have hk1 : k < ps.length := by omega
              have hk2 : k < (ps.map PatC.pl).length := by simpa using hk1
              obtain ⟨ad, rfl, -, hcv⟩ := hp.rd.at_ hk1
              have hpk := hp.each _ (List.getElem_mem hk1)
              have hv : PV ps[k].pl := by have := hz2 k hk2; rw [List.getElem_map] at this; exact patchF_ok.1 this
              have hD := through_drop hk2 ln
              rw [List.getElem_map] at hD
              have hvl : ps[k].hs.length ≤ 130 := by simpa using hv.len
              refine gskip ?_
              refine hN20 _ _ ?_
              refine gfrom [(0, .slice _ _ _), (1, .int _ _), (6, .pointer _), (37, .slice _ _ _), (38, .int _ _), (39, .int _ _)] ⟨rfl, rfl, rfl, rfl, rfl, rfl, trivial⟩ fun σ => ?_
              refine gseq fun N21 hN21 => ?_
              refine gblock ?_
              refine gseq fun N22 hN22 => ?_
              refine greg ?_
              refine gop (y_move (v := .int _ _) rfl) rfl rfl rfl ?_
              refine gop (y_indexAddr Tryz.underlying23 Tryz.sizeOf27 rfl rfl rfl (by omega) (by omega)) rfl rfl rfl ?_
              refine gop (y_loads (cs := [_]) Tryz.isAgg27 Tryz.sizeOf27 rfl rfl (cells_base hcv)) rfl rfl rfl ?_
              refine gop_alloc (cs := #[.slice none 0 0]) Tryz.zeroValue27 rfl rfl (fun b11 hb11 => ?_)
              refine gop (y_assign (v := .int _ _) rfl) rfl rfl rfl ?_
              refine gop_store 1 (v := .agg #[_]) (cs' := #[_]) rfl rfl Tryz.sizeOf27 rfl rfl rfl rfl (Nat.le_of_ble_eq_true rfl) rfl rfl ?_
              refine gops_nil ?_
              refine hN22 _ _ ?_
              refine gT [box b6 _, box b11 _] rfl ?_
              refine gfrom [(0, .slice _ _ _), (1, .int _ _), (6, .pointer _), (10, .int _ _), (11, .pointer _), (37, .slice _ _ _), (38, .int _ _), (39, .int _ _)] ⟨rfl, rfl, rfl, rfl, rfl, rfl, rfl, rfl, trivial⟩ fun σ => ?_
              refine gseq fun N23 hN23 => ?_
              refine greg ?_
              refine gop (y_loads (cs := [_]) Tryz.isAgg27 Tryz.sizeOf27 rfl rfl (cells_box 1 rfl)) rfl rfl rfl ?_
              refine gop (y_move (v := .int _ _) rfl) rfl rfl rfl ?_
              refine gop_pure (e_call (vs := [.agg #[_], .int _ _]) Tryz.func33 rfl (by kernel_rfl) rfl) (fun w hM => place_any w _ _ ps[k].hs (PatR.lasts.base hpk hM) (by simpa using hv.len) hv.each ln (by omega) (by omega)) rfl rfl rfl ?_
              refine gop (y_move (v := .tuple #[.int _ _, .bool _]) rfl) rfl rfl rfl ?_
              refine gop (y_extract (v := .int _ _) rfl rfl) rfl rfl rfl ?_
              refine gop (y_extract (v := .bool _) rfl rfl) rfl rfl rfl ?_
              refine gop (y_assign (v := .int _ _) rfl) rfl rfl rfl ?_
              refine gop (y_assign (v := .bool _) rfl) rfl rfl rfl ?_
              refine gops_nil ?_
              refine hN23 _ _ ?_
              refine gfrom [(0, .slice _ _ _), (1, .int _ _), (6, .pointer _), (10, .int _ _), (12, .int _ _), (13, .bool _), (37, .slice _ _ _), (38, .int _ _), (39, .int _ _)] ⟨rfl, rfl, rfl, rfl, rfl, rfl, rfl, rfl, rfl, trivial⟩ fun σ => ?_
              refine gseq fun N24 hN24 => ?_
              refine gseq fun N25 hN25 => ?_
              refine greg ?_
              refine gop (y_move (v := .bool _) rfl) rfl rfl rfl ?_
              refine gop (y_not rfl) rfl rfl rfl ?_
              refine gops_nil ?_
              refine hN25 _ _ ?_
              refine gfrom [(0, .slice _ _ _), (1, .int _ _), (6, .pointer _), (10, .int _ _), (12, .int _ _), (37, .slice _ _ _), (38, .int _ _), (39, .int _ _), (51, .bool _)] ⟨rfl, rfl, rfl, rfl, rfl, rfl, rfl, rfl, rfl, trivial⟩ fun σ => ?_
              refine gcond (b := _) rfl (fun hc51 => ?_) (fun hc51 => ?_)
              · 
                replace hc51 := not_t hc51
                have hE : through (ps.map PatC.pl) line = (ln, k) := by rw [hP, hD, if_neg (by simp [hc51])]; simp
                refine gseq fun N26 hN26 => ?_
                refine greg ?_
                refine gop (y_move (v := .int _ _) rfl) rfl rfl rfl ?_
                refine gop (y_move (v := .int _ _) rfl) rfl rfl rfl ?_
                refine gop (y_build (vs := []) (cells := #[.int .i64 0, .int .i64 0]) rfl bd33_) rfl rfl rfl ?_
                refine gop (y_assign (v := .int _ _) rfl) rfl rfl rfl ?_
                refine gop (y_assign (v := .int _ _) rfl) rfl rfl rfl ?_
                refine gop_store 0 (v := .agg #[_, _]) (cs' := #[_, _]) rfl rfl Tryz.sizeOf33 rfl rfl rfl rfl (Nat.le_of_ble_eq_true rfl) rfl rfl ?_
                refine gops_nil ?_
                refine hN26 _ _ ?_
                refine gT [box b6 _, box b11 _] rfl ?_
                refine gfrom [(4, .int _ _), (5, .int _ _), (6, .pointer _)] ⟨rfl, rfl, rfl, trivial⟩ fun σ => ?_
                refine gret fun w1 hM => ?_
                refine ⟨_, res3 rfl (rt (v := .int _ _) rfl) (rt (v := .int _ _) rfl) (rc 0 (cs := [_, _]) hM rfl rfl Tryz.isAgg33 Tryz.sizeOf33 rfl), ?_⟩
                exact ⟨by rw [hF, hV, hE], hM.low⟩
              · 
                replace hc51 := not_f hc51
                have hbd := place_bd ps[k].pl ln 0 hv.each hc51
                have hbl : ps[k].pl.length = ps[k].hs.length := List.length_map ..
                refine gskip ?_
                refine hN24 _ _ ?_
                refine gfrom [(0, .slice _ _ _), (6, .pointer _), (12, .int _ _), (37, .slice _ _ _), (38, .int _ _), (39, .int _ _)] ⟨rfl, rfl, rfl, rfl, rfl, rfl, trivial⟩ fun σ => ?_
                refine greg ?_
                refine gop (y_move (v := .int _ _) rfl) rfl rfl rfl ?_
                refine gop (y_assign (v := .int _ _) rfl) rfl rfl rfl ?_
                refine gops_nil ?_
                refine hN21 _ _ ?_
                refine gfrom [(0, .slice _ _ _), (1, .int _ _), (6, .pointer _), (37, .slice _ _ _), (38, .int _ _), (39, .int _ _)] ⟨rfl, rfl, rfl, rfl, rfl, rfl, trivial⟩ fun σ => ?_
                refine greg ?_
                refine gop (y_add rfl rfl ⟨by omega, by omega⟩) rfl rfl rfl ?_
                refine gop (y_move (v := .int _ _) rfl) rfl rfl rfl ?_
                refine gops_nil ?_
                refine gnext2 ((k + 1, (place ps[k].pl ln 0).1)) (by show ps.length - (k + 1) < ps.length - k; omega) (⟨by show k + 1 ≤ _; omega, by show -(16000 * ((k + 1 : Nat) : Int)) ≤ _; omega, by show _ ≤ 120 + 16000 * ((k + 1 : Nat) : Int); omega, by rw [hP, hD, if_pos hc51]; simp only [Nat.add_assoc, Nat.add_comm 1 k]⟩) ⟨rfl, rfl, trivial⟩ ⟨rfl, rfl, rfl, rfl, trivial⟩ ⟨_, rfl⟩
            · 
              replace hc40 := of_decide_eq_false hc40
              have hE : through (ps.map PatC.pl) line = (ln, ps.length) := by rw [hP, List.drop_eq_nil_of_le (by simp; omega), through]; simp; omega
              refine gexit ?_
              refine hN17 _ _ ?_
              refine gfrom [(0, .slice _ _ _), (1, .int _ _), (6, .pointer _)] ⟨rfl, rfl, rfl, trivial⟩ fun σ => ?_
              refine gseq fun N27 hN27 => ?_
              refine greg ?_
              refine gop (y_move (v := .int _ _) rfl) rfl rfl rfl ?_
              refine gop (y_move (v := .slice _ _ _) rfl) rfl rfl rfl ?_
              refine gop (y_len Tryz.underlying23 rfl) rfl rfl rfl ?_
              refine gop (y_build (vs := []) (cells := #[.int .i64 0, .int .i64 0]) rfl bd33_) rfl rfl rfl ?_
              refine gop (y_assign (v := .int _ _) rfl) rfl rfl rfl ?_
              refine gop (y_assign (v := .int _ _) rfl) rfl rfl rfl ?_
              refine gop_store 0 (v := .agg #[_, _]) (cs' := #[_, _]) rfl rfl Tryz.sizeOf33 rfl rfl rfl rfl (Nat.le_of_ble_eq_true rfl) rfl rfl ?_
              refine gops_nil ?_
              refine hN27 _ _ ?_
              refine gT [box b6 _] rfl ?_
              refine gfrom [(4, .int _ _), (5, .int _ _), (6, .pointer _)] ⟨rfl, rfl, rfl, trivial⟩ fun σ => ?_
              refine gret fun w1 hM => ?_
              refine ⟨_, res3 rfl (rt (v := .int _ _) rfl) (rt (v := .int _ _) rfl) (rc 0 (cs := [_, _]) hM rfl rfl Tryz.isAgg33 Tryz.sizeOf33 rfl), ?_⟩
              exact ⟨by rw [hF, hV, hE], hM.low⟩
end Go.Proofs.YtbkameioedmlkaaGreatDoor
namespace Go.Proofs.YtbkameioedmlkaaGreatDoor
open Go.RowKit Go.Cf
set_option maxRecDepth 10000
set_option maxHeartbeats 1000000 in
theorem equal_any (w : World) (A B : Option Addr) (c c' : Nat) (l m : List ByteArray) (hA : Rdl w 0 1 strCells A l) (hB : Rdl w 0 1 strCells B m) (n : Nat) (hn : n = l.length) (hl : l.length ≤ maxLen) :
    Calls Tryz.prog 72 #[.slice A n c, .slice B m.length c'] w fun e w' => e = .returned (.bool (decide (l = m))) ∧ Below w.heap.size w w' := by
  subst hn
  unfold maxLen at hl
  refine gcalls Tryz.func72 rfl Tryz.ntmps72 (Nat.le_of_ble_eq_true rfl) ?_
  refine gfrom [(0, .slice _ _ _), (1, .slice _ _ _)] ⟨rfl, rfl, trivial⟩ fun σ => ?_
  refine gseq fun N1 hN1 => ?_
  refine greg ?_
  refine gop (y_assign (v := .bool _) rfl) rfl rfl rfl ?_
  refine gops_nil ?_
  refine hN1 _ _ ?_
  refine gfrom [(0, .slice _ _ _), (1, .slice _ _ _)] ⟨rfl, rfl, trivial⟩ fun σ => ?_
  refine gseq fun N2 hN2 => ?_
  refine gseq fun N3 hN3 => ?_
  refine greg ?_
  refine gop (y_move (v := .slice _ _ _) rfl) rfl rfl rfl ?_
  refine gop (y_len Tryz.underlying22 rfl) rfl rfl rfl ?_
  refine gop (y_move (v := .slice _ _ _) rfl) rfl rfl rfl ?_
  refine gop (y_len Tryz.underlying22 rfl) rfl rfl rfl ?_
  refine gop (y_neq rfl rfl) rfl rfl rfl ?_
  refine gops_nil ?_
  refine hN3 _ _ ?_
  refine gfrom [(0, .slice _ _ _), (1, .slice _ _ _), (10, .bool _)] ⟨rfl, rfl, rfl, trivial⟩ fun σ => ?_
  refine gcond (b := _) rfl (fun hc10 => ?_) (fun hc10 => ?_)
  · 
    replace hc10 := of_decide_eq_true hc10
    refine gseq fun N4 hN4 => ?_
    refine greg ?_
    refine gop (y_assign (v := .bool _) rfl) rfl rfl rfl ?_
    refine gops_nil ?_
    refine hN4 _ _ ?_
    refine gfrom [(4, .bool _)] ⟨rfl, trivial⟩ fun σ => ?_
    refine gret fun w1 hM => ?_
    refine ⟨_, res1 rfl (rt (v := .bool _) rfl), ?_⟩
    exact ⟨by rw [decide_eq_false (fun e => by subst e; omega)], hM.low⟩
  · 
    replace hc10 := Decidable.not_not.1 (of_decide_eq_false hc10)
    refine gskip ?_
    refine hN2 _ _ ?_
    refine gfrom [(0, .slice _ _ _), (1, .slice _ _ _)] ⟨rfl, rfl, trivial⟩ fun σ => ?_
    refine gseq fun N5 hN5 => ?_
    refine gseq fun N6 hN6 => ?_
    refine greg ?_
    refine gop (y_move (v := .slice _ _ _) rfl) rfl rfl rfl ?_
    refine gop (y_len Tryz.underlying22 rfl) rfl rfl rfl ?_
    refine gop (y_move (v := .int _ _) rfl) rfl rfl rfl ?_
    refine gops_nil ?_
    refine hN6 _ _ ?_
    refine gfrom [(0, .slice _ _ _), (1, .slice _ _ _), (12, .int _ _), (13, .int _ _)] ⟨rfl, rfl, rfl, rfl, trivial⟩ fun σ => ?_
    refine gblock ?_
    refine gfrom2 [(13, .int _ _)] [(0, .slice _ _ _), (1, .slice _ _ _), (12, .int _ _)] ⟨rfl, trivial⟩ ⟨rfl, rfl, rfl, trivial⟩ fun σ => ?_
    refine gloop2 (G := Nat) (fun k => k ≤ l.length ∧ l.length = m.length ∧ l.take k = m.take k) (fun k => l.length - k) (fun k => [(13, .int .i64 (k : Int))]) (fun k => []) (0) ?h0 ⟨rfl, trivial⟩ ⟨rfl, rfl, rfl, trivial⟩ rfl ?round
    case h0 => exact ⟨Nat.zero_le _, by omega, by simp⟩
    case round =>
      intro k hφ σ
      obtain ⟨hk, hlm, htk⟩ := hφ
      refine gseq fun N7 hN7 => ?_
      refine greg ?_
      refine gop (y_lss rfl rfl) rfl rfl rfl ?_
      refine gops_nil ?_
      refine hN7 _ _ ?_
      refine gfrom [(0, .slice _ _ _), (1, .slice _ _ _), (12, .int _ _), (13, .int _ _), (14, .bool _)] ⟨rfl, rfl, rfl, rfl, rfl, trivial⟩ fun σ => ?_
      refine gseq fun N8 hN8 => ?_
      refine gcond (b := _) rfl (fun hc14 => ?_) (fun hc14 => ?_)
      · 
        replace hc14 := of_decide_eq_true hc14
        have hk1 : k < l.length := by omega
        obtain ⟨ad, rfl, -, hca⟩ := hA.at_ hk1
        obtain ⟨ad', rfl, -, hcb⟩ := hB.at_ (k := k) (by omega)
        refine gskip ?_
        refine hN8 _ _ ?_
        refine gfrom [(0, .slice _ _ _), (1, .slice _ _ _), (12, .int _ _), (13, .int _ _)] ⟨rfl, rfl, rfl, rfl, trivial⟩ fun σ => ?_
        refine gseq fun N9 hN9 => ?_
        refine gblock ?_
        refine gseq fun N10 hN10 => ?_
        refine greg ?_
        refine gop (y_move (v := .int _ _) rfl) rfl rfl rfl ?_
        refine gop (y_assign (v := .int _ _) rfl) rfl rfl rfl ?_
        refine gops_nil ?_
        refine hN10 _ _ ?_
        refine gfrom [(0, .slice _ _ _), (1, .slice _ _ _), (5, .int _ _), (12, .int _ _), (13, .int _ _)] ⟨rfl, rfl, rfl, rfl, rfl, trivial⟩ fun σ => ?_
        refine gseq fun N11 hN11 => ?_
        refine greg_q (by kernel_rfl) (by kernel_rfl) ?_
        refine gq (y_move (v := .slice _ _ _) rfl) rfl rfl rfl ?_
        refine gq (y_move (v := .int _ _) rfl) rfl rfl rfl ?_
        refine gq (y_indexAddr Tryz.underlying22 Tryz.sizeOf9 rfl rfl rfl (by omega) (by omega)) rfl rfl rfl ?_
        refine gq (y_load Tryz.isAgg9 rfl (cell_base (hca 0 _ rfl))) rfl rfl rfl ?_
        refine gq (y_move (v := .slice _ _ _) rfl) rfl rfl rfl ?_
        refine gq (y_move (v := .int _ _) rfl) rfl rfl rfl ?_
        refine gq (y_indexAddr Tryz.underlying22 Tryz.sizeOf9 rfl rfl rfl (by omega) (by omega)) rfl rfl rfl ?_
        refine gq (y_load Tryz.isAgg9 rfl (cell_base (hcb 0 _ rfl))) rfl rfl rfl ?_
        refine gq (y_neqs rfl rfl) rfl rfl rfl ?_
        refine gqs_nil ?_
        refine hN11 _ _ ?_
        refine gfrom [(0, .slice _ _ _), (1, .slice _ _ _), (12, .int _ _), (13, .int _ _), (24, .bool _)] ⟨rfl, rfl, rfl, rfl, rfl, trivial⟩ fun σ => ?_
        refine gcond (b := _) rfl (fun hc24 => ?_) (fun hc24 => ?_)
        · 
          replace hc24 := strEq_ne2 hc24
          refine gseq fun N12 hN12 => ?_
          refine greg ?_
          refine gop (y_assign (v := .bool _) rfl) rfl rfl rfl ?_
          refine gops_nil ?_
          refine hN12 _ _ ?_
          refine gfrom [(4, .bool _)] ⟨rfl, trivial⟩ fun σ => ?_
          refine gret fun w1 hM => ?_
          refine ⟨_, res1 rfl (rt (v := .bool _) rfl), ?_⟩
          exact ⟨by rw [decide_eq_false (ne_of_at hk1 (by omega) hc24)], hM.low⟩
        · 
          replace hc24 := sb_eq_t (by simpa using hc24)
          refine gskip ?_
          refine hN9 _ _ ?_
          refine gfrom [(0, .slice _ _ _), (1, .slice _ _ _), (12, .int _ _), (13, .int _ _)] ⟨rfl, rfl, rfl, rfl, trivial⟩ fun σ => ?_
          refine greg ?_
          refine gop (y_add rfl rfl ⟨by omega, by omega⟩) rfl rfl rfl ?_
          refine gop (y_move (v := .int _ _) rfl) rfl rfl rfl ?_
          refine gops_nil ?_
          refine gnext2 (k + 1) (by omega) (⟨by omega, hlm, take_next l m k (by omega) (by omega) htk hc24⟩) ⟨rfl, trivial⟩ ⟨rfl, rfl, rfl, trivial⟩ ⟨_, rfl⟩
      · 
        replace hc14 := of_decide_eq_false hc14
        refine gexit ?_
        refine hN5 _ _ ?_
        refine gfrom [] trivial fun σ => ?_
        refine gseq fun N13 hN13 => ?_
        refine greg ?_
        refine gop (y_assign (v := .bool _) rfl) rfl rfl rfl ?_
        refine gops_nil ?_
        refine hN13 _ _ ?_
        refine gfrom [(4, .bool _)] ⟨rfl, trivial⟩ fun σ => ?_
        refine gret fun w1 hM => ?_
        refine ⟨_, res1 rfl (rt (v := .bool _) rfl), ?_⟩
        exact ⟨by rw [decide_eq_true (eq_of_takes hlm (by omega) htk)], hM.low⟩
end Go.Proofs.YtbkameioedmlkaaGreatDoor
