/- walks, printed by program -/
import Derived.Test.YtbaojdiccikbiaaPatchD
import Derived.Test.YtbaojdiccikbiaaPatchT
namespace Go.Proofs.Ytbaojdiccikbiaa
open Go.RowKit Go.Cf
set_option maxRecDepth 10000



theorem zvInts (w : World) : (zeroValue 37).run Try.prog w = .ok (.agg ((List.replicate 130 (0 : Int)).flatMap intCells).toArray) w := by kernel_rfl
theorem zvBools (w : World) : (zeroValue 38).run Try.prog w = .ok (.agg ((List.replicate 130 false).flatMap boolCells).toArray) w := by kernel_rfl
theorem saInts (w : World) : (isAgg 37).run Try.prog w = .ok true w := by kernel_rfl
theorem saBools (w : World) : (isAgg 38).run Try.prog w = .ok true w := by kernel_rfl
theorem szInts (w : World) : (sizeOf 37).run Try.prog w = .ok 130 w := by kernel_rfl
theorem szBools (w : World) : (sizeOf 38).run Try.prog w = .ok 130 w := by kernel_rfl
set_option maxHeartbeats 4000000 in
theorem trace_any (w : World) (A : Option Addr) (c : Nat) (hs : List HunkC) (hp : PatR w 0 A c hs) (V : PV (pls hs)) : Calls Try.prog 19 #[.agg #[.slice A hs.length c]] w fun e w' => e = .returned (.tuple #[.agg ((traceP (pls hs) 130).flatMap intCells).toArray, .agg ((traceK (pls hs) 130).flatMap boolCells).toArray]) ∧ Below w.heap.size w w' := by
  have hVl : hs.length ≤ 130 := by simpa using V.len
  refine gcalls Try.func19 rfl Try.ntmps19 (Nat.le_of_ble_eq_true rfl) ?_
  refine gfrom [(0, .agg #[_])] ⟨rfl, trivial⟩ fun σ => ?_
  refine gseq fun N1 hN1 => ?_
  refine greg ?_
  refine gop_box (v := .agg #[_]) (cs := #[_]) rfl rfl rfl (fun b1 hb1 => ?_)
  refine gop_alloc (cs := ((List.replicate 130 (0 : Int)).flatMap intCells).toArray) zvInts rfl rfl (fun b2 hb2 => ?_)
  refine gop_alloc (cs := ((List.replicate 130 false).flatMap boolCells).toArray) zvBools rfl rfl (fun b3 hb3 => ?_)
  refine gops_nil ?_
  refine hN1 _ _ ?_
  refine gT [box b1 _, box b2 _, box b3 _] rfl ?_
  refine gfrom [(1, .pointer _), (2, .pointer _), (3, .pointer _)] ⟨rfl, rfl, rfl, trivial⟩ fun σ => ?_
  refine gseq fun N2 hN2 => ?_
  refine greg ?_
  refine gop_alloc (cs := ((List.replicate 130 (0 : Int)).flatMap intCells).toArray) zvInts rfl rfl (fun b4 hb4 => ?_)
  refine gops_nil ?_
  refine hN2 _ _ ?_
  refine gT [box b1 _, box b2 _, box b3 _, box b4 _] rfl ?_
  refine gfrom [(1, .pointer _), (2, .pointer _), (3, .pointer _), (4, .pointer _)] ⟨rfl, rfl, rfl, rfl, trivial⟩ fun σ => ?_
  refine gseq fun N3 hN3 => ?_
  refine greg ?_
  refine gop_alloc (cs := ((List.replicate 130 false).flatMap boolCells).toArray) zvBools rfl rfl (fun b5 hb5 => ?_)
  refine gops_nil ?_
  refine hN3 _ _ ?_
  refine gT [box b1 _, box b2 _, box b3 _, box b4 _, box b5 _] rfl ?_
  refine gfrom [(1, .pointer _), (2, .pointer _), (3, .pointer _), (4, .pointer _), (5, .pointer _)] ⟨rfl, rfl, rfl, rfl, rfl, trivial⟩ fun σ => ?_
  refine gseq fun N4 hN4 => ?_
  refine greg ?_
  refine gop (y_assign (v := .int _ _) rfl) rfl rfl rfl ?_
  refine gops_nil ?_
  refine hN4 _ _ ?_
  refine gfrom [(1, .pointer _), (2, .pointer _), (3, .pointer _), (4, .pointer _), (5, .pointer _), (6, .int _ _)] ⟨rfl, rfl, rfl, rfl, rfl, rfl, trivial⟩ fun σ => ?_
  refine gseq fun N5 hN5 => ?_
  refine greg ?_
  refine gop (y_assign (v := .int _ _) rfl) rfl rfl rfl ?_
  refine gops_nil ?_
  refine hN5 _ _ ?_
  refine gfrom [(1, .pointer _), (2, .pointer _), (3, .pointer _), (4, .pointer _), (5, .pointer _), (6, .int _ _), (7, .int _ _)] ⟨rfl, rfl, rfl, rfl, rfl, rfl, rfl, trivial⟩ fun σ => ?_
  refine gseq fun N6 hN6 => ?_
  refine gseq fun N7 hN7 => ?_
  refine greg ?_
  refine gop (y_assign (v := .int _ _) rfl) rfl rfl rfl ?_
  refine gops_nil ?_
  refine hN7 _ _ ?_
  refine gfrom [(1, .pointer _), (2, .pointer _), (3, .pointer _), (4, .pointer _), (5, .pointer _), (6, .int _ _), (7, .int _ _), (8, .int _ _)] ⟨rfl, rfl, rfl, rfl, rfl, rfl, rfl, rfl, trivial⟩ fun σ => ?_
  refine gblock ?_
  rw [← traceP_zero (pls hs), ← traceK_zero (pls hs)]
  refine gfrom2 [(6, .int _ _), (7, .int _ _), (8, .int _ _)] [(1, .pointer _), (2, .pointer _), (3, .pointer _), (4, .pointer _), (5, .pointer _)] ⟨rfl, rfl, rfl, trivial⟩ ⟨rfl, rfl, rfl, rfl, rfl, trivial⟩ fun σ => ?_
  refine gloop2 (G := Nat × Nat × Int) (fun (k, o, g) => k ≤ hs.length ∧ o ≤ 120 ∧ (o : Int) = (if k = 0 then 0 else prevEnd (pls hs) k) ∧ -(120 * (k : Int)) ≤ g ∧ g ≤ 120 * (k : Int) ∧ ∀ i : Nat, o ≤ i → place (pls hs) (i : Int) 0 = place ((pls hs).drop k) (i : Int) g) (fun (k, o, g) => hs.length - k) (fun (k, o, g) => [(6, .int .i64 (o : Int)), (7, .int .i64 ((o : Int) + g)), (8, .int .i64 (k : Int))]) (fun (k, o, g) => [(3, box b4 (.cells ((traceP (pls hs) (o)).flatMap intCells).toArray 37)), (4, box b5 (.cells ((traceK (pls hs) (o)).flatMap boolCells).toArray 38))]) ((0, 0, 0)) ?h0 ⟨rfl, rfl, rfl, trivial⟩ ⟨rfl, rfl, rfl, rfl, rfl, trivial⟩ rfl ?round
  case h0 => exact ⟨Nat.zero_le _, Nat.zero_le _, rfl, by decide, by decide, fun _ _ => rfl⟩
  case round =>
    rintro ⟨k, o, g⟩ hφ σ
    obtain ⟨hk, ho, hoe, hg1, hg2, hP⟩ := hφ
    refine gT [box b1 _, box b2 _, box b3 _, box _ _, box _ _] rfl ?_
    refine gseq fun N8 hN8 => ?_
    refine gseq fun N9 hN9 => ?_
    refine greg ?_
    refine gop (y_move (v := .int _ _) rfl) rfl rfl rfl ?_
    refine gop (y_fieldAddr_box fa25_0 rfl) rfl rfl rfl ?_
    refine gop (y_load Try.isAgg23 rfl (cell_box 0 rfl rfl)) rfl rfl rfl ?_
    refine gop (y_len Try.underlying23 rfl) rfl rfl rfl ?_
    refine gop (y_lss rfl rfl) rfl rfl rfl ?_
    refine gops_nil ?_
    refine hN9 _ _ ?_
    refine gfrom [(1, .pointer _), (2, .pointer _), (3, .pointer _), (4, .pointer _), (5, .pointer _), (6, .int _ _), (7, .int _ _), (8, .int _ _), (14, .bool _)] ⟨rfl, rfl, rfl, rfl, rfl, rfl, rfl, rfl, rfl, trivial⟩ fun σ => ?_
    refine gcond (b := _) rfl (fun hc14 => ?_) (fun hc14 => ?_)
    · -- slot 14 t
      replace hc14 := of_decide_eq_true hc14
      have hk1 : k < hs.length := by omega
      have hk2 : k < (pls hs).length := by simpa using hk1
      obtain ⟨ad, rfl, -, hcv⟩ := hp.rd.at_ hk1
      have hv := V.at_ k hk2
      rw [List.getElem_map] at hv
      have hv1 := hv.lo
      have hv2 := hv.hi
      have hv3 := hv.oldLen
      have hv4 := hv.newLen
      have hv5 := hv.past
      have hv6 : hs[k].pl.at_ + hs[k].pl.old.length ≤ 120 := hv.end_
      obtain ⟨a, ha⟩ := Int.eq_ofNat_of_zero_le hv.lo
      have hoa : o ≤ a := by
        split at hoe <;> omega
      have hgr : hs[k].pl.growth = hs[k].pl.new.length - hs[k].pl.old.length := rfl
      have hen : hs[k].pl.end_ = hs[k].pl.at_ + hs[k].pl.old.length := rfl
      have hD : ∀ i : Int, place ((pls hs).drop k) i g = if i < hs[k].pl.at_ then (i + g, true) else if i < hs[k].pl.end_ then (hs[k].pl.at_ + g, false) else place ((pls hs).drop (k + 1)) i (g + hs[k].pl.growth) := fun i => by
        have := place_drop hk2 i g
        rwa [List.getElem_map] at this
      refine gskip ?_
      refine hN8 _ _ ?_
      refine gfrom [(1, .pointer _), (2, .pointer _), (3, .pointer _), (4, .pointer _), (5, .pointer _), (6, .int _ _), (7, .int _ _), (8, .int _ _)] ⟨rfl, rfl, rfl, rfl, rfl, rfl, rfl, rfl, trivial⟩ fun σ => ?_
      refine gseq fun N10 hN10 => ?_
      refine gblock ?_
      refine gseq fun N11 hN11 => ?_
      refine gblock ?_
      refine gfrom2 [(6, .int _ _), (7, .int _ _)] [(1, .pointer _), (2, .pointer _), (3, .pointer _), (4, .pointer _), (5, .pointer _), (8, .int _ _)] ⟨rfl, rfl, trivial⟩ ⟨rfl, rfl, rfl, rfl, rfl, rfl, trivial⟩ fun σ => ?_
      refine gloop2 (G := Nat) (fun o2 => o ≤ o2 ∧ o2 ≤ a) (fun o2 => a - o2) (fun o2 => [(6, .int .i64 (o2 : Int)), (7, .int .i64 ((o2 : Int) + g))]) (fun o2 => [(3, box b4 (.cells ((traceP (pls hs) (o2)).flatMap intCells).toArray 37)), (4, box b5 (.cells ((traceK (pls hs) (o2)).flatMap boolCells).toArray 38))]) (o) ?h0 ⟨rfl, rfl, trivial⟩ ⟨rfl, rfl, rfl, rfl, rfl, rfl, trivial⟩ rfl ?round
      case h0 => exact ⟨Nat.le_refl _, hoa⟩
      case round =>
        intro o2 hφ σ
        obtain ⟨ho2, ho3⟩ := hφ
        refine gT [box b1 _, box b2 _, box b3 _, box _ _, box _ _] rfl ?_
        refine gseq fun N12 hN12 => ?_
        refine gseq fun N13 hN13 => ?_
        refine greg ?_
        refine gop (y_move (v := .int _ _) rfl) rfl rfl rfl ?_
        refine gop (y_fieldAddr_box fa25_0 rfl) rfl rfl rfl ?_
        refine gop (y_load Try.isAgg23 rfl (cell_box 0 rfl rfl)) rfl rfl rfl ?_
        refine gop (y_move (v := .int _ _) rfl) rfl rfl rfl ?_
        refine gop (y_indexAddr Try.underlying23 Try.sizeOf43 rfl rfl rfl (by omega) (by omega)) rfl rfl rfl ?_
        refine gop (y_fieldAddr_add fa43_0 rfl) rfl rfl rfl ?_
        refine gop (y_load Try.isAgg3 rfl (cell_base (hcv 0 _ rfl))) rfl rfl rfl ?_
        refine gop (y_lss rfl rfl) rfl rfl rfl ?_
        refine gops_nil ?_
        refine hN13 _ _ ?_
        refine gfrom [(1, .pointer _), (2, .pointer _), (3, .pointer _), (4, .pointer _), (5, .pointer _), (6, .int _ _), (7, .int _ _), (8, .int _ _), (24, .bool _)] ⟨rfl, rfl, rfl, rfl, rfl, rfl, rfl, rfl, rfl, trivial⟩ fun σ => ?_
        refine gcond (b := _) rfl (fun hc24 => ?_) (fun hc24 => ?_)
        · -- slot 24 t
          replace hc24 := of_decide_eq_true hc24
          have hpl : place (pls hs) (o2 : Int) 0 = ((o2 : Int) + g, true) := by rw [hP o2 (by omega), hD, if_pos (by omega)]
          refine gskip ?_
          refine hN12 _ _ ?_
          refine gfrom [(1, .pointer _), (2, .pointer _), (3, .pointer _), (4, .pointer _), (5, .pointer _), (6, .int _ _), (7, .int _ _), (8, .int _ _)] ⟨rfl, rfl, rfl, rfl, rfl, rfl, rfl, rfl, trivial⟩ fun σ => ?_
          refine gblock ?_
          refine gseq fun N14 hN14 => ?_
          refine greg ?_
          refine gop (y_move (v := .int _ _) rfl) rfl rfl rfl ?_
          refine gop (y_move (v := .int _ _) rfl) rfl rfl rfl ?_
          refine gop (y_indexAddr_arr Try.underlying37 Try.sizeOf3 rfl rfl rfl (by omega) (by omega)) rfl rfl rfl ?_
          refine gop_store_el 3 (f := intCells) (size := 1) (k := o2) (o := 0) (v := .int _ _) (a' := (o2 : Int) + g) (fun _ => rfl) rfl (by omega) rfl Try.sizeOf3 rfl rfl rfl rfl (List.getElem?_eq_getElem (show o2 < _ by rw [traceP_len]; omega)) (by omega) rfl rfl ?_
          refine gops_nil ?_
          refine hN14 _ _ ?_
          refine gT [box b1 _, box b2 _, box b3 _, box _ _, box _ _] rfl ?_
          refine gfrom [(1, .pointer _), (2, .pointer _), (3, .pointer _), (4, .pointer _), (5, .pointer _), (6, .int _ _), (7, .int _ _), (8, .int _ _)] ⟨rfl, rfl, rfl, rfl, rfl, rfl, rfl, rfl, trivial⟩ fun σ => ?_
          refine gseq fun N15 hN15 => ?_
          refine greg ?_
          refine gop (y_move (v := .int _ _) rfl) rfl rfl rfl ?_
          refine gop (y_indexAddr_arr Try.underlying38 Try.sizeOf4 rfl rfl rfl (by omega) (by omega)) rfl rfl rfl ?_
          refine gop_store_el 4 (f := boolCells) (size := 1) (k := o2) (o := 0) (v := .bool _) (a' := true) (fun _ => rfl) rfl (by omega) rfl Try.sizeOf4 rfl rfl rfl rfl (List.getElem?_eq_getElem (show o2 < _ by rw [traceK_len]; omega)) (by omega) rfl rfl ?_
          refine gops_nil ?_
          refine hN15 _ _ ?_
          refine gT [box b1 _, box b2 _, box b3 _, box _ _, box _ _] rfl ?_
          refine gfrom [(1, .pointer _), (2, .pointer _), (3, .pointer _), (4, .pointer _), (5, .pointer _), (6, .int _ _), (7, .int _ _), (8, .int _ _)] ⟨rfl, rfl, rfl, rfl, rfl, rfl, rfl, rfl, trivial⟩ fun σ => ?_
          refine gseq fun N16 hN16 => ?_
          refine greg ?_
          refine gop (y_move (v := .int _ _) rfl) rfl rfl rfl ?_
          refine gop (y_add rfl rfl ⟨by omega, by omega⟩) rfl rfl rfl ?_
          refine gop (y_assign (v := .int _ _) rfl) rfl rfl rfl ?_
          refine gops_nil ?_
          refine hN16 _ _ ?_
          refine gfrom [(1, .pointer _), (2, .pointer _), (3, .pointer _), (4, .pointer _), (5, .pointer _), (6, .int _ _), (7, .int _ _), (8, .int _ _)] ⟨rfl, rfl, rfl, rfl, rfl, rfl, rfl, rfl, trivial⟩ fun σ => ?_
          refine greg ?_
          refine gop (y_move (v := .int _ _) rfl) rfl rfl rfl ?_
          refine gop (y_add rfl rfl ⟨by omega, by omega⟩) rfl rfl rfl ?_
          refine gop (y_assign (v := .int _ _) rfl) rfl rfl rfl ?_
          refine gops_nil ?_
          rw [traceP_set (P := pls hs) (o := o2) (by rw [hpl]), traceK_set (P := pls hs) (o := o2) (by rw [hpl])]
          refine gnext2 (o2 + 1) (by omega) (⟨by omega, by omega⟩) ⟨rfl, (congrArg (Value.int .i64) (by omega)), trivial⟩ ⟨rfl, rfl, rfl, rfl, rfl, rfl, trivial⟩ ⟨_, rfl⟩
        · -- slot 24 f
          replace hc24 := of_decide_eq_false hc24
          obtain rfl : a = o2 := by omega
          refine gexit ?_
          refine hN11 _ _ ?_
          refine gfrom [(1, .pointer _), (2, .pointer _), (3, .pointer _), (4, .pointer _), (5, .pointer _), (6, .int _ _), (7, .int _ _), (8, .int _ _)] ⟨rfl, rfl, rfl, rfl, rfl, rfl, rfl, rfl, trivial⟩ fun σ => ?_
          refine gseq fun N17 hN17 => ?_
          refine gseq fun N18 hN18 => ?_
          refine greg ?_
          refine gop (y_assign (v := .int _ _) rfl) rfl rfl rfl ?_
          refine gops_nil ?_
          refine hN18 _ _ ?_
          refine gfrom [(1, .pointer _), (2, .pointer _), (3, .pointer _), (4, .pointer _), (5, .pointer _), (6, .int _ _), (7, .int _ _), (8, .int _ _), (9, .int _ _)] ⟨rfl, rfl, rfl, rfl, rfl, rfl, rfl, rfl, rfl, trivial⟩ fun σ => ?_
          refine gblock ?_
          refine gfrom2 [(6, .int _ _), (9, .int _ _)] [(1, .pointer _), (2, .pointer _), (3, .pointer _), (4, .pointer _), (5, .pointer _), (7, .int _ _), (8, .int _ _)] ⟨rfl, rfl, trivial⟩ ⟨rfl, rfl, rfl, rfl, rfl, rfl, rfl, trivial⟩ fun σ => ?_
          refine gloop2 (G := Nat) (fun i => i ≤ hs[k].pl.old.length) (fun i => hs[k].pl.old.length - i) (fun i => [(6, .int .i64 ((a + i : Nat) : Int)), (9, .int .i64 (i : Int))]) (fun i => [(3, box b4 (.cells ((traceP (pls hs) (a + i)).flatMap intCells).toArray 37)), (4, box b5 (.cells ((traceK (pls hs) (a + i)).flatMap boolCells).toArray 38))]) (0) ?h0 ⟨rfl, rfl, trivial⟩ ⟨rfl, rfl, rfl, rfl, rfl, rfl, rfl, trivial⟩ rfl ?round
          case h0 => exact Nat.zero_le _
          case round =>
            intro i hφ σ
            have hi := hφ
            refine gT [box b1 _, box b2 _, box b3 _, box _ _, box _ _] rfl ?_
            refine gseq fun N19 hN19 => ?_
            refine gseq fun N20 hN20 => ?_
            refine greg ?_
            refine gop (y_move (v := .int _ _) rfl) rfl rfl rfl ?_
            refine gop (y_fieldAddr_box fa25_0 rfl) rfl rfl rfl ?_
            refine gop (y_load Try.isAgg23 rfl (cell_box 0 rfl rfl)) rfl rfl rfl ?_
            refine gop (y_move (v := .int _ _) rfl) rfl rfl rfl ?_
            refine gop (y_indexAddr Try.underlying23 Try.sizeOf43 rfl rfl rfl (by omega) (by omega)) rfl rfl rfl ?_
            refine gop (y_fieldAddr_add fa43_1 rfl) rfl rfl rfl ?_
            refine gop (y_load Try.isAgg41 rfl (cell_base (hcv 1 _ rfl))) rfl rfl rfl ?_
            refine gop (y_len Try.underlying41 rfl) rfl rfl rfl ?_
            refine gop (y_lss rfl rfl) rfl rfl rfl ?_
            refine gops_nil ?_
            refine hN20 _ _ ?_
            refine gfrom [(1, .pointer _), (2, .pointer _), (3, .pointer _), (4, .pointer _), (5, .pointer _), (6, .int _ _), (7, .int _ _), (8, .int _ _), (9, .int _ _), (42, .bool _)] ⟨rfl, rfl, rfl, rfl, rfl, rfl, rfl, rfl, rfl, rfl, trivial⟩ fun σ => ?_
            refine gcond (b := _) rfl (fun hc42 => ?_) (fun hc42 => ?_)
            · -- slot 42 t
              replace hc42 := of_decide_eq_true hc42
              have hpl : place (pls hs) ((a + i : Nat) : Int) 0 = ((a : Int) + g, false) := by rw [hP (a + i) (by omega), hD, if_neg (by omega), if_pos (by omega), ha]
              refine gskip ?_
              refine hN19 _ _ ?_
              refine gfrom [(1, .pointer _), (2, .pointer _), (3, .pointer _), (4, .pointer _), (5, .pointer _), (6, .int _ _), (7, .int _ _), (8, .int _ _), (9, .int _ _)] ⟨rfl, rfl, rfl, rfl, rfl, rfl, rfl, rfl, rfl, trivial⟩ fun σ => ?_
              refine gseq fun N21 hN21 => ?_
              refine gblock ?_
              refine gseq fun N22 hN22 => ?_
              refine greg ?_
              refine gop (y_move (v := .int _ _) rfl) rfl rfl rfl ?_
              refine gop (y_move (v := .int _ _) rfl) rfl rfl rfl ?_
              refine gop (y_indexAddr_arr Try.underlying37 Try.sizeOf3 rfl rfl rfl (by omega) (by omega)) rfl rfl rfl ?_
              refine gop_store_el 3 (f := intCells) (size := 1) (k := a + i) (o := 0) (v := .int _ _) (a' := (a : Int) + g) (fun _ => rfl) rfl (by omega) rfl Try.sizeOf3 rfl rfl rfl rfl (List.getElem?_eq_getElem (show a + i < _ by rw [traceP_len]; omega)) (by omega) rfl rfl ?_
              refine gops_nil ?_
              refine hN22 _ _ ?_
              refine gT [box b1 _, box b2 _, box b3 _, box _ _, box _ _] rfl ?_
              refine gfrom [(1, .pointer _), (2, .pointer _), (3, .pointer _), (4, .pointer _), (5, .pointer _), (6, .int _ _), (7, .int _ _), (8, .int _ _), (9, .int _ _)] ⟨rfl, rfl, rfl, rfl, rfl, rfl, rfl, rfl, rfl, trivial⟩ fun σ => ?_
              refine greg ?_
              refine gop (y_move (v := .int _ _) rfl) rfl rfl rfl ?_
              refine gop (y_add rfl rfl ⟨by omega, by omega⟩) rfl rfl rfl ?_
              refine gop (y_assign (v := .int _ _) rfl) rfl rfl rfl ?_
              refine gops_nil ?_
              refine hN21 _ _ ?_
              refine gfrom [(1, .pointer _), (2, .pointer _), (3, .pointer _), (4, .pointer _), (5, .pointer _), (6, .int _ _), (7, .int _ _), (8, .int _ _), (9, .int _ _)] ⟨rfl, rfl, rfl, rfl, rfl, rfl, rfl, rfl, rfl, trivial⟩ fun σ => ?_
              refine greg ?_
              refine gop (y_move (v := .int _ _) rfl) rfl rfl rfl ?_
              refine gop (y_add rfl rfl ⟨by omega, by omega⟩) rfl rfl rfl ?_
              refine gop (y_assign (v := .int _ _) rfl) rfl rfl rfl ?_
              refine gops_nil ?_
              rw [traceP_set (P := pls hs) (o := a + i) (by rw [hpl]), traceK_same (P := pls hs) (o := a + i) (by rw [hpl])]
              refine gnext2 (i + 1) (by omega) (show i + 1 ≤ _ by omega) ⟨rfl, rfl, trivial⟩ ⟨rfl, rfl, rfl, rfl, rfl, rfl, rfl, trivial⟩ ⟨_, rfl⟩
            · -- slot 42 f
              replace hc42 := of_decide_eq_false hc42
              obtain rfl : i = hs[k].pl.old.length := by omega
              refine gexit ?_
              refine hN17 _ _ ?_
              refine gfrom [(1, .pointer _), (2, .pointer _), (3, .pointer _), (4, .pointer _), (5, .pointer _), (6, .int _ _), (7, .int _ _), (8, .int _ _)] ⟨rfl, rfl, rfl, rfl, rfl, rfl, rfl, rfl, trivial⟩ fun σ => ?_
              refine greg ?_
              refine gop (y_move (v := .int _ _) rfl) rfl rfl rfl ?_
              refine gop (y_fieldAddr_box fa25_0 rfl) rfl rfl rfl ?_
              refine gop (y_load Try.isAgg23 rfl (cell_box 0 rfl rfl)) rfl rfl rfl ?_
              refine gop (y_move (v := .int _ _) rfl) rfl rfl rfl ?_
              refine gop (y_indexAddr Try.underlying23 Try.sizeOf43 rfl rfl rfl (by omega) (by omega)) rfl rfl rfl ?_
              refine gop (y_fieldAddr_add fa43_2 rfl) rfl rfl rfl ?_
              refine gop (y_load Try.isAgg41 rfl (cell_base (hcv 2 _ rfl))) rfl rfl rfl ?_
              refine gop (y_len Try.underlying41 rfl) rfl rfl rfl ?_
              refine gop (y_add rfl rfl ⟨by omega, by omega⟩) rfl rfl rfl ?_
              refine gop (y_assign (v := .int _ _) rfl) rfl rfl rfl ?_
              refine gops_nil ?_
              refine hN10 _ _ ?_
              refine gfrom [(1, .pointer _), (2, .pointer _), (3, .pointer _), (4, .pointer _), (5, .pointer _), (6, .int _ _), (7, .int _ _), (8, .int _ _)] ⟨rfl, rfl, rfl, rfl, rfl, rfl, rfl, rfl, trivial⟩ fun σ => ?_
              refine greg ?_
              refine gop (y_move (v := .int _ _) rfl) rfl rfl rfl ?_
              refine gop (y_add rfl rfl ⟨by omega, by omega⟩) rfl rfl rfl ?_
              refine gop (y_assign (v := .int _ _) rfl) rfl rfl rfl ?_
              refine gops_nil ?_
              refine gnext2 ((k + 1, a + hs[k].pl.old.length, g + hs[k].pl.growth)) (by show hs.length - (k + 1) < hs.length - k; omega) (⟨show k + 1 ≤ _ by omega, show a + hs[k].pl.old.length ≤ 120 by omega, by show ((a + hs[k].pl.old.length : Nat) : Int) = _; rw [if_neg (by omega), PV.prev hk2, List.getElem_map]; omega, by show -(120 * ((k + 1 : Nat) : Int)) ≤ _; omega, by show _ ≤ 120 * ((k + 1 : Nat) : Int); omega, fun i hi => by have hi2 : a + hs[k].pl.old.length ≤ i := hi; rw [hP i (by omega), hD, if_neg (by omega), if_neg (by omega)]⟩) ⟨rfl, (congrArg (Value.int .i64) (by omega)), rfl, trivial⟩ ⟨rfl, rfl, rfl, rfl, rfl, trivial⟩ ⟨_, rfl⟩
    · -- slot 14 f
      replace hc14 := of_decide_eq_false hc14
      have hE : ∀ i : Nat, o ≤ i → place (pls hs) (i : Int) 0 = ((i : Int) + g, true) := fun i hi => by rw [hP i hi, List.drop_eq_nil_of_le (by simp; omega), place]
      refine gexit ?_
      refine hN6 _ _ ?_
      refine gfrom [(2, .pointer _), (3, .pointer _), (4, .pointer _), (5, .pointer _), (6, .int _ _), (7, .int _ _)] ⟨rfl, rfl, rfl, rfl, rfl, rfl, trivial⟩ fun σ => ?_
      refine gseq fun N23 hN23 => ?_
      refine gblock ?_
      refine gfrom2 [(6, .int _ _), (7, .int _ _)] [(2, .pointer _), (3, .pointer _), (4, .pointer _), (5, .pointer _)] ⟨rfl, rfl, trivial⟩ ⟨rfl, rfl, rfl, rfl, trivial⟩ fun σ => ?_
      refine gloop2 (G := Nat) (fun o4 => o ≤ o4 ∧ o4 ≤ 130) (fun o4 => 130 - o4) (fun o4 => [(6, .int .i64 (o4 : Int)), (7, .int .i64 ((o4 : Int) + g))]) (fun o4 => [(3, box b4 (.cells ((traceP (pls hs) (o4)).flatMap intCells).toArray 37)), (4, box b5 (.cells ((traceK (pls hs) (o4)).flatMap boolCells).toArray 38))]) (o) ?h0 ⟨rfl, rfl, trivial⟩ ⟨rfl, rfl, rfl, rfl, trivial⟩ rfl ?round
      case h0 => exact ⟨Nat.le_refl _, by omega⟩
      case round =>
        intro o4 hφ σ
        obtain ⟨ho2, ho3⟩ := hφ
        refine gT [box b1 _, box b2 _, box b3 _, box _ _, box _ _] rfl ?_
        refine gseq fun N24 hN24 => ?_
        refine gseq fun N25 hN25 => ?_
        refine greg ?_
        refine gop (y_move (v := .int _ _) rfl) rfl rfl rfl ?_
        refine gop (y_lss rfl rfl) rfl rfl rfl ?_
        refine gops_nil ?_
        refine hN25 _ _ ?_
        refine gfrom [(2, .pointer _), (3, .pointer _), (4, .pointer _), (5, .pointer _), (6, .int _ _), (7, .int _ _), (60, .bool _)] ⟨rfl, rfl, rfl, rfl, rfl, rfl, rfl, trivial⟩ fun σ => ?_
        refine gcond (b := _) rfl (fun hc60 => ?_) (fun hc60 => ?_)
        · -- slot 60 t
          replace hc60 := of_decide_eq_true hc60
          have hpl := hE o4 (by omega)
          refine gskip ?_
          refine hN24 _ _ ?_
          refine gfrom [(2, .pointer _), (3, .pointer _), (4, .pointer _), (5, .pointer _), (6, .int _ _), (7, .int _ _)] ⟨rfl, rfl, rfl, rfl, rfl, rfl, trivial⟩ fun σ => ?_
          refine gblock ?_
          refine gseq fun N26 hN26 => ?_
          refine greg ?_
          refine gop (y_move (v := .int _ _) rfl) rfl rfl rfl ?_
          refine gop (y_move (v := .int _ _) rfl) rfl rfl rfl ?_
          refine gop (y_indexAddr_arr Try.underlying37 Try.sizeOf3 rfl rfl rfl (by omega) (by omega)) rfl rfl rfl ?_
          refine gop_store_el 3 (f := intCells) (size := 1) (k := o4) (o := 0) (v := .int _ _) (a' := (o4 : Int) + g) (fun _ => rfl) rfl (by omega) rfl Try.sizeOf3 rfl rfl rfl rfl (List.getElem?_eq_getElem (show o4 < _ by rw [traceP_len]; omega)) (by omega) rfl rfl ?_
          refine gops_nil ?_
          refine hN26 _ _ ?_
          refine gT [box b1 _, box b2 _, box b3 _, box _ _, box _ _] rfl ?_
          refine gfrom [(2, .pointer _), (3, .pointer _), (4, .pointer _), (5, .pointer _), (6, .int _ _), (7, .int _ _)] ⟨rfl, rfl, rfl, rfl, rfl, rfl, trivial⟩ fun σ => ?_
          refine gseq fun N27 hN27 => ?_
          refine greg ?_
          refine gop (y_move (v := .int _ _) rfl) rfl rfl rfl ?_
          refine gop (y_indexAddr_arr Try.underlying38 Try.sizeOf4 rfl rfl rfl (by omega) (by omega)) rfl rfl rfl ?_
          refine gop_store_el 4 (f := boolCells) (size := 1) (k := o4) (o := 0) (v := .bool _) (a' := true) (fun _ => rfl) rfl (by omega) rfl Try.sizeOf4 rfl rfl rfl rfl (List.getElem?_eq_getElem (show o4 < _ by rw [traceK_len]; omega)) (by omega) rfl rfl ?_
          refine gops_nil ?_
          refine hN27 _ _ ?_
          refine gT [box b1 _, box b2 _, box b3 _, box _ _, box _ _] rfl ?_
          refine gfrom [(2, .pointer _), (3, .pointer _), (4, .pointer _), (5, .pointer _), (6, .int _ _), (7, .int _ _)] ⟨rfl, rfl, rfl, rfl, rfl, rfl, trivial⟩ fun σ => ?_
          refine gseq fun N28 hN28 => ?_
          refine greg ?_
          refine gop (y_move (v := .int _ _) rfl) rfl rfl rfl ?_
          refine gop (y_add rfl rfl ⟨by omega, by omega⟩) rfl rfl rfl ?_
          refine gop (y_assign (v := .int _ _) rfl) rfl rfl rfl ?_
          refine gops_nil ?_
          refine hN28 _ _ ?_
          refine gfrom [(2, .pointer _), (3, .pointer _), (4, .pointer _), (5, .pointer _), (6, .int _ _), (7, .int _ _)] ⟨rfl, rfl, rfl, rfl, rfl, rfl, trivial⟩ fun σ => ?_
          refine greg ?_
          refine gop (y_move (v := .int _ _) rfl) rfl rfl rfl ?_
          refine gop (y_add rfl rfl ⟨by omega, by omega⟩) rfl rfl rfl ?_
          refine gop (y_assign (v := .int _ _) rfl) rfl rfl rfl ?_
          refine gops_nil ?_
          rw [traceP_set (P := pls hs) (o := o4) (by rw [hpl]), traceK_set (P := pls hs) (o := o4) (by rw [hpl])]
          refine gnext2 (o4 + 1) (by omega) (⟨by omega, by omega⟩) ⟨rfl, (congrArg (Value.int .i64) (by omega)), trivial⟩ ⟨rfl, rfl, rfl, rfl, trivial⟩ ⟨_, rfl⟩
        · -- slot 60 f
          replace hc60 := of_decide_eq_false hc60
          obtain rfl : o4 = 130 := by omega
          refine gexit ?_
          refine hN23 _ _ ?_
          refine gfrom [(2, .pointer _), (3, .pointer _), (4, .pointer _), (5, .pointer _)] ⟨rfl, rfl, rfl, rfl, trivial⟩ fun σ => ?_
          refine gseq fun N29 hN29 => ?_
          refine greg_hs [(1, room b2 37 130), (2, room b3 38 130)] (by kernel_rfl) ?_
          refine ght 0 rfl (by kernel_rfl) (by kernel_rfl) (by kernel_rfl) (y_loads (cs := (traceP (pls hs) 130).flatMap intCells) saInts szInts (by rw [flat_len (size := 1) (fun _ => rfl), traceP_len]) rfl (cells_box 3 rfl)) rfl rfl rfl (weak_trans (weak_room 2 rfl rfl) (weak_room 1 rfl rfl)) (listed' := #[true, false, false, false]) rfl ?_
          refine ght 1 rfl (by kernel_rfl) (by kernel_rfl) (by kernel_rfl) (y_loads (cs := (traceK (pls hs) 130).flatMap boolCells) saBools szBools (by rw [flat_len (size := 1) (fun _ => rfl), traceK_len]) rfl (cells_box 4 rfl)) rfl rfl rfl (weak_trans (weak_room 2 rfl rfl) (weak_room 1 rfl rfl)) (listed' := #[true, true, false, false]) rfl ?_
          refine ghs 2 (by kernel_rfl) rfl rfl rfl (listed' := #[true, true, true, false]) rfl (run_store_flat 1 (f := intCells) wide_int rfl rfl szInts (by rw [traceP_len]) rfl (by rw [traceP_len, traceP_len]) rfl) (weak_trans (weak_room 2 rfl rfl) (weak_room 1 rfl rfl)) ?_
          refine ghs 3 (by kernel_rfl) rfl rfl rfl (listed' := #[true, true, true, true]) rfl (run_store_flat 2 (f := boolCells) wide_bool rfl rfl szBools (by rw [traceK_len]) rfl (by rw [traceK_len, traceK_len]) rfl) (weak_trans (weak_room 2 rfl rfl) (weak_room 1 rfl rfl)) ?_
          refine ghd_done (by kernel_rfl) ?_
          refine hN29 _ _ ?_
          refine gT [box b1 _, box b2 _, box b3 _, box _ _, box _ _] rfl ?_
          refine gfrom [(2, .pointer _), (3, .pointer _)] ⟨rfl, rfl, trivial⟩ fun σ => ?_
          refine gret fun w1 hM => ?_
          refine ⟨_, res2 rfl (rc 1 (cs := (traceP (pls hs) 130).flatMap intCells) hM rfl rfl saInts szInts (by rw [flat_len (size := 1) (fun _ => rfl), traceP_len])) (rc 2 (cs := (traceK (pls hs) 130).flatMap boolCells) hM rfl rfl saBools szBools (by rw [flat_len (size := 1) (fun _ => rfl), traceK_len])), ?_⟩
          exact ⟨rfl, hM.low⟩
end Go.Proofs.Ytbaojdiccikbiaa
