/- walks, printed by program -/
import Derived.Test.YtbaojdiccikbiaaInvA
import Derived.Test.YtbaojdiccikbiaaPatchE
namespace Go.Proofs.Ytbaojdiccikbiaa
open Go.RowKit Go.Cf
set_option maxRecDepth 10000



set_option maxHeartbeats 1000000 in
theorem mapBack_any (w : World) (A : Option Addr) (c : Nat) (hs : List HunkC) (hp : PatR w 0 A c hs) (line : Int) : Calls Try.prog 21 #[.agg #[.slice A hs.length c], .int .i64 line] w fun e w' => e = .returned (.tuple #[.int .i64 (backV (pls hs) line).1, .bool (backV (pls hs) line).2, fv (backF (pls hs) line)]) ∧ Below w.heap.size w w' := by
  refine gcalls Try.func21 rfl Try.ntmps21 (Nat.le_of_ble_eq_true rfl) ?_
  refine gfrom [(0, .agg #[_]), (1, .int _ _)] ⟨rfl, rfl, trivial⟩ fun σ => ?_
  refine gseq fun N1 hN1 => ?_
  refine greg ?_
  refine gop_box (v := .agg #[_]) (cs := #[_]) rfl rfl rfl (fun b2 hb2 => ?_)
  refine gop (y_assign (v := .int _ _) rfl) rfl rfl rfl ?_
  refine gop (y_assign (v := .bool _) rfl) rfl rfl rfl ?_
  refine gop_alloc (cs := #[.int .i64 0, .int .i64 0]) Try.zeroValue27 rfl rfl (fun b6 hb6 => ?_)
  refine gops_nil ?_
  refine hN1 _ _ ?_
  refine gT [box b2 _, box b6 _] rfl ?_
  refine gfrom [(1, .int _ _), (2, .pointer _), (6, .pointer _)] ⟨rfl, rfl, rfl, trivial⟩ fun σ => ?_
  refine gseq fun N2 hN2 => ?_
  refine greg ?_
  refine gop (y_loads (cs := [_]) Try.isAgg25 Try.sizeOf25 rfl rfl (cells_box 0 rfl)) rfl rfl rfl ?_
  refine gop_new (fun lo ws v => ∃ A1 c1 h1, v = .tuple #[.agg #[.slice A1 h1.length c1], fv (invF (pls hs))] ∧ PatR ws lo A1 c1 h1 ∧ pls h1 = invR (pls hs)) (e_call (vs := [.agg #[_]]) Try.func37 rfl (by kernel_rfl) rfl) (fun w hM => (invert_any w _ _ hs (PatR.lasts.base hp hM)).mono fun _ _ ⟨A1, c1, h1, e1, e2, e3, e4⟩ => ⟨_, e1, e2, A1, c1, h1, rfl, e3, e4⟩) rfl rfl rfl ?_
  rintro _ lo11 ws11 hlo11 ⟨A1, c1, h1, rfl, hp1, hpl1⟩
  refine gop (y_move (v := .tuple #[.agg #[.slice _ _ _], .agg #[_, _]]) rfl) rfl rfl rfl ?_
  refine gop (y_extract (v := .agg #[_]) rfl rfl) rfl rfl rfl ?_
  refine gop (y_extract (v := .agg #[_, _]) rfl rfl) rfl rfl rfl ?_
  refine gop_alloc (cs := #[.slice none 0 0]) Try.zeroValue25 rfl rfl (fun b7 hb7 => ?_)
  refine gop_alloc (cs := #[.int .i64 0, .int .i64 0]) Try.zeroValue27 rfl rfl (fun b8 hb8 => ?_)
  refine gop_store 3 (v := .agg #[_]) (cs' := #[_]) rfl rfl Try.sizeOf25 rfl rfl rfl rfl (Nat.le_of_ble_eq_true rfl) rfl rfl ?_
  refine gop_store 4 (v := .agg #[_, _]) (cs' := #[_, _]) rfl rfl Try.sizeOf27 rfl rfl rfl rfl (Nat.le_of_ble_eq_true rfl) rfl rfl ?_
  refine gops_nil ?_
  refine hN2 _ _ ?_
  refine gT [box b2 _, box b6 _, seal_ _ _, box b7 _, box b8 _] rfl ?_
  refine gfrom [(1, .int _ _), (6, .pointer _), (7, .pointer _), (8, .pointer _)] ⟨rfl, rfl, rfl, rfl, trivial⟩ fun σ => ?_
  refine gseq fun N3 hN3 => ?_
  refine gseq fun N4 hN4 => ?_
  refine greg ?_
  refine gop (y_loads (cs := [_, _]) Try.isAgg27 Try.sizeOf27 rfl rfl (cells_box 4 rfl)) rfl rfl rfl ?_
  refine gop (y_build (vs := []) (cells := #[.int .i64 0, .int .i64 0]) rfl bd27_) rfl rfl rfl ?_
  refine gop (y_bin (vx := .agg #[_, _]) (vy := .agg #[_, _]) rfl rfl (fun w => eg27 _ _ _ _ _ w) (fun w => ne27 _ _ _ _ w)) rfl rfl rfl ?_
  refine gops_nil ?_
  refine hN4 _ _ ?_
  refine gfrom [(1, .int _ _), (6, .pointer _), (7, .pointer _), (8, .pointer _), (16, .bool _)] ⟨rfl, rfl, rfl, rfl, rfl, trivial⟩ fun σ => ?_
  refine gcond (b := _) rfl (fun hc16 => ?_) (fun hc16 => ?_)
  · -- slot 16 t
    replace hc16 := fault_ne.1 hc16
    refine gseq fun N5 hN5 => ?_
    refine greg_e1 [] [(1, room b6 27 2)] (by kernel_rfl) ?_
    refine ge_take 0 (TK := [box b2 _, room b6 27 2, seal_ _ _, box b7 _, box b8 _]) rfl (by kernel_rfl) (by kernel_rfl) (by kernel_rfl) #[false, true, true, false] (by kernel_rfl) rfl (y_loads (cs := [_, _]) Try.isAgg27 Try.sizeOf27 rfl rfl (cells_box 4 rfl)) rfl rfl rfl (weak_room 1 rfl rfl) (listed' := #[true, false, false, false]) rfl ?_
    refine ge_take 1 (TK := [box b2 _, room b6 27 2, seal_ _ _, box b7 _, box b8 _]) rfl (by kernel_rfl) (by kernel_rfl) (by kernel_rfl) #[true, false, false, false] (by kernel_rfl) rfl (y_assign (v := .int _ _) rfl) rfl rfl rfl (weak_room 1 rfl rfl) (listed' := #[true, true, false, false]) rfl ?_
    refine ge_take 2 (TK := [box b2 _, room b6 27 2, seal_ _ _, box b7 _, box b8 _]) rfl (by kernel_rfl) (by kernel_rfl) (by kernel_rfl) #[true, true, false, false] (by kernel_rfl) rfl (y_assign (v := .bool _) rfl) rfl rfl rfl (weak_room 1 rfl rfl) (listed' := #[true, true, true, false]) rfl ?_
    refine ge_one 3 (k' := 0) (listed' := #[true, true, true, true]) (by kernel_rfl) rfl rfl rfl ?_
    refine gop_store 1 (v := .agg #[_, _]) (cs' := #[_, _]) rfl rfl Try.sizeOf27 rfl rfl rfl rfl (Nat.le_of_ble_eq_true rfl) rfl rfl ?_
    refine gops_nil ?_
    refine ge_fin (TK := [box b2 _, room b6 27 2, seal_ _ _, box b7 _, box b8 _]) rfl (weak_room 1 rfl rfl) ?_
    refine ge_done (by kernel_rfl) ?_
    refine hN5 _ _ ?_
    refine gT [box b2 _, box b6 _, seal_ _ _, box b7 _, box b8 _] rfl ?_
    refine gfrom [(4, .int _ _), (5, .bool _), (6, .pointer _)] ⟨rfl, rfl, rfl, trivial⟩ fun σ => ?_
    refine gret fun w1 hM => ?_
    refine ⟨_, res3 rfl (rt (v := .int _ _) rfl) (rt (v := .bool _) rfl) (rc 1 (cs := [_, _]) hM rfl rfl Try.isAgg27 Try.sizeOf27 rfl), ?_⟩
    exact ⟨by rw [backF, backV, if_pos hc16, if_pos hc16], hM.low⟩
  · -- slot 16 f
    replace hc16 := fault_eq.1 hc16
    have hR : pls h1 = inv (pls hs) := by rw [hpl1, invR, if_pos hc16]
    refine gskip ?_
    refine hN3 _ _ ?_
    refine gfrom [(1, .int _ _), (6, .pointer _), (7, .pointer _)] ⟨rfl, rfl, rfl, trivial⟩ fun σ => ?_
    refine gseq fun N6 hN6 => ?_
    refine greg ?_
    refine gop (y_loads (cs := [_]) Try.isAgg25 Try.sizeOf25 rfl rfl (cells_box 3 rfl)) rfl rfl rfl ?_
    refine gop (y_move (v := .int _ _) rfl) rfl rfl rfl ?_
    refine gop_pure (e_call (vs := [.agg #[_], .int _ _]) Try.func20 rfl (by kernel_rfl) rfl) (fun w hM => map_any w _ _ h1 (PatR.mono (PatR.lasts.seal_ 2 rfl hp1 (Nat.le_refl _) hM) (Nat.zero_le _)) line) rfl rfl rfl ?_
    refine gop (y_extract (v := .int _ _) rfl rfl) rfl rfl rfl ?_
    refine gop (y_extract (v := .bool _) rfl rfl) rfl rfl rfl ?_
    refine gop (y_extract (v := .agg #[_, _]) rfl rfl) rfl rfl rfl ?_
    refine gop (y_assign (v := .int _ _) rfl) rfl rfl rfl ?_
    refine gop (y_assign (v := .bool _) rfl) rfl rfl rfl ?_
    refine gop_store 1 (v := .agg #[_, _]) (cs' := #[_, _]) rfl rfl Try.sizeOf27 rfl rfl rfl rfl (Nat.le_of_ble_eq_true rfl) rfl rfl ?_
    refine gops_nil ?_
    refine hN6 _ _ ?_
    refine gT [box b2 _, box b6 _, seal_ _ _, box b7 _, box b8 _] rfl ?_
    refine gfrom [(4, .int _ _), (5, .bool _), (6, .pointer _)] ⟨rfl, rfl, rfl, trivial⟩ fun σ => ?_
    refine gret fun w1 hM => ?_
    refine ⟨_, res3 rfl (rt (v := .int _ _) rfl) (rt (v := .bool _) rfl) (rc 1 (cs := [_, _]) hM rfl rfl Try.isAgg27 Try.sizeOf27 rfl), ?_⟩
    exact ⟨by rw [hR, backF, backV, if_neg (by simp [hc16]), if_neg (by simp [hc16])], hM.low⟩

set_option maxHeartbeats 2000000 in
theorem reversed_any (w : World) (A : Option Addr) (c : Nat) (hs : List HunkC) (hp : PatR w 0 A c hs) (v : PV (pls hs)) :
    Calls Try.prog 22 #[.agg #[.slice A hs.length c]] w fun e w' => ∃ v' T', e = .returned (.tuple #[.agg #[v'], .bool (invOk (pls hs))]) ∧ T' = [rowl hunkCells w.heap.size 43 3 v' (invC hs)] ∧ Mem w T' w' := by
  have hvl : hs.length ≤ 130 := by simpa using v.len
  refine gcalls Try.func22 rfl Try.ntmps22 (Nat.le_of_ble_eq_true rfl) ?_
  refine gfrom [(0, .agg #[_])] ⟨rfl, trivial⟩ fun σ => ?_
  refine gseq fun N1 hN1 => ?_
  refine greg ?_
  refine gop_box (v := .agg #[_]) (cs := #[_]) rfl rfl rfl (fun b1 hb1 => ?_)
  refine gop_alloc (cs := #[.slice none 0 0]) Try.zeroValue25 rfl rfl (fun b2 hb2 => ?_)
  refine gop (y_assign (v := .bool _) rfl) rfl rfl rfl ?_
  refine gops_nil ?_
  refine hN1 _ _ ?_
  refine gT [box b1 _, box b2 _] rfl ?_
  refine gfrom [(1, .pointer _), (2, .pointer _)] ⟨rfl, rfl, trivial⟩ fun σ => ?_
  refine gseq fun N2 hN2 => ?_
  refine greg ?_
  refine gop_alloc (cs := #[.slice none 0 0]) Try.zeroValue25 rfl rfl (fun b4 hb4 => ?_)
  refine gops_nil ?_
  refine hN2 _ _ ?_
  refine gT [box b1 _, box b2 _, box b4 _] rfl ?_
  refine gfrom [(1, .pointer _), (2, .pointer _), (4, .pointer _)] ⟨rfl, rfl, rfl, trivial⟩ fun σ => ?_
  refine gseq fun N3 hN3 => ?_
  refine greg ?_
  refine gop (y_loads (cs := [_]) Try.isAgg25 Try.sizeOf25 rfl rfl (cells_box 0 rfl)) rfl rfl rfl ?_
  refine gop_pure (e_call (vs := [.agg #[_]]) Try.func19 rfl (by kernel_rfl) rfl) (fun w hM => trace_any w _ _ hs (PatR.lasts.base hp hM) v) rfl rfl rfl ?_
  refine gop (y_move (v := .tuple #[.agg _, .agg _]) rfl) rfl rfl rfl ?_
  refine gop (y_extract (v := .agg _) rfl rfl) rfl rfl rfl ?_
  refine gop (y_extract (v := .agg _) rfl rfl) rfl rfl rfl ?_
  refine gop_alloc (cs := ((List.replicate 130 (0 : Int)).flatMap intCells).toArray) zvInts rfl rfl (fun b5 hb5 => ?_)
  refine gop_alloc (cs := ((List.replicate 130 false).flatMap boolCells).toArray) zvBools rfl rfl (fun b6 hb6 => ?_)
  refine gop_store_flat 3 (f := intCells) wide_int rfl rfl szInts (by rw [traceP_len]) rfl (by rw [traceP_len]; rfl) rfl ?_
  refine gop_store_flat 4 (f := boolCells) wide_bool rfl rfl szBools (by rw [traceK_len]) rfl (by rw [traceK_len]; rfl) rfl ?_
  refine gops_nil ?_
  refine hN3 _ _ ?_
  refine gT [box b1 _, box b2 _, box b4 _, box b5 _, box b6 _] rfl ?_
  refine gfrom [(1, .pointer _), (2, .pointer _), (4, .pointer _), (5, .pointer _)] ⟨rfl, rfl, rfl, rfl, trivial⟩ fun σ => ?_
  refine gseq fun N4 hN4 => ?_
  refine greg ?_
  refine gop (y_assign (v := .bool _) rfl) rfl rfl rfl ?_
  refine gops_nil ?_
  refine hN4 _ _ ?_
  refine gfrom [(1, .pointer _), (2, .pointer _), (4, .pointer _), (5, .pointer _), (7, .bool _)] ⟨rfl, rfl, rfl, rfl, rfl, trivial⟩ fun σ => ?_
  refine gseq fun N5 hN5 => ?_
  refine gseq fun N6 hN6 => ?_
  refine greg ?_
  refine gop (y_assign (v := .int _ _) rfl) rfl rfl rfl ?_
  refine gops_nil ?_
  refine hN6 _ _ ?_
  refine gfrom [(1, .pointer _), (2, .pointer _), (4, .pointer _), (5, .pointer _), (7, .bool _), (8, .int _ _)] ⟨rfl, rfl, rfl, rfl, rfl, rfl, trivial⟩ fun σ => ?_
  refine gblock ?_
  refine gnilrow hunkCells 43 3 ?_
  refine gfrom2 [(7, .bool _), (8, .int _ _)] [(1, .pointer _), (2, .pointer _), (4, .pointer _), (5, .pointer _)] ⟨rfl, rfl, trivial⟩ ⟨rfl, rfl, rfl, rfl, trivial⟩ fun σ => ?_
  refine gloop2 (G := Nat × Option Addr × Nat) (fun (k, Av, cv) => k ≤ hs.length) (fun (k, Av, cv) => hs.length - k) (fun (k, Av, cv) => [(7, .bool (okK (pls hs) k)), (8, .int .i64 (k : Int))]) (fun (k, Av, cv) => [(2, box b4 (.cells #[.slice Av ((invC hs).take k).length cv] 25)), (5, rowl hunkCells w.heap.size 43 3 (.slice Av ((invC hs).take k).length cv) ((invC hs).take k))]) ((0, none, 0)) ?h0 ⟨rfl, rfl, trivial⟩ ⟨rfl, rfl, rfl, rfl, trivial⟩ rfl ?round
  case h0 => exact Nat.zero_le _
  case round =>
    rintro ⟨k, Av, cv⟩ hφ σ
    have hk : k ≤ hs.length := hφ
    refine gT [box b1 _, box b2 _, box b4 _, box b5 _, box b6 _, rowl _ _ _ _ _ _] rfl ?_
    refine gseq fun N7 hN7 => ?_
    refine gseq fun N8 hN8 => ?_
    refine greg ?_
    refine gop (y_move (v := .int _ _) rfl) rfl rfl rfl ?_
    refine gop (y_fieldAddr_box fa25_0 rfl) rfl rfl rfl ?_
    refine gop (y_load Try.isAgg23 rfl (cell_box 0 rfl rfl)) rfl rfl rfl ?_
    refine gop (y_len Try.underlying23 rfl) rfl rfl rfl ?_
    refine gop (y_lss rfl rfl) rfl rfl rfl ?_
    refine gops_nil ?_
    refine hN8 _ _ ?_
    refine gfrom [(1, .pointer _), (2, .pointer _), (4, .pointer _), (5, .pointer _), (7, .bool _), (8, .int _ _), (20, .bool _)] ⟨rfl, rfl, rfl, rfl, rfl, rfl, rfl, trivial⟩ fun σ => ?_
    refine gcond (b := _) rfl (fun hc20 => ?_) (fun hc20 => ?_)
    · -- slot 20 t
      replace hc20 := of_decide_eq_true hc20
      have hk1 : k < hs.length := by omega
      have hk2 : k < (pls hs).length := by simpa using hk1
      obtain ⟨ad, rfl, -, hcv⟩ := hp.rd.at_ hk1
      have hB := v.hb k hk2
      have hPH := place_hunk v hk2
      rw [List.getElem_map] at hB hPH
      have hB1 := hB.lo
      have hB2 := hB.hi
      have hB3 := hB.old
      have hB4 := hB.new
      have hgb := gsum_bd v.each k (by omega)
      have hts : (invC hs).take k ++ [swapC (gsum (pls hs) k) hs[k]] = (invC hs).take (k + 1) := by rw [List.take_succ_eq_append_getElem (by rw [invC_len]; exact hk1)]; simp [invC]
      refine gskip ?_
      refine hN7 _ _ ?_
      refine gfrom [(1, .pointer _), (2, .pointer _), (4, .pointer _), (5, .pointer _), (7, .bool _), (8, .int _ _)] ⟨rfl, rfl, rfl, rfl, rfl, rfl, trivial⟩ fun σ => ?_
      refine gseq fun N9 hN9 => ?_
      refine gblock ?_
      refine gseq fun N10 hN10 => ?_
      refine greg ?_
      refine gop (y_fieldAddr_box fa25_0 rfl) rfl rfl rfl ?_
      refine gop (y_load Try.isAgg23 rfl (cell_box 0 rfl rfl)) rfl rfl rfl ?_
      refine gop (y_move (v := .int _ _) rfl) rfl rfl rfl ?_
      refine gop (y_indexAddr Try.underlying23 Try.sizeOf43 rfl rfl rfl (by omega) (by omega)) rfl rfl rfl ?_
      refine gop (y_loads (cs := [_, _, _]) Try.isAgg43 Try.sizeOf43 rfl rfl (cells_base hcv)) rfl rfl rfl ?_
      refine gop_alloc (cs := #[.int .i64 0, .slice none 0 0, .slice none 0 0]) Try.zeroValue43 rfl rfl (fun b9 hb9 => ?_)
      refine gop_store 6 (v := .agg #[_, _, _]) (cs' := #[_, _, _]) rfl rfl Try.sizeOf43 rfl rfl rfl rfl (Nat.le_of_ble_eq_true rfl) rfl rfl ?_
      refine gops_nil ?_
      refine hN10 _ _ ?_
      refine gT [box b1 _, box b2 _, box b4 _, box b5 _, box b6 _, rowl _ _ _ _ _ _, box b9 _] rfl ?_
      refine gfrom [(1, .pointer _), (2, .pointer _), (4, .pointer _), (5, .pointer _), (7, .bool _), (8, .int _ _), (9, .pointer _)] ⟨rfl, rfl, rfl, rfl, rfl, rfl, rfl, trivial⟩ fun σ => ?_
      refine gseq fun N11 hN11 => ?_
      refine greg ?_
      refine gop (y_fieldAddr_box fa43_0 rfl) rfl rfl rfl ?_
      refine gop (y_load Try.isAgg3 rfl (cell_box 6 rfl rfl)) rfl rfl rfl ?_
      refine gop (y_assign (v := .int _ _) rfl) rfl rfl rfl ?_
      refine gops_nil ?_
      refine hN11 _ _ ?_
      refine gfrom [(1, .pointer _), (2, .pointer _), (4, .pointer _), (5, .pointer _), (7, .bool _), (8, .int _ _), (9, .pointer _)] ⟨rfl, rfl, rfl, rfl, rfl, rfl, rfl, trivial⟩ fun σ => ?_
      refine gseq fun N12 hN12 => ?_
      refine gfrom [(1, .pointer _), (2, .pointer _), (4, .pointer _), (5, .pointer _), (7, .bool _), (8, .int _ _), (9, .pointer _)] ⟨rfl, rfl, rfl, rfl, rfl, rfl, rfl, trivial⟩ fun σ => ?_
      refine gcut3 (Lf := [(1, .pointer _), (2, .pointer _), (4, .pointer _), (5, .pointer _), (7, .bool _), (8, .int _ _), (9, .pointer _)]) (G := Unit) (fun g => True) (fun g => [(10, .int .i64 (hs[k].pl.at_ + gsum (pls hs) k))]) (fun g => []) ⟨rfl, rfl, rfl, rfl, rfl, rfl, rfl, trivial⟩ ?_ ?_
      ·
        refine gseq fun N13 hN13 => ?_
        refine greg ?_
        refine gop (y_fieldAddr_box fa43_1 rfl) rfl rfl rfl ?_
        refine gop (y_load Try.isAgg41 rfl (cell_box 6 rfl rfl)) rfl rfl rfl ?_
        refine gop (y_len Try.underlying41 rfl) rfl rfl rfl ?_
        refine gop (y_gtr rfl rfl) rfl rfl rfl ?_
        refine gops_nil ?_
        refine hN13 _ _ ?_
        refine gfrom [(1, .pointer _), (2, .pointer _), (4, .pointer _), (5, .pointer _), (7, .bool _), (8, .int _ _), (9, .pointer _), (33, .bool _)] ⟨rfl, rfl, rfl, rfl, rfl, rfl, rfl, rfl, trivial⟩ fun σ => ?_
        refine gcond (b := _) rfl (fun hc33 => ?_) (fun hc33 => ?_)
        · -- slot 33 t
          replace hc33 := of_decide_eq_true hc33
          refine greg ?_
          refine gop (y_fieldAddr_box fa43_0 rfl) rfl rfl rfl ?_
          refine gop (y_load Try.isAgg3 rfl (cell_box 6 rfl rfl)) rfl rfl rfl ?_
          refine gop (y_indexAddr_arr (m := hs[k].pl.at_.toNat) Try.underlying37 Try.sizeOf3 rfl rfl rfl (by omega) (by omega)) rfl rfl rfl ?_
          refine gop (y_load Try.isAgg3 rfl (cell_box 3 rfl (traceP_cell (by omega)))) rfl rfl rfl ?_
          refine gop (y_assign (v := .int _ _) rfl) rfl rfl rfl ?_
          refine gops_nil ?_
          refine gcut3_end (()) (trivial) ⟨(congrArg (Value.int .i64) (by rw [Int.toNat_of_nonneg hB1, hPH, if_neg (by omega)]; omega)), trivial⟩ ⟨rfl, rfl, rfl, rfl, rfl, rfl, rfl, trivial⟩ ⟨_, rfl⟩
        · -- slot 33 f
          replace hc33 := of_decide_eq_false hc33
          refine greg_q (by kernel_rfl) (by kernel_rfl) ?_
          refine gq (y_fieldAddr_box fa43_0 rfl) rfl rfl rfl ?_
          refine gq (y_load Try.isAgg3 rfl (cell_box 6 rfl rfl)) rfl rfl rfl ?_
          refine gq (y_indexAddr_arr (m := hs[k].pl.at_.toNat) Try.underlying37 Try.sizeOf3 rfl rfl rfl (by omega) (by omega)) rfl rfl rfl ?_
          refine gq (y_load Try.isAgg3 rfl (cell_box 3 rfl (traceP_cell (by omega)))) rfl rfl rfl ?_
          refine gq (y_fieldAddr_box fa43_2 rfl) rfl rfl rfl ?_
          refine gq (y_load Try.isAgg41 rfl (cell_box 6 rfl rfl)) rfl rfl rfl ?_
          refine gq (y_len Try.underlying41 rfl) rfl rfl rfl ?_
          refine gq (y_sub rfl rfl (by have := place_bd2 v hk2; unfold In64; rw [List.getElem_map] at this; rw [Int.toNat_of_nonneg hB1]; omega)) rfl rfl rfl ?_
          refine gq (y_assign (v := .int _ _) rfl) rfl rfl rfl ?_
          refine gqs_nil ?_
          refine gcut3_end (()) (trivial) ⟨(congrArg (Value.int .i64) (by rw [Int.toNat_of_nonneg hB1, hPH, if_pos (by omega)]; omega)), trivial⟩ ⟨rfl, rfl, rfl, rfl, rfl, rfl, rfl, trivial⟩ ⟨_, rfl⟩
      ·
        intro g hcut σ
        refine hN12 _ _ ?_
        refine gseq fun N14 hN14 => ?_
        refine gT [box b1 _, box b2 _, box b4 _, box b5 _, box b6 _, rowl _ _ _ _ _ _, box b9 _] rfl ?_
        refine gfrom [(1, .pointer _), (2, .pointer _), (4, .pointer _), (5, .pointer _), (7, .bool _), (8, .int _ _), (9, .pointer _), (10, .int _ _)] ⟨rfl, rfl, rfl, rfl, rfl, rfl, rfl, rfl, trivial⟩ fun σ => ?_
        refine gcut3 (Lf := [(1, .pointer _), (2, .pointer _), (4, .pointer _), (5, .pointer _), (8, .int _ _), (9, .pointer _), (10, .int _ _)]) (G := Unit) (fun g => True) (fun g => [(7, .bool (okK (pls hs) (k + 1)))]) (fun g => []) ⟨rfl, rfl, rfl, rfl, rfl, rfl, rfl, trivial⟩ ?_ ?_
        ·
          refine greg ?_
          refine gop (y_move (v := .bool _) rfl) rfl rfl rfl ?_
          refine gop (y_move (v := .bool _) rfl) rfl rfl rfl ?_
          refine gop_if (want := true) rfl rfl rfl rfl rfl rfl (fun hg47 => ?_) (fun hg47 => ?_)
          · -- guard 47 on
            have hg47d := hg47
            refine gop (y_bare (y_move (v := .int _ _) rfl)) rfl rfl rfl ?_
            refine gop_on rfl rfl rfl rfl hg47 ?_
            refine gop (y_bare (y_fieldAddr_box fa43_2 rfl)) rfl rfl rfl ?_
            refine gop_on rfl rfl rfl rfl hg47 ?_
            refine gop (y_bare (y_load Try.isAgg41 rfl (cell_box 6 rfl rfl))) rfl rfl rfl ?_
            refine gop_on rfl rfl rfl rfl hg47 ?_
            refine gop (y_bare (y_len Try.underlying41 rfl)) rfl rfl rfl ?_
            refine gop_on rfl rfl rfl rfl hg47 ?_
            refine gop (y_bare (y_add rfl rfl ⟨by omega, by omega⟩)) rfl rfl rfl ?_
            refine gop_on rfl rfl rfl rfl hg47 ?_
            refine gop (y_bare (y_leq rfl rfl)) rfl rfl rfl ?_
            refine gop (y_pick_t (v := .bool _) rfl hg47 rfl) rfl rfl rfl ?_
            refine gop (y_assign (v := .bool _) rfl) rfl rfl rfl ?_
            refine gops_nil ?_
            refine gcut3_end (()) (trivial) ⟨(congrArg Value.bool (by rw [okK_succ hk2, hg47, List.getElem_map]; simp)), trivial⟩ ⟨rfl, rfl, rfl, rfl, rfl, rfl, rfl, trivial⟩ ⟨_, rfl⟩
          · -- guard 47 off
            have hg47d := hg47
            refine gop_off rfl rfl rfl rfl hg47 rfl rfl ?_
            refine gop_off rfl rfl rfl rfl hg47 rfl rfl ?_
            refine gop_off rfl rfl rfl rfl hg47 rfl rfl ?_
            refine gop_off rfl rfl rfl rfl hg47 rfl rfl ?_
            refine gop_off rfl rfl rfl rfl hg47 rfl rfl ?_
            refine gop (y_pick_f (v := .bool _) rfl hg47 rfl) rfl rfl rfl ?_
            refine gop (y_assign (v := .bool _) rfl) rfl rfl rfl ?_
            refine gops_nil ?_
            refine gcut3_end (()) (trivial) ⟨(congrArg Value.bool (by rw [okK_succ hk2, hg47]; rfl)), trivial⟩ ⟨rfl, rfl, rfl, rfl, rfl, rfl, rfl, trivial⟩ ⟨_, rfl⟩
        ·
          intro g hcut σ
          refine hN14 _ _ ?_
          refine greg ?_
          refine gop (y_fieldAddr_box fa25_0 rfl) rfl rfl rfl ?_
          refine gop (y_load Try.isAgg23 rfl (cell_box 2 rfl rfl)) rfl rfl rfl ?_
          refine gop (y_move (v := .int _ _) rfl) rfl rfl rfl ?_
          refine gop (y_fieldAddr_box fa43_2 rfl) rfl rfl rfl ?_
          refine gop (y_load Try.isAgg41 rfl (cell_box 6 rfl rfl)) rfl rfl rfl ?_
          refine gop (y_fieldAddr_box fa43_1 rfl) rfl rfl rfl ?_
          refine gop (y_load Try.isAgg41 rfl (cell_box 6 rfl rfl)) rfl rfl rfl ?_
          refine gop (y_build (vs := [(0, .int _ _), (1, .slice _ _ _), (2, .slice _ _ _)]) (cells := #[_, _, _]) rfl (bd43_0_1_2 _ _ _ _ _ _ _)) rfl rfl rfl ?_
          refine gop_lit (vs := [.agg #[_, _, _]]) (cells := #[_, _, _]) Try.underlying23 Try.sizeOf43 Try.zeroValue43 rfl (by decide) (by decide) rfl rfl rfl rfl (fun b63 hb63 => ?_)
          refine gop_append 5 (f := hunkCells) (l2 := [swapC (gsum (pls hs) k) hs[k]]) Try.underlying23 el43 wide_hunk (v := .slice Av _ cv) rfl rfl rfl rfl (fun h => by cases h) (by simp [maxLen, invC_len]; omega) (by simp [invC_len]; omega) (src_box 7 rfl rfl) rfl (fun v64 => ?_)
          refine gops_fact (fun w hM => own_form (hM.own 5 rfl)) ?_
          rintro ⟨A64, c64, rfl, hc64, hm64⟩
          refine gop (y_fieldAddr_box fa25_0 rfl) rfl rfl rfl ?_
          refine gop_store 2 (v := .slice A64 _ c64) (cs' := #[_]) rfl rfl Try.sizeOf23 rfl rfl rfl rfl (Nat.le_of_ble_eq_true rfl) rfl rfl ?_
          refine gops_nil ?_
          refine hN9 _ _ ?_
          refine gT [box b1 _, box b2 _, box b4 _, box b5 _, box b6 _, rowl _ _ _ _ _ _, box b9 _, box b63 _] rfl ?_
          refine gfrom [(1, .pointer _), (2, .pointer _), (4, .pointer _), (5, .pointer _), (7, .bool _), (8, .int _ _)] ⟨rfl, rfl, rfl, rfl, rfl, rfl, trivial⟩ fun σ => ?_
          refine greg ?_
          refine gop (y_move (v := .int _ _) rfl) rfl rfl rfl ?_
          refine gop (y_add rfl rfl ⟨by omega, by omega⟩) rfl rfl rfl ?_
          refine gop (y_assign (v := .int _ _) rfl) rfl rfl rfl ?_
          refine gops_nil ?_
          rw [hts]
          refine gnext2 ((k + 1, A64, c64)) (by show hs.length - (k + 1) < hs.length - k; omega) (show k + 1 ≤ _ by omega) ⟨rfl, rfl, trivial⟩ ⟨rfl, rfl, rfl, rfl, trivial⟩ ⟨_, rfl⟩
    · -- slot 20 f
      replace hc20 := of_decide_eq_false hc20
      have hkk : (invC hs).take k = invC hs := List.take_of_length_le (by rw [invC_len]; omega)
      have hok := okK_all (pls hs) (k := k) (by simp; omega)
      refine gexit ?_
      refine hN5 _ _ ?_
      refine gfrom [(2, .pointer _), (4, .pointer _), (7, .bool _)] ⟨rfl, rfl, rfl, trivial⟩ fun σ => ?_
      refine gseq fun N15 hN15 => ?_
      refine greg ?_
      refine gop (y_loads (cs := [_]) Try.isAgg25 Try.sizeOf25 rfl rfl (cells_box 2 rfl)) rfl rfl rfl ?_
      refine gop (y_move (v := .bool _) rfl) rfl rfl rfl ?_
      refine gop_store 1 (v := .agg #[_]) (cs' := #[_]) rfl rfl Try.sizeOf25 rfl rfl rfl rfl (Nat.le_of_ble_eq_true rfl) rfl rfl ?_
      refine gop (y_assign (v := .bool _) rfl) rfl rfl rfl ?_
      refine gops_nil ?_
      refine hN15 _ _ ?_
      refine gT [box b1 _, box b2 _, box b4 _, box b5 _, box b6 _, rowl _ _ _ _ _ _] rfl ?_
      refine gfrom [(2, .pointer _), (3, .bool _)] ⟨rfl, rfl, trivial⟩ fun σ => ?_
      refine gret fun w1 hM => ?_
      refine ⟨_, res2 rfl (rc 1 (cs := [_]) hM rfl rfl Try.isAgg25 Try.sizeOf25 rfl) (rt (v := .bool _) rfl), ?_⟩
      exact ⟨.slice Av (invC hs).length cv, _, by rw [hkk, hok], rfl, by rw [hkk] at hM; exact hM.dropTo 5 rfl⟩
end Go.Proofs.Ytbaojdiccikbiaa
