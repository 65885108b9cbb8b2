/- walks, printed by program -/
import Derived.Test.YtbaojdiccikbiaaPatchB
namespace Go.Proofs.Ytbaojdiccikbiaa
open Go.RowKit Go.Cf
set_option maxRecDepth 10000

theorem bd43_0_1_2 (x1 : Int) (x2 : Option Addr) (x2l x2c : Nat) (x3 : Option Addr) (x3l x3c : Nat) : Try.prog.built 43 [(0, .int .i64 x1), (1, .slice x2 x2l x2c), (2, .slice x3 x3l x3c)] = some #[.int .i64 x1, .slice x2 x2l x2c, .slice x3 x3l x3c] := by kernel_rfl
theorem bd25_0 (x1 : Option Addr) (x1l x1c : Nat) : Try.prog.built 25 [(0, .slice x1 x1l x1c)] = some #[.slice x1 x1l x1c] := by kernel_rfl

theorem exPat {w0 w : World} {T : List Reg} {b7 b8 b10 : Nat} (hM : Mem w0 T w) (h0 : T[0]? = some (box b7 (.cells #[.string ⟨#[98]⟩] 9))) (h1 : T[1]? = some (box b8 (.cells #[.string ⟨#[120]⟩, .string ⟨#[121]⟩] 9)))
    (h2 : T[2]? = some (box b10 (.cells #[.int .i64 1, .slice (some ⟨b7, 0, none⟩) 1 1, .slice (some ⟨b8, 0, none⟩) 2 2] 43))) : PatR w 0 (some ⟨b10, 0, none⟩) 1 [⟨⟨1, [⟨#[98]⟩], [⟨#[120]⟩, ⟨#[121]⟩]⟩, some ⟨b7, 0, none⟩, 1, some ⟨b8, 0, none⟩, 2⟩] := by
  refine ⟨Rdl.mono (Rdl.of_box 2 (f := hunkCells) (fun _ => rfl) hM h2 rfl) (Nat.zero_le _), ?_, SB.lit 1 (by decide) (by decide)⟩
  intro h hh
  obtain rfl := List.mem_singleton.1 hh
  exact ⟨Rdl.mono (Rdl.of_box 0 (f := strCells) (fun _ => rfl) hM h0 rfl) (Nat.zero_le _), Rdl.mono (Rdl.of_box 1 (f := strCells) (fun _ => rfl) hM h1 rfl) (Nat.zero_le _), SB.lit 1 (by decide) (by decide), SB.lit 2 (by decide) (by decide), (by show In64 1; unfold In64; decide)⟩
set_option maxHeartbeats 1000000 in
theorem anchorExample_any (w : World) : Calls Try.prog 15 #[] w fun e w' => e = .returned (.bool true) ∧ Below w.heap.size w w' := by
  refine gcalls Try.func15 rfl Try.ntmps15 (Nat.le_of_ble_eq_true rfl) ?_
  refine gfrom [] trivial fun σ => ?_
  refine gseq fun N1 hN1 => ?_
  refine greg ?_
  refine gop (y_assign (v := .bool _) rfl) rfl rfl rfl ?_
  refine gops_nil ?_
  refine hN1 _ _ ?_
  refine gfrom [] trivial fun σ => ?_
  refine gseq fun N2 hN2 => ?_
  refine greg ?_
  refine gop_lit (vs := [.string _]) (cells := #[_]) Try.underlying41 Try.sizeOf9 Try.zeroValue9 rfl (by decide) (by decide) rfl rfl rfl rfl (fun b7 hb7 => ?_)
  refine gop_lit (vs := [.string _, .string _]) (cells := #[_, _]) Try.underlying41 Try.sizeOf9 Try.zeroValue9 rfl (by decide) (by decide) rfl rfl rfl rfl (fun b8 hb8 => ?_)
  refine gop (y_build (vs := [(0, _), (1, .slice (some _) _ _), (2, .slice (some _) _ _)]) (cells := #[_, _, _]) rfl (bd43_0_1_2 _ _ _ _ _ _ _)) rfl rfl rfl ?_
  refine gop_lit (vs := [.agg #[_, _, _]]) (cells := #[_, _, _]) Try.underlying23 Try.sizeOf43 Try.zeroValue43 rfl (by decide) (by decide) rfl rfl rfl rfl (fun b10 hb10 => ?_)
  refine gop (y_build (vs := [(0, .slice (some _) _ _)]) (cells := #[_]) rfl (bd25_0 _ _ _)) rfl rfl rfl ?_
  refine gop_alloc (cs := #[.slice none 0 0]) Try.zeroValue25 rfl rfl (fun b1 hb1 => ?_)
  refine gop_store 3 (v := .agg #[_]) (cs' := #[_]) rfl rfl Try.sizeOf25 rfl rfl rfl rfl (Nat.le_of_ble_eq_true rfl) rfl rfl ?_
  refine gops_nil ?_
  refine hN2 _ _ ?_
  refine gT [box b7 _, box b8 _, box b10 _, box b1 _] rfl ?_
  refine gfrom [(1, .pointer _)] ⟨rfl, trivial⟩ fun σ => ?_
  refine gseq fun N3 hN3 => ?_
  refine greg ?_
  refine gop (y_loads (cs := [_]) Try.isAgg25 Try.sizeOf25 rfl rfl (cells_box 3 rfl)) rfl rfl rfl ?_
  refine gop_pure (e_call (vs := [.agg #[_], _]) Try.func20 rfl (by kernel_rfl) rfl) (fun w hM => (map_any w _ _ [⟨⟨1, [⟨#[98]⟩], [⟨#[120]⟩, ⟨#[121]⟩]⟩, some ⟨b7, 0, none⟩, 1, some ⟨b8, 0, none⟩, 2⟩] (exPat hM rfl rfl rfl) 2 : Calls Try.prog _ _ _ fun e w' => e = .returned (.tuple #[.int .i64 (mapV exP 2).1, .bool (mapV exP 2).2, fv (mapF exP 2)]) ∧ Below w.heap.size w w')) rfl rfl rfl ?_
  refine gop (y_move (v := .tuple #[.int _ _, .bool _, .agg #[_, _]]) rfl) rfl rfl rfl ?_
  refine gop (y_extract (v := .int _ _) rfl rfl) rfl rfl rfl ?_
  refine gop (y_extract (v := .bool _) rfl rfl) rfl rfl rfl ?_
  refine gop (y_extract (v := .agg #[_, _]) rfl rfl) rfl rfl rfl ?_
  refine gop_alloc (cs := #[.int .i64 0, .int .i64 0]) Try.zeroValue27 rfl rfl (fun b4 hb4 => ?_)
  refine gop (y_assign (v := .int _ _) rfl) rfl rfl rfl ?_
  refine gop (y_assign (v := .bool _) rfl) rfl rfl rfl ?_
  refine gop_store 4 (v := .agg #[_, _]) (cs' := #[_, _]) rfl rfl Try.sizeOf27 rfl rfl rfl rfl (Nat.le_of_ble_eq_true rfl) rfl rfl ?_
  refine gops_nil ?_
  refine hN3 _ _ ?_
  refine gT [box b7 _, box b8 _, box b10 _, box b1 _, box b4 _] rfl ?_
  refine gfrom [(1, .pointer _), (2, .int _ _), (3, .bool _), (4, .pointer _)] ⟨rfl, rfl, rfl, rfl, trivial⟩ fun σ => ?_
  refine gseq fun N4 hN4 => ?_
  refine greg ?_
  refine gop (y_loads (cs := [_]) Try.isAgg25 Try.sizeOf25 rfl rfl (cells_box 3 rfl)) rfl rfl rfl ?_
  refine gop_new (fun lo ws v => ∃ v1, v = .tuple #[v1, fv (keptF exP 3)] ∧ NewL 1 intCells (keptR exP 3) lo ws v1) (e_call (vs := [.agg #[_], _]) Try.func14 rfl (by kernel_rfl) rfl) (fun w hM => by have hc := kept_any w _ _ [⟨⟨1, [⟨#[98]⟩], [⟨#[120]⟩, ⟨#[121]⟩]⟩, some ⟨b7, 0, none⟩, 1, some ⟨b8, 0, none⟩, 2⟩] (exPat hM rfl rfl rfl) 3; exact hc.mono fun _ _ ⟨v, h1, h2, h3⟩ => ⟨_, h1, h2, v, rfl, h3⟩) rfl rfl rfl ?_
  rintro _ lo20 ws20 hlo20 ⟨_, rfl, A20, c20, rfl, hcc20, hcm20, hr20⟩
  refine gop (y_move (v := .tuple #[.slice _ _ _, .agg #[_, _]]) rfl) rfl rfl rfl ?_
  refine gop (y_extract (v := .slice _ _ _) rfl rfl) rfl rfl rfl ?_
  refine gop (y_extract (v := .agg #[_, _]) rfl rfl) rfl rfl rfl ?_
  refine gop_alloc (cs := #[.int .i64 0, .int .i64 0]) Try.zeroValue27 rfl rfl (fun b6 hb6 => ?_)
  refine gop (y_assign (v := .slice _ _ _) rfl) rfl rfl rfl ?_
  refine gop_store 6 (v := .agg #[_, _]) (cs' := #[_, _]) rfl rfl Try.sizeOf27 rfl rfl rfl rfl (Nat.le_of_ble_eq_true rfl) rfl rfl ?_
  refine gops_nil ?_
  refine hN4 _ _ ?_
  refine gT [box b7 _, box b8 _, box b10 _, box b1 _, box b4 _, seal_ _ _, box b6 _] rfl ?_
  refine gfrom [(2, .int _ _), (3, .bool _), (4, .pointer _), (5, .slice _ _ _), (6, .pointer _)] ⟨rfl, rfl, rfl, rfl, rfl, trivial⟩ fun σ => ?_
  refine gseq fun N5 hN5 => ?_
  refine greg ?_
  refine gop (y_move (v := .int _ _) rfl) rfl rfl rfl ?_
  refine gop (y_eql rfl rfl) rfl rfl rfl ?_
  refine gop (y_move (v := .bool _) rfl) rfl rfl rfl ?_
  refine gop_if (want := true) rfl rfl rfl rfl rfl rfl (fun hg25 => ?_) (fun hg25 => ?_)
  · -- guard 25 on
    have hg25d := of_decide_eq_true hg25
    refine gop (y_bare (y_move (v := .bool _) rfl)) rfl rfl rfl ?_
    refine gop (y_pick_t (v := .bool _) rfl hg25 rfl) rfl rfl rfl ?_
    refine gop (y_move (v := .bool _) rfl) rfl rfl rfl ?_
    refine gop_if (want := true) rfl rfl rfl rfl rfl rfl (fun hg28 => ?_) (fun hg28 => ?_)
    · -- guard 28 on
      have hg28d := hg28
      refine gop (y_bare (y_fieldAddr_box fa27_0 rfl)) rfl rfl rfl ?_
      refine gop_on rfl rfl rfl rfl hg28 ?_
      refine gop (y_bare (y_load Try.isAgg3 rfl (cell_box 4 rfl rfl))) rfl rfl rfl ?_
      refine gop_on rfl rfl rfl rfl hg28 ?_
      refine gop (y_bare (y_eql rfl rfl)) rfl rfl rfl ?_
      refine gop (y_pick_t (v := .bool _) rfl hg28 rfl) rfl rfl rfl ?_
      refine gop (y_move (v := .bool _) rfl) rfl rfl rfl ?_
      refine gop_if (want := true) rfl rfl rfl rfl rfl rfl (fun hg33 => ?_) (fun hg33 => ?_)
      · -- guard 33 on
        have hg33d := of_decide_eq_true hg33
        refine gop (y_bare (y_fieldAddr_box fa27_0 rfl)) rfl rfl rfl ?_
        refine gop_on rfl rfl rfl rfl hg33 ?_
        refine gop (y_bare (y_load Try.isAgg3 rfl (cell_box 6 rfl rfl))) rfl rfl rfl ?_
        refine gop_on rfl rfl rfl rfl hg33 ?_
        refine gop (y_bare (y_eql rfl rfl)) rfl rfl rfl ?_
        refine gop (y_pick_t (v := .bool _) rfl hg33 rfl) rfl rfl rfl ?_
        refine gop (y_move (v := .bool _) rfl) rfl rfl rfl ?_
        refine gop_if (want := true) rfl rfl rfl rfl rfl rfl (fun hg38 => ?_) (fun hg38 => ?_)
        · -- guard 38 on
          have hg38d := of_decide_eq_true hg38
          refine gop (y_bare (y_move (v := .slice _ _ _) rfl)) rfl rfl rfl ?_
          refine gop_on rfl rfl rfl rfl hg38 ?_
          refine gop_lit (vs := [.int _ _, .int _ _, .int _ _]) (cells := #[_, _, _]) Try.underlying30 Try.sizeOf3 Try.zeroValue3 rfl (by decide) (by decide) rfl rfl rfl rfl (fun b40 hb40 => ?_)
          refine gop_on rfl rfl rfl rfl hg38 ?_
          refine gop_pure (e_call (vs := [.slice _ _ _, .slice (some _) _ _]) Try.func31 rfl (by kernel_rfl) rfl) (fun w hM => sameInts_any w _ _ _ _ (keptR exP 3) [0, -1, 3] ((hr20.seal_ 5 rfl (Nat.le_refl _) hM).mono (Nat.zero_le _)) (Rdl.mono (Rdl.of_box 7 (f := intCells) (fun _ => rfl) hM rfl rfl) (Nat.zero_le _)) (by decide +kernel)) rfl rfl rfl ?_
          refine gop (y_pick_t (v := .bool _) rfl hg38 rfl) rfl rfl rfl ?_
          refine gop (y_assign (v := .bool _) rfl) rfl rfl rfl ?_
          refine gops_nil ?_
          refine hN5 _ _ ?_
          refine gT [box b7 _, box b8 _, box b10 _, box b1 _, box b4 _, seal_ _ _, box b6 _, box b40 _] rfl ?_
          refine gfrom [(0, .bool _)] ⟨rfl, trivial⟩ fun σ => ?_
          refine gret fun w1 hM => ?_
          refine ⟨_, res1 rfl (rt (v := .bool _) rfl), ?_⟩
          exact ⟨by simp [ex_keptR], hM.low⟩
        · -- guard 38 off
          simp [ex_keptF] at hg38
      · -- guard 33 off
        simp [ex_mapF] at hg33
    · -- guard 28 off
      simp [ex_mapV] at hg28
  · -- guard 25 off
    simp [ex_mapV] at hg25
end Go.Proofs.Ytbaojdiccikbiaa
