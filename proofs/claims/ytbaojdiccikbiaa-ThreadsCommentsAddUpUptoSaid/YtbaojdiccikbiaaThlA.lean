/- walks, printed by program -/
import Derived.Test.YtbaojdiccikbiaaThsC
import Derived.Test.YtbaojdiccikbiaaThl
import Derived.Test.YtbaojdiccikbiaaPatchD
namespace Go.Proofs.Ytbaojdiccikbiaa
open Go.RowKit Go.Cf
set_option maxRecDepth 10000

theorem bd66_0_1_3_4 (x1 : Int) (x2 : Int) (x3 : Int) (x4 : ByteArray) : Try.prog.built 66 [(0, .int .i64 x1), (1, .int .i64 x2), (3, .int .i64 x3), (4, .string x4)] = some #[.int .i64 x1, .int .i64 x2, .int .i64 0, .int .i64 x3, .string x4, .slice none 0 0] := by kernel_rfl
theorem bd43_2 (x1 : Option Addr) (x1l x1c : Nat) : Try.prog.built 43 [(2, .slice x1 x1l x1c)] = some #[.int .i64 0, .slice none 0 0, .slice x1 x1l x1c] := by kernel_rfl
theorem bd66_0_5 (x1 : Int) (x2 : Option Addr) (x2l x2c : Nat) : Try.prog.built 66 [(0, .int .i64 x1), (5, .agg #[.slice x2 x2l x2c])] = some #[.int .i64 x1, .int .i64 0, .int .i64 0, .int .i64 0, .string .empty, .slice x2 x2l x2c] := by kernel_rfl
theorem eq60 (a0 b0 : Int) (a1 b1 : Int) (a2 b2 : Int) (a3 b3 : Bool) (a4 b4 : Bool) (w : World) : (binOp .eql 60 (.agg #[.int .i64 a0, .int .i64 a1, .int .i64 a2, .bool a3, .bool a4]) (.agg #[.int .i64 b0, .int .i64 b1, .int .i64 b2, .bool b3, .bool b4])).run Try.prog w = .ok (.bool ((decide (a0 = b0) && decide (a1 = b1) && decide (a2 = b2) && (a3 == b3) && (a4 == b4)))) w := by
  simp [run_eql_struct, run_equalIn_agg, Try.underlying60, Try.stoodInHeld60, Program.fieldsOf, go_sem]
  (repeat' split) <;> simp_all

theorem exEvs {w0 w : World} {T : List Reg} {b10 b12 b15 : Nat} (hM : Mem w0 T w) (h0 : T[0]? = some (box b10 (.cells #[.string ⟨#[120]⟩] 9))) (h1 : T[1]? = some (box b12 (.cells #[.int .i64 0, .slice none 0 0, .slice (some ⟨b10, 0, none⟩) 1 1] 43)))
    (h2 : T[2]? = some (box b15 (.cells #[.int .i64 1, .int .i64 1, .int .i64 0, .int .i64 1, .string ⟨#[119, 104, 121]⟩, .slice none 0 0, .int .i64 4, .int .i64 0, .int .i64 0, .int .i64 0, .string .empty, .slice (some ⟨b12, 0, none⟩) 1 1] 66))) : EvsR w 0 (some ⟨b15, 0, none⟩) [⟨1, 1, 0, 1, ⟨#[119, 104, 121]⟩, none, 0, []⟩, ⟨4, 0, 0, 0, .empty, some ⟨b12, 0, none⟩, 1, [⟨⟨0, [], [⟨#[120]⟩]⟩, none, 0, some ⟨b10, 0, none⟩, 1⟩]⟩] := by
  refine ⟨Rdl.mono (Rdl.of_box 2 (f := evCells) (fun _ => rfl) hM h2 rfl) (Nat.zero_le _), fun e he => ?_⟩
  rcases List.mem_cons.1 he with rfl | he
  · exact ⟨PatR.nil⟩
  · obtain rfl := List.mem_singleton.1 he
    refine ⟨⟨Rdl.mono (Rdl.of_box 1 (f := hunkCells) (fun _ => rfl) hM h1 rfl) (Nat.zero_le _), fun h hh => ?_, SB.lit 1 (by decide) (by decide)⟩⟩
    obtain rfl := List.mem_singleton.1 hh
    exact ⟨Rdl.nil, Rdl.mono (Rdl.of_box 0 (f := strCells) (fun _ => rfl) hM h0 rfl) (Nat.zero_le _), SB.none _, SB.lit 1 (by decide) (by decide), (by show In64 0; unfold In64; decide)⟩
set_option maxHeartbeats 4000000 in
theorem threadsExample_any (w : World) : Calls Try.prog 27 #[] w fun e w' => e = .returned (.bool true) ∧ Below w.heap.size w w' := by
  refine gcalls Try.func27 rfl Try.ntmps27 (Nat.le_of_ble_eq_true rfl) ?_
  refine gfrom [] trivial fun σ => ?_
  refine gseq fun N1 hN1 => ?_
  refine greg ?_
  refine gop (y_assign (v := .bool _) rfl) rfl rfl rfl ?_
  refine gops_nil ?_
  refine hN1 _ _ ?_
  refine gfrom [] trivial fun σ => ?_
  refine gseq fun N2 hN2 => ?_
  refine greg ?_
  refine gop (y_build (vs := [(0, _), (1, _), (3, _), (4, _)]) (cells := #[_, _, .int .i64 0, _, _, .slice none 0 0]) rfl (bd66_0_1_3_4 _ _ _ _)) rfl rfl rfl ?_
  refine gop_lit (vs := [.string _]) (cells := #[_]) Try.underlying41 Try.sizeOf9 Try.zeroValue9 rfl (by decide) (by decide) rfl rfl rfl rfl (fun b10 hb10 => ?_)
  refine gop (y_build (vs := [(2, .slice (some _) _ _)]) (cells := #[.int .i64 0, .slice none 0 0, _]) rfl (bd43_2 _ _ _)) rfl rfl rfl ?_
  refine gop_lit (vs := [.agg #[_, _, _]]) (cells := #[_, _, _]) Try.underlying23 Try.sizeOf43 Try.zeroValue43 rfl (by decide) (by decide) rfl rfl rfl rfl (fun b12 hb12 => ?_)
  refine gop (y_build (vs := [(0, .slice (some _) _ _)]) (cells := #[_]) rfl (bd25_0 _ _ _)) rfl rfl rfl ?_
  refine gop (y_build (vs := [(0, _), (5, .agg #[_])]) (cells := #[_, .int .i64 0, .int .i64 0, .int .i64 0, .string .empty, _]) rfl (bd66_0_5 _ _ _ _)) rfl rfl rfl ?_
  refine gop_lit (vs := [.agg #[_, _, _, _, _, _], .agg #[_, _, _, _, _, _]]) (cells := #[_, _, _, _, _, _, _, _, _, _, _, _]) Try.underlying54 Try.sizeOf66 Try.zeroValue66 rfl (by decide) (by decide) rfl rfl rfl rfl (fun b15 hb15 => ?_)
  refine gop (y_assign (v := .slice (some _) _ _) rfl) rfl rfl rfl ?_
  refine gops_nil ?_
  refine hN2 _ _ ?_
  refine gT [box b10 _, box b12 _, box b15 _] rfl ?_
  refine gfrom [(1, .slice (some _) _ _)] ⟨rfl, trivial⟩ fun σ => ?_
  refine gseq fun N3 hN3 => ?_
  refine greg ?_
  refine gop_lit (vs := [.string _, .string _]) (cells := #[_, _]) Try.underlying41 Try.sizeOf9 Try.zeroValue9 rfl (by decide) (by decide) rfl rfl rfl rfl (fun b17 hb17 => ?_)
  refine gop (y_move (v := .slice (some _) _ _) rfl) rfl rfl rfl ?_
  refine gop_new (fun lo ws v => ∃ v1 v2, v = .tuple #[v1, v2, fv ⟨0, 0⟩] ∧ NewL 5 thrCells [⟨1, 2, 1, false, false⟩] lo ws v1 ∧ NewL 1 strCells [⟨#[120]⟩, ⟨#[97]⟩, ⟨#[98]⟩] lo ws v2) (e_call (vs := [.slice (some _) _ _, .slice (some _) _ _]) Try.func24 rfl (by kernel_rfl) rfl) (fun w hM => by have hc := run_any w (some ⟨b17, 0, none⟩) 2 exTx (Rdl.mono (Rdl.of_box 3 (f := strCells) (fun _ => rfl) hM rfl rfl) (Nat.zero_le _)) (SB.lit 2 (by decide) (by decide)) (some ⟨b15, 0, none⟩) 2 [⟨1, 1, 0, 1, ⟨#[119, 104, 121]⟩, none, 0, []⟩, ⟨4, 0, 0, 0, .empty, some ⟨b12, 0, none⟩, 1, [⟨⟨0, [], [⟨#[120]⟩]⟩, none, 0, some ⟨b10, 0, none⟩, 1⟩]⟩] (exEvs hM rfl rfl rfl) (by simp [maxLen]); rw [show runV exTx (evs [⟨1, 1, 0, 1, ⟨#[119, 104, 121]⟩, none, 0, []⟩, ⟨4, 0, 0, 0, .empty, some ⟨b12, 0, none⟩, 1, [⟨⟨0, [], [⟨#[120]⟩]⟩, none, 0, some ⟨b10, 0, none⟩, 1⟩]⟩]) = _ from ex_run] at hc; exact hc.mono fun _ _ ⟨v1, v2, h1, h2, h3, h4⟩ => ⟨_, h1, h2, v1, v2, rfl, h3, h4⟩) rfl rfl rfl ?_
  rintro _ lo19 ws19 hlo19 ⟨_, _, rfl, ⟨A19, c19, rfl, hcc19, hcm19, hr19⟩, ⟨B19, d19, rfl, hdc19, hdm19, hq19⟩⟩
  obtain ⟨ad, rfl, hlo2, hcl⟩ := hr19.at_ (k := 0) (by simp)
  refine gop (y_move (v := .tuple #[.slice _ _ _, .slice _ _ _, .agg #[_, _]]) rfl) rfl rfl rfl ?_
  refine gop (y_extract (v := .slice _ _ _) rfl rfl) rfl rfl rfl ?_
  refine gop (y_extract (v := .slice _ _ _) rfl rfl) rfl rfl rfl ?_
  refine gop (y_extract (v := .agg #[_, _]) rfl rfl) rfl rfl rfl ?_
  refine gop_alloc (cs := #[.int .i64 0, .int .i64 0]) Try.zeroValue27 rfl rfl (fun b4 hb4 => ?_)
  refine gop (y_assign (v := .slice _ _ _) rfl) rfl rfl rfl ?_
  refine gop (y_assign (v := .slice _ _ _) rfl) rfl rfl rfl ?_
  refine gop_store 5 (v := .agg #[_, _]) (cs' := #[_, _]) rfl rfl Try.sizeOf27 rfl rfl rfl rfl (Nat.le_of_ble_eq_true rfl) rfl rfl ?_
  refine gops_nil ?_
  refine hN3 _ _ ?_
  refine gT [box b10 _, box b12 _, box b15 _, box b17 _, seal_ _ _, box b4 _] rfl ?_
  refine gfrom [(1, .slice (some _) _ _), (2, .slice _ _ _), (3, .slice _ _ _), (4, .pointer _)] ⟨rfl, rfl, rfl, rfl, trivial⟩ fun σ => ?_
  refine gseq fun N4 hN4 => ?_
  refine greg ?_
  refine gop_lit (vs := [.string _, .string _]) (cells := #[_, _]) Try.underlying41 Try.sizeOf9 Try.zeroValue9 rfl (by decide) (by decide) rfl rfl rfl rfl (fun b24 hb24 => ?_)
  refine gop (y_move (v := .slice (some _) _ _) rfl) rfl rfl rfl ?_
  refine gop_new (fun lo ws v => ∃ v1, v = .tuple #[v1, fv ⟨0, 0⟩] ∧ NewL 1 intCells [0] lo ws v1) (e_call (vs := [.slice (some _) _ _, .slice (some _) _ _]) Try.func25 rfl (by kernel_rfl) rfl) (fun w hM => by have hc := pending_any w (some ⟨b24, 0, none⟩) 2 exTx (Rdl.mono (Rdl.of_box 6 (f := strCells) (fun _ => rfl) hM rfl rfl) (Nat.zero_le _)) (SB.lit 2 (by decide) (by decide)) (some ⟨b15, 0, none⟩) 2 [⟨1, 1, 0, 1, ⟨#[119, 104, 121]⟩, none, 0, []⟩, ⟨4, 0, 0, 0, .empty, some ⟨b12, 0, none⟩, 1, [⟨⟨0, [], [⟨#[120]⟩]⟩, none, 0, some ⟨b10, 0, none⟩, 1⟩]⟩] (exEvs hM rfl rfl rfl) (by simp [maxLen]); rw [show runV exTx (evs [⟨1, 1, 0, 1, ⟨#[119, 104, 121]⟩, none, 0, []⟩, ⟨4, 0, 0, 0, .empty, some ⟨b12, 0, none⟩, 1, [⟨⟨0, [], [⟨#[120]⟩]⟩, none, 0, some ⟨b10, 0, none⟩, 1⟩]⟩]) = _ from ex_run, show pendR exTx (evs [⟨1, 1, 0, 1, ⟨#[119, 104, 121]⟩, none, 0, []⟩, ⟨4, 0, 0, 0, .empty, some ⟨b12, 0, none⟩, 1, [⟨⟨0, [], [⟨#[120]⟩]⟩, none, 0, some ⟨b10, 0, none⟩, 1⟩]⟩]) = _ from ex_pend] at hc; exact hc.mono fun _ _ ⟨v1, h1, h2, h3⟩ => ⟨_, h1, h2, v1, rfl, h3⟩) rfl rfl rfl ?_
  rintro _ lo26 ws26 hlo26 ⟨_, rfl, A26, c26, rfl, hcc26, hcm26, hr26⟩
  refine gop (y_move (v := .tuple #[.slice _ _ _, .agg #[_, _]]) rfl) rfl rfl rfl ?_
  refine gop (y_extract (v := .slice _ _ _) rfl rfl) rfl rfl rfl ?_
  refine gop (y_extract (v := .agg #[_, _]) rfl rfl) rfl rfl rfl ?_
  refine gop_alloc (cs := #[.int .i64 0, .int .i64 0]) Try.zeroValue27 rfl rfl (fun b6 hb6 => ?_)
  refine gop (y_assign (v := .slice _ _ _) rfl) rfl rfl rfl ?_
  refine gop_store 8 (v := .agg #[_, _]) (cs' := #[_, _]) rfl rfl Try.sizeOf27 rfl rfl rfl rfl (Nat.le_of_ble_eq_true rfl) rfl rfl ?_
  refine gops_nil ?_
  refine hN4 _ _ ?_
  refine gT [box b10 _, box b12 _, box b15 _, box b17 _, seal_ _ _, box b4 _, box b24 _, seal_ _ _, box b6 _] rfl ?_
  refine gfrom [(1, .slice (some _) _ _), (2, .slice _ _ _), (3, .slice _ _ _), (4, .pointer _), (5, .slice _ _ _), (6, .pointer _)] ⟨rfl, rfl, rfl, rfl, rfl, rfl, trivial⟩ fun σ => ?_
  refine gseq fun N5 hN5 => ?_
  refine greg ?_
  refine gop_lit (vs := [.string _, .string _]) (cells := #[_, _]) Try.underlying41 Try.sizeOf9 Try.zeroValue9 rfl (by decide) (by decide) rfl rfl rfl rfl (fun b30 hb30 => ?_)
  refine gop (y_move (v := .slice (some _) _ _) rfl) rfl rfl rfl ?_
  refine gop_new (fun lo ws v => ∃ v1, v = .tuple #[v1, fv ⟨0, 0⟩] ∧ NewL 1 intCells [0, 0, 1] lo ws v1) (e_call (vs := [.slice (some _) _ _, .slice (some _) _ _]) Try.func26 rfl (by kernel_rfl) rfl) (fun w hM => by have hc := load_any w (some ⟨b30, 0, none⟩) 2 exTx (Rdl.mono (Rdl.of_box 9 (f := strCells) (fun _ => rfl) hM rfl rfl) (Nat.zero_le _)) (SB.lit 2 (by decide) (by decide)) (some ⟨b15, 0, none⟩) 2 [⟨1, 1, 0, 1, ⟨#[119, 104, 121]⟩, none, 0, []⟩, ⟨4, 0, 0, 0, .empty, some ⟨b12, 0, none⟩, 1, [⟨⟨0, [], [⟨#[120]⟩]⟩, none, 0, some ⟨b10, 0, none⟩, 1⟩]⟩] (exEvs hM rfl rfl rfl) (by simp [maxLen]); rw [show runV exTx (evs [⟨1, 1, 0, 1, ⟨#[119, 104, 121]⟩, none, 0, []⟩, ⟨4, 0, 0, 0, .empty, some ⟨b12, 0, none⟩, 1, [⟨⟨0, [], [⟨#[120]⟩]⟩, none, 0, some ⟨b10, 0, none⟩, 1⟩]⟩]) = _ from ex_run, show loadR exTx (evs [⟨1, 1, 0, 1, ⟨#[119, 104, 121]⟩, none, 0, []⟩, ⟨4, 0, 0, 0, .empty, some ⟨b12, 0, none⟩, 1, [⟨⟨0, [], [⟨#[120]⟩]⟩, none, 0, some ⟨b10, 0, none⟩, 1⟩]⟩]) = _ from ex_load] at hc; exact hc.mono fun _ _ ⟨v1, h1, h2, h3⟩ => ⟨_, h1, h2, v1, rfl, h3⟩) rfl rfl rfl ?_
  rintro _ lo32 ws32 hlo32 ⟨_, rfl, A32, c32, rfl, hcc32, hcm32, hr32⟩
  refine gop (y_move (v := .tuple #[.slice _ _ _, .agg #[_, _]]) rfl) rfl rfl rfl ?_
  refine gop (y_extract (v := .slice _ _ _) rfl rfl) rfl rfl rfl ?_
  refine gop (y_extract (v := .agg #[_, _]) rfl rfl) rfl rfl rfl ?_
  refine gop_alloc (cs := #[.int .i64 0, .int .i64 0]) Try.zeroValue27 rfl rfl (fun b8 hb8 => ?_)
  refine gop (y_assign (v := .slice _ _ _) rfl) rfl rfl rfl ?_
  refine gop_store 11 (v := .agg #[_, _]) (cs' := #[_, _]) rfl rfl Try.sizeOf27 rfl rfl rfl rfl (Nat.le_of_ble_eq_true rfl) rfl rfl ?_
  refine gops_nil ?_
  refine hN5 _ _ ?_
  refine gT [box b10 _, box b12 _, box b15 _, box b17 _, seal_ _ _, box b4 _, box b24 _, seal_ _ _, box b6 _, box b30 _, seal_ _ _, box b8 _] rfl ?_
  refine gfrom [(2, .slice _ _ _), (3, .slice _ _ _), (4, .pointer _), (5, .slice _ _ _), (6, .pointer _), (7, .slice _ _ _), (8, .pointer _)] ⟨rfl, rfl, rfl, rfl, rfl, rfl, rfl, trivial⟩ fun σ => ?_
  refine gseq fun N6 hN6 => ?_
  refine greg ?_
  refine gop (y_fieldAddr_box fa27_0 rfl) rfl rfl rfl ?_
  refine gop (y_load Try.isAgg3 rfl (cell_box 5 rfl rfl)) rfl rfl rfl ?_
  refine gop (y_eql rfl rfl) rfl rfl rfl ?_
  refine gop (y_move (v := .bool _) rfl) rfl rfl rfl ?_
  refine gop_if (want := true) rfl rfl rfl rfl rfl rfl (fun hg38 => ?_) (fun hg38 => ?_)
  · -- guard 38 on
    have hg38d := of_decide_eq_true hg38
    refine gop (y_bare (y_fieldAddr_box fa27_0 rfl)) rfl rfl rfl ?_
    refine gop_on rfl rfl rfl rfl hg38 ?_
    refine gop (y_bare (y_load Try.isAgg3 rfl (cell_box 8 rfl rfl))) rfl rfl rfl ?_
    refine gop_on rfl rfl rfl rfl hg38 ?_
    refine gop (y_bare (y_eql rfl rfl)) rfl rfl rfl ?_
    refine gop (y_pick_t (v := .bool _) rfl hg38 rfl) rfl rfl rfl ?_
    refine gop (y_move (v := .bool _) rfl) rfl rfl rfl ?_
    refine gop_if (want := true) rfl rfl rfl rfl rfl rfl (fun hg43 => ?_) (fun hg43 => ?_)
    · -- guard 43 on
      have hg43d := of_decide_eq_true hg43
      refine gop (y_bare (y_fieldAddr_box fa27_0 rfl)) rfl rfl rfl ?_
      refine gop_on rfl rfl rfl rfl hg43 ?_
      refine gop (y_bare (y_load Try.isAgg3 rfl (cell_box 11 rfl rfl))) rfl rfl rfl ?_
      refine gop_on rfl rfl rfl rfl hg43 ?_
      refine gop (y_bare (y_eql rfl rfl)) rfl rfl rfl ?_
      refine gop (y_pick_t (v := .bool _) rfl hg43 rfl) rfl rfl rfl ?_
      refine gop (y_move (v := .bool _) rfl) rfl rfl rfl ?_
      refine gop_if (want := true) rfl rfl rfl rfl rfl rfl (fun hg48 => ?_) (fun hg48 => ?_)
      · -- guard 48 on
        have hg48d := of_decide_eq_true hg48
        refine gop (y_bare (y_move (v := .slice _ _ _) rfl)) rfl rfl rfl ?_
        refine gop_on rfl rfl rfl rfl hg48 ?_
        refine gop (y_bare (y_len Try.underlying55 rfl)) rfl rfl rfl ?_
        refine gop_on rfl rfl rfl rfl hg48 ?_
        refine gop (y_bare (y_eql rfl rfl)) rfl rfl rfl ?_
        refine gop (y_pick_t (v := .bool _) rfl hg48 rfl) rfl rfl rfl ?_
        refine gop (y_move (v := .bool _) rfl) rfl rfl rfl ?_
        refine gop_if (want := true) rfl rfl rfl rfl rfl rfl (fun hg53 => ?_) (fun hg53 => ?_)
        · -- guard 53 on
          have hg53d := of_decide_eq_true hg53
          refine gop (y_bare (y_move (v := .slice _ _ _) rfl)) rfl rfl rfl ?_
          refine gop_on rfl rfl rfl rfl hg53 ?_
          refine gop (y_bare (y_indexAddr Try.underlying55 Try.sizeOf60 rfl rfl rfl (by decide) (by simp))) rfl rfl rfl ?_
          refine gop_on rfl rfl rfl rfl hg53 ?_
          refine gop (y_bare (y_loads (cs := [_, _, _, _, _]) Try.isAgg60 Try.sizeOf60 rfl rfl (cells_sealed 4 rfl hlo2 hcl))) rfl rfl rfl ?_
          refine gop_on rfl rfl rfl rfl hg53 ?_
          refine gop (y_bare (y_build (vs := [(0, _), (1, _), (2, _)]) (cells := #[_, _, _, .bool false, .bool false]) rfl (bd60_0_1_2 _ _ _))) rfl rfl rfl ?_
          refine gop_on rfl rfl rfl rfl hg53 ?_
          refine gop (y_bare (y_bin (vx := .agg #[_, _, _, _, _]) (vy := .agg #[_, _, _, _, _]) rfl rfl (fun w => eg60 _ _ _ _ _ w) (fun w => eq60 _ _ _ _ _ _ _ _ _ _ w))) rfl rfl rfl ?_
          refine gop (y_pick_t (v := .bool _) rfl hg53 rfl) rfl rfl rfl ?_
          refine gop (y_move (v := .bool _) rfl) rfl rfl rfl ?_
          refine gop_if (want := true) rfl rfl rfl rfl rfl rfl (fun hg60 => ?_) (fun hg60 => ?_)
          · -- guard 60 on
            have hg60d := hg60
            refine gop (y_bare (y_move (v := .slice _ _ _) rfl)) rfl rfl rfl ?_
            refine gop_on rfl rfl rfl rfl hg60 ?_
            refine gop_lit (vs := [.string _, .string _, .string _]) (cells := #[_, _, _]) Try.underlying41 Try.sizeOf9 Try.zeroValue9 rfl (by decide) (by decide) rfl rfl rfl rfl (fun b62 hb62 => ?_)
            refine gop_on rfl rfl rfl rfl hg60 ?_
            refine gop_pure (e_call (vs := [.slice _ _ _, .slice (some _) _ _]) Try.func30 rfl (by kernel_rfl) rfl) (fun w hM => equalStrings_any w _ _ _ _ [⟨#[120]⟩, ⟨#[97]⟩, ⟨#[98]⟩] [⟨#[120]⟩, ⟨#[97]⟩, ⟨#[98]⟩] ((hq19.seal_ 4 rfl (Nat.le_refl _) hM).mono (Nat.zero_le _)) (Rdl.mono (Rdl.of_box 12 (f := strCells) (fun _ => rfl) hM rfl rfl) (Nat.zero_le _)) (by simp [maxLen])) rfl rfl rfl ?_
            refine gop (y_pick_t (v := .bool _) rfl hg60 rfl) rfl rfl rfl ?_
            refine gop (y_move (v := .bool _) rfl) rfl rfl rfl ?_
            refine gop_if (want := true) rfl rfl rfl rfl rfl rfl (fun hg65 => ?_) (fun hg65 => ?_)
            · -- guard 65 on
              have hg65d := hg65
              refine gop (y_bare (y_move (v := .slice _ _ _) rfl)) rfl rfl rfl ?_
              refine gop_on rfl rfl rfl rfl hg65 ?_
              refine gop_lit (vs := [.int _ _]) (cells := #[_]) Try.underlying30 Try.sizeOf3 Try.zeroValue3 rfl (by decide) (by decide) rfl rfl rfl rfl (fun b67 hb67 => ?_)
              refine gop_on rfl rfl rfl rfl hg65 ?_
              refine gop_pure (e_call (vs := [.slice _ _ _, .slice (some _) _ _]) Try.func31 rfl (by kernel_rfl) rfl) (fun w hM => sameInts_any w _ _ _ _ [0] [0] ((hr26.seal_ 7 rfl (Nat.le_refl _) hM).mono (Nat.zero_le _)) (Rdl.mono (Rdl.of_box 13 (f := intCells) (fun _ => rfl) hM rfl rfl) (Nat.zero_le _)) (by simp [maxLen])) rfl rfl rfl ?_
              refine gop (y_pick_t (v := .bool _) rfl hg65 rfl) rfl rfl rfl ?_
              refine gop (y_move (v := .bool _) rfl) rfl rfl rfl ?_
              refine gop_if (want := true) rfl rfl rfl rfl rfl rfl (fun hg70 => ?_) (fun hg70 => ?_)
              · -- guard 70 on
                have hg70d := hg70
                refine gop (y_bare (y_move (v := .slice _ _ _) rfl)) rfl rfl rfl ?_
                refine gop_on rfl rfl rfl rfl hg70 ?_
                refine gop_lit (vs := [.int _ _, .int _ _, .int _ _]) (cells := #[_, _, _]) Try.underlying30 Try.sizeOf3 Try.zeroValue3 rfl (by decide) (by decide) rfl rfl rfl rfl (fun b72 hb72 => ?_)
                refine gop_on rfl rfl rfl rfl hg70 ?_
                refine gop_pure (e_call (vs := [.slice _ _ _, .slice (some _) _ _]) Try.func31 rfl (by kernel_rfl) rfl) (fun w hM => sameInts_any w _ _ _ _ [0, 0, 1] [0, 0, 1] ((hr32.seal_ 10 rfl (Nat.le_refl _) hM).mono (Nat.zero_le _)) (Rdl.mono (Rdl.of_box 14 (f := intCells) (fun _ => rfl) hM rfl rfl) (Nat.zero_le _)) (by simp [maxLen])) rfl rfl rfl ?_
                refine gop (y_pick_t (v := .bool _) rfl hg70 rfl) rfl rfl rfl ?_
                refine gop (y_assign (v := .bool _) rfl) rfl rfl rfl ?_
                refine gops_nil ?_
                refine hN6 _ _ ?_
                refine gT [box b10 _, box b12 _, box b15 _, box b17 _, seal_ _ _, box b4 _, box b24 _, seal_ _ _, box b6 _, box b30 _, seal_ _ _, box b8 _, box b62 _, box b67 _, box b72 _] rfl ?_
                refine gfrom [(0, .bool _)] ⟨rfl, trivial⟩ fun σ => ?_
                refine gret fun w1 hM => ?_
                refine ⟨_, res1 rfl (rt (v := .bool _) rfl), ?_⟩
                exact ⟨by simp, hM.low⟩
              · -- guard 70 off
                simp at hg70
            · -- guard 65 off
              simp at hg65
          · -- guard 60 off
            simp at hg60
        · -- guard 53 off
          simp at hg53
      · -- guard 48 off
        simp at hg48
    · -- guard 43 off
      simp at hg43
  · -- guard 38 off
    simp at hg38
end Go.Proofs.Ytbaojdiccikbiaa
