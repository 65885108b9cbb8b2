/- Own frame, plain models and walks, part 5 (texts of this claim put together). -/
import Derived.Test.YtbkameioedmlkaaGreatDoorP21d
import Derived.Lib.AppendIntMem
import Derived.Lib.AtoiAllCases
import Derived.Lib.AtoiErrMem
import Derived.Lib.AtoiTie
import Derived.Lib.ItoaLen
import Derived.Stop.IfaceNil
import Derived.Test.YtbkameioedmlkaaGreatDoorChecked
namespace Go.Proofs.YtbkameioedmlkaaGreatDoor
open Go.RowKit Go.Cf
set_option maxRecDepth 10000
theorem bd98_0 (x1 : Option Addr) (x1l x1c : Nat) : Tryz.prog.built 98 [(0, .slice x1 x1l x1c)] = some #[.slice x1 x1l x1c, .slice none 0 0] := by kernel_rfl
set_option maxHeartbeats 4000000 in
theorem run_any (w : World) (B : Option Addr) (d : Nat) (text : List ByteArray) (ht : Rdl w 0 1 strCells B text) (htb : SB B text.length d 16) (E : Option Addr) (ec : Nat) (es : List EvC) (he : EvsR w 0 E es) (hem : es.length ≤ maxLen) :
    Calls Tryz.prog 8 #[.slice B text.length d, .slice E es.length ec] w fun e w' => ∃ v1 v2, e = .returned (.tuple #[v1, v2, fv (runV text (evs es)).1]) ∧ Below w.heap.size w w' ∧ NewL 5 thrCells (runV text (evs es)).2.1 w.heap.size w' v1 ∧ NewL 1 strCells (runV text (evs es)).2.2 w.heap.size w' v2 := by
  have hmx : maxLen = 9223372036854775807 := rfl
  have htc := htb.len
  have htm := htb.max
  refine gcalls Tryz.func8 rfl Tryz.ntmps8 (Nat.le_of_ble_eq_true rfl) ?_
  refine gfrom [(0, .slice _ _ _), (1, .slice _ _ _)] ⟨rfl, rfl, trivial⟩ fun σ => ?_
  refine gseq fun N1 hN1 => ?_
  refine greg ?_
  refine gop (y_assign (v := .slice _ _ _) rfl) rfl rfl rfl ?_
  refine gop (y_assign (v := .slice _ _ _) rfl) rfl rfl rfl ?_
  refine gop_alloc (cs := #[.int .i64 0, .int .i64 0]) Tryz.zeroValue33 rfl rfl (fun b6 hb6 => ?_)
  refine gops_nil ?_
  refine hN1 _ _ ?_
  refine gT [box b6 _] rfl ?_
  refine gfrom [(0, .slice _ _ _), (1, .slice _ _ _), (6, .pointer _)] ⟨rfl, rfl, rfl, trivial⟩ fun σ => ?_
  refine gseq fun N2 hN2 => ?_
  refine gseq fun N3 hN3 => ?_
  refine greg ?_
  refine gop (y_move (v := .slice _ _ _) rfl) rfl rfl rfl ?_
  refine gop_pure (e_call (vs := [.slice _ _ _, _]) Tryz.func28 rfl (by kernel_rfl) rfl) (fun w hM => linesSecond_any w _ _ _ (ht.base hM) (by omega) (-2)) rfl rfl rfl ?_
  refine gop_alloc (cs := #[.int .i64 0, .int .i64 0]) Tryz.zeroValue33 rfl rfl (fun b7 hb7 => ?_)
  refine gop_store 1 (v := .agg #[_, _]) (cs' := #[_, _]) rfl rfl Tryz.sizeOf33 rfl rfl rfl rfl (Nat.le_of_ble_eq_true rfl) rfl rfl ?_
  refine gops_nil ?_
  refine hN3 _ _ ?_
  refine gT [box b6 _, box b7 _] rfl ?_
  refine gfrom [(0, .slice _ _ _), (1, .slice _ _ _), (6, .pointer _), (7, .pointer _)] ⟨rfl, rfl, rfl, rfl, trivial⟩ fun σ => ?_
  refine gseq fun N4 hN4 => ?_
  refine greg ?_
  refine gop (y_loads (cs := [_, _]) Tryz.isAgg33 Tryz.sizeOf33 rfl rfl (cells_box 1 rfl)) rfl rfl rfl ?_
  refine gop (y_build (vs := []) (cells := #[.int .i64 0, .int .i64 0]) rfl bd33_) rfl rfl rfl ?_
  refine gop (y_bin (vx := .agg #[_, _]) (vy := .agg #[_, _]) rfl rfl (fun w => eg33 _ _ _ _ _ w) (fun w => ne33 _ _ _ _ w)) rfl rfl rfl ?_
  refine gops_nil ?_
  refine hN4 _ _ ?_
  refine gfrom [(0, .slice _ _ _), (1, .slice _ _ _), (6, .pointer _), (7, .pointer _), (16, .bool _)] ⟨rfl, rfl, rfl, rfl, rfl, trivial⟩ fun σ => ?_
  refine gcond (b := _) rfl (fun hc16 => ?_) (fun hc16 => ?_)
  · 
    replace hc16 := fault_ne.1 hc16
    have hV : runV text (evs es) = (secondF (linesF text) (-2), ([], [])) := by rw [runV, if_pos hc16]
    refine gseq fun N5 hN5 => ?_
    refine greg_e1 [] [(0, room b6 33 2)] (by kernel_rfl) ?_
    refine ge_take 0 (TK := [room b6 33 2, box b7 _]) rfl (by kernel_rfl) (by kernel_rfl) (by kernel_rfl) #[false, true, true, false] (by kernel_rfl) rfl (y_loads (cs := [_, _]) Tryz.isAgg33 Tryz.sizeOf33 rfl rfl (cells_box 1 rfl)) rfl rfl rfl (weak_room 0 rfl rfl) (listed' := #[true, false, false, false]) rfl ?_
    refine ge_take 1 (TK := [room b6 33 2, box b7 _]) rfl (by kernel_rfl) (by kernel_rfl) (by kernel_rfl) #[true, false, false, false] (by kernel_rfl) rfl (y_assign (v := .slice _ _ _) rfl) rfl rfl rfl (weak_room 0 rfl rfl) (listed' := #[true, true, false, false]) rfl ?_
    refine ge_take 2 (TK := [room b6 33 2, box b7 _]) rfl (by kernel_rfl) (by kernel_rfl) (by kernel_rfl) #[true, true, false, false] (by kernel_rfl) rfl (y_assign (v := .slice _ _ _) rfl) rfl rfl rfl (weak_room 0 rfl rfl) (listed' := #[true, true, true, false]) rfl ?_
    refine ge_one 3 (k' := 0) (listed' := #[true, true, true, true]) (by kernel_rfl) rfl rfl rfl ?_
    refine gop_store 0 (v := .agg #[_, _]) (cs' := #[_, _]) rfl rfl Tryz.sizeOf33 rfl rfl rfl rfl (Nat.le_of_ble_eq_true rfl) rfl rfl ?_
    refine gops_nil ?_
    refine ge_fin (TK := [room b6 33 2, box b7 _]) rfl (weak_room 0 rfl rfl) ?_
    refine ge_done (by kernel_rfl) ?_
    refine hN5 _ _ ?_
    refine gT [box b6 _, box b7 _] rfl ?_
    refine gfrom [(4, .slice _ _ _), (5, .slice _ _ _), (6, .pointer _)] ⟨rfl, rfl, rfl, trivial⟩ fun σ => ?_
    refine gret fun w1 hM => ?_
    refine ⟨_, res3 rfl (rt (v := .slice _ _ _) rfl) (rt (v := .slice _ _ _) rfl) (rc 0 (cs := [_, _]) hM rfl rfl Tryz.isAgg33 Tryz.sizeOf33 rfl), ?_⟩
    exact ⟨_, _, by rw [hV], hM.low, by rw [hV]; exact newL_nil, by rw [hV]; exact newL_nil⟩
  · 
    replace hc16 := fault_eq.1 hc16
    have htl := linesF_len (second_lines hc16)
    refine gskip ?_
    refine hN2 _ _ ?_
    refine gfrom [(0, .slice _ _ _), (1, .slice _ _ _), (6, .pointer _)] ⟨rfl, rfl, rfl, trivial⟩ fun σ => ?_
    refine gseq fun N6 hN6 => ?_
    refine gseq fun N7 hN7 => ?_
    refine greg ?_
    refine gop (y_move (v := .slice _ _ _) rfl) rfl rfl rfl ?_
    refine gop (y_len Tryz.underlying30 rfl) rfl rfl rfl ?_
    refine gop (y_gtr rfl rfl) rfl rfl rfl ?_
    refine gops_nil ?_
    refine hN7 _ _ ?_
    refine gfrom [(0, .slice _ _ _), (1, .slice _ _ _), (6, .pointer _), (20, .bool _)] ⟨rfl, rfl, rfl, rfl, trivial⟩ fun σ => ?_
    refine gcond (b := _) rfl (fun hc20 => ?_) (fun hc20 => ?_)
    · 
      replace hc20 := of_decide_eq_true hc20
      have hV : runV text (evs es) = (⟨2, -1⟩, ([], [])) := by rw [runV, if_neg (by simp [hc16]), if_pos (by simp; omega)]
      refine gseq fun N8 hN8 => ?_
      refine greg ?_
      refine gop (y_build (vs := [(0, _), (1, _)]) (cells := #[_, _]) rfl (bd33_0_1 _ _)) rfl rfl rfl ?_
      refine gop (y_assign (v := .slice _ _ _) rfl) rfl rfl rfl ?_
      refine gop (y_assign (v := .slice _ _ _) rfl) rfl rfl rfl ?_
      refine gop_store 0 (v := .agg #[_, _]) (cs' := #[_, _]) rfl rfl Tryz.sizeOf33 rfl rfl rfl rfl (Nat.le_of_ble_eq_true rfl) rfl rfl ?_
      refine gops_nil ?_
      refine hN8 _ _ ?_
      refine gT [box b6 _, box b7 _] rfl ?_
      refine gfrom [(4, .slice _ _ _), (5, .slice _ _ _), (6, .pointer _)] ⟨rfl, rfl, rfl, trivial⟩ fun σ => ?_
      refine gret fun w1 hM => ?_
      refine ⟨_, res3 rfl (rt (v := .slice _ _ _) rfl) (rt (v := .slice _ _ _) rfl) (rc 0 (cs := [_, _]) hM rfl rfl Tryz.isAgg33 Tryz.sizeOf33 rfl), ?_⟩
      exact ⟨_, _, by rw [hV], hM.low, by rw [hV]; exact newL_nil, by rw [hV]; exact newL_nil⟩
    · 
      replace hc20 := of_decide_eq_false hc20
      have hV0 : runV text (evs es) = runFrom 0 ([], text) (evs es) := by rw [runV, if_neg (by simp [hc16]), if_neg (by simp; omega)]
      refine gskip ?_
      refine hN6 _ _ ?_
      refine gfrom [(0, .slice _ _ _), (1, .slice _ _ _), (6, .pointer _)] ⟨rfl, rfl, rfl, trivial⟩ fun σ => ?_
      refine gseq fun N9 hN9 => ?_
      refine greg ?_
      refine gop (y_move (v := .slice _ _ _) rfl) rfl rfl rfl ?_
      refine gop_got (fun v T' => ∃ lo, w.heap.size ≤ lo ∧ T' = [rowl strCells lo 9 1 v text]) (e_call (vs := [.slice _ _ _]) Tryz.func29 rfl (by kernel_rfl) rfl) (fun w hM => (clone_any w _ _ _ (ht.base hM) (by omega) htb.nil).mono fun _ _ ⟨v, T1, h1, h2, h3⟩ => ⟨v, T1, h1, ⟨_, hM.low.size, h2⟩, h3⟩) rfl rfl rfl ?_
      rintro v23 _ ⟨lo23, hlo23, rfl⟩
      refine gops_fact (fun w hM => row_form (hM.ok _ (List.mem_of_getElem? (i := 2) rfl))) ?_
      rintro ⟨A23, c23, rfl, hc23, hm23, hn23⟩
      refine gop (y_build (vs := [(0, .slice A23 _ c23)]) (cells := #[_, .slice none 0 0]) rfl (bd98_0 _ _ _)) rfl rfl rfl ?_
      refine gop_alloc (cs := #[.slice none 0 0, .slice none 0 0]) Tryz.zeroValue98 rfl rfl (fun b8 hb8 => ?_)
      refine gop_store 3 (v := .agg #[_, _]) (cs' := #[_, _]) rfl rfl Tryz.sizeOf98 rfl rfl rfl rfl (Nat.le_of_ble_eq_true rfl) rfl rfl ?_
      refine gops_nil ?_
      refine hN9 _ _ ?_
      refine gT [box b6 _, box b7 _, rowl _ _ _ _ _ _, box b8 _] rfl ?_
      refine gfrom [(1, .slice _ _ _), (6, .pointer _), (8, .pointer _)] ⟨rfl, rfl, rfl, trivial⟩ fun σ => ?_
      refine gseq fun N10 hN10 => ?_
      refine gseq fun N11 hN11 => ?_
      refine greg ?_
      refine gop (y_move (v := .slice _ _ _) rfl) rfl rfl rfl ?_
      refine gop (y_len Tryz.underlying30 rfl) rfl rfl rfl ?_
      refine gop (y_move (v := .int _ _) rfl) rfl rfl rfl ?_
      refine gops_nil ?_
      refine hN11 _ _ ?_
      refine gfrom [(6, .pointer _), (8, .pointer _), (25, .slice _ _ _), (26, .int _ _), (27, .int _ _)] ⟨rfl, rfl, rfl, rfl, rfl, trivial⟩ fun σ => ?_
      refine gblock ?_
      refine gnilrow thrCells 39 5 ?_
      refine gfrom2 [(27, .int _ _)] [(6, .pointer _), (8, .pointer _), (25, .slice _ _ _), (26, .int _ _)] ⟨rfl, trivial⟩ ⟨rfl, rfl, rfl, rfl, trivial⟩ fun σ => ?_
      refine gloop2 (G := Nat × Nat × Nat × Option Addr × Option Addr × St × Reg) (fun (k, tc, hc, tA, hA, s, fr) => k ≤ es.length ∧ RI s k ∧ SB tA s.2.length tc 16 ∧ (∀ w1, fr.ok w1 → Rdl w1 w.heap.size 1 strCells tA s.2) ∧ runFrom k s ((evs es).drop k) = runFrom 0 ([], text) (evs es)) (fun (k, tc, hc, tA, hA, s, fr) => es.length - k) (fun (k, tc, hc, tA, hA, s, fr) => [(27, .int .i64 (k : Int))]) (fun (k, tc, hc, tA, hA, s, fr) => [(2, fr), (3, box b8 (.cells #[.slice tA (s.2).length tc, .slice hA (s.1).length hc] 98)), (4, rowl thrCells w.heap.size 39 5 (.slice hA s.1.length hc) (s.1))]) ((0, c23, 0, A23, none, ([], text), rowl strCells lo23 9 1 (.slice A23 text.length c23) text)) ?h0 ⟨rfl, trivial⟩ ⟨rfl, rfl, rfl, rfl, trivial⟩ rfl ?round
      case h0 => exact ⟨Nat.zero_le _, RI.start text htl, ⟨hc23, hm23, hn23, by show text.length * 16 ≤ _; unfold reachBytes; omega⟩, fun w1 ho => (row_rdl (f := strCells) (fun _ => rfl) ho).mono hlo23, rfl⟩
      case round =>
        rintro ⟨k, tc, hc, tA, hA, s, fr⟩ hφ σ
        obtain ⟨hk, hri, hsb, hfx, hrun⟩ := hφ
        refine gT [box b6 _, box b7 _, fr, box b8 _, rowl _ _ _ _ _ _] rfl ?_
        refine gseq fun N12 hN12 => ?_
        refine greg ?_
        refine gop (y_lss rfl rfl) rfl rfl rfl ?_
        refine gops_nil ?_
        refine hN12 _ _ ?_
        refine gfrom [(6, .pointer _), (8, .pointer _), (25, .slice _ _ _), (26, .int _ _), (27, .int _ _), (28, .bool _)] ⟨rfl, rfl, rfl, rfl, rfl, rfl, trivial⟩ fun σ => ?_
        refine gseq fun N13 hN13 => ?_
        refine gcond (b := _) rfl (fun hc28 => ?_) (fun hc28 => ?_)
        · 
          replace hc28 := of_decide_eq_true hc28
          have hk1 : k < es.length := by omega
          have hk2 : k < (evs es).length := by simpa using hk1
          obtain ⟨ad, rfl, -, hcv⟩ := he.rd.at_ hk1
          have hx := he.each _ (List.getElem_mem hk1)
          have hD := runFrom_drop hk2 k s
          rw [List.getElem_map] at hD
          refine gskip ?_
          refine hN13 _ _ ?_
          refine gfrom [(6, .pointer _), (8, .pointer _), (25, .slice _ _ _), (26, .int _ _), (27, .int _ _)] ⟨rfl, rfl, rfl, rfl, rfl, trivial⟩ fun σ => ?_
          refine gseq fun N14 hN14 => ?_
          refine gblock ?_
          refine gseq fun N15 hN15 => ?_
          refine greg ?_
          refine gop (y_move (v := .int _ _) rfl) rfl rfl rfl ?_
          refine gop (y_indexAddr Tryz.underlying30 Tryz.sizeOf29 rfl rfl rfl (by omega) (by omega)) rfl rfl rfl ?_
          refine gop (y_loads (cs := [_, _, _, _, _, _]) Tryz.isAgg29 Tryz.sizeOf29 rfl rfl (cells_base hcv)) rfl rfl rfl ?_
          refine gop_alloc (cs := #[.int .i64 0, .int .i64 0, .int .i64 0, .int .i64 0, .string .empty, .slice none 0 0]) Tryz.zeroValue29 rfl rfl (fun b10 hb10 => ?_)
          refine gop (y_assign (v := .int _ _) rfl) rfl rfl rfl ?_
          refine gop_store 5 (v := .agg #[_, _, _, _, _, _]) (cs' := #[_, _, _, _, _, _]) rfl rfl Tryz.sizeOf29 rfl rfl rfl rfl (Nat.le_of_ble_eq_true rfl) rfl rfl ?_
          refine gops_nil ?_
          refine hN15 _ _ ?_
          refine gT [box b6 _, box b7 _, fr, box b8 _, rowl _ _ _ _ _ _, box b10 _] rfl ?_
          refine gfrom [(6, .pointer _), (8, .pointer _), (9, .int _ _), (10, .pointer _), (25, .slice _ _ _), (26, .int _ _), (27, .int _ _)] ⟨rfl, rfl, rfl, rfl, rfl, rfl, rfl, trivial⟩ fun σ => ?_
          refine gseq fun N16 hN16 => ?_
          refine greg ?_
          refine gop (y_loads (cs := [_, _, _, _, _, _]) Tryz.isAgg29 Tryz.sizeOf29 rfl rfl (cells_box 5 rfl)) rfl rfl rfl ?_
          refine gop_does2 3 4 (fun v r q G => ∃ tA' tc' hA' hc', v = .int .i64 (stepE s es[k].pl).1 ∧ r = box b8 (.cells #[.slice tA' ((stepE s es[k].pl).2.2).length tc', .slice hA' ((stepE s es[k].pl).2.1).length hc'] 98) ∧ q = rowl thrCells w.heap.size 39 5 (.slice hA' (stepE s es[k].pl).2.1.length hc') ((stepE s es[k].pl).2.1) ∧ SB tA' (stepE s es[k].pl).2.2.length tc' 16 ∧ ((tA' = tA ∧ (stepE s es[k].pl).2.2 = s.2) ∨ ∀ w1, (∀ r ∈ G, r.ok w1) → Rdl w1 w.heap.size 1 strCells tA' (stepE s es[k].pl).2.2)) (e_call (vs := [.pointer _, .agg #[_, _, _, _, _, _]]) Tryz.func30 rfl (by kernel_rfl) rfl) rfl rfl rfl (fun w fr1 hfr hM => (step_any _ w b8 tc hc tA hA s.2 s.1 fr1 hM (fun w1 h => hfx w1 (hfr 2 _ rfl (by decide) (by decide) w1 h)) hsb es[k] hx (hri.up (by omega))).mono fun _ _ ⟨tA', tc', hA', hc', G, h1, h2, h3, h4⟩ => ⟨_, _, _, G, h1, ⟨tA', tc', hA', hc', rfl, rfl, rfl, h2, h3⟩, h4⟩) rfl rfl rfl ?_
          rintro _ _ _ G ⟨tA2, tc2, hA2, hc2, rfl, rfl, rfl, hsb2, hdj⟩
          refine gops_mem _ (weak_all 5 2 rfl) ?_
          refine gop (y_assign (v := .int _ _) rfl) rfl rfl rfl ?_
          refine gops_nil ?_
          refine hN16 _ _ ?_
          refine gT [box b6 _, box b7 _, _, box b8 _, rowl _ _ _ _ _ _] rfl ?_
          refine gfrom [(6, .pointer _), (8, .pointer _), (9, .int _ _), (11, .int _ _), (25, .slice _ _ _), (26, .int _ _), (27, .int _ _)] ⟨rfl, rfl, rfl, rfl, rfl, rfl, rfl, trivial⟩ fun σ => ?_
          refine gseq fun N17 hN17 => ?_
          refine greg ?_
          refine gop (y_move (v := .int _ _) rfl) rfl rfl rfl ?_
          refine gop (y_neq rfl rfl) rfl rfl rfl ?_
          refine gops_nil ?_
          refine hN17 _ _ ?_
          refine gfrom [(6, .pointer _), (8, .pointer _), (9, .int _ _), (11, .int _ _), (25, .slice _ _ _), (26, .int _ _), (27, .int _ _), (35, .bool _)] ⟨rfl, rfl, rfl, rfl, rfl, rfl, rfl, rfl, trivial⟩ fun σ => ?_
          refine gcond (b := _) rfl (fun hc35 => ?_) (fun hc35 => ?_)
          · 
            replace hc35 := of_decide_eq_true hc35
            have hV : runV text (evs es) = (⟨(stepE s es[k].pl).1, k⟩, ([], [])) := by rw [hV0, ← hrun, hD, if_pos hc35]
            refine gseq fun N18 hN18 => ?_
            refine greg ?_
            refine gop (y_move (v := .int _ _) rfl) rfl rfl rfl ?_
            refine gop (y_move (v := .int _ _) rfl) rfl rfl rfl ?_
            refine gop (y_build (vs := [(0, .int _ _), (1, .int _ _)]) (cells := #[_, _]) rfl (bd33_0_1 _ _)) rfl rfl rfl ?_
            refine gop (y_assign (v := .slice _ _ _) rfl) rfl rfl rfl ?_
            refine gop (y_assign (v := .slice _ _ _) rfl) rfl rfl rfl ?_
            refine gop_store 0 (v := .agg #[_, _]) (cs' := #[_, _]) rfl rfl Tryz.sizeOf33 rfl rfl rfl rfl (Nat.le_of_ble_eq_true rfl) rfl rfl ?_
            refine gops_nil ?_
            refine hN18 _ _ ?_
            refine gT [box b6 _, box b7 _, _, box b8 _, rowl _ _ _ _ _ _] rfl ?_
            refine gfrom [(4, .slice _ _ _), (5, .slice _ _ _), (6, .pointer _)] ⟨rfl, rfl, rfl, trivial⟩ fun σ => ?_
            refine gret fun w1 hM => ?_
            refine ⟨_, res3 rfl (rt (v := .slice _ _ _) rfl) (rt (v := .slice _ _ _) rfl) (rc 0 (cs := [_, _]) hM rfl rfl Tryz.isAgg33 Tryz.sizeOf33 rfl), ?_⟩
            exact ⟨_, _, by rw [hV], hM.low, by rw [hV]; exact newL_nil, by rw [hV]; exact newL_nil⟩
          · 
            replace hc35 := Decidable.not_not.1 (of_decide_eq_false hc35)
            refine gskip ?_
            refine hN14 _ _ ?_
            refine gfrom [(6, .pointer _), (8, .pointer _), (25, .slice _ _ _), (26, .int _ _), (27, .int _ _)] ⟨rfl, rfl, rfl, rfl, rfl, trivial⟩ fun σ => ?_
            refine greg ?_
            refine gop (y_add rfl rfl ⟨by omega, by omega⟩) rfl rfl rfl ?_
            refine gop (y_move (v := .int _ _) rfl) rfl rfl rfl ?_
            refine gops_nil ?_
            refine gnext2 ((k + 1, tc2, hc2, tA2, hA2, (stepE s es[k].pl).2, both fr (all_ _))) (by show es.length - (k + 1) < es.length - k; omega) (⟨by show k + 1 ≤ _; omega, stepE_RI hri _ hc35, hsb2, ?hfx, by rw [← hrun, hD, if_neg (by simp [hc35])]⟩) ⟨rfl, trivial⟩ ⟨rfl, rfl, rfl, rfl, trivial⟩ ⟨_, rfl⟩
            case hfx =>
              intro w1 ho
              rcases hdj with ⟨e1, e2⟩ | h2
              · rw [e1, e2]; exact hfx w1 ho.1
              · exact h2 w1 fun r hr => (all_ok _ w1).1 ho.2 r (List.mem_cons_of_mem _ hr)
        · 
          replace hc28 := of_decide_eq_false hc28
          have hV : runV text (evs es) = (⟨0, 0⟩, s) := by rw [hV0, ← hrun, List.drop_eq_nil_of_le (by simp; omega), runFrom]
          refine gexit ?_
          refine hN10 _ _ ?_
          refine gfrom [(6, .pointer _), (8, .pointer _)] ⟨rfl, rfl, trivial⟩ fun σ => ?_
          refine gseq fun N19 hN19 => ?_
          refine greg_e1 [] [(0, room b6 33 2)] (by kernel_rfl) ?_
          refine ge_take 0 (TK := [room b6 33 2, box b7 _, fr, box b8 _, rowl _ _ _ _ _ _]) rfl (by kernel_rfl) (by kernel_rfl) (by kernel_rfl) #[false, false, true, true, true, false, false, false] (by kernel_rfl) rfl (y_fieldAddr_box fa98_1 rfl) rfl rfl rfl (weak_room 0 rfl rfl) (listed' := #[true, false, false, false, false, false, false, false]) rfl ?_
          refine ge_take 1 (TK := [room b6 33 2, box b7 _, fr, box b8 _, rowl _ _ _ _ _ _]) rfl (by kernel_rfl) (by kernel_rfl) (by kernel_rfl) #[true, false, true, true, true, false, false, false] (by kernel_rfl) rfl (y_load Tryz.isAgg31 rfl (cell_box 3 rfl rfl)) rfl rfl rfl (weak_room 0 rfl rfl) (listed' := #[true, true, false, false, false, false, false, false]) rfl ?_
          refine ge_take 2 (TK := [room b6 33 2, box b7 _, fr, box b8 _, rowl _ _ _ _ _ _]) rfl (by kernel_rfl) (by kernel_rfl) (by kernel_rfl) #[true, true, false, false, true, true, false, false] (by kernel_rfl) rfl (y_fieldAddr_box fa98_0 rfl) rfl rfl rfl (weak_room 0 rfl rfl) (listed' := #[true, true, true, false, false, false, false, false]) rfl ?_
          refine ge_take 3 (TK := [room b6 33 2, box b7 _, fr, box b8 _, rowl _ _ _ _ _ _]) rfl (by kernel_rfl) (by kernel_rfl) (by kernel_rfl) #[true, true, true, false, true, true, false, false] (by kernel_rfl) rfl (y_load Tryz.isAgg22 rfl (cell_box 3 rfl rfl)) rfl rfl rfl (weak_room 0 rfl rfl) (listed' := #[true, true, true, true, false, false, false, false]) rfl ?_
          refine ge_take 4 (TK := [room b6 33 2, box b7 _, fr, box b8 _, rowl _ _ _ _ _ _]) rfl (by kernel_rfl) (by kernel_rfl) (by kernel_rfl) #[true, true, true, true, false, true, true, false] (by kernel_rfl) rfl (y_build (vs := []) (cells := #[.int .i64 0, .int .i64 0]) rfl bd33_) rfl rfl rfl (weak_room 0 rfl rfl) (listed' := #[true, true, true, true, true, false, false, false]) rfl ?_
          refine ge_take 5 (TK := [room b6 33 2, box b7 _, fr, box b8 _, rowl _ _ _ _ _ _]) rfl (by kernel_rfl) (by kernel_rfl) (by kernel_rfl) #[true, true, true, true, true, false, false, false] (by kernel_rfl) rfl (y_assign (v := .slice _ _ _) rfl) rfl rfl rfl (weak_room 0 rfl rfl) (listed' := #[true, true, true, true, true, true, false, false]) rfl ?_
          refine ge_take 6 (TK := [room b6 33 2, box b7 _, fr, box b8 _, rowl _ _ _ _ _ _]) rfl (by kernel_rfl) (by kernel_rfl) (by kernel_rfl) #[true, true, true, true, true, true, false, false] (by kernel_rfl) rfl (y_assign (v := .slice _ _ _) rfl) rfl rfl rfl (weak_room 0 rfl rfl) (listed' := #[true, true, true, true, true, true, true, false]) rfl ?_
          refine ge_one 7 (k' := 0) (listed' := #[true, true, true, true, true, true, true, true]) (by kernel_rfl) rfl rfl rfl ?_
          refine gop_store 0 (v := .agg #[_, _]) (cs' := #[_, _]) rfl rfl Tryz.sizeOf33 rfl rfl rfl rfl (Nat.le_of_ble_eq_true rfl) rfl rfl ?_
          refine gops_nil ?_
          refine ge_fin (TK := [room b6 33 2, box b7 _, fr, box b8 _, rowl _ _ _ _ _ _]) rfl (weak_room 0 rfl rfl) ?_
          refine ge_done (by kernel_rfl) ?_
          refine hN19 _ _ ?_
          refine gT [box b6 _, box b7 _, fr, box b8 _, rowl _ _ _ _ _ _] rfl ?_
          refine gfrom [(4, .slice _ _ _), (5, .slice _ _ _), (6, .pointer _)] ⟨rfl, rfl, rfl, trivial⟩ fun σ => ?_
          refine gret fun w1 hM => ?_
          refine ⟨_, res3 rfl (rt (v := .slice _ _ _) rfl) (rt (v := .slice _ _ _) rfl) (rc 0 (cs := [_, _]) hM rfl rfl Tryz.isAgg33 Tryz.sizeOf33 rfl), ?_⟩
          exact ⟨_, _, by rw [hV], hM.low, by rw [hV]; exact hM.newL 4 rfl (fun _ => rfl), by rw [hV]; exact ⟨tA, tc, rfl, hsb.len, hsb.max, hfx w1 (hM.ok _ (List.mem_of_getElem? (i := 2) rfl))⟩⟩
end Go.Proofs.YtbkameioedmlkaaGreatDoor
namespace Go.Proofs.YtbkameioedmlkaaGreatDoor
open Go.RowKit Go.Cf
set_option maxRecDepth 10000
theorem fa48_0 (a : Addr) (w : World) : (Instr.fieldAt 48 (.pointer (some a)) 0).run Tryz.prog w = .ok (.pointer (some (a.add 0))) w := by kernel_rfl
theorem fa48_1 (a : Addr) (w : World) : (Instr.fieldAt 48 (.pointer (some a)) 1).run Tryz.prog w = .ok (.pointer (some (a.add 1))) w := by kernel_rfl
theorem fa48_2 (a : Addr) (w : World) : (Instr.fieldAt 48 (.pointer (some a)) 2).run Tryz.prog w = .ok (.pointer (some (a.add 2))) w := by kernel_rfl
theorem fa48_3 (a : Addr) (w : World) : (Instr.fieldAt 48 (.pointer (some a)) 3).run Tryz.prog w = .ok (.pointer (some (a.add 3))) w := by kernel_rfl
set_option maxHeartbeats 1000000 in
theorem polOps_any (w : World) (k : Int) : Calls Tryz.prog 67 #[.int .i64 k] w fun e w' => e = .returned (.int .i64 (opN k : Nat)) ∧ Below w.heap.size w w' := by
  refine gcalls Tryz.func67 rfl Tryz.ntmps67 (Nat.le_of_ble_eq_true rfl) ?_
  refine gfrom [(0, .int _ _)] ⟨rfl, trivial⟩ fun σ => ?_
  refine gseq fun N1 hN1 => ?_
  refine greg ?_
  refine gop (y_assign (v := .int _ _) rfl) rfl rfl rfl ?_
  refine gops_nil ?_
  refine hN1 _ _ ?_
  refine gfrom [(0, .int _ _)] ⟨rfl, trivial⟩ fun σ => ?_
  refine gseq fun N2 hN2 => ?_
  refine gseq fun N3 hN3 => ?_
  refine greg ?_
  refine gop (y_move (v := .int _ _) rfl) rfl rfl rfl ?_
  refine gops_nil ?_
  refine hN3 _ _ ?_
  refine gfrom [(3, .int _ _)] ⟨rfl, trivial⟩ fun σ => ?_
  refine gblock ?_
  refine gseq fun N4 hN4 => ?_
  refine greg ?_
  refine gop (y_eql rfl rfl) rfl rfl rfl ?_
  refine gop (y_assign (v := .bool _) rfl) rfl rfl rfl ?_
  refine gops_nil ?_
  refine hN4 _ _ ?_
  refine gfrom [(3, .int _ _), (4, .bool _)] ⟨rfl, rfl, trivial⟩ fun σ => ?_
  refine gcond (b := _) rfl (fun hc4 => ?_) (fun hc4 => ?_)
  · 
    replace hc4 := of_decide_eq_true hc4
    refine gseq fun N5 hN5 => ?_
    refine greg ?_
    refine gop (y_assign (v := .int _ _) rfl) rfl rfl rfl ?_
    refine gops_nil ?_
    refine hN5 _ _ ?_
    refine gfrom [(2, .int _ _)] ⟨rfl, trivial⟩ fun σ => ?_
    refine gret fun w1 hM => ?_
    refine ⟨_, res1 rfl (rt (v := .int _ _) rfl), ?_⟩
    exact ⟨by rw [opN, if_pos hc4]; rfl, hM.low⟩
  · 
    replace hc4 := of_decide_eq_false hc4
    refine gseq fun N6 hN6 => ?_
    refine gseq fun N7 hN7 => ?_
    refine greg ?_
    refine gop (y_eql rfl rfl) rfl rfl rfl ?_
    refine gop (y_assign (v := .bool _) rfl) rfl rfl rfl ?_
    refine gops_nil ?_
    refine hN7 _ _ ?_
    refine gfrom [(3, .int _ _), (6, .bool _)] ⟨rfl, rfl, trivial⟩ fun σ => ?_
    refine gcond (b := _) rfl (fun hc6 => ?_) (fun hc6 => ?_)
    · 
      replace hc6 := of_decide_eq_true hc6
      refine gskip ?_
      refine hN6 _ _ ?_
      refine gfrom [(6, .bool _)] ⟨rfl, trivial⟩ fun σ => ?_
      refine gcond (b := _) rfl (fun hc6 => ?_) (fun hc6 => ?_)
      · 
        replace hc6 := of_decide_eq_true hc6
        refine gseq fun N8 hN8 => ?_
        refine greg ?_
        refine gop (y_assign (v := .int _ _) rfl) rfl rfl rfl ?_
        refine gops_nil ?_
        refine hN8 _ _ ?_
        refine gfrom [(2, .int _ _)] ⟨rfl, trivial⟩ fun σ => ?_
        refine gret fun w1 hM => ?_
        refine ⟨_, res1 rfl (rt (v := .int _ _) rfl), ?_⟩
        exact ⟨by rw [opN, if_neg (by omega), if_pos (by omega)]; rfl, hM.low⟩
      · 
        replace hc6 := of_decide_eq_false hc6
        refine gskip ?_
        refine hN2 _ _ ?_
        refine gfrom [] trivial fun σ => ?_
        refine gseq fun N9 hN9 => ?_
        refine greg ?_
        refine gop (y_assign (v := .int _ _) rfl) rfl rfl rfl ?_
        refine gops_nil ?_
        refine hN9 _ _ ?_
        refine gfrom [(2, .int _ _)] ⟨rfl, trivial⟩ fun σ => ?_
        refine gret fun w1 hM => ?_
        refine ⟨_, res1 rfl (rt (v := .int _ _) rfl), ?_⟩
        first | (exfalso; omega) | exact ⟨by rw [opN, if_neg (by omega), if_neg (by omega)]; rfl, hM.low⟩
    · 
      replace hc6 := of_decide_eq_false hc6
      refine greg ?_
      refine gop (y_eql rfl rfl) rfl rfl rfl ?_
      refine gop (y_assign (v := .bool _) rfl) rfl rfl rfl ?_
      refine gops_nil ?_
      refine hN6 _ _ ?_
      refine gfrom [(6, .bool _)] ⟨rfl, trivial⟩ fun σ => ?_
      refine gcond (b := _) rfl (fun hc6 => ?_) (fun hc6 => ?_)
      · 
        replace hc6 := of_decide_eq_true hc6
        refine gseq fun N10 hN10 => ?_
        refine greg ?_
        refine gop (y_assign (v := .int _ _) rfl) rfl rfl rfl ?_
        refine gops_nil ?_
        refine hN10 _ _ ?_
        refine gfrom [(2, .int _ _)] ⟨rfl, trivial⟩ fun σ => ?_
        refine gret fun w1 hM => ?_
        refine ⟨_, res1 rfl (rt (v := .int _ _) rfl), ?_⟩
        exact ⟨by rw [opN, if_neg (by omega), if_pos (by omega)]; rfl, hM.low⟩
      · 
        replace hc6 := of_decide_eq_false hc6
        refine gskip ?_
        refine hN2 _ _ ?_
        refine gfrom [] trivial fun σ => ?_
        refine gseq fun N11 hN11 => ?_
        refine greg ?_
        refine gop (y_assign (v := .int _ _) rfl) rfl rfl rfl ?_
        refine gops_nil ?_
        refine hN11 _ _ ?_
        refine gfrom [(2, .int _ _)] ⟨rfl, trivial⟩ fun σ => ?_
        refine gret fun w1 hM => ?_
        refine ⟨_, res1 rfl (rt (v := .int _ _) rfl), ?_⟩
        first | (exfalso; omega) | exact ⟨by rw [opN, if_neg (by omega), if_neg (by omega)]; rfl, hM.low⟩
set_option maxHeartbeats 1000000 in
theorem polMost_any (w : World) (k : Int) : Calls Tryz.prog 98 #[.int .i64 k] w fun e w' => e = .returned (.int .i64 (mostN k)) ∧ Below w.heap.size w w' := by
  refine gcalls Tryz.func98 rfl Tryz.ntmps98 (Nat.le_of_ble_eq_true rfl) ?_
  refine gfrom [(0, .int _ _)] ⟨rfl, trivial⟩ fun σ => ?_
  refine gseq fun N1 hN1 => ?_
  refine greg ?_
  refine gop (y_assign (v := .int _ _) rfl) rfl rfl rfl ?_
  refine gops_nil ?_
  refine hN1 _ _ ?_
  refine gfrom [(0, .int _ _)] ⟨rfl, trivial⟩ fun σ => ?_
  refine gseq fun N2 hN2 => ?_
  refine gseq fun N3 hN3 => ?_
  refine greg ?_
  refine gop (y_move (v := .int _ _) rfl) rfl rfl rfl ?_
  refine gops_nil ?_
  refine hN3 _ _ ?_
  refine gfrom [(3, .int _ _)] ⟨rfl, trivial⟩ fun σ => ?_
  refine gblock ?_
  refine gseq fun N4 hN4 => ?_
  refine greg ?_
  refine gop (y_eql rfl rfl) rfl rfl rfl ?_
  refine gop (y_assign (v := .bool _) rfl) rfl rfl rfl ?_
  refine gops_nil ?_
  refine hN4 _ _ ?_
  refine gfrom [(3, .int _ _), (4, .bool _)] ⟨rfl, rfl, trivial⟩ fun σ => ?_
  refine gcond (b := _) rfl (fun hc4 => ?_) (fun hc4 => ?_)
  · 
    replace hc4 := of_decide_eq_true hc4
    refine gseq fun N5 hN5 => ?_
    refine greg ?_
    refine gop (y_assign (v := .int _ _) rfl) rfl rfl rfl ?_
    refine gops_nil ?_
    refine hN5 _ _ ?_
    refine gfrom [(2, .int _ _)] ⟨rfl, trivial⟩ fun σ => ?_
    refine gret fun w1 hM => ?_
    refine ⟨_, res1 rfl (rt (v := .int _ _) rfl), ?_⟩
    exact ⟨by rw [mostN, if_pos (by omega)], hM.low⟩
  · 
    replace hc4 := of_decide_eq_false hc4
    refine gseq fun N6 hN6 => ?_
    refine greg ?_
    refine gop (y_eql rfl rfl) rfl rfl rfl ?_
    refine gop (y_assign (v := .bool _) rfl) rfl rfl rfl ?_
    refine gops_nil ?_
    refine hN6 _ _ ?_
    refine gfrom [(6, .bool _)] ⟨rfl, trivial⟩ fun σ => ?_
    refine gcond (b := _) rfl (fun hc6 => ?_) (fun hc6 => ?_)
    · 
      replace hc6 := of_decide_eq_true hc6
      refine gseq fun N7 hN7 => ?_
      refine greg ?_
      refine gop (y_assign (v := .int _ _) rfl) rfl rfl rfl ?_
      refine gops_nil ?_
      refine hN7 _ _ ?_
      refine gfrom [(2, .int _ _)] ⟨rfl, trivial⟩ fun σ => ?_
      refine gret fun w1 hM => ?_
      refine ⟨_, res1 rfl (rt (v := .int _ _) rfl), ?_⟩
      exact ⟨by rw [mostN, if_neg (by omega), if_pos (by omega)], hM.low⟩
    · 
      replace hc6 := of_decide_eq_false hc6
      refine gskip ?_
      refine hN2 _ _ ?_
      refine gfrom [] trivial fun σ => ?_
      refine gseq fun N8 hN8 => ?_
      refine greg ?_
      refine gop (y_assign (v := .int _ _) rfl) rfl rfl rfl ?_
      refine gops_nil ?_
      refine hN8 _ _ ?_
      refine gfrom [(2, .int _ _)] ⟨rfl, trivial⟩ fun σ => ?_
      refine gret fun w1 hM => ?_
      refine ⟨_, res1 rfl (rt (v := .int _ _) rfl), ?_⟩
      exact ⟨by rw [mostN, if_neg (by omega), if_neg (by omega)], hM.low⟩
set_option maxHeartbeats 4000000 in
theorem polCheck_any (w : World) (n : PN) (A : Option Addr) (c : Nat) (r : List Int) (hr : Rdl w 0 1 intCells A r) (hrl : r.length ≤ c) (hcm : c ≤ maxLen) : Calls Tryz.prog 66 #[pnV n, .slice A r.length c] w fun e w' => e = .returned (.int .i64 (chk n r)) ∧ Below w.heap.size w w' := by
  unfold maxLen at hcm
  have ho2 := opN_le n.kind
  refine gcalls Tryz.func66 rfl Tryz.ntmps66 (Nat.le_of_ble_eq_true rfl) ?_
  refine gfrom [(0, .agg #[_, _, _, _]), (1, .slice _ _ _)] ⟨rfl, rfl, trivial⟩ fun σ => ?_
  refine gseq fun N1 hN1 => ?_
  refine greg ?_
  refine gop_box (v := .agg #[_, _, _, _]) (cs := #[_, _, _, _]) rfl rfl rfl (fun b2 hb2 => ?_)
  refine gop (y_assign (v := .int _ _) rfl) rfl rfl rfl ?_
  refine gops_nil ?_
  refine hN1 _ _ ?_
  refine gT [box b2 _] rfl ?_
  refine gfrom [(1, .slice _ _ _), (2, .pointer _)] ⟨rfl, rfl, trivial⟩ fun σ => ?_
  refine gseq fun N2 hN2 => ?_
  refine greg ?_
  refine gop (y_fieldAddr_box fa48_0 rfl) rfl rfl rfl ?_
  refine gop (y_load Tryz.isAgg3 rfl (cell_box 0 rfl rfl)) rfl rfl rfl ?_
  refine gop_pure (e_call (vs := [.int _ _]) Tryz.func67 rfl (by kernel_rfl) rfl) (fun w hM => polOps_any w _) rfl rfl rfl ?_
  refine gop (y_assign (v := .int _ _) rfl) rfl rfl rfl ?_
  refine gops_nil ?_
  refine hN2 _ _ ?_
  refine gfrom [(1, .slice _ _ _), (2, .pointer _), (5, .int _ _)] ⟨rfl, rfl, rfl, trivial⟩ fun σ => ?_
  refine gseq fun N3 hN3 => ?_
  refine gblock ?_
  refine gseq fun N4 hN4 => ?_
  refine greg ?_
  refine gop (y_fieldAddr_box fa48_0 rfl) rfl rfl rfl ?_
  refine gop (y_load Tryz.isAgg3 rfl (cell_box 0 rfl rfl)) rfl rfl rfl ?_
  refine gop (y_lss rfl rfl) rfl rfl rfl ?_
  refine gop (y_move (v := .bool _) rfl) rfl rfl rfl ?_
  refine gop_if (want := false) rfl rfl rfl rfl rfl rfl (fun hg14 => ?_) (fun hg14 => ?_)
  · 
    have hg14d := of_decide_eq_false hg14
    refine gop (y_bare (y_fieldAddr_box fa48_0 rfl)) rfl rfl rfl ?_
    refine gop_on rfl rfl rfl rfl hg14 ?_
    refine gop (y_bare (y_load Tryz.isAgg3 rfl (cell_box 0 rfl rfl))) rfl rfl rfl ?_
    refine gop_on rfl rfl rfl rfl hg14 ?_
    refine gop (y_bare (y_gtr rfl rfl)) rfl rfl rfl ?_
    refine gop (y_pick_f (v := .bool _) rfl hg14 rfl) rfl rfl rfl ?_
    refine gop (y_assign (v := .bool _) rfl) rfl rfl rfl ?_
    refine gops_nil ?_
    refine hN4 _ _ ?_
    refine gfrom [(1, .slice _ _ _), (2, .pointer _), (5, .int _ _), (10, .bool _)] ⟨rfl, rfl, rfl, rfl, trivial⟩ fun σ => ?_
    refine gcond (b := _) rfl (fun hc10 => ?_) (fun hc10 => ?_)
    · 
      replace hc10 := of_decide_eq_true hc10
      have hC : chk n r = 4 := by rw [chk, if_pos (by omega)]
      refine gseq fun N5 hN5 => ?_
      refine greg ?_
      refine gop (y_assign (v := .int _ _) rfl) rfl rfl rfl ?_
      refine gops_nil ?_
      refine hN5 _ _ ?_
      refine gfrom [(4, .int _ _)] ⟨rfl, trivial⟩ fun σ => ?_
      refine gret fun w1 hM => ?_
      refine ⟨_, res1 rfl (rt (v := .int _ _) rfl), ?_⟩
      exact ⟨by rw [hC], hM.low⟩
    · 
      replace hc10 := of_decide_eq_false hc10
      have hk7 : ¬ (n.kind < 1 ∨ 7 < n.kind) := by omega
      refine gseq fun N6 hN6 => ?_
      refine greg_q (by kernel_rfl) (by kernel_rfl) ?_
      refine gq (y_fieldAddr_box fa48_1 rfl) rfl rfl rfl ?_
      refine gq (y_load Tryz.isAgg3 rfl (cell_box 0 rfl rfl)) rfl rfl rfl ?_
      refine gq (y_lss rfl rfl) rfl rfl rfl ?_
      refine gq (y_move (v := .bool _) rfl) rfl rfl rfl ?_
      refine gq_if (want := false) rfl rfl rfl rfl rfl rfl (fun hg23 => ?_) (fun hg23 => ?_)
      · 
        have hg23d := of_decide_eq_false hg23
        refine gq (y_bare (y_fieldAddr_box fa48_1 rfl)) rfl rfl rfl ?_
        refine gq_on rfl rfl rfl rfl hg23 ?_
        refine gq (y_bare (y_load Tryz.isAgg3 rfl (cell_box 0 rfl rfl))) rfl rfl rfl ?_
        refine gq_on rfl rfl rfl rfl hg23 ?_
        refine gq (y_bare (y_fieldAddr_box fa48_0 rfl)) rfl rfl rfl ?_
        refine gq_on rfl rfl rfl rfl hg23 ?_
        refine gq (y_bare (y_load Tryz.isAgg3 rfl (cell_box 0 rfl rfl))) rfl rfl rfl ?_
        refine gq_on rfl rfl rfl rfl hg23 ?_
        refine gq_pure (e_call (vs := [.int _ _]) Tryz.func98 rfl (by kernel_rfl) rfl) (fun w hM => polMost_any w _) rfl rfl rfl ?_
        refine gq_on rfl rfl rfl rfl hg23 ?_
        refine gq (y_bare (y_gtr rfl rfl)) rfl rfl rfl ?_
        refine gq (y_pick_f (v := .bool _) rfl hg23 rfl) rfl rfl rfl ?_
        refine gq (y_assign (v := .bool _) rfl) rfl rfl rfl ?_
        refine gqs_nil ?_
        refine hN6 _ _ ?_
        refine gfrom [(1, .slice _ _ _), (2, .pointer _), (5, .int _ _), (19, .bool _)] ⟨rfl, rfl, rfl, rfl, trivial⟩ fun σ => ?_
        refine gcond (b := _) rfl (fun hc19 => ?_) (fun hc19 => ?_)
        · 
          replace hc19 := of_decide_eq_true hc19
          have hC : chk n r = 3 := by rw [chk, if_neg hk7, if_pos (by omega)]
          refine gseq fun N7 hN7 => ?_
          refine greg ?_
          refine gop (y_assign (v := .int _ _) rfl) rfl rfl rfl ?_
          refine gops_nil ?_
          refine hN7 _ _ ?_
          refine gfrom [(4, .int _ _)] ⟨rfl, trivial⟩ fun σ => ?_
          refine gret fun w1 hM => ?_
          refine ⟨_, res1 rfl (rt (v := .int _ _) rfl), ?_⟩
          exact ⟨by rw [hC], hM.low⟩
        · 
          replace hc19 := of_decide_eq_false hc19
          have hn7 : ¬ (n.number < 0 ∨ mostN n.kind < n.number) := by omega
          refine gseq fun N8 hN8 => ?_
          refine greg ?_
          refine gop (y_move (v := .slice _ _ _) rfl) rfl rfl rfl ?_
          refine gop (y_len Tryz.underlying74 rfl) rfl rfl rfl ?_
          refine gop (y_move (v := .int _ _) rfl) rfl rfl rfl ?_
          refine gop (y_lss rfl rfl) rfl rfl rfl ?_
          refine gop (y_assign (v := .bool _) rfl) rfl rfl rfl ?_
          refine gops_nil ?_
          refine hN8 _ _ ?_
          refine gfrom [(1, .slice _ _ _), (2, .pointer _), (5, .int _ _), (31, .bool _)] ⟨rfl, rfl, rfl, rfl, trivial⟩ fun σ => ?_
          refine gcond (b := _) rfl (fun hc31 => ?_) (fun hc31 => ?_)
          · 
            replace hc31 := of_decide_eq_true hc31
            have hC : chk n r = 5 := by rw [chk, if_neg hk7, if_neg hn7, if_pos (by omega)]
            refine gseq fun N9 hN9 => ?_
            refine greg ?_
            refine gop (y_assign (v := .int _ _) rfl) rfl rfl rfl ?_
            refine gops_nil ?_
            refine hN9 _ _ ?_
            refine gfrom [(4, .int _ _)] ⟨rfl, trivial⟩ fun σ => ?_
            refine gret fun w1 hM => ?_
            refine ⟨_, res1 rfl (rt (v := .int _ _) rfl), ?_⟩
            exact ⟨by rw [hC], hM.low⟩
          · 
            replace hc31 := of_decide_eq_false hc31
            have ho : opN n.kind ≤ r.length := by omega
            refine gskip ?_
            refine hN3 _ _ ?_
            refine gfrom [(1, .slice _ _ _), (2, .pointer _), (5, .int _ _)] ⟨rfl, rfl, rfl, trivial⟩ fun σ => ?_
            refine gseq fun N10 hN10 => ?_
            refine greg ?_
            refine gop_alloc (cs := #[.int .i64 0, .int .i64 0]) Tryz.zeroValue171 rfl rfl (fun b6 hb6 => ?_)
            refine gops_nil ?_
            refine hN10 _ _ ?_
            refine gT [box b2 _, box b6 _] rfl ?_
            refine gfrom [(1, .slice _ _ _), (2, .pointer _), (5, .int _ _), (6, .pointer _)] ⟨rfl, rfl, rfl, rfl, trivial⟩ fun σ => ?_
            refine gseq fun N11 hN11 => ?_
            refine greg_e0 [7] (by kernel_rfl) ?_
            refine ge_take 0 (TK := [box b2 _, box b6 _]) rfl (by kernel_rfl) (by kernel_rfl) (by kernel_rfl) #[false, true, true, true, true, true, true, false] (by kernel_rfl) rfl (y_slice_arr Tryz.underlying171 Tryz.sizeOf3 rfl) rfl rfl rfl (weak_refl) (listed' := #[true, false, false, false, false, false, false, false]) rfl ?_
            refine ge_take 1 (TK := [box b2 _, box b6 _]) rfl (by kernel_rfl) (by kernel_rfl) (by kernel_rfl) #[true, false, true, true, true, true, false, false] (by kernel_rfl) rfl (y_move (v := .slice _ _ _) rfl) rfl rfl rfl (weak_refl) (listed' := #[true, true, false, false, false, false, false, false]) rfl ?_
            refine ge_take 2 (TK := [box b2 _, box b6 _]) rfl (by kernel_rfl) (by kernel_rfl) (by kernel_rfl) #[true, true, false, false, true, false, false, false] (by kernel_rfl) rfl (y_move (v := .slice _ _ _) rfl) rfl rfl rfl (weak_refl) (listed' := #[true, true, true, false, false, false, false, false]) rfl ?_
            refine ge_take 3 (TK := [box b2 _, box b6 _]) rfl (by kernel_rfl) (by kernel_rfl) (by kernel_rfl) #[true, true, true, false, true, false, false, false] (by kernel_rfl) rfl (y_len Tryz.underlying74 rfl) rfl rfl rfl (weak_refl) (listed' := #[true, true, true, true, false, false, false, false]) rfl ?_
            refine ge_take 4 (TK := [box b2 _, box b6 _]) rfl (by kernel_rfl) (by kernel_rfl) (by kernel_rfl) #[true, true, true, true, false, false, false, false] (by kernel_rfl) rfl (y_move (v := .int _ _) rfl) rfl rfl rfl (weak_refl) (listed' := #[true, true, true, true, true, false, false, false]) rfl ?_
            refine ge_take 5 (TK := [box b2 _, box b6 _]) rfl (by kernel_rfl) (by kernel_rfl) (by kernel_rfl) #[true, true, true, true, true, false, false, false] (by kernel_rfl) rfl (y_sub rfl rfl ⟨by omega, by omega⟩) rfl rfl rfl (weak_refl) (listed' := #[true, true, true, true, true, true, false, false]) rfl ?_
            refine ge_take 6 (TK := [box b2 _, box b6 _]) rfl (by kernel_rfl) (by kernel_rfl) (by kernel_rfl) #[true, true, true, true, true, true, false, false] (by kernel_rfl) rfl (y_slice_lo Tryz.underlying74 Tryz.sizeOf3 rfl rfl (by omega) (by omega)) rfl rfl rfl (weak_refl) (listed' := #[true, true, true, true, true, true, true, false]) rfl ?_
            refine ge_one 7 (k' := 1) (listed' := #[true, true, true, true, true, true, true, true]) (by kernel_rfl) rfl rfl rfl ?_
            refine gop_copy 1 (cs' := #[.int .i64 (want r (opN n.kind) 0), .int .i64 (want r (opN n.kind) 1)]) Tryz.underlying74 Tryz.sizeOf3 rfl rfl (by omega) (fun w hM => by have h9 := ((hr.base hM).cut (i := r.length - opN n.kind) (j := r.length) (cap := c) (by omega) (Nat.le_refl _) hrl).src (fun _ => rfl); rw [List.take_of_length_le (by simp)] at h9; exact (show ((r.length : Int) - (opN n.kind : Int)).toNat = r.length - opN n.kind by omega) ▸ (by simpa using h9)) (flat_one wide_int _) rfl (by rw [flat_len (size := 1) (fun _ => rfl), List.length_drop]; show _ ≤ 2; omega) (copy_want ho ho2) rfl rfl ?_
            refine gops_nil ?_
            refine ge_fin (TK := []) rfl (weak_nil) ?_
            refine ge_done (by kernel_rfl) ?_
            refine hN11 _ _ ?_
            refine gT [box b2 _, box b6 _] rfl ?_
            refine gfrom [(2, .pointer _), (6, .pointer _)] ⟨rfl, rfl, trivial⟩ fun σ => ?_
            refine gseq fun N12 hN12 => ?_
            refine gseq fun N13 hN13 => ?_
            refine greg ?_
            refine gop (y_fieldAddr_box fa48_2 rfl) rfl rfl rfl ?_
            refine gop (y_load Tryz.isAgg3 rfl (cell_box 0 rfl rfl)) rfl rfl rfl ?_
            refine gop (y_indexAddr_arr (m := 0) Tryz.underlying171 Tryz.sizeOf3 rfl rfl rfl (by omega) (by omega)) rfl rfl rfl ?_
            refine gop (y_load Tryz.isAgg3 rfl (cell_box 1 rfl rfl)) rfl rfl rfl ?_
            refine gop (y_neq rfl rfl) rfl rfl rfl ?_
            refine gop (y_move (v := .bool _) rfl) rfl rfl rfl ?_
            refine gop_if (want := false) rfl rfl rfl rfl rfl rfl (fun hg49 => ?_) (fun hg49 => ?_)
            · 
              have hg49d := Decidable.not_not.1 (of_decide_eq_false hg49)
              refine gop (y_bare (y_fieldAddr_box fa48_3 rfl)) rfl rfl rfl ?_
              refine gop_on rfl rfl rfl rfl hg49 ?_
              refine gop (y_bare (y_load Tryz.isAgg3 rfl (cell_box 0 rfl rfl))) rfl rfl rfl ?_
              refine gop_on rfl rfl rfl rfl hg49 ?_
              refine gop (y_bare (y_indexAddr_arr (m := 1) Tryz.underlying171 Tryz.sizeOf3 rfl rfl rfl (by omega) (by omega))) rfl rfl rfl ?_
              refine gop_on rfl rfl rfl rfl hg49 ?_
              refine gop (y_bare (y_load Tryz.isAgg3 rfl (cell_box 1 rfl rfl))) rfl rfl rfl ?_
              refine gop_on rfl rfl rfl rfl hg49 ?_
              refine gop (y_bare (y_neq rfl rfl)) rfl rfl rfl ?_
              refine gop (y_pick_f (v := .bool _) rfl hg49 rfl) rfl rfl rfl ?_
              refine gops_nil ?_
              refine hN13 _ _ ?_
              refine gfrom [(55, .bool _)] ⟨rfl, trivial⟩ fun σ => ?_
              refine gcond (b := _) rfl (fun hc55 => ?_) (fun hc55 => ?_)
              · 
                replace hc55 := of_decide_eq_true hc55
                have hC : chk n r = 5 := by rw [chk, if_neg hk7, if_neg hn7, if_neg (by omega), if_pos (by omega)]
                refine gseq fun N14 hN14 => ?_
                refine greg ?_
                refine gop (y_assign (v := .int _ _) rfl) rfl rfl rfl ?_
                refine gops_nil ?_
                refine hN14 _ _ ?_
                refine gfrom [(4, .int _ _)] ⟨rfl, trivial⟩ fun σ => ?_
                refine gret fun w1 hM => ?_
                refine ⟨_, res1 rfl (rt (v := .int _ _) rfl), ?_⟩
                exact ⟨by rw [hC], hM.low⟩
              · 
                replace hc55 := Decidable.not_not.1 (of_decide_eq_false hc55)
                have hC : chk n r = 0 := by rw [chk, if_neg hk7, if_neg hn7, if_neg (by omega), if_neg (by omega)]
                refine gskip ?_
                refine hN12 _ _ ?_
                refine gfrom [] trivial fun σ => ?_
                refine gseq fun N15 hN15 => ?_
                refine greg ?_
                refine gop (y_assign (v := .int _ _) rfl) rfl rfl rfl ?_
                refine gops_nil ?_
                refine hN15 _ _ ?_
                refine gfrom [(4, .int _ _)] ⟨rfl, trivial⟩ fun σ => ?_
                refine gret fun w1 hM => ?_
                refine ⟨_, res1 rfl (rt (v := .int _ _) rfl), ?_⟩
                exact ⟨by rw [hC], hM.low⟩
            · 
              have hg49d := of_decide_eq_true hg49
              refine gop_off rfl rfl rfl rfl hg49 rfl rfl ?_
              refine gop_off rfl rfl rfl rfl hg49 rfl rfl ?_
              refine gop_off rfl rfl rfl rfl hg49 rfl rfl ?_
              refine gop_off rfl rfl rfl rfl hg49 rfl rfl ?_
              refine gop (y_pick_t (v := .bool _) rfl hg49 rfl) rfl rfl rfl ?_
              refine gops_nil ?_
              refine hN13 _ _ ?_
              refine gfrom [(55, .bool _)] ⟨rfl, trivial⟩ fun σ => ?_
              refine gcond (b := _) rfl (fun hc55 => ?_) (fun hc55 => ?_)
              · 
                have hC : chk n r = 5 := by rw [chk, if_neg hk7, if_neg hn7, if_neg (by omega), if_pos (by omega)]
                refine gseq fun N16 hN16 => ?_
                refine greg ?_
                refine gop (y_assign (v := .int _ _) rfl) rfl rfl rfl ?_
                refine gops_nil ?_
                refine hN16 _ _ ?_
                refine gfrom [(4, .int _ _)] ⟨rfl, trivial⟩ fun σ => ?_
                refine gret fun w1 hM => ?_
                refine ⟨_, res1 rfl (rt (v := .int _ _) rfl), ?_⟩
                exact ⟨by rw [hC], hM.low⟩
              · 
                cases hc55
      · 
        have hg23d := of_decide_eq_true hg23
        refine gq_off rfl rfl rfl rfl hg23 rfl rfl ?_
        refine gq_off rfl rfl rfl rfl hg23 rfl rfl ?_
        refine gq_off rfl rfl rfl rfl hg23 rfl rfl ?_
        refine gq_off rfl rfl rfl rfl hg23 rfl rfl ?_
        refine gq_off rfl rfl rfl rfl hg23 rfl rfl ?_
        refine gq (y_pick_t (v := .bool _) rfl hg23 rfl) rfl rfl rfl ?_
        refine gq (y_assign (v := .bool _) rfl) rfl rfl rfl ?_
        refine gqs_nil ?_
        refine hN6 _ _ ?_
        refine gfrom [(1, .slice _ _ _), (2, .pointer _), (5, .int _ _), (19, .bool _)] ⟨rfl, rfl, rfl, rfl, trivial⟩ fun σ => ?_
        refine gcond (b := _) rfl (fun hc19 => ?_) (fun hc19 => ?_)
        · 
          have hC : chk n r = 3 := by rw [chk, if_neg hk7, if_pos (by omega)]
          refine gseq fun N17 hN17 => ?_
          refine greg ?_
          refine gop (y_assign (v := .int _ _) rfl) rfl rfl rfl ?_
          refine gops_nil ?_
          refine hN17 _ _ ?_
          refine gfrom [(4, .int _ _)] ⟨rfl, trivial⟩ fun σ => ?_
          refine gret fun w1 hM => ?_
          refine ⟨_, res1 rfl (rt (v := .int _ _) rfl), ?_⟩
          exact ⟨by rw [hC], hM.low⟩
        · 
          cases hc19
  · 
    have hg14d := of_decide_eq_true hg14
    refine gop_off rfl rfl rfl rfl hg14 rfl rfl ?_
    refine gop_off rfl rfl rfl rfl hg14 rfl rfl ?_
    refine gop (y_pick_t (v := .bool _) rfl hg14 rfl) rfl rfl rfl ?_
    refine gop (y_assign (v := .bool _) rfl) rfl rfl rfl ?_
    refine gops_nil ?_
    refine hN4 _ _ ?_
    refine gfrom [(1, .slice _ _ _), (2, .pointer _), (5, .int _ _), (10, .bool _)] ⟨rfl, rfl, rfl, rfl, trivial⟩ fun σ => ?_
    refine gcond (b := _) rfl (fun hc10 => ?_) (fun hc10 => ?_)
    · 
      have hC : chk n r = 4 := by rw [chk, if_pos (by omega)]
      refine gseq fun N18 hN18 => ?_
      refine greg ?_
      refine gop (y_assign (v := .int _ _) rfl) rfl rfl rfl ?_
      refine gops_nil ?_
      refine hN18 _ _ ?_
      refine gfrom [(4, .int _ _)] ⟨rfl, trivial⟩ fun σ => ?_
      refine gret fun w1 hM => ?_
      refine ⟨_, res1 rfl (rt (v := .int _ _) rfl), ?_⟩
      exact ⟨by rw [hC], hM.low⟩
    · 
      cases hc10
end Go.Proofs.YtbkameioedmlkaaGreatDoor
namespace Go.Proofs.YtbkameioedmlkaaGreatDoor
open Go.RowKit Go.Cf
set_option maxRecDepth 10000
theorem fa43_0 (a : Addr) (w : World) : (Instr.fieldAt 43 (.pointer (some a)) 0).run Tryz.prog w = .ok (.pointer (some (a.add 0))) w := by kernel_rfl
set_option maxHeartbeats 4000000 in
theorem polDepth_any (w : World) (A : Option Addr) (c : Nat) (l : List PN) (hl : Rdl w 0 4 pnCells A l) (hlc : l.length ≤ c) (hcm : c ≤ maxLen) (hln : l.length ≤ 1000) (hpos : 0 < l.length) (hk : Linked l) : Calls Tryz.prog 68 #[.agg #[.slice A l.length c]] w fun e w' => e = .returned (.int .i64 (depL l)) ∧ Below w.heap.size w w' := by
  have hlm : l.length ≤ 9223372036854775807 := by have h9 := Nat.le_trans hlc hcm; unfold maxLen at h9; omega
  refine gcalls Tryz.func68 rfl Tryz.ntmps68 (Nat.le_of_ble_eq_true rfl) ?_
  refine gfrom [(0, .agg #[_])] ⟨rfl, trivial⟩ fun σ => ?_
  refine gseq fun N1 hN1 => ?_
  refine greg ?_
  refine gop_box (v := .agg #[_]) (cs := #[_]) rfl rfl rfl (fun b1 hb1 => ?_)
  refine gop (y_assign (v := .int _ _) rfl) rfl rfl rfl ?_
  refine gops_nil ?_
  refine hN1 _ _ ?_
  refine gT [box b1 _] rfl ?_
  refine gfrom [(1, .pointer _)] ⟨rfl, trivial⟩ fun σ => ?_
  refine gseq fun N2 hN2 => ?_
  refine greg ?_
  refine gop (y_fieldAddr_box fa43_0 rfl) rfl rfl rfl ?_
  refine gop (y_load Tryz.isAgg41 rfl (cell_box 0 rfl rfl)) rfl rfl rfl ?_
  refine gop (y_len Tryz.underlying41 rfl) rfl rfl rfl ?_
  refine gop_make (f := intCells) (bytes := 8) (z := .int .i64 0) ((0 : Int)) Tryz.underlying74 (by kernel_rfl) rfl rfl rfl (k := l.length) rfl rfl (by omega) (by simp [maxLen]; omega) rfl (fun b9 hb9 => ?_)
  refine gop (y_assign (v := .slice (some _) _ _) rfl) rfl rfl rfl ?_
  refine gops_nil ?_
  refine hN2 _ _ ?_
  refine gT [box b1 _, rowl _ _ _ _ _ _] rfl ?_
  refine gfrom [(1, .pointer _), (3, .slice (some _) _ _)] ⟨rfl, rfl, trivial⟩ fun σ => ?_
  refine gseq fun N3 hN3 => ?_
  refine gseq fun N4 hN4 => ?_
  refine greg ?_
  refine gop (y_fieldAddr_box fa43_0 rfl) rfl rfl rfl ?_
  refine gop (y_load Tryz.isAgg41 rfl (cell_box 0 rfl rfl)) rfl rfl rfl ?_
  refine gop (y_len Tryz.underlying41 rfl) rfl rfl rfl ?_
  refine gop (y_move (v := .int _ _) rfl) rfl rfl rfl ?_
  refine gops_nil ?_
  refine hN4 _ _ ?_
  refine gfrom [(3, .slice (some _) _ _), (11, .slice _ _ _), (12, .int _ _), (13, .int _ _)] ⟨rfl, rfl, rfl, rfl, trivial⟩ fun σ => ?_
  refine gblock ?_
  rw [← pad_nil l.length (0 : Int)]
  refine gfrom2 [(13, .int _ _)] [(3, .slice (some _) _ _), (11, .slice _ _ _), (12, .int _ _)] ⟨rfl, trivial⟩ ⟨rfl, rfl, rfl, trivial⟩ fun σ => ?_
  refine gloop2 (G := Nat) (fun k => k ≤ l.length) (fun k => l.length - k) (fun k => [(13, .int .i64 (k : Int))]) (fun k => [(1, rowl intCells w.heap.size 3 1 (.slice (some ⟨b9, 0, none⟩) l.length l.length) (pad 0 (foldTo dN l k) l.length))]) (0) ?h0 ⟨rfl, trivial⟩ ⟨rfl, rfl, rfl, trivial⟩ rfl ?round
  case h0 => exact Nat.zero_le _
  case round =>
    intro k hφ σ
    have hkk : k ≤ l.length := hφ
    refine gT [box b1 _, rowl _ _ _ _ _ _] rfl ?_
    refine gseq fun N5 hN5 => ?_
    refine greg ?_
    refine gop (y_lss rfl rfl) rfl rfl rfl ?_
    refine gops_nil ?_
    refine hN5 _ _ ?_
    refine gfrom [(3, .slice (some _) _ _), (11, .slice _ _ _), (12, .int _ _), (13, .int _ _), (14, .bool _)] ⟨rfl, rfl, rfl, rfl, rfl, trivial⟩ fun σ => ?_
    refine gseq fun N6 hN6 => ?_
    refine gcond (b := _) rfl (fun hc14 => ?_) (fun hc14 => ?_)
    · 
      replace hc14 := of_decide_eq_true hc14
      have hk1 : k < l.length := by omega
      obtain ⟨ad, rfl, -, hca⟩ := hl.at_ hk1
      obtain ⟨hkl, hkr⟩ := hk k hk1
      refine gskip ?_
      refine hN6 _ _ ?_
      refine gfrom [(3, .slice (some _) _ _), (11, .slice _ _ _), (12, .int _ _), (13, .int _ _)] ⟨rfl, rfl, rfl, rfl, trivial⟩ fun σ => ?_
      refine gseq fun N7 hN7 => ?_
      refine gblock ?_
      refine gseq fun N8 hN8 => ?_
      refine greg ?_
      refine gop (y_move (v := .int _ _) rfl) rfl rfl rfl ?_
      refine gop (y_indexAddr (m := k) Tryz.underlying41 Tryz.sizeOf48 rfl rfl (by omega) (by omega) (by omega)) rfl rfl rfl ?_
      refine gop (y_loads (cs := [_, _, _, _]) Tryz.isAgg48 Tryz.sizeOf48 rfl rfl (cells_base hca)) rfl rfl rfl ?_
      refine gop_alloc (cs := #[.int .i64 0, .int .i64 0, .int .i64 0, .int .i64 0]) Tryz.zeroValue48 rfl rfl (fun b5 hb5 => ?_)
      refine gop (y_assign (v := .int _ _) rfl) rfl rfl rfl ?_
      refine gop_store 2 (v := .agg #[_, _, _, _]) (cs' := #[_, _, _, _]) rfl rfl Tryz.sizeOf48 rfl rfl rfl rfl (Nat.le_of_ble_eq_true rfl) rfl rfl ?_
      refine gops_nil ?_
      refine hN8 _ _ ?_
      refine gT [box b1 _, rowl _ _ _ _ _ _, box b5 _] rfl ?_
      refine gfrom [(3, .slice (some _) _ _), (4, .int _ _), (5, .pointer _), (11, .slice _ _ _), (12, .int _ _), (13, .int _ _)] ⟨rfl, rfl, rfl, rfl, rfl, rfl, trivial⟩ fun σ => ?_
      refine gseq fun N9 hN9 => ?_
      refine greg ?_
      refine gop (y_move (v := .slice (some _) _ _) rfl) rfl rfl rfl ?_
      refine gop (y_move (v := .int _ _) rfl) rfl rfl rfl ?_
      refine gop (y_indexAddr (m := k) Tryz.underlying74 Tryz.sizeOf3 rfl rfl (by omega) (by omega) (by omega)) rfl rfl rfl ?_
      refine gop_store_row 1 (f := intCells) (l := pad 0 (foldTo dN l k) l.length) (k := k) (o := 0) (v := .int _ _) (a := (0 : Int)) (a' := (1 : Int)) (fun _ => rfl) rfl rfl rfl Tryz.sizeOf3 rfl rfl rfl rfl (pad_len (by rw [foldTo_len]; omega)).symm (pad_at (foldTo_len k) hk1) (Nat.le_of_ble_eq_true rfl) rfl rfl ?_
      refine gops_nil ?_
      refine hN9 _ _ ?_
      refine gT [box b1 _, rowl _ _ _ _ _ _, box b5 _] rfl ?_
      refine gfrom [(3, .slice (some _) _ _), (4, .int _ _), (5, .pointer _), (11, .slice _ _ _), (12, .int _ _), (13, .int _ _)] ⟨rfl, rfl, rfl, rfl, rfl, rfl, trivial⟩ fun σ => ?_
      refine gseq fun N10 hN10 => ?_
      refine gfrom [(3, .slice (some _) _ _), (4, .int _ _), (5, .pointer _), (11, .slice _ _ _), (12, .int _ _), (13, .int _ _)] ⟨rfl, rfl, rfl, rfl, rfl, rfl, trivial⟩ fun σ => ?_
      refine gcut3 (Lf := [(3, .slice (some _) _ _), (4, .int _ _), (5, .pointer _), (11, .slice _ _ _), (12, .int _ _), (13, .int _ _)]) (G := Unit) (fun g => True) (fun g => []) (fun g => [(1, rowl intCells w.heap.size 3 1 (.slice (some ⟨b9, 0, none⟩) l.length l.length) (pad 0 ((foldTo dN l k) ++ [d1 l[k] (foldTo dN l k)]) l.length))]) ⟨rfl, rfl, rfl, rfl, rfl, rfl, trivial⟩ ?_ ?_
      ·
        refine gseq fun N11 hN11 => ?_
        refine greg ?_
        refine gop (y_fieldAddr_box fa48_0 rfl) rfl rfl rfl ?_
        refine gop (y_load Tryz.isAgg3 rfl (cell_box 2 rfl rfl)) rfl rfl rfl ?_
        refine gop_pure (e_call (vs := [.int _ _]) Tryz.func67 rfl (by kernel_rfl) rfl) (fun w hM => polOps_any w _) rfl rfl rfl ?_
        refine gop (y_gtr rfl rfl) rfl rfl rfl ?_
        refine gops_nil ?_
        refine hN11 _ _ ?_
        refine gfrom [(3, .slice (some _) _ _), (4, .int _ _), (5, .pointer _), (11, .slice _ _ _), (12, .int _ _), (13, .int _ _), (24, .bool _)] ⟨rfl, rfl, rfl, rfl, rfl, rfl, rfl, trivial⟩ fun σ => ?_
        refine gcond (b := _) rfl (fun hc24 => ?_) (fun hc24 => ?_)
        · 
          replace hc24 := of_decide_eq_true hc24
          obtain ⟨hl0, hl1⟩ := hkl (by omega)
          obtain ⟨hg0, hg1⟩ := gI_range hk (Nat.le_of_lt hk1) hl0 hl1
          have hd1 : d1 l[k] (foldTo dN l k) = gI (foldTo dN l k) l[k].left + 1 := by rw [d1, if_neg (by omega)]
          refine greg ?_
          refine gop (y_move (v := .slice (some _) _ _) rfl) rfl rfl rfl ?_
          refine gop (y_move (v := .int _ _) rfl) rfl rfl rfl ?_
          refine gop (y_move (v := .slice (some _) _ _) rfl) rfl rfl rfl ?_
          refine gop (y_fieldAddr_box fa48_2 rfl) rfl rfl rfl ?_
          refine gop (y_load Tryz.isAgg3 rfl (cell_box 2 rfl rfl)) rfl rfl rfl ?_
          refine gop (y_indexAddr (m := l[k].left.toNat) Tryz.underlying74 Tryz.sizeOf3 rfl rfl (by omega) (by omega) (by omega)) rfl rfl rfl ?_
          refine gop (y_load Tryz.isAgg3 rfl (cells_rowl 1 (f := intCells) (l := (pad 0 (foldTo dN l k) l.length).set k 1) rfl (by rw [List.length_set, pad_len (by rw [foldTo_len]; omega)]) (fun _ => rfl) (by rw [List.getElem?_set_ne (by omega), pad_old (by rw [foldTo_len]; omega)]; exact gI_get (by rw [foldTo_len]; omega)) 0 _ rfl)) rfl rfl rfl ?_
          refine gop (y_add rfl rfl ⟨by omega, by omega⟩) rfl rfl rfl ?_
          refine gop (y_indexAddr (m := k) Tryz.underlying74 Tryz.sizeOf3 rfl rfl (by omega) (by omega) (by omega)) rfl rfl rfl ?_
          refine gop_store_row 1 (f := intCells) (l := (pad 0 (foldTo dN l k) l.length).set k 1) (k := k) (o := 0) (v := .int _ _) (a := (1 : Int)) (a' := _) (fun _ => rfl) rfl rfl rfl Tryz.sizeOf3 rfl rfl rfl rfl (by rw [List.length_set, pad_len (by rw [foldTo_len]; omega)]) (by rw [pad_set (foldTo_len k) hk1]; exact pad_new (foldTo_len k)) (Nat.le_of_ble_eq_true rfl) rfl rfl ?_
          refine gops_nil ?_
          rw [hd1, pad_set (foldTo_len k) hk1, pad_set2 (foldTo_len k)]
          refine gcut3_end (()) (trivial) trivial ⟨rfl, rfl, rfl, rfl, rfl, rfl, trivial⟩ ⟨_, rfl⟩
        · 
          replace hc24 := of_decide_eq_false hc24
          have hd1 : d1 l[k] (foldTo dN l k) = 1 := by rw [d1, if_pos (by omega)]
          refine gskip ?_
          rw [hd1, pad_set (foldTo_len k) hk1]
          refine gcut3_end (()) (trivial) trivial ⟨rfl, rfl, rfl, rfl, rfl, rfl, trivial⟩ ⟨_, rfl⟩
      ·
        intro g hcut σ
        refine hN10 _ _ ?_
        refine gseq fun N12 hN12 => ?_
        refine greg ?_
        refine gop (y_fieldAddr_box fa48_0 rfl) rfl rfl rfl ?_
        refine gop (y_load Tryz.isAgg3 rfl (cell_box 2 rfl rfl)) rfl rfl rfl ?_
        refine gop_pure (e_call (vs := [.int _ _]) Tryz.func67 rfl (by kernel_rfl) rfl) (fun w hM => polOps_any w _) rfl rfl rfl ?_
        refine gop (y_gtr rfl rfl) rfl rfl rfl ?_
        refine gops_nil ?_
        refine hN12 _ _ ?_
        refine gT [box b1 _, rowl _ _ _ _ _ _, box b5 _] rfl ?_
        refine gfrom [(3, .slice (some _) _ _), (4, .int _ _), (5, .pointer _), (11, .slice _ _ _), (12, .int _ _), (13, .int _ _), (37, .bool _)] ⟨rfl, rfl, rfl, rfl, rfl, rfl, rfl, trivial⟩ fun σ => ?_
        refine gcond (b := _) rfl (fun hc37 => ?_) (fun hc37 => ?_)
        · 
          replace hc37 := of_decide_eq_true hc37
          obtain ⟨hr0, hr1⟩ := hkr (by omega)
          obtain ⟨hh0, hh1⟩ := gI_range hk (Nat.le_of_lt hk1) hr0 hr1
          have hdN : dN (nAt l k) (foldTo dN l k) = max (d1 l[k] (foldTo dN l k)) (gI (foldTo dN l k) l[k].right + 1) := by rw [nAt_at hk1]; exact dN_two (by omega)
          refine greg_e0 [14] (by kernel_rfl) ?_
          refine ge_take 0 (TK := [box b1 _, rowl _ _ _ _ _ _, box b5 _]) rfl (by kernel_rfl) (by kernel_rfl) (by kernel_rfl) #[false, true, true, true, true, true, true, true, true, true, true, true, true, false, false] (by kernel_rfl) rfl (y_move (v := .slice (some _) _ _) rfl) rfl rfl rfl (weak_refl) (listed' := #[true, false, false, false, false, false, false, false, false, false, false, false, false, false, false]) rfl ?_
          refine ge_take 1 (TK := [box b1 _, rowl _ _ _ _ _ _, box b5 _]) rfl (by kernel_rfl) (by kernel_rfl) (by kernel_rfl) #[true, false, true, true, true, true, true, true, true, true, true, true, true, false, false] (by kernel_rfl) rfl (y_move (v := .int _ _) rfl) rfl rfl rfl (weak_refl) (listed' := #[true, true, false, false, false, false, false, false, false, false, false, false, false, false, false]) rfl ?_
          refine ge_take 2 (TK := [box b1 _, rowl _ _ _ _ _ _, box b5 _]) rfl (by kernel_rfl) (by kernel_rfl) (by kernel_rfl) #[true, true, false, true, false, false, true, true, true, true, true, true, false, false, false] (by kernel_rfl) rfl (y_move (v := .slice (some _) _ _) rfl) rfl rfl rfl (weak_refl) (listed' := #[true, true, true, false, false, false, false, false, false, false, false, false, false, false, false]) rfl ?_
          refine ge_take 3 (TK := [box b1 _, rowl _ _ _ _ _ _, box b5 _]) rfl (by kernel_rfl) (by kernel_rfl) (by kernel_rfl) #[true, true, true, false, false, false, true, true, true, true, true, true, false, false, false] (by kernel_rfl) rfl (y_move (v := .int _ _) rfl) rfl rfl rfl (weak_refl) (listed' := #[true, true, true, true, false, false, false, false, false, false, false, false, false, false, false]) rfl ?_
          refine ge_take 4 (TK := [box b1 _, rowl _ _ _ _ _ _, box b5 _]) rfl (by kernel_rfl) (by kernel_rfl) (by kernel_rfl) #[true, true, true, true, false, false, true, true, true, true, true, true, false, false, false] (by kernel_rfl) rfl (y_indexAddr (m := k) Tryz.underlying74 Tryz.sizeOf3 rfl rfl (by omega) (by omega) (by omega)) rfl rfl rfl (weak_refl) (listed' := #[true, true, true, true, true, false, false, false, false, false, false, false, false, false, false]) rfl ?_
          refine ge_take 5 (TK := [box b1 _, rowl _ _ _ _ _ _, box b5 _]) rfl (by kernel_rfl) (by kernel_rfl) (by kernel_rfl) #[true, true, true, true, true, false, true, true, true, true, true, true, false, false, false] (by kernel_rfl) rfl (y_load Tryz.isAgg3 rfl (cells_rowl 1 (f := intCells) (l := pad 0 ((foldTo dN l k) ++ [d1 l[k] (foldTo dN l k)]) l.length) rfl (by rw [pad_len (by simp [foldTo_len]; omega)]) (fun _ => rfl) (pad_new (foldTo_len k)) 0 _ rfl)) rfl rfl rfl (weak_refl) (listed' := #[true, true, true, true, true, true, false, false, false, false, false, false, false, false, false]) rfl ?_
          refine ge_take 6 (TK := [box b1 _, rowl _ _ _ _ _ _, box b5 _]) rfl (by kernel_rfl) (by kernel_rfl) (by kernel_rfl) #[true, true, true, true, true, true, false, true, true, false, false, false, false, false, false] (by kernel_rfl) rfl (y_move (v := .slice (some _) _ _) rfl) rfl rfl rfl (weak_refl) (listed' := #[true, true, true, true, true, true, true, false, false, false, false, false, false, false, false]) rfl ?_
          refine ge_take 7 (TK := [box b1 _, rowl _ _ _ _ _ _, box b5 _]) rfl (by kernel_rfl) (by kernel_rfl) (by kernel_rfl) #[true, true, true, true, true, true, true, false, false, false, false, false, false, false, false] (by kernel_rfl) rfl (y_fieldAddr_box fa48_3 rfl) rfl rfl rfl (weak_refl) (listed' := #[true, true, true, true, true, true, true, true, false, false, false, false, false, false, false]) rfl ?_
          refine ge_take 8 (TK := [box b1 _, rowl _ _ _ _ _ _, box b5 _]) rfl (by kernel_rfl) (by kernel_rfl) (by kernel_rfl) #[true, true, true, true, true, true, true, true, false, false, false, false, false, false, false] (by kernel_rfl) rfl (y_load Tryz.isAgg3 rfl (cell_box 2 rfl rfl)) rfl rfl rfl (weak_refl) (listed' := #[true, true, true, true, true, true, true, true, true, false, false, false, false, false, false]) rfl ?_
          refine ge_take 9 (TK := [box b1 _, rowl _ _ _ _ _ _, box b5 _]) rfl (by kernel_rfl) (by kernel_rfl) (by kernel_rfl) #[true, true, true, true, true, true, true, true, true, false, false, false, false, false, false] (by kernel_rfl) rfl (y_indexAddr (m := l[k].right.toNat) Tryz.underlying74 Tryz.sizeOf3 rfl rfl (by omega) (by omega) (by omega)) rfl rfl rfl (weak_refl) (listed' := #[true, true, true, true, true, true, true, true, true, true, false, false, false, false, false]) rfl ?_
          refine ge_take 10 (TK := [box b1 _, rowl _ _ _ _ _ _, box b5 _]) rfl (by kernel_rfl) (by kernel_rfl) (by kernel_rfl) #[true, true, true, true, true, true, true, true, true, true, false, false, false, false, false] (by kernel_rfl) rfl (y_load Tryz.isAgg3 rfl (cells_rowl 1 (f := intCells) (l := pad 0 ((foldTo dN l k) ++ [d1 l[k] (foldTo dN l k)]) l.length) rfl (by rw [pad_len (by simp [foldTo_len]; omega)]) (fun _ => rfl) (by rw [pad_old (by simp [foldTo_len]; omega), List.getElem?_append_left (by rw [foldTo_len]; omega)]; exact gI_get (by rw [foldTo_len]; omega)) 0 _ rfl)) rfl rfl rfl (weak_refl) (listed' := #[true, true, true, true, true, true, true, true, true, true, true, false, false, false, false]) rfl ?_
          refine ge_take 11 (TK := [box b1 _, rowl _ _ _ _ _ _, box b5 _]) rfl (by kernel_rfl) (by kernel_rfl) (by kernel_rfl) #[true, true, true, true, true, true, true, true, true, true, true, false, false, false, false] (by kernel_rfl) rfl (y_add rfl rfl ⟨by omega, by omega⟩) rfl rfl rfl (weak_refl) (listed' := #[true, true, true, true, true, true, true, true, true, true, true, true, false, false, false]) rfl ?_
          refine ge_take 12 (TK := [box b1 _, rowl _ _ _ _ _ _, box b5 _]) rfl (by kernel_rfl) (by kernel_rfl) (by kernel_rfl) #[true, true, true, true, true, true, true, true, true, true, true, true, false, false, false] (by kernel_rfl) rfl (y_max rfl rfl) rfl rfl rfl (weak_refl) (listed' := #[true, true, true, true, true, true, true, true, true, true, true, true, true, false, false]) rfl ?_
          refine ge_take 13 (TK := [box b1 _, rowl _ _ _ _ _ _, box b5 _]) rfl (by kernel_rfl) (by kernel_rfl) (by kernel_rfl) #[true, true, true, true, true, true, true, true, true, true, true, true, true, false, false] (by kernel_rfl) rfl (y_indexAddr (m := k) Tryz.underlying74 Tryz.sizeOf3 rfl rfl (by omega) (by omega) (by omega)) rfl rfl rfl (weak_refl) (listed' := #[true, true, true, true, true, true, true, true, true, true, true, true, true, true, false]) rfl ?_
          refine ge_one 14 (k' := 1) (listed' := #[true, true, true, true, true, true, true, true, true, true, true, true, true, true, true]) (by kernel_rfl) rfl rfl rfl ?_
          refine gop_store_row 1 (f := intCells) (l := pad 0 ((foldTo dN l k) ++ [d1 l[k] (foldTo dN l k)]) l.length) (k := k) (o := 0) (v := .int _ _) (a := d1 l[k] (foldTo dN l k)) (a' := _) (fun _ => rfl) rfl rfl rfl Tryz.sizeOf3 rfl rfl rfl rfl (by rw [pad_len (by simp [foldTo_len]; omega)]) (pad_new (foldTo_len k)) (Nat.le_of_ble_eq_true rfl) rfl rfl ?_
          refine gops_nil ?_
          refine ge_fin (TK := []) rfl (weak_nil) ?_
          refine ge_done (by kernel_rfl) ?_
          refine hN7 _ _ ?_
          refine gT [box b1 _, rowl _ _ _ _ _ _, box b5 _] rfl ?_
          refine gfrom [(3, .slice (some _) _ _), (11, .slice _ _ _), (12, .int _ _), (13, .int _ _)] ⟨rfl, rfl, rfl, rfl, trivial⟩ fun σ => ?_
          refine greg ?_
          refine gop (y_add rfl rfl ⟨by omega, by omega⟩) rfl rfl rfl ?_
          refine gop (y_move (v := .int _ _) rfl) rfl rfl rfl ?_
          refine gops_nil ?_
          rw [pad_set2 (foldTo_len k), ← hdN]
          refine gnext2 (k + 1) (by omega) (show k + 1 ≤ _ by omega) ⟨rfl, trivial⟩ ⟨rfl, rfl, rfl, trivial⟩ ⟨_, rfl⟩
        · 
          replace hc37 := of_decide_eq_false hc37
          have hdN : dN (nAt l k) (foldTo dN l k) = d1 l[k] (foldTo dN l k) := by rw [nAt_at hk1]; exact dN_one (by omega)
          refine gskip ?_
          refine hN7 _ _ ?_
          refine gfrom [(3, .slice (some _) _ _), (11, .slice _ _ _), (12, .int _ _), (13, .int _ _)] ⟨rfl, rfl, rfl, rfl, trivial⟩ fun σ => ?_
          refine greg ?_
          refine gop (y_add rfl rfl ⟨by omega, by omega⟩) rfl rfl rfl ?_
          refine gop (y_move (v := .int _ _) rfl) rfl rfl rfl ?_
          refine gops_nil ?_
          rw [← hdN]
          refine gnext2 (k + 1) (by omega) (show k + 1 ≤ _ by omega) ⟨rfl, trivial⟩ ⟨rfl, rfl, rfl, trivial⟩ ⟨_, rfl⟩
    · 
      replace hc14 := of_decide_eq_false hc14
      refine gexit ?_
      refine hN3 _ _ ?_
      refine gfrom [(3, .slice (some _) _ _)] ⟨rfl, trivial⟩ fun σ => ?_
      refine gseq fun N13 hN13 => ?_
      refine greg ?_
      refine gop (y_move (v := .slice (some _) _ _) rfl) rfl rfl rfl ?_
      refine gop (y_move (v := .slice (some _) _ _) rfl) rfl rfl rfl ?_
      refine gop (y_len Tryz.underlying74 rfl) rfl rfl rfl ?_
      refine gop (y_sub rfl rfl ⟨by omega, by omega⟩) rfl rfl rfl ?_
      refine gop (y_indexAddr (m := l.length - 1) Tryz.underlying74 Tryz.sizeOf3 rfl rfl (by omega) (by omega) (by omega)) rfl rfl rfl ?_
      refine gop (y_load Tryz.isAgg3 rfl (cells_rowl 1 (f := intCells) (l := pad 0 (foldTo dN l k) l.length) rfl (by rw [pad_len (by rw [foldTo_len]; omega)]) (fun _ => rfl) (by rw [pad_old (by rw [foldTo_len]; omega), foldTo_get _ _ (by omega)]) 0 _ rfl)) rfl rfl rfl ?_
      refine gop (y_assign (v := .int _ _) rfl) rfl rfl rfl ?_
      refine gops_nil ?_
      refine hN13 _ _ ?_
      refine gfrom [(2, .int _ _)] ⟨rfl, trivial⟩ fun σ => ?_
      refine gret fun w1 hM => ?_
      refine ⟨_, res1 rfl (rt (v := .int _ _) rfl), ?_⟩
      exact ⟨rfl, hM.low⟩
end Go.Proofs.YtbkameioedmlkaaGreatDoor
namespace Go.Proofs.YtbkameioedmlkaaGreatDoor
open Go.RowKit Go.Cf
set_option maxRecDepth 10000
set_option maxHeartbeats 4000000 in
theorem polValidate_any (w : World) (A : Option Addr) (c : Nat) (l : List PN) (hl : Rdl w 0 4 pnCells A l) (hlc : l.length ≤ c) (hcm : c ≤ maxLen) : Calls Tryz.prog 35 #[.agg #[.slice A l.length c]] w fun e w' => e = .returned (fv (polF l)) ∧ Below w.heap.size w w' := by
  have hlm : l.length ≤ 9223372036854775807 := by have h9 := Nat.le_trans hlc hcm; unfold maxLen at h9; omega
  refine gcalls Tryz.func35 rfl Tryz.ntmps35 (Nat.le_of_ble_eq_true rfl) ?_
  refine gfrom [(0, .agg #[_])] ⟨rfl, trivial⟩ fun σ => ?_
  refine gseq fun N1 hN1 => ?_
  refine greg ?_
  refine gop_box (v := .agg #[_]) (cs := #[_]) rfl rfl rfl (fun b1 hb1 => ?_)
  refine gop_alloc (cs := #[.int .i64 0, .int .i64 0]) Tryz.zeroValue33 rfl rfl (fun b2 hb2 => ?_)
  refine gops_nil ?_
  refine hN1 _ _ ?_
  refine gT [box b1 _, box b2 _] rfl ?_
  refine gfrom [(1, .pointer _), (2, .pointer _)] ⟨rfl, rfl, trivial⟩ fun σ => ?_
  refine gseq fun N2 hN2 => ?_
  refine gseq fun N3 hN3 => ?_
  refine greg ?_
  refine gop (y_fieldAddr_box fa43_0 rfl) rfl rfl rfl ?_
  refine gop (y_load Tryz.isAgg41 rfl (cell_box 0 rfl rfl)) rfl rfl rfl ?_
  refine gop (y_len Tryz.underlying41 rfl) rfl rfl rfl ?_
  refine gop (y_eql rfl rfl) rfl rfl rfl ?_
  refine gops_nil ?_
  refine hN3 _ _ ?_
  refine gfrom [(1, .pointer _), (2, .pointer _), (10, .bool _)] ⟨rfl, rfl, rfl, trivial⟩ fun σ => ?_
  refine gcond (b := _) rfl (fun hc10 => ?_) (fun hc10 => ?_)
  · 
    replace hc10 := of_decide_eq_true hc10
    have hF : polF l = ⟨9, -1⟩ := by rw [polF, if_pos (by omega)]
    refine gseq fun N4 hN4 => ?_
    refine greg ?_
    refine gop (y_build (vs := [(0, _), (1, _)]) (cells := #[_, _]) rfl (bd33_0_1 _ _)) rfl rfl rfl ?_
    refine gop_store 1 (v := .agg #[_, _]) (cs' := #[_, _]) rfl rfl Tryz.sizeOf33 rfl rfl rfl rfl (Nat.le_of_ble_eq_true rfl) rfl rfl ?_
    refine gops_nil ?_
    refine hN4 _ _ ?_
    refine gT [box b1 _, box b2 _] rfl ?_
    refine gfrom [(2, .pointer _)] ⟨rfl, trivial⟩ fun σ => ?_
    refine gret fun w1 hM => ?_
    refine ⟨_, res1 rfl (rc 1 (cs := [_, _]) hM rfl rfl Tryz.isAgg33 Tryz.sizeOf33 rfl), ?_⟩
    exact ⟨by rw [hF], hM.low⟩
  · 
    replace hc10 := of_decide_eq_false hc10
    refine gskip ?_
    refine hN2 _ _ ?_
    refine gfrom [(1, .pointer _), (2, .pointer _)] ⟨rfl, rfl, trivial⟩ fun σ => ?_
    refine gseq fun N5 hN5 => ?_
    refine gseq fun N6 hN6 => ?_
    refine greg ?_
    refine gop (y_fieldAddr_box fa43_0 rfl) rfl rfl rfl ?_
    refine gop (y_load Tryz.isAgg41 rfl (cell_box 0 rfl rfl)) rfl rfl rfl ?_
    refine gop (y_len Tryz.underlying41 rfl) rfl rfl rfl ?_
    refine gop (y_gtr rfl rfl) rfl rfl rfl ?_
    refine gops_nil ?_
    refine hN6 _ _ ?_
    refine gfrom [(1, .pointer _), (2, .pointer _), (15, .bool _)] ⟨rfl, rfl, rfl, trivial⟩ fun σ => ?_
    refine gcond (b := _) rfl (fun hc15 => ?_) (fun hc15 => ?_)
    · 
      replace hc15 := of_decide_eq_true hc15
      have hF : polF l = ⟨2, -1⟩ := by rw [polF, if_neg (by omega), if_pos (by omega)]
      refine gseq fun N7 hN7 => ?_
      refine greg ?_
      refine gop (y_build (vs := [(0, _), (1, _)]) (cells := #[_, _]) rfl (bd33_0_1 _ _)) rfl rfl rfl ?_
      refine gop_store 1 (v := .agg #[_, _]) (cs' := #[_, _]) rfl rfl Tryz.sizeOf33 rfl rfl rfl rfl (Nat.le_of_ble_eq_true rfl) rfl rfl ?_
      refine gops_nil ?_
      refine hN7 _ _ ?_
      refine gT [box b1 _, box b2 _] rfl ?_
      refine gfrom [(2, .pointer _)] ⟨rfl, trivial⟩ fun σ => ?_
      refine gret fun w1 hM => ?_
      refine ⟨_, res1 rfl (rc 1 (cs := [_, _]) hM rfl rfl Tryz.isAgg33 Tryz.sizeOf33 rfl), ?_⟩
      exact ⟨by rw [hF], hM.low⟩
    · 
      replace hc15 := of_decide_eq_false hc15
      refine gskip ?_
      refine hN5 _ _ ?_
      refine gfrom [(1, .pointer _), (2, .pointer _)] ⟨rfl, rfl, trivial⟩ fun σ => ?_
      refine gseq fun N8 hN8 => ?_
      refine greg ?_
      refine gop (y_assign (v := .slice _ _ _) rfl) rfl rfl rfl ?_
      refine gops_nil ?_
      refine hN8 _ _ ?_
      refine gfrom [(1, .pointer _), (2, .pointer _), (3, .slice _ _ _)] ⟨rfl, rfl, rfl, trivial⟩ fun σ => ?_
      refine gseq fun N9 hN9 => ?_
      refine gseq fun N10 hN10 => ?_
      refine greg ?_
      refine gop (y_fieldAddr_box fa43_0 rfl) rfl rfl rfl ?_
      refine gop (y_load Tryz.isAgg41 rfl (cell_box 0 rfl rfl)) rfl rfl rfl ?_
      refine gop (y_len Tryz.underlying41 rfl) rfl rfl rfl ?_
      refine gop (y_move (v := .int _ _) rfl) rfl rfl rfl ?_
      refine gops_nil ?_
      refine hN10 _ _ ?_
      refine gfrom [(1, .pointer _), (2, .pointer _), (3, .slice _ _ _), (18, .slice _ _ _), (19, .int _ _), (20, .int _ _)] ⟨rfl, rfl, rfl, rfl, rfl, rfl, trivial⟩ fun σ => ?_
      refine gblock ?_
      refine gnilrow intCells 3 1 ?_
      refine gfrom2 [(3, .slice _ _ _), (20, .int _ _)] [(1, .pointer _), (2, .pointer _), (18, .slice _ _ _), (19, .int _ _)] ⟨rfl, rfl, trivial⟩ ⟨rfl, rfl, rfl, rfl, trivial⟩ fun σ => ?_
      refine gloop2 (G := Nat × Option Addr × Nat) (fun (k, Av, cv) => k ≤ l.length ∧ (∀ j (h : j < l.length), j < k → chk l[j] (rootsTo l j) = 0) ∧ Fresh Av ∧ (rootsTo l k).length ≤ cv ∧ cv ≤ maxLen ∧ (Av = none → cv = 0)) (fun (k, Av, cv) => l.length - k) (fun (k, Av, cv) => [(3, .slice Av (rootsTo l k).length cv), (20, .int .i64 (k : Int))]) (fun (k, Av, cv) => [(2, rowl intCells w.heap.size 3 1 (.slice Av (rootsTo l k).length cv) (rootsTo l k))]) ((0, none, 0)) ?h0 ⟨rfl, rfl, trivial⟩ ⟨rfl, rfl, rfl, rfl, trivial⟩ rfl ?round
      case h0 => exact ⟨Nat.zero_le _, fun _ _ h => absurd h (by omega), .inl rfl, Nat.le_refl _, Nat.zero_le _, fun _ => rfl⟩
      case round =>
        rintro ⟨k, Av, cv⟩ hφ σ
        obtain ⟨hk, hz, hAv, hcl, hcv, hAn⟩ := hφ
        have hrl := rootsTo_len l k
        refine gT [box b1 _, box b2 _, rowl _ _ _ _ _ _] rfl ?_
        refine gseq fun N11 hN11 => ?_
        refine greg ?_
        refine gop (y_lss rfl rfl) rfl rfl rfl ?_
        refine gops_nil ?_
        refine hN11 _ _ ?_
        refine gfrom [(1, .pointer _), (2, .pointer _), (3, .slice Av _ cv), (18, .slice _ _ _), (19, .int _ _), (20, .int _ _), (21, .bool _)] ⟨rfl, rfl, rfl, rfl, rfl, rfl, rfl, trivial⟩ fun σ => ?_
        refine gseq fun N12 hN12 => ?_
        refine gcond (b := _) rfl (fun hc21 => ?_) (fun hc21 => ?_)
        · 
          replace hc21 := of_decide_eq_true hc21
          have hk1 : k < l.length := by omega
          obtain ⟨ad, rfl, -, hca⟩ := hl.at_ hk1
          refine gskip ?_
          refine hN12 _ _ ?_
          refine gfrom [(1, .pointer _), (2, .pointer _), (3, .slice Av _ cv), (18, .slice _ _ _), (19, .int _ _), (20, .int _ _)] ⟨rfl, rfl, rfl, rfl, rfl, rfl, trivial⟩ fun σ => ?_
          refine gseq fun N13 hN13 => ?_
          refine gblock ?_
          refine gseq fun N14 hN14 => ?_
          refine greg ?_
          refine gop (y_move (v := .int _ _) rfl) rfl rfl rfl ?_
          refine gop (y_indexAddr (m := k) Tryz.underlying41 Tryz.sizeOf48 rfl rfl (by omega) (by omega) (by omega)) rfl rfl rfl ?_
          refine gop (y_loads (cs := [_, _, _, _]) Tryz.isAgg48 Tryz.sizeOf48 rfl rfl (cells_base hca)) rfl rfl rfl ?_
          refine gop_alloc (cs := #[.int .i64 0, .int .i64 0, .int .i64 0, .int .i64 0]) Tryz.zeroValue48 rfl rfl (fun b5 hb5 => ?_)
          refine gop (y_assign (v := .int _ _) rfl) rfl rfl rfl ?_
          refine gop_store 3 (v := .agg #[_, _, _, _]) (cs' := #[_, _, _, _]) rfl rfl Tryz.sizeOf48 rfl rfl rfl rfl (Nat.le_of_ble_eq_true rfl) rfl rfl ?_
          refine gops_nil ?_
          refine hN14 _ _ ?_
          refine gT [box b1 _, box b2 _, rowl _ _ _ _ _ _, box b5 _] rfl ?_
          refine gfrom [(1, .pointer _), (2, .pointer _), (3, .slice Av _ cv), (4, .int _ _), (5, .pointer _), (18, .slice _ _ _), (19, .int _ _), (20, .int _ _)] ⟨rfl, rfl, rfl, rfl, rfl, rfl, rfl, rfl, trivial⟩ fun σ => ?_
          refine gseq fun N15 hN15 => ?_
          refine gseq fun N16 hN16 => ?_
          refine greg ?_
          refine gop (y_loads (cs := [_, _, _, _]) Tryz.isAgg48 Tryz.sizeOf48 rfl rfl (cells_box 3 rfl)) rfl rfl rfl ?_
          refine gop (y_move (v := .slice Av _ cv) rfl) rfl rfl rfl ?_
          refine gop_pure (e_call (vs := [.agg #[_, _, _, _], .slice Av _ cv]) Tryz.func66 rfl (by kernel_rfl) rfl) (fun w hM => polCheck_any w l[k] Av cv (rootsTo l k) ((row_rdl (f := intCells) (fun _ => rfl) (hM.ok _ (List.mem_of_getElem? (i := 2) rfl))).mono (Nat.zero_le _)) hcl hcv) rfl rfl rfl ?_
          refine gop (y_assign (v := .int _ _) rfl) rfl rfl rfl ?_
          refine gops_nil ?_
          refine hN16 _ _ ?_
          refine gfrom [(1, .pointer _), (2, .pointer _), (3, .slice Av _ cv), (4, .int _ _), (5, .pointer _), (6, .int _ _), (18, .slice _ _ _), (19, .int _ _), (20, .int _ _)] ⟨rfl, rfl, rfl, rfl, rfl, rfl, rfl, rfl, rfl, trivial⟩ fun σ => ?_
          refine gseq fun N17 hN17 => ?_
          refine greg ?_
          refine gop (y_move (v := .int _ _) rfl) rfl rfl rfl ?_
          refine gop (y_neq rfl rfl) rfl rfl rfl ?_
          refine gops_nil ?_
          refine hN17 _ _ ?_
          refine gfrom [(1, .pointer _), (2, .pointer _), (3, .slice Av _ cv), (4, .int _ _), (5, .pointer _), (6, .int _ _), (18, .slice _ _ _), (19, .int _ _), (20, .int _ _), (29, .bool _)] ⟨rfl, rfl, rfl, rfl, rfl, rfl, rfl, rfl, rfl, rfl, trivial⟩ fun σ => ?_
          refine gcond (b := _) rfl (fun hc29 => ?_) (fun hc29 => ?_)
          · 
            replace hc29 := of_decide_eq_true hc29
            have hs1 := scan_at (f := fun k n => chk n (rootsTo l k)) hk1 hz hc29
            have hF : polF l = ⟨chk l[k] (rootsTo l k), k⟩ := by rw [polF, if_neg (by omega), if_neg (by omega), if_pos (by rw [scanP_, hs1]; exact fun h => hc29 (congrArg Fault.code h)), scanP_, hs1]
            refine gseq fun N18 hN18 => ?_
            refine greg ?_
            refine gop (y_move (v := .int _ _) rfl) rfl rfl rfl ?_
            refine gop (y_move (v := .int _ _) rfl) rfl rfl rfl ?_
            refine gop (y_build (vs := [(0, .int _ _), (1, .int _ _)]) (cells := #[_, _]) rfl (bd33_0_1 _ _)) rfl rfl rfl ?_
            refine gop_store 1 (v := .agg #[_, _]) (cs' := #[_, _]) rfl rfl Tryz.sizeOf33 rfl rfl rfl rfl (Nat.le_of_ble_eq_true rfl) rfl rfl ?_
            refine gops_nil ?_
            refine hN18 _ _ ?_
            refine gT [box b1 _, box b2 _, rowl _ _ _ _ _ _, box b5 _] rfl ?_
            refine gfrom [(2, .pointer _)] ⟨rfl, trivial⟩ fun σ => ?_
            refine gret fun w1 hM => ?_
            refine ⟨_, res1 rfl (rc 1 (cs := [_, _]) hM rfl rfl Tryz.isAgg33 Tryz.sizeOf33 rfl), ?_⟩
            exact ⟨by rw [hF], hM.low⟩
          · 
            replace hc29 := Decidable.not_not.1 (of_decide_eq_false hc29)
            have hcz := chk_zero hc29
            have hoc := hcz.2.2.2.2.1
            refine gskip ?_
            refine hN15 _ _ ?_
            refine gfrom [(1, .pointer _), (2, .pointer _), (3, .slice Av _ cv), (4, .int _ _), (5, .pointer _), (18, .slice _ _ _), (19, .int _ _), (20, .int _ _)] ⟨rfl, rfl, rfl, rfl, rfl, rfl, rfl, rfl, trivial⟩ fun σ => ?_
            refine greg ?_
            refine gop (y_move (v := .slice Av _ cv) rfl) rfl rfl rfl ?_
            refine gop (y_move (v := .slice Av _ cv) rfl) rfl rfl rfl ?_
            refine gop (y_len Tryz.underlying74 rfl) rfl rfl rfl ?_
            refine gop (y_fieldAddr_box fa48_0 rfl) rfl rfl rfl ?_
            refine gop (y_load Tryz.isAgg3 rfl (cell_box 3 rfl rfl)) rfl rfl rfl ?_
            refine gop_pure (e_call (vs := [.int _ _]) Tryz.func67 rfl (by kernel_rfl) rfl) (fun w hM => polOps_any w _) rfl rfl rfl ?_
            refine gop (y_sub rfl rfl ⟨by omega, by omega⟩) rfl rfl rfl ?_
            refine gop (y_trunc0 (m := ((rootsTo l k).take ((rootsTo l k).length - opN l[k].kind)).length) hAv Tryz.underlying74 Tryz.sizeOf3 rfl rfl (by omega) (by omega) (by rw [List.length_take]; omega)) rfl rfl rfl ?_
            refine gops_mem _ (weak_trunc0 2 (f := intCells) (l := (rootsTo l k).take ((rootsTo l k).length - opN l[k].kind)) (m := (rootsTo l k).drop ((rootsTo l k).length - opN l[k].kind)) hAv (by rw [List.take_append_drop]; rfl) (fun _ => rfl)) ?_
            refine gop (y_move (v := .int _ _) rfl) rfl rfl rfl ?_
            refine gop_lit (vs := [.int _ _]) (cells := #[_]) Tryz.underlying74 Tryz.sizeOf3 Tryz.zeroValue3 rfl (by decide) (by decide) rfl rfl rfl rfl (fun b42 hb42 => ?_)
            refine gop_append 2 (f := intCells) (l2 := [(k : Int)]) Tryz.underlying74 el3 wide_int (v := .slice Av _ cv) rfl rfl rfl rfl (fun h => by cases h) (by have h9 := rootsTo_len l k; simp [maxLen]; omega) (by have h9 := rootsTo_len l k; simp; omega) (src_box 4 rfl rfl) rfl (fun v43 => ?_)
            refine gops_fact (fun w hM => own_some (hM.own 2 rfl) (by simp)) ?_
            rintro ⟨g43, c43, rfl, hc43, hm43⟩
            refine gop (y_assign (v := .slice (some ⟨g43, 0, none⟩) _ c43) rfl) rfl rfl rfl ?_
            refine gops_nil ?_
            refine hN13 _ _ ?_
            refine gT [box b1 _, box b2 _, rowl _ _ _ _ _ _, box b5 _, box b42 _] rfl ?_
            refine gfrom [(1, .pointer _), (2, .pointer _), (3, .slice (some ⟨g43, 0, none⟩) _ c43), (18, .slice _ _ _), (19, .int _ _), (20, .int _ _)] ⟨rfl, rfl, rfl, rfl, rfl, rfl, trivial⟩ fun σ => ?_
            refine greg ?_
            refine gop (y_add rfl rfl ⟨by omega, by omega⟩) rfl rfl rfl ?_
            refine gop (y_move (v := .int _ _) rfl) rfl rfl rfl ?_
            refine gops_nil ?_
            rw [← roots_next hk1]
            refine gnext2 ((k + 1, some ⟨g43, 0, none⟩, c43)) (by show l.length - (k + 1) < l.length - k; omega) (⟨by show k + 1 ≤ _; omega, fun j h hj => by rcases Nat.lt_succ_iff_lt_or_eq.1 hj with h1 | rfl; exact hz j h h1; exact hc29, .inr ⟨g43, rfl⟩, by rw [roots_next hk1]; exact hc43, hm43, fun h => by cases h⟩) ⟨rfl, rfl, trivial⟩ ⟨rfl, rfl, rfl, rfl, trivial⟩ ⟨_, rfl⟩
        · 
          replace hc21 := of_decide_eq_false hc21
          have hall : ∀ j (h : j < l.length), chk l[j] (rootsTo l j) = 0 := fun j h => hz j h (by omega)
          have hs0 : scanP_ l = ⟨0, 0⟩ := scan_ok hall
          have hF0 : polF l = if (rootsTo l l.length).length ≠ 1 then ⟨5, -1⟩ else if 12 < depL l then ⟨10, -1⟩ else ⟨0, 0⟩ := by rw [polF, if_neg (by omega), if_neg (by omega), hs0, if_neg (fun h => h rfl)]
          obtain rfl : k = l.length := by omega
          refine gexit ?_
          refine hN9 _ _ ?_
          refine gfrom [(1, .pointer _), (2, .pointer _), (3, .slice Av _ cv)] ⟨rfl, rfl, rfl, trivial⟩ fun σ => ?_
          refine gseq fun N19 hN19 => ?_
          refine gseq fun N20 hN20 => ?_
          refine greg ?_
          refine gop (y_move (v := .slice Av _ cv) rfl) rfl rfl rfl ?_
          refine gop (y_len Tryz.underlying74 rfl) rfl rfl rfl ?_
          refine gop (y_neq rfl rfl) rfl rfl rfl ?_
          refine gops_nil ?_
          refine hN20 _ _ ?_
          refine gfrom [(1, .pointer _), (2, .pointer _), (47, .bool _)] ⟨rfl, rfl, rfl, trivial⟩ fun σ => ?_
          refine gcond (b := _) rfl (fun hc47 => ?_) (fun hc47 => ?_)
          · 
            replace hc47 := of_decide_eq_true hc47
            have hF : polF l = ⟨5, -1⟩ := by rw [hF0, if_pos (by omega)]
            refine gseq fun N21 hN21 => ?_
            refine greg ?_
            refine gop (y_build (vs := [(0, _), (1, _)]) (cells := #[_, _]) rfl (bd33_0_1 _ _)) rfl rfl rfl ?_
            refine gop_store 1 (v := .agg #[_, _]) (cs' := #[_, _]) rfl rfl Tryz.sizeOf33 rfl rfl rfl rfl (Nat.le_of_ble_eq_true rfl) rfl rfl ?_
            refine gops_nil ?_
            refine hN21 _ _ ?_
            refine gT [box b1 _, box b2 _, rowl _ _ _ _ _ _] rfl ?_
            refine gfrom [(2, .pointer _)] ⟨rfl, trivial⟩ fun σ => ?_
            refine gret fun w1 hM => ?_
            refine ⟨_, res1 rfl (rc 1 (cs := [_, _]) hM rfl rfl Tryz.isAgg33 Tryz.sizeOf33 rfl), ?_⟩
            exact ⟨by rw [hF], hM.low⟩
          · 
            replace hc47 := Decidable.not_not.1 (of_decide_eq_false hc47)
            have hr1 : ¬ (rootsTo l l.length).length ≠ 1 := by omega
            refine gskip ?_
            refine hN19 _ _ ?_
            refine gfrom [(1, .pointer _), (2, .pointer _)] ⟨rfl, rfl, trivial⟩ fun σ => ?_
            refine gseq fun N22 hN22 => ?_
            refine gseq fun N23 hN23 => ?_
            refine greg ?_
            refine gop (y_loads (cs := [_]) Tryz.isAgg43 Tryz.sizeOf43 rfl rfl (cells_box 0 rfl)) rfl rfl rfl ?_
            refine gop_pure (e_call (vs := [.agg #[_]]) Tryz.func68 rfl (by kernel_rfl) rfl) (fun w hM => polDepth_any w A c l (hl.base hM) hlc hcm (by omega) (by omega) (linked_of hall)) rfl rfl rfl ?_
            refine gop (y_gtr rfl rfl) rfl rfl rfl ?_
            refine gops_nil ?_
            refine hN23 _ _ ?_
            refine gfrom [(2, .pointer _), (51, .bool _)] ⟨rfl, rfl, trivial⟩ fun σ => ?_
            refine gcond (b := _) rfl (fun hc51 => ?_) (fun hc51 => ?_)
            · 
              replace hc51 := of_decide_eq_true hc51
              have hF : polF l = ⟨10, -1⟩ := by rw [hF0, if_neg hr1, if_pos hc51]
              refine gseq fun N24 hN24 => ?_
              refine greg ?_
              refine gop (y_build (vs := [(0, _), (1, _)]) (cells := #[_, _]) rfl (bd33_0_1 _ _)) rfl rfl rfl ?_
              refine gop_store 1 (v := .agg #[_, _]) (cs' := #[_, _]) rfl rfl Tryz.sizeOf33 rfl rfl rfl rfl (Nat.le_of_ble_eq_true rfl) rfl rfl ?_
              refine gops_nil ?_
              refine hN24 _ _ ?_
              refine gT [box b1 _, box b2 _, rowl _ _ _ _ _ _] rfl ?_
              refine gfrom [(2, .pointer _)] ⟨rfl, trivial⟩ fun σ => ?_
              refine gret fun w1 hM => ?_
              refine ⟨_, res1 rfl (rc 1 (cs := [_, _]) hM rfl rfl Tryz.isAgg33 Tryz.sizeOf33 rfl), ?_⟩
              exact ⟨by rw [hF], hM.low⟩
            · 
              replace hc51 := of_decide_eq_false hc51
              have hF : polF l = ⟨0, 0⟩ := by rw [hF0, if_neg hr1, if_neg hc51]
              refine gskip ?_
              refine hN22 _ _ ?_
              refine gfrom [(2, .pointer _)] ⟨rfl, trivial⟩ fun σ => ?_
              refine gseq fun N25 hN25 => ?_
              refine greg ?_
              refine gop (y_build (vs := []) (cells := #[.int .i64 0, .int .i64 0]) rfl bd33_) rfl rfl rfl ?_
              refine gop_store 1 (v := .agg #[_, _]) (cs' := #[_, _]) rfl rfl Tryz.sizeOf33 rfl rfl rfl rfl (Nat.le_of_ble_eq_true rfl) rfl rfl ?_
              refine gops_nil ?_
              refine hN25 _ _ ?_
              refine gT [box b1 _, box b2 _, rowl _ _ _ _ _ _] rfl ?_
              refine gfrom [(2, .pointer _)] ⟨rfl, trivial⟩ fun σ => ?_
              refine gret fun w1 hM => ?_
              refine ⟨_, res1 rfl (rc 1 (cs := [_, _]) hM rfl rfl Tryz.isAgg33 Tryz.sizeOf33 rfl), ?_⟩
              exact ⟨by rw [hF], hM.low⟩
end Go.Proofs.YtbkameioedmlkaaGreatDoor
namespace Go.Proofs.YtbkameioedmlkaaGreatDoor
open Go.RowKit Go.Cf
set_option maxRecDepth 10000
theorem fa45_0 (a : Addr) (w : World) : (Instr.fieldAt 45 (.pointer (some a)) 0).run Tryz.prog w = .ok (.pointer (some (a.add 0))) w := by kernel_rfl
theorem fa45_3 (a : Addr) (w : World) : (Instr.fieldAt 45 (.pointer (some a)) 3).run Tryz.prog w = .ok (.pointer (some (a.add 3))) w := by kernel_rfl
theorem fa45_1 (a : Addr) (w : World) : (Instr.fieldAt 45 (.pointer (some a)) 1).run Tryz.prog w = .ok (.pointer (some (a.add 1))) w := by kernel_rfl
theorem fa45_2 (a : Addr) (w : World) : (Instr.fieldAt 45 (.pointer (some a)) 2).run Tryz.prog w = .ok (.pointer (some (a.add 2))) w := by kernel_rfl
set_option maxHeartbeats 8000000 in
theorem polEval_any (w : World) (A : Option Addr) (c : Nat) (l : List PN) (hl : Rdl w 0 4 pnCells A l) (hlc : l.length ≤ c) (hcm : c ≤ maxLen) (F : PFacts) : Calls Tryz.prog 11 #[.agg #[.slice A l.length c], factsV F] w fun e w' => e = .returned (.tuple #[.bool (evalV l F), fv (evalF l F)]) ∧ Below w.heap.size w w' := by
  have hlm : l.length ≤ 9223372036854775807 := by have h9 := Nat.le_trans hlc hcm; unfold maxLen at h9; omega
  refine gcalls Tryz.func11 rfl Tryz.ntmps11 (Nat.le_of_ble_eq_true rfl) ?_
  refine gfrom [(0, .agg #[_]), (1, factsV F)] ⟨rfl, rfl, trivial⟩ fun σ => ?_
  refine gseq fun N1 hN1 => ?_
  refine greg ?_
  refine gop_box (v := .agg #[_]) (cs := #[_]) rfl rfl rfl (fun b2 hb2 => ?_)
  refine gop_box (v := factsV F) (cs := #[_, _, _, _]) rfl rfl rfl (fun b3 hb3 => ?_)
  refine gop (y_assign (v := .bool _) rfl) rfl rfl rfl ?_
  refine gop_alloc (cs := #[.int .i64 0, .int .i64 0]) Tryz.zeroValue33 rfl rfl (fun b5 hb5 => ?_)
  refine gops_nil ?_
  refine hN1 _ _ ?_
  refine gT [box b2 _, box b3 _, box b5 _] rfl ?_
  refine gfrom [(2, .pointer _), (3, .pointer _), (5, .pointer _)] ⟨rfl, rfl, rfl, trivial⟩ fun σ => ?_
  refine gseq fun N2 hN2 => ?_
  refine gseq fun N3 hN3 => ?_
  refine greg ?_
  refine gop (y_loads (cs := [_]) Tryz.isAgg43 Tryz.sizeOf43 rfl rfl (cells_box 0 rfl)) rfl rfl rfl ?_
  refine gop_pure (e_call (vs := [.agg #[_]]) Tryz.func35 rfl (by kernel_rfl) rfl) (fun w hM => polValidate_any w A c l (hl.base hM) hlc hcm) rfl rfl rfl ?_
  refine gop_alloc (cs := #[.int .i64 0, .int .i64 0]) Tryz.zeroValue33 rfl rfl (fun b6 hb6 => ?_)
  refine gop_store 3 (v := .agg #[_, _]) (cs' := #[_, _]) rfl rfl Tryz.sizeOf33 rfl rfl rfl rfl (Nat.le_of_ble_eq_true rfl) rfl rfl ?_
  refine gops_nil ?_
  refine hN3 _ _ ?_
  refine gT [box b2 _, box b3 _, box b5 _, box b6 _] rfl ?_
  refine gfrom [(2, .pointer _), (3, .pointer _), (5, .pointer _), (6, .pointer _)] ⟨rfl, rfl, rfl, rfl, trivial⟩ fun σ => ?_
  refine gseq fun N4 hN4 => ?_
  refine greg ?_
  refine gop (y_loads (cs := [_, _]) Tryz.isAgg33 Tryz.sizeOf33 rfl rfl (cells_box 3 rfl)) rfl rfl rfl ?_
  refine gop (y_build (vs := []) (cells := #[.int .i64 0, .int .i64 0]) rfl bd33_) rfl rfl rfl ?_
  refine gop (y_bin (vx := .agg #[_, _]) (vy := .agg #[_, _]) rfl rfl (fun w => eg33 _ _ _ _ _ w) (fun w => ne33 _ _ _ _ w)) rfl rfl rfl ?_
  refine gops_nil ?_
  refine hN4 _ _ ?_
  refine gfrom [(2, .pointer _), (3, .pointer _), (5, .pointer _), (6, .pointer _), (14, .bool _)] ⟨rfl, rfl, rfl, rfl, rfl, trivial⟩ fun σ => ?_
  refine gcond (b := _) rfl (fun hc14 => ?_) (fun hc14 => ?_)
  · 
    replace hc14 := fault_ne.1 hc14
    obtain ⟨hF, hV⟩ := evalF_bad (F := F) hc14
    refine gseq fun N5 hN5 => ?_
    refine greg_e1 [] [(2, room b5 33 2)] (by kernel_rfl) ?_
    refine ge_take 0 (TK := [box b2 _, box b3 _, room b5 33 2, box b6 _]) rfl (by kernel_rfl) (by kernel_rfl) (by kernel_rfl) #[false, true, false] (by kernel_rfl) rfl (y_loads (cs := [_, _]) Tryz.isAgg33 Tryz.sizeOf33 rfl rfl (cells_box 3 rfl)) rfl rfl rfl (weak_room 2 rfl rfl) (listed' := #[true, false, false]) rfl ?_
    refine ge_take 1 (TK := [box b2 _, box b3 _, room b5 33 2, box b6 _]) rfl (by kernel_rfl) (by kernel_rfl) (by kernel_rfl) #[true, false, false] (by kernel_rfl) rfl (y_assign (v := .bool _) rfl) rfl rfl rfl (weak_room 2 rfl rfl) (listed' := #[true, true, false]) rfl ?_
    refine ge_one 2 (k' := 0) (listed' := #[true, true, true]) (by kernel_rfl) rfl rfl rfl ?_
    refine gop_store 2 (v := .agg #[_, _]) (cs' := #[_, _]) rfl rfl Tryz.sizeOf33 rfl rfl rfl rfl (Nat.le_of_ble_eq_true rfl) rfl rfl ?_
    refine gops_nil ?_
    refine ge_fin (TK := [box b2 _, box b3 _, room b5 33 2, box b6 _]) rfl (weak_room 2 rfl rfl) ?_
    refine ge_done (by kernel_rfl) ?_
    refine hN5 _ _ ?_
    refine gT [box b2 _, box b3 _, box b5 _, box b6 _] rfl ?_
    refine gfrom [(4, .bool _), (5, .pointer _)] ⟨rfl, rfl, trivial⟩ fun σ => ?_
    refine gret fun w1 hM => ?_
    refine ⟨_, res2 rfl (rt (v := .bool _) rfl) (rc 2 (cs := [_, _]) hM rfl rfl Tryz.isAgg33 Tryz.sizeOf33 rfl), ?_⟩
    exact ⟨by rw [hF, hV], hM.low⟩
  · 
    replace hc14 := fault_eq.1 hc14
    obtain ⟨hn0, hn24, hz⟩ := pol_ok hc14
    have hk := linked_of hz
    refine gskip ?_
    refine hN2 _ _ ?_
    refine gfrom [(2, .pointer _), (3, .pointer _), (5, .pointer _)] ⟨rfl, rfl, rfl, trivial⟩ fun σ => ?_
    refine gseq fun N6 hN6 => ?_
    refine gseq fun N7 hN7 => ?_
    refine greg ?_
    refine gop (y_fieldAddr_box fa45_0 rfl) rfl rfl rfl ?_
    refine gop (y_load Tryz.isAgg3 rfl (cell_box 1 rfl rfl)) rfl rfl rfl ?_
    refine gop (y_lss rfl rfl) rfl rfl rfl ?_
    refine gop (y_move (v := .bool _) rfl) rfl rfl rfl ?_
    refine gop_if (want := false) rfl rfl rfl rfl rfl rfl (fun hg19 => ?_) (fun hg19 => ?_)
    · 
      have hg19d := of_decide_eq_false hg19
      refine gop (y_bare (y_fieldAddr_box fa45_0 rfl)) rfl rfl rfl ?_
      refine gop_on rfl rfl rfl rfl hg19 ?_
      refine gop (y_bare (y_load Tryz.isAgg3 rfl (cell_box 1 rfl rfl))) rfl rfl rfl ?_
      refine gop_on rfl rfl rfl rfl hg19 ?_
      refine gop (y_bare (y_gtr rfl rfl)) rfl rfl rfl ?_
      refine gop (y_pick_f (v := .bool _) rfl hg19 rfl) rfl rfl rfl ?_
      refine gop (y_move (v := .bool _) rfl) rfl rfl rfl ?_
      refine gop_if (want := false) rfl rfl rfl rfl rfl rfl (fun hg24 => ?_) (fun hg24 => ?_)
      · 
        have hg24d := of_decide_eq_false hg24
        refine gop (y_bare (y_fieldAddr_box fa45_3 rfl)) rfl rfl rfl ?_
        refine gop_on rfl rfl rfl rfl hg24 ?_
        refine gop (y_bare (y_load Tryz.isAgg3 rfl (cell_box 1 rfl rfl))) rfl rfl rfl ?_
        refine gop_on rfl rfl rfl rfl hg24 ?_
        refine gop (y_bare (y_lss rfl rfl)) rfl rfl rfl ?_
        refine gop (y_pick_f (v := .bool _) rfl hg24 rfl) rfl rfl rfl ?_
        refine gop (y_move (v := .bool _) rfl) rfl rfl rfl ?_
        refine gop_if (want := false) rfl rfl rfl rfl rfl rfl (fun hg29 => ?_) (fun hg29 => ?_)
        · 
          have hg29d := of_decide_eq_false hg29
          refine gop (y_bare (y_fieldAddr_box fa45_3 rfl)) rfl rfl rfl ?_
          refine gop_on rfl rfl rfl rfl hg29 ?_
          refine gop (y_bare (y_load Tryz.isAgg3 rfl (cell_box 1 rfl rfl))) rfl rfl rfl ?_
          refine gop_on rfl rfl rfl rfl hg29 ?_
          refine gop (y_bare (y_gtr rfl rfl)) rfl rfl rfl ?_
          refine gop (y_pick_f (v := .bool _) rfl hg29 rfl) rfl rfl rfl ?_
          refine gops_nil ?_
          refine hN7 _ _ ?_
          refine gfrom [(2, .pointer _), (3, .pointer _), (5, .pointer _), (33, .bool _)] ⟨rfl, rfl, rfl, rfl, trivial⟩ fun σ => ?_
          refine gcond (b := _) rfl (fun hc33 => ?_) (fun hc33 => ?_)
          · 
            replace hc33 := of_decide_eq_true hc33
            obtain ⟨hF, hV⟩ := evalF_range hc14 (F := F) (by unfold factsBad; omega)
            refine gseq fun N8 hN8 => ?_
            refine greg ?_
            refine gop (y_build (vs := [(0, _), (1, _)]) (cells := #[_, _]) rfl (bd33_0_1 _ _)) rfl rfl rfl ?_
            refine gop (y_assign (v := .bool _) rfl) rfl rfl rfl ?_
            refine gop_store 2 (v := .agg #[_, _]) (cs' := #[_, _]) rfl rfl Tryz.sizeOf33 rfl rfl rfl rfl (Nat.le_of_ble_eq_true rfl) rfl rfl ?_
            refine gops_nil ?_
            refine hN8 _ _ ?_
            refine gT [box b2 _, box b3 _, box b5 _, box b6 _] rfl ?_
            refine gfrom [(4, .bool _), (5, .pointer _)] ⟨rfl, rfl, trivial⟩ fun σ => ?_
            refine gret fun w1 hM => ?_
            refine ⟨_, res2 rfl (rt (v := .bool _) rfl) (rc 2 (cs := [_, _]) hM rfl rfl Tryz.isAgg33 Tryz.sizeOf33 rfl), ?_⟩
            exact ⟨by rw [hF, hV], hM.low⟩
          · 
            replace hc33 := of_decide_eq_false hc33
            obtain ⟨hF, hV⟩ := evalF_ok hc14 (F := F) (by unfold factsBad; omega)
            refine gskip ?_
            refine hN6 _ _ ?_
            refine gfrom [(2, .pointer _), (3, .pointer _), (5, .pointer _)] ⟨rfl, rfl, rfl, trivial⟩ fun σ => ?_
            refine gseq fun N9 hN9 => ?_
            refine greg ?_
            refine gop (y_fieldAddr_box fa43_0 rfl) rfl rfl rfl ?_
            refine gop (y_load Tryz.isAgg41 rfl (cell_box 0 rfl rfl)) rfl rfl rfl ?_
            refine gop (y_len Tryz.underlying41 rfl) rfl rfl rfl ?_
            refine gop_make (f := boolCells) (bytes := 1) (z := .bool false) (false) Tryz.underlying46 (by kernel_rfl) rfl rfl rfl (k := l.length) rfl rfl (by omega) (by simp [maxLen]; omega) rfl (fun b38 hb38 => ?_)
            refine gop (y_assign (v := .slice (some _) _ _) rfl) rfl rfl rfl ?_
            refine gops_nil ?_
            refine hN9 _ _ ?_
            refine gT [box b2 _, box b3 _, box b5 _, box b6 _, rowl _ _ _ _ _ _] rfl ?_
            refine gfrom [(2, .pointer _), (3, .pointer _), (5, .pointer _), (7, .slice (some _) _ _)] ⟨rfl, rfl, rfl, rfl, trivial⟩ fun σ => ?_
            refine gseq fun N10 hN10 => ?_
            refine gseq fun N11 hN11 => ?_
            refine greg ?_
            refine gop (y_fieldAddr_box fa43_0 rfl) rfl rfl rfl ?_
            refine gop (y_load Tryz.isAgg41 rfl (cell_box 0 rfl rfl)) rfl rfl rfl ?_
            refine gop (y_len Tryz.underlying41 rfl) rfl rfl rfl ?_
            refine gop (y_move (v := .int _ _) rfl) rfl rfl rfl ?_
            refine gops_nil ?_
            refine hN11 _ _ ?_
            refine gfrom [(3, .pointer _), (5, .pointer _), (7, .slice (some _) _ _), (40, .slice _ _ _), (41, .int _ _), (42, .int _ _)] ⟨rfl, rfl, rfl, rfl, rfl, rfl, trivial⟩ fun σ => ?_
            refine gblock ?_
            rw [← pad_nil l.length false]
            refine gfrom2 [(42, .int _ _)] [(3, .pointer _), (5, .pointer _), (7, .slice (some _) _ _), (40, .slice _ _ _), (41, .int _ _)] ⟨rfl, trivial⟩ ⟨rfl, rfl, rfl, rfl, rfl, trivial⟩ fun σ => ?_
            refine gloop2 (G := Nat) (fun k => k ≤ l.length) (fun k => l.length - k) (fun k => [(42, .int .i64 (k : Int))]) (fun k => [(4, rowl boolCells w.heap.size 4 1 (.slice (some ⟨b38, 0, none⟩) l.length l.length) (pad false (foldTo (evN F) l k) l.length))]) (0) ?h0 ⟨rfl, trivial⟩ ⟨rfl, rfl, rfl, rfl, rfl, trivial⟩ rfl ?round
            case h0 => exact Nat.zero_le _
            case round =>
              intro k hφ σ
              have hkk : k ≤ l.length := hφ
              refine gT [box b2 _, box b3 _, box b5 _, box b6 _, rowl _ _ _ _ _ _] rfl ?_
              refine gseq fun N12 hN12 => ?_
              refine greg ?_
              refine gop (y_lss rfl rfl) rfl rfl rfl ?_
              refine gops_nil ?_
              refine hN12 _ _ ?_
              refine gfrom [(3, .pointer _), (5, .pointer _), (7, .slice (some _) _ _), (40, .slice _ _ _), (41, .int _ _), (42, .int _ _), (43, .bool _)] ⟨rfl, rfl, rfl, rfl, rfl, rfl, rfl, trivial⟩ fun σ => ?_
              refine gseq fun N13 hN13 => ?_
              refine gcond (b := _) rfl (fun hc43 => ?_) (fun hc43 => ?_)
              · 
                replace hc43 := of_decide_eq_true hc43
                have hk1 : k < l.length := by omega
                obtain ⟨ad, rfl, -, hca⟩ := hl.at_ hk1
                obtain ⟨hkl, hkr⟩ := hk k hk1
                obtain ⟨hk0, hk7, hm0, hm1, -⟩ := chk_zero (hz k hk1)
                refine gskip ?_
                refine hN13 _ _ ?_
                refine gfrom [(3, .pointer _), (5, .pointer _), (7, .slice (some _) _ _), (40, .slice _ _ _), (41, .int _ _), (42, .int _ _)] ⟨rfl, rfl, rfl, rfl, rfl, rfl, trivial⟩ fun σ => ?_
                refine gseq fun N14 hN14 => ?_
                refine gfrom [(3, .pointer _), (5, .pointer _), (7, .slice (some _) _ _), (40, .slice _ _ _), (41, .int _ _), (42, .int _ _)] ⟨rfl, rfl, rfl, rfl, rfl, rfl, trivial⟩ fun σ => ?_
                refine gcut3 (Lf := [(3, .pointer _), (5, .pointer _), (7, .slice (some _) _ _), (40, .slice _ _ _), (41, .int _ _), (42, .int _ _)]) (G := Unit) (fun g => True) (fun g => []) (fun g => [(4, rowl boolCells w.heap.size 4 1 (.slice (some ⟨b38, 0, none⟩) l.length l.length) (pad false ((foldTo (evN F) l k) ++ [evN F l[k] (foldTo (evN F) l k)]) l.length))]) ⟨rfl, rfl, rfl, rfl, rfl, rfl, trivial⟩ ?_ ?_
                ·
                  refine gblock ?_
                  refine gseq fun N15 hN15 => ?_
                  refine greg ?_
                  refine gop (y_move (v := .int _ _) rfl) rfl rfl rfl ?_
                  refine gop (y_indexAddr (m := k) Tryz.underlying41 Tryz.sizeOf48 rfl rfl (by omega) (by omega) (by omega)) rfl rfl rfl ?_
                  refine gop (y_loads (cs := [_, _, _, _]) Tryz.isAgg48 Tryz.sizeOf48 rfl rfl (cells_base hca)) rfl rfl rfl ?_
                  refine gop_alloc (cs := #[.int .i64 0, .int .i64 0, .int .i64 0, .int .i64 0]) Tryz.zeroValue48 rfl rfl (fun b9 hb9 => ?_)
                  refine gop (y_assign (v := .int _ _) rfl) rfl rfl rfl ?_
                  refine gop_store 5 (v := .agg #[_, _, _, _]) (cs' := #[_, _, _, _]) rfl rfl Tryz.sizeOf48 rfl rfl rfl rfl (Nat.le_of_ble_eq_true rfl) rfl rfl ?_
                  refine gops_nil ?_
                  refine hN15 _ _ ?_
                  refine gT [box b2 _, box b3 _, box b5 _, box b6 _, rowl _ _ _ _ _ _, box b9 _] rfl ?_
                  refine gfrom [(3, .pointer _), (5, .pointer _), (7, .slice (some _) _ _), (8, .int _ _), (9, .pointer _), (40, .slice _ _ _), (41, .int _ _), (42, .int _ _)] ⟨rfl, rfl, rfl, rfl, rfl, rfl, rfl, rfl, trivial⟩ fun σ => ?_
                  refine gseq fun N16 hN16 => ?_
                  refine greg ?_
                  refine gop (y_fieldAddr_box fa48_0 rfl) rfl rfl rfl ?_
                  refine gop (y_load Tryz.isAgg3 rfl (cell_box 5 rfl rfl)) rfl rfl rfl ?_
                  refine gops_nil ?_
                  refine hN16 _ _ ?_
                  refine gfrom [(3, .pointer _), (5, .pointer _), (7, .slice (some _) _ _), (8, .int _ _), (9, .pointer _), (40, .slice _ _ _), (41, .int _ _), (42, .int _ _), (48, .int _ _)] ⟨rfl, rfl, rfl, rfl, rfl, rfl, rfl, rfl, rfl, trivial⟩ fun σ => ?_
                  refine gblock ?_
                  refine gseq fun N17 hN17 => ?_
                  refine greg ?_
                  refine gop (y_eql rfl rfl) rfl rfl rfl ?_
                  refine gop (y_assign (v := .bool _) rfl) rfl rfl rfl ?_
                  refine gops_nil ?_
                  refine hN17 _ _ ?_
                  refine gfrom [(3, .pointer _), (5, .pointer _), (7, .slice (some _) _ _), (8, .int _ _), (9, .pointer _), (40, .slice _ _ _), (41, .int _ _), (42, .int _ _), (48, .int _ _), (64, .bool _)] ⟨rfl, rfl, rfl, rfl, rfl, rfl, rfl, rfl, rfl, rfl, trivial⟩ fun σ => ?_
                  refine gcond (b := _) rfl (fun hc64 => ?_) (fun hc64 => ?_)
                  · 
                    replace hc64 := of_decide_eq_true hc64
                    have hev : evN F l[k] (foldTo (evN F) l k) = _ := ev1 hc64
                    refine greg ?_
                    refine gop (y_move (v := .slice (some _) _ _) rfl) rfl rfl rfl ?_
                    refine gop (y_move (v := .int _ _) rfl) rfl rfl rfl ?_
                    refine gop (y_fieldAddr_box fa45_0 rfl) rfl rfl rfl ?_
                    refine gop (y_load Tryz.isAgg3 rfl (cell_box 1 rfl rfl)) rfl rfl rfl ?_
                    refine gop (y_fieldAddr_box fa48_1 rfl) rfl rfl rfl ?_
                    refine gop (y_load Tryz.isAgg3 rfl (cell_box 5 rfl rfl)) rfl rfl rfl ?_
                    refine gop (y_geq rfl rfl) rfl rfl rfl ?_
                    refine gop (y_indexAddr (m := k) Tryz.underlying46 Tryz.sizeOf4 rfl rfl (by omega) (by omega) (by omega)) rfl rfl rfl ?_
                    refine gop_store_row 4 (f := boolCells) (l := pad false (foldTo (evN F) l k) l.length) (k := k) (o := 0) (v := .bool _) (a := false) (a' := _) (fun _ => rfl) rfl rfl rfl Tryz.sizeOf4 rfl rfl rfl rfl (pad_len (by rw [foldTo_len]; omega)).symm (pad_at (foldTo_len k) hk1) (Nat.le_of_ble_eq_true rfl) rfl rfl ?_
                    refine gops_nil ?_
                    rw [hev, pad_set (foldTo_len k) hk1]
                    refine gcut3_end (()) (trivial) trivial ⟨rfl, rfl, rfl, rfl, rfl, rfl, trivial⟩ ⟨_, rfl⟩
                  · 
                    replace hc64 := of_decide_eq_false hc64
                    refine gseq fun N18 hN18 => ?_
                    refine greg ?_
                    refine gop (y_eql rfl rfl) rfl rfl rfl ?_
                    refine gop (y_assign (v := .bool _) rfl) rfl rfl rfl ?_
                    refine gops_nil ?_
                    refine hN18 _ _ ?_
                    refine gfrom [(3, .pointer _), (5, .pointer _), (7, .slice (some _) _ _), (8, .int _ _), (9, .pointer _), (40, .slice _ _ _), (41, .int _ _), (42, .int _ _), (48, .int _ _), (74, .bool _)] ⟨rfl, rfl, rfl, rfl, rfl, rfl, rfl, rfl, rfl, rfl, trivial⟩ fun σ => ?_
                    refine gcond (b := _) rfl (fun hc74 => ?_) (fun hc74 => ?_)
                    · 
                      replace hc74 := of_decide_eq_true hc74
                      have hev : evN F l[k] (foldTo (evN F) l k) = _ := ev2 hc74
                      refine greg ?_
                      refine gop (y_move (v := .slice (some _) _ _) rfl) rfl rfl rfl ?_
                      refine gop (y_move (v := .int _ _) rfl) rfl rfl rfl ?_
                      refine gop (y_fieldAddr_box fa45_1 rfl) rfl rfl rfl ?_
                      refine gop (y_load Tryz.isAgg4 rfl (cell_box 1 rfl rfl)) rfl rfl rfl ?_
                      refine gop (y_indexAddr (m := k) Tryz.underlying46 Tryz.sizeOf4 rfl rfl (by omega) (by omega) (by omega)) rfl rfl rfl ?_
                      refine gop_store_row 4 (f := boolCells) (l := pad false (foldTo (evN F) l k) l.length) (k := k) (o := 0) (v := .bool _) (a := false) (a' := _) (fun _ => rfl) rfl rfl rfl Tryz.sizeOf4 rfl rfl rfl rfl (pad_len (by rw [foldTo_len]; omega)).symm (pad_at (foldTo_len k) hk1) (Nat.le_of_ble_eq_true rfl) rfl rfl ?_
                      refine gops_nil ?_
                      rw [hev, pad_set (foldTo_len k) hk1]
                      refine gcut3_end (()) (trivial) trivial ⟨rfl, rfl, rfl, rfl, rfl, rfl, trivial⟩ ⟨_, rfl⟩
                    · 
                      replace hc74 := of_decide_eq_false hc74
                      refine gseq fun N19 hN19 => ?_
                      refine greg ?_
                      refine gop (y_eql rfl rfl) rfl rfl rfl ?_
                      refine gop (y_assign (v := .bool _) rfl) rfl rfl rfl ?_
                      refine gops_nil ?_
                      refine hN19 _ _ ?_
                      refine gfrom [(3, .pointer _), (5, .pointer _), (7, .slice (some _) _ _), (8, .int _ _), (9, .pointer _), (40, .slice _ _ _), (41, .int _ _), (42, .int _ _), (48, .int _ _), (81, .bool _)] ⟨rfl, rfl, rfl, rfl, rfl, rfl, rfl, rfl, rfl, rfl, trivial⟩ fun σ => ?_
                      refine gcond (b := _) rfl (fun hc81 => ?_) (fun hc81 => ?_)
                      · 
                        replace hc81 := of_decide_eq_true hc81
                        have hev : evN F l[k] (foldTo (evN F) l k) = _ := ev3 hc81
                        refine greg ?_
                        refine gop (y_move (v := .slice (some _) _ _) rfl) rfl rfl rfl ?_
                        refine gop (y_move (v := .int _ _) rfl) rfl rfl rfl ?_
                        refine gop (y_fieldAddr_box fa45_2 rfl) rfl rfl rfl ?_
                        refine gop (y_load Tryz.isAgg4 rfl (cell_box 1 rfl rfl)) rfl rfl rfl ?_
                        refine gop (y_indexAddr (m := k) Tryz.underlying46 Tryz.sizeOf4 rfl rfl (by omega) (by omega) (by omega)) rfl rfl rfl ?_
                        refine gop_store_row 4 (f := boolCells) (l := pad false (foldTo (evN F) l k) l.length) (k := k) (o := 0) (v := .bool _) (a := false) (a' := _) (fun _ => rfl) rfl rfl rfl Tryz.sizeOf4 rfl rfl rfl rfl (pad_len (by rw [foldTo_len]; omega)).symm (pad_at (foldTo_len k) hk1) (Nat.le_of_ble_eq_true rfl) rfl rfl ?_
                        refine gops_nil ?_
                        rw [hev, pad_set (foldTo_len k) hk1]
                        refine gcut3_end (()) (trivial) trivial ⟨rfl, rfl, rfl, rfl, rfl, rfl, trivial⟩ ⟨_, rfl⟩
                      · 
                        replace hc81 := of_decide_eq_false hc81
                        refine gseq fun N20 hN20 => ?_
                        refine greg ?_
                        refine gop (y_eql rfl rfl) rfl rfl rfl ?_
                        refine gop (y_assign (v := .bool _) rfl) rfl rfl rfl ?_
                        refine gops_nil ?_
                        refine hN20 _ _ ?_
                        refine gfrom [(3, .pointer _), (5, .pointer _), (7, .slice (some _) _ _), (8, .int _ _), (9, .pointer _), (40, .slice _ _ _), (41, .int _ _), (42, .int _ _), (48, .int _ _), (88, .bool _)] ⟨rfl, rfl, rfl, rfl, rfl, rfl, rfl, rfl, rfl, rfl, trivial⟩ fun σ => ?_
                        refine gcond (b := _) rfl (fun hc88 => ?_) (fun hc88 => ?_)
                        · 
                          replace hc88 := of_decide_eq_true hc88
                          have hev : evN F l[k] (foldTo (evN F) l k) = _ := ev4 hc88
                          rw [hc88] at hm1
                          have hm7 : l[k].number ≤ 7 := hm1
                          refine greg ?_
                          refine gop (y_move (v := .slice (some _) _ _) rfl) rfl rfl rfl ?_
                          refine gop (y_move (v := .int _ _) rfl) rfl rfl rfl ?_
                          refine gop (y_fieldAddr_box fa45_3 rfl) rfl rfl rfl ?_
                          refine gop (y_load Tryz.isAgg3 rfl (cell_box 1 rfl rfl)) rfl rfl rfl ?_
                          refine gop (y_fieldAddr_box fa48_1 rfl) rfl rfl rfl ?_
                          refine gop (y_load Tryz.isAgg3 rfl (cell_box 5 rfl rfl)) rfl rfl rfl ?_
                          refine gop (y_shr rfl rfl (by omega) (by omega)) rfl rfl rfl ?_
                          refine gop (y_and1 rfl rfl) rfl rfl rfl ?_
                          refine gop (y_eql rfl rfl) rfl rfl rfl ?_
                          refine gop (y_indexAddr (m := k) Tryz.underlying46 Tryz.sizeOf4 rfl rfl (by omega) (by omega) (by omega)) rfl rfl rfl ?_
                          refine gop_store_row 4 (f := boolCells) (l := pad false (foldTo (evN F) l k) l.length) (k := k) (o := 0) (v := .bool _) (a := false) (a' := _) (fun _ => rfl) rfl rfl rfl Tryz.sizeOf4 rfl rfl rfl rfl (pad_len (by rw [foldTo_len]; omega)).symm (pad_at (foldTo_len k) hk1) (Nat.le_of_ble_eq_true rfl) rfl rfl ?_
                          refine gops_nil ?_
                          rw [hev, pad_set (foldTo_len k) hk1]
                          refine gcut3_end (()) (trivial) trivial ⟨rfl, rfl, rfl, rfl, rfl, rfl, trivial⟩ ⟨_, rfl⟩
                        · 
                          replace hc88 := of_decide_eq_false hc88
                          refine gseq fun N21 hN21 => ?_
                          refine greg ?_
                          refine gop (y_eql rfl rfl) rfl rfl rfl ?_
                          refine gop (y_assign (v := .bool _) rfl) rfl rfl rfl ?_
                          refine gops_nil ?_
                          refine hN21 _ _ ?_
                          refine gfrom [(3, .pointer _), (5, .pointer _), (7, .slice (some _) _ _), (8, .int _ _), (9, .pointer _), (40, .slice _ _ _), (41, .int _ _), (42, .int _ _), (48, .int _ _), (100, .bool _)] ⟨rfl, rfl, rfl, rfl, rfl, rfl, rfl, rfl, rfl, rfl, trivial⟩ fun σ => ?_
                          refine gcond (b := _) rfl (fun hc100 => ?_) (fun hc100 => ?_)
                          · 
                            replace hc100 := of_decide_eq_true hc100
                            have hev : evN F l[k] (foldTo (evN F) l k) = _ := ev5 hc100
                            obtain ⟨hl0, hl1⟩ := hkl (by rw [hc100]; decide)
                            refine greg ?_
                            refine gop (y_move (v := .slice (some _) _ _) rfl) rfl rfl rfl ?_
                            refine gop (y_move (v := .int _ _) rfl) rfl rfl rfl ?_
                            refine gop (y_move (v := .slice (some _) _ _) rfl) rfl rfl rfl ?_
                            refine gop (y_fieldAddr_box fa48_2 rfl) rfl rfl rfl ?_
                            refine gop (y_load Tryz.isAgg3 rfl (cell_box 5 rfl rfl)) rfl rfl rfl ?_
                            refine gop (y_indexAddr (m := l[k].left.toNat) Tryz.underlying46 Tryz.sizeOf4 rfl rfl (by omega) (by omega) (by omega)) rfl rfl rfl ?_
                            refine gop (y_load Tryz.isAgg4 rfl (cells_rowl 4 (f := boolCells) (l := pad false (foldTo (evN F) l k) l.length) rfl (by rw [pad_len (by rw [foldTo_len]; omega)]) (fun _ => rfl) (by rw [pad_old (by rw [foldTo_len]; omega)]; exact gB_get (by rw [foldTo_len]; omega)) 0 _ rfl)) rfl rfl rfl ?_
                            refine gop (y_not rfl) rfl rfl rfl ?_
                            refine gop (y_indexAddr (m := k) Tryz.underlying46 Tryz.sizeOf4 rfl rfl (by omega) (by omega) (by omega)) rfl rfl rfl ?_
                            refine gop_store_row 4 (f := boolCells) (l := pad false (foldTo (evN F) l k) l.length) (k := k) (o := 0) (v := .bool _) (a := false) (a' := _) (fun _ => rfl) rfl rfl rfl Tryz.sizeOf4 rfl rfl rfl rfl (pad_len (by rw [foldTo_len]; omega)).symm (pad_at (foldTo_len k) hk1) (Nat.le_of_ble_eq_true rfl) rfl rfl ?_
                            refine gops_nil ?_
                            rw [hev, pad_set (foldTo_len k) hk1]
                            refine gcut3_end (()) (trivial) trivial ⟨rfl, rfl, rfl, rfl, rfl, rfl, trivial⟩ ⟨_, rfl⟩
                          · 
                            replace hc100 := of_decide_eq_false hc100
                            refine gseq fun N22 hN22 => ?_
                            refine greg ?_
                            refine gop (y_eql rfl rfl) rfl rfl rfl ?_
                            refine gop (y_assign (v := .bool _) rfl) rfl rfl rfl ?_
                            refine gops_nil ?_
                            refine hN22 _ _ ?_
                            refine gfrom [(3, .pointer _), (5, .pointer _), (7, .slice (some _) _ _), (8, .int _ _), (9, .pointer _), (40, .slice _ _ _), (41, .int _ _), (42, .int _ _), (111, .bool _)] ⟨rfl, rfl, rfl, rfl, rfl, rfl, rfl, rfl, rfl, trivial⟩ fun σ => ?_
                            refine gcond (b := _) rfl (fun hc111 => ?_) (fun hc111 => ?_)
                            · 
                              replace hc111 := of_decide_eq_true hc111
                              have hev : evN F l[k] (foldTo (evN F) l k) = _ := ev6 hc111
                              obtain ⟨hl0, hl1⟩ := hkl (by rw [hc111]; decide)
                              obtain ⟨hr0, hr1⟩ := hkr (by rw [hc111]; decide)
                              refine greg ?_
                              refine gop (y_move (v := .slice (some _) _ _) rfl) rfl rfl rfl ?_
                              refine gop (y_move (v := .int _ _) rfl) rfl rfl rfl ?_
                              refine gop (y_move (v := .slice (some _) _ _) rfl) rfl rfl rfl ?_
                              refine gop (y_fieldAddr_box fa48_2 rfl) rfl rfl rfl ?_
                              refine gop (y_load Tryz.isAgg3 rfl (cell_box 5 rfl rfl)) rfl rfl rfl ?_
                              refine gop (y_indexAddr (m := l[k].left.toNat) Tryz.underlying46 Tryz.sizeOf4 rfl rfl (by omega) (by omega) (by omega)) rfl rfl rfl ?_
                              refine gop (y_load Tryz.isAgg4 rfl (cells_rowl 4 (f := boolCells) (l := pad false (foldTo (evN F) l k) l.length) rfl (by rw [pad_len (by rw [foldTo_len]; omega)]) (fun _ => rfl) (by rw [pad_old (by rw [foldTo_len]; omega)]; exact gB_get (by rw [foldTo_len]; omega)) 0 _ rfl)) rfl rfl rfl ?_
                              refine gop (y_move (v := .bool _) rfl) rfl rfl rfl ?_
                              refine gop_if (want := true) rfl rfl rfl rfl rfl rfl (fun hg120 => ?_) (fun hg120 => ?_)
                              · 
                                have hg120d := hg120
                                refine gop (y_bare (y_move (v := .slice (some _) _ _) rfl)) rfl rfl rfl ?_
                                refine gop_on rfl rfl rfl rfl hg120 ?_
                                refine gop (y_bare (y_fieldAddr_box fa48_3 rfl)) rfl rfl rfl ?_
                                refine gop_on rfl rfl rfl rfl hg120 ?_
                                refine gop (y_bare (y_load Tryz.isAgg3 rfl (cell_box 5 rfl rfl))) rfl rfl rfl ?_
                                refine gop_on rfl rfl rfl rfl hg120 ?_
                                refine gop (y_bare (y_indexAddr (m := l[k].right.toNat) Tryz.underlying46 Tryz.sizeOf4 rfl rfl (by omega) (by omega) (by omega))) rfl rfl rfl ?_
                                refine gop_on rfl rfl rfl rfl hg120 ?_
                                refine gop (y_bare (y_load Tryz.isAgg4 rfl (cells_rowl 4 (f := boolCells) (l := pad false (foldTo (evN F) l k) l.length) rfl (by rw [pad_len (by rw [foldTo_len]; omega)]) (fun _ => rfl) (by rw [pad_old (by rw [foldTo_len]; omega)]; exact gB_get (by rw [foldTo_len]; omega)) 0 _ rfl))) rfl rfl rfl ?_
                                refine gop (y_pick_t (v := .bool _) rfl hg120 rfl) rfl rfl rfl ?_
                                refine gop (y_indexAddr (m := k) Tryz.underlying46 Tryz.sizeOf4 rfl rfl (by omega) (by omega) (by omega)) rfl rfl rfl ?_
                                refine gop_store_row 4 (f := boolCells) (l := pad false (foldTo (evN F) l k) l.length) (k := k) (o := 0) (v := .bool _) (a := false) (a' := _) (fun _ => rfl) rfl rfl rfl Tryz.sizeOf4 rfl rfl rfl rfl (pad_len (by rw [foldTo_len]; omega)).symm (pad_at (foldTo_len k) hk1) (Nat.le_of_ble_eq_true rfl) rfl rfl ?_
                                refine gops_nil ?_
                                rw [hev, pad_set (foldTo_len k) hk1, hg120]
                                first | rw [Bool.true_and] | rw [Bool.not_true, Bool.false_and]
                                refine gcut3_end (()) (trivial) trivial ⟨rfl, rfl, rfl, rfl, rfl, rfl, trivial⟩ ⟨_, rfl⟩
                              · 
                                have hg120d := hg120
                                refine gop_off rfl rfl rfl rfl hg120 rfl rfl ?_
                                refine gop_off rfl rfl rfl rfl hg120 rfl rfl ?_
                                refine gop_off rfl rfl rfl rfl hg120 rfl rfl ?_
                                refine gop_off rfl rfl rfl rfl hg120 rfl rfl ?_
                                refine gop (y_pick_f (v := .bool _) rfl hg120 rfl) rfl rfl rfl ?_
                                refine gop (y_indexAddr (m := k) Tryz.underlying46 Tryz.sizeOf4 rfl rfl (by omega) (by omega) (by omega)) rfl rfl rfl ?_
                                refine gop_store_row 4 (f := boolCells) (l := pad false (foldTo (evN F) l k) l.length) (k := k) (o := 0) (v := .bool _) (a := false) (a' := _) (fun _ => rfl) rfl rfl rfl Tryz.sizeOf4 rfl rfl rfl rfl (pad_len (by rw [foldTo_len]; omega)).symm (pad_at (foldTo_len k) hk1) (Nat.le_of_ble_eq_true rfl) rfl rfl ?_
                                refine gops_nil ?_
                                rw [hev, pad_set (foldTo_len k) hk1, hg120]
                                first | rw [Bool.true_and] | rw [Bool.not_true, Bool.false_and]
                                refine gcut3_end (()) (trivial) trivial ⟨rfl, rfl, rfl, rfl, rfl, rfl, trivial⟩ ⟨_, rfl⟩
                            · 
                              replace hc111 := of_decide_eq_false hc111
                              have h7 : l[k].kind = 7 := by omega
                              have hev : evN F l[k] (foldTo (evN F) l k) = _ := ev7 h7
                              obtain ⟨hl0, hl1⟩ := hkl (by rw [h7]; decide)
                              obtain ⟨hr0, hr1⟩ := hkr (by rw [h7]; decide)
                              refine greg ?_
                              refine gop (y_move (v := .slice (some _) _ _) rfl) rfl rfl rfl ?_
                              refine gop (y_move (v := .int _ _) rfl) rfl rfl rfl ?_
                              refine gop (y_move (v := .slice (some _) _ _) rfl) rfl rfl rfl ?_
                              refine gop (y_fieldAddr_box fa48_2 rfl) rfl rfl rfl ?_
                              refine gop (y_load Tryz.isAgg3 rfl (cell_box 5 rfl rfl)) rfl rfl rfl ?_
                              refine gop (y_indexAddr (m := l[k].left.toNat) Tryz.underlying46 Tryz.sizeOf4 rfl rfl (by omega) (by omega) (by omega)) rfl rfl rfl ?_
                              refine gop (y_load Tryz.isAgg4 rfl (cells_rowl 4 (f := boolCells) (l := pad false (foldTo (evN F) l k) l.length) rfl (by rw [pad_len (by rw [foldTo_len]; omega)]) (fun _ => rfl) (by rw [pad_old (by rw [foldTo_len]; omega)]; exact gB_get (by rw [foldTo_len]; omega)) 0 _ rfl)) rfl rfl rfl ?_
                              refine gop (y_move (v := .bool _) rfl) rfl rfl rfl ?_
                              refine gop_if (want := false) rfl rfl rfl rfl rfl rfl (fun hg56 => ?_) (fun hg56 => ?_)
                              · 
                                have hg56d := hg56
                                refine gop (y_bare (y_move (v := .slice (some _) _ _) rfl)) rfl rfl rfl ?_
                                refine gop_on rfl rfl rfl rfl hg56 ?_
                                refine gop (y_bare (y_fieldAddr_box fa48_3 rfl)) rfl rfl rfl ?_
                                refine gop_on rfl rfl rfl rfl hg56 ?_
                                refine gop (y_bare (y_load Tryz.isAgg3 rfl (cell_box 5 rfl rfl))) rfl rfl rfl ?_
                                refine gop_on rfl rfl rfl rfl hg56 ?_
                                refine gop (y_bare (y_indexAddr (m := l[k].right.toNat) Tryz.underlying46 Tryz.sizeOf4 rfl rfl (by omega) (by omega) (by omega))) rfl rfl rfl ?_
                                refine gop_on rfl rfl rfl rfl hg56 ?_
                                refine gop (y_bare (y_load Tryz.isAgg4 rfl (cells_rowl 4 (f := boolCells) (l := pad false (foldTo (evN F) l k) l.length) rfl (by rw [pad_len (by rw [foldTo_len]; omega)]) (fun _ => rfl) (by rw [pad_old (by rw [foldTo_len]; omega)]; exact gB_get (by rw [foldTo_len]; omega)) 0 _ rfl))) rfl rfl rfl ?_
                                refine gop (y_pick_f (v := .bool _) rfl hg56 rfl) rfl rfl rfl ?_
                                refine gop (y_indexAddr (m := k) Tryz.underlying46 Tryz.sizeOf4 rfl rfl (by omega) (by omega) (by omega)) rfl rfl rfl ?_
                                refine gop_store_row 4 (f := boolCells) (l := pad false (foldTo (evN F) l k) l.length) (k := k) (o := 0) (v := .bool _) (a := false) (a' := _) (fun _ => rfl) rfl rfl rfl Tryz.sizeOf4 rfl rfl rfl rfl (pad_len (by rw [foldTo_len]; omega)).symm (pad_at (foldTo_len k) hk1) (Nat.le_of_ble_eq_true rfl) rfl rfl ?_
                                refine gops_nil ?_
                                rw [hev, pad_set (foldTo_len k) hk1, hg56]
                                first | rw [Bool.false_or] | rw [Bool.not_false, Bool.true_or]
                                refine gcut3_end (()) (trivial) trivial ⟨rfl, rfl, rfl, rfl, rfl, rfl, trivial⟩ ⟨_, rfl⟩
                              · 
                                have hg56d := hg56
                                refine gop_off rfl rfl rfl rfl hg56 rfl rfl ?_
                                refine gop_off rfl rfl rfl rfl hg56 rfl rfl ?_
                                refine gop_off rfl rfl rfl rfl hg56 rfl rfl ?_
                                refine gop_off rfl rfl rfl rfl hg56 rfl rfl ?_
                                refine gop (y_pick_t (v := .bool _) rfl hg56 rfl) rfl rfl rfl ?_
                                refine gop (y_indexAddr (m := k) Tryz.underlying46 Tryz.sizeOf4 rfl rfl (by omega) (by omega) (by omega)) rfl rfl rfl ?_
                                refine gop_store_row 4 (f := boolCells) (l := pad false (foldTo (evN F) l k) l.length) (k := k) (o := 0) (v := .bool _) (a := false) (a' := _) (fun _ => rfl) rfl rfl rfl Tryz.sizeOf4 rfl rfl rfl rfl (pad_len (by rw [foldTo_len]; omega)).symm (pad_at (foldTo_len k) hk1) (Nat.le_of_ble_eq_true rfl) rfl rfl ?_
                                refine gops_nil ?_
                                rw [hev, pad_set (foldTo_len k) hk1, hg56]
                                first | rw [Bool.false_or] | rw [Bool.not_false, Bool.true_or]
                                refine gcut3_end (()) (trivial) trivial ⟨rfl, rfl, rfl, rfl, rfl, rfl, trivial⟩ ⟨_, rfl⟩
                ·
                  intro g hcut σ
                  refine hN14 _ _ ?_
                  refine greg ?_
                  refine gop (y_add rfl rfl ⟨by omega, by omega⟩) rfl rfl rfl ?_
                  refine gop (y_move (v := .int _ _) rfl) rfl rfl rfl ?_
                  refine gops_nil ?_
                  rw [show evN F l[k] (foldTo (evN F) l k) = evN F (nAt l k) (foldTo (evN F) l k) by rw [nAt_at hk1]]
                  refine gnext2 (k + 1) (by omega) (show k + 1 ≤ _ by omega) ⟨rfl, trivial⟩ ⟨rfl, rfl, rfl, rfl, rfl, trivial⟩ ⟨_, rfl⟩
              · 
                replace hc43 := of_decide_eq_false hc43
                refine gexit ?_
                refine hN10 _ _ ?_
                refine gfrom [(5, .pointer _), (7, .slice (some _) _ _)] ⟨rfl, rfl, trivial⟩ fun σ => ?_
                refine gseq fun N23 hN23 => ?_
                refine greg ?_
                refine gop (y_move (v := .slice (some _) _ _) rfl) rfl rfl rfl ?_
                refine gop (y_move (v := .slice (some _) _ _) rfl) rfl rfl rfl ?_
                refine gop (y_len Tryz.underlying46 rfl) rfl rfl rfl ?_
                refine gop (y_sub rfl rfl ⟨by omega, by omega⟩) rfl rfl rfl ?_
                refine gop (y_indexAddr (m := l.length - 1) Tryz.underlying46 Tryz.sizeOf4 rfl rfl (by omega) (by omega) (by omega)) rfl rfl rfl ?_
                refine gop (y_load Tryz.isAgg4 rfl (cells_rowl 4 (f := boolCells) (l := pad false (foldTo (evN F) l k) l.length) rfl (by rw [pad_len (by rw [foldTo_len]; omega)]) (fun _ => rfl) (by rw [pad_old (by rw [foldTo_len]; omega), foldTo_get _ _ (by omega)]) 0 _ rfl)) rfl rfl rfl ?_
                refine gop (y_build (vs := []) (cells := #[.int .i64 0, .int .i64 0]) rfl bd33_) rfl rfl rfl ?_
                refine gop (y_assign (v := .bool _) rfl) rfl rfl rfl ?_
                refine gop_store 2 (v := .agg #[_, _]) (cs' := #[_, _]) rfl rfl Tryz.sizeOf33 rfl rfl rfl rfl (Nat.le_of_ble_eq_true rfl) rfl rfl ?_
                refine gops_nil ?_
                refine hN23 _ _ ?_
                refine gT [box b2 _, box b3 _, box b5 _, box b6 _, rowl _ _ _ _ _ _] rfl ?_
                refine gfrom [(4, .bool _), (5, .pointer _)] ⟨rfl, rfl, trivial⟩ fun σ => ?_
                refine gret fun w1 hM => ?_
                refine ⟨_, res2 rfl (rt (v := .bool _) rfl) (rc 2 (cs := [_, _]) hM rfl rfl Tryz.isAgg33 Tryz.sizeOf33 rfl), ?_⟩
                exact ⟨by rw [hF, hV], hM.low⟩
        · 
          have hg29d := of_decide_eq_true hg29
          refine gop_off rfl rfl rfl rfl hg29 rfl rfl ?_
          refine gop_off rfl rfl rfl rfl hg29 rfl rfl ?_
          refine gop (y_pick_t (v := .bool _) rfl hg29 rfl) rfl rfl rfl ?_
          refine gops_nil ?_
          refine hN7 _ _ ?_
          refine gfrom [(2, .pointer _), (3, .pointer _), (5, .pointer _), (33, .bool _)] ⟨rfl, rfl, rfl, rfl, trivial⟩ fun σ => ?_
          refine gcond (b := _) rfl (fun hc33 => ?_) (fun hc33 => ?_)
          · 
            obtain ⟨hF, hV⟩ := evalF_range hc14 (F := F) (by unfold factsBad; omega)
            refine gseq fun N24 hN24 => ?_
            refine greg ?_
            refine gop (y_build (vs := [(0, _), (1, _)]) (cells := #[_, _]) rfl (bd33_0_1 _ _)) rfl rfl rfl ?_
            refine gop (y_assign (v := .bool _) rfl) rfl rfl rfl ?_
            refine gop_store 2 (v := .agg #[_, _]) (cs' := #[_, _]) rfl rfl Tryz.sizeOf33 rfl rfl rfl rfl (Nat.le_of_ble_eq_true rfl) rfl rfl ?_
            refine gops_nil ?_
            refine hN24 _ _ ?_
            refine gT [box b2 _, box b3 _, box b5 _, box b6 _] rfl ?_
            refine gfrom [(4, .bool _), (5, .pointer _)] ⟨rfl, rfl, trivial⟩ fun σ => ?_
            refine gret fun w1 hM => ?_
            refine ⟨_, res2 rfl (rt (v := .bool _) rfl) (rc 2 (cs := [_, _]) hM rfl rfl Tryz.isAgg33 Tryz.sizeOf33 rfl), ?_⟩
            exact ⟨by rw [hF, hV], hM.low⟩
          · 
            cases hc33
      · 
        have hg24d := of_decide_eq_true hg24
        refine gop_off rfl rfl rfl rfl hg24 rfl rfl ?_
        refine gop_off rfl rfl rfl rfl hg24 rfl rfl ?_
        refine gop (y_pick_t (v := .bool _) rfl hg24 rfl) rfl rfl rfl ?_
        refine gop (y_move (v := .bool _) rfl) rfl rfl rfl ?_
        refine gop_off rfl rfl rfl rfl rfl rfl rfl ?_
        refine gop_off rfl rfl rfl rfl rfl rfl rfl ?_
        refine gop_off rfl rfl rfl rfl rfl rfl rfl ?_
        refine gop (y_pick_t (v := .bool _) rfl rfl rfl) rfl rfl rfl ?_
        refine gops_nil ?_
        refine hN7 _ _ ?_
        refine gfrom [(2, .pointer _), (3, .pointer _), (5, .pointer _), (33, .bool _)] ⟨rfl, rfl, rfl, rfl, trivial⟩ fun σ => ?_
        refine gcond (b := _) rfl (fun hc33 => ?_) (fun hc33 => ?_)
        · 
          obtain ⟨hF, hV⟩ := evalF_range hc14 (F := F) (by unfold factsBad; omega)
          refine gseq fun N25 hN25 => ?_
          refine greg ?_
          refine gop (y_build (vs := [(0, _), (1, _)]) (cells := #[_, _]) rfl (bd33_0_1 _ _)) rfl rfl rfl ?_
          refine gop (y_assign (v := .bool _) rfl) rfl rfl rfl ?_
          refine gop_store 2 (v := .agg #[_, _]) (cs' := #[_, _]) rfl rfl Tryz.sizeOf33 rfl rfl rfl rfl (Nat.le_of_ble_eq_true rfl) rfl rfl ?_
          refine gops_nil ?_
          refine hN25 _ _ ?_
          refine gT [box b2 _, box b3 _, box b5 _, box b6 _] rfl ?_
          refine gfrom [(4, .bool _), (5, .pointer _)] ⟨rfl, rfl, trivial⟩ fun σ => ?_
          refine gret fun w1 hM => ?_
          refine ⟨_, res2 rfl (rt (v := .bool _) rfl) (rc 2 (cs := [_, _]) hM rfl rfl Tryz.isAgg33 Tryz.sizeOf33 rfl), ?_⟩
          exact ⟨by rw [hF, hV], hM.low⟩
        · 
          cases hc33
    · 
      have hg19d := of_decide_eq_true hg19
      refine gop_off rfl rfl rfl rfl hg19 rfl rfl ?_
      refine gop_off rfl rfl rfl rfl hg19 rfl rfl ?_
      refine gop (y_pick_t (v := .bool _) rfl hg19 rfl) rfl rfl rfl ?_
      refine gop (y_move (v := .bool _) rfl) rfl rfl rfl ?_
      refine gop_off rfl rfl rfl rfl rfl rfl rfl ?_
      refine gop_off rfl rfl rfl rfl rfl rfl rfl ?_
      refine gop_off rfl rfl rfl rfl rfl rfl rfl ?_
      refine gop (y_pick_t (v := .bool _) rfl rfl rfl) rfl rfl rfl ?_
      refine gop (y_move (v := .bool _) rfl) rfl rfl rfl ?_
      refine gop_off rfl rfl rfl rfl rfl rfl rfl ?_
      refine gop_off rfl rfl rfl rfl rfl rfl rfl ?_
      refine gop_off rfl rfl rfl rfl rfl rfl rfl ?_
      refine gop (y_pick_t (v := .bool _) rfl rfl rfl) rfl rfl rfl ?_
      refine gops_nil ?_
      refine hN7 _ _ ?_
      refine gfrom [(2, .pointer _), (3, .pointer _), (5, .pointer _), (33, .bool _)] ⟨rfl, rfl, rfl, rfl, trivial⟩ fun σ => ?_
      refine gcond (b := _) rfl (fun hc33 => ?_) (fun hc33 => ?_)
      · 
        obtain ⟨hF, hV⟩ := evalF_range hc14 (F := F) (by unfold factsBad; omega)
        refine gseq fun N26 hN26 => ?_
        refine greg ?_
        refine gop (y_build (vs := [(0, _), (1, _)]) (cells := #[_, _]) rfl (bd33_0_1 _ _)) rfl rfl rfl ?_
        refine gop (y_assign (v := .bool _) rfl) rfl rfl rfl ?_
        refine gop_store 2 (v := .agg #[_, _]) (cs' := #[_, _]) rfl rfl Tryz.sizeOf33 rfl rfl rfl rfl (Nat.le_of_ble_eq_true rfl) rfl rfl ?_
        refine gops_nil ?_
        refine hN26 _ _ ?_
        refine gT [box b2 _, box b3 _, box b5 _, box b6 _] rfl ?_
        refine gfrom [(4, .bool _), (5, .pointer _)] ⟨rfl, rfl, trivial⟩ fun σ => ?_
        refine gret fun w1 hM => ?_
        refine ⟨_, res2 rfl (rt (v := .bool _) rfl) (rc 2 (cs := [_, _]) hM rfl rfl Tryz.isAgg33 Tryz.sizeOf33 rfl), ?_⟩
        exact ⟨by rw [hF, hV], hM.low⟩
      · 
        cases hc33
end Go.Proofs.YtbkameioedmlkaaGreatDoor
namespace Go.Cf
open Go.RowKit
def AtoiEnd (s : ByteArray) (n : Int) (er : Value) (b : Bool) : Prop := (er = .nilIface ∧ b = false ∧ Lib.atoiAll s.data.toList = .ok n) ∨ ((∃ t p, er = .iface t p) ∧ b = true ∧ numV s = none)
theorem AtoiEnd.ok {s : ByteArray} {n : Int} {er : Value} {b : Bool} (h : AtoiEnd s n er b) (hb : b = false) : Lib.atoiAll s.data.toList = .ok n := by
  rcases h with ⟨_, _, h⟩ | ⟨_, h, _⟩
  · exact h
  · rw [h] at hb; cases hb
theorem num_bad {s : ByteArray} {n : Int} {er : Value} {b : Bool} (h : AtoiEnd s n er b) (hb : b = true ∨ baL (Lib.itoa n) ≠ s) : numV s = none := by
  rcases h with ⟨_, h1, h2⟩ | ⟨_, _, h2⟩
  · rcases hb with hb | hb
    · rw [h1] at hb; cases hb
    · rw [numV, h2]
      exact if_neg (fun h9 => hb (by rw [h9]; rfl))
  · exact h2
theorem num_good {s : ByteArray} {n : Int} {er : Value} {b : Bool} (h : AtoiEnd s n er b) (hb : b = false) (h2 : baL (Lib.itoa n) = s) : numV s = some n := by
  rw [numV, h.ok hb]
  exact if_pos (by rw [← h2, baL_data])
theorem mem_nil {w w' : World} (h : Below w.heap.size w w') : Mem w [] w' := ⟨h, by simp, by simp, by simp, List.Pairwise.nil⟩
section
variable {P : Program} {w0 : World} {T : List Reg} {ρ : Env} {dst : Option Tmp} {ty t yt : TypeId} {pos : String} {af : Array Edge} {gd : Option (Nat × Bool)} {x y : Operand}
theorem y_errne {y' : Value} {s : ByteArray} {n : Int} {er : Value} {b : Bool} (ht : P.isIface t = true) (h : AtoiEnd s n er b) (hx : ev ρ x = er) (hy : ev ρ (.const y') = .nilIface) : Yield P w0 T ρ ⟨dst, .binOp .neq t x (.const y') yt, ty, pos, af, gd⟩ (.bool b) := fun w _ => by
  rcases h with ⟨rfl, rfl, _⟩ | ⟨⟨te, pe, rfl⟩, rfl, _⟩
  · have h9 := run_neq_nil_nil_at (P := P) w t ht
    simp [execOp, go_sem, hx, hy, h9]
  · have h9 := run_neq_iface_nil (P := P) w t ht te pe
    simp [execOp, go_sem, hx, hy, h9]
end
theorem var_below {P : Program} {B g : Nat} {w w' : World} {n : String} {cs : Array Value} (h : Below B w w') (hg : P.globalNamed n = some g) (hgB : g < B) (hv : w.var? P n = some cs) : w'.var? P n = some cs := by
  unfold World.var? at hv ⊢
  simp only [hg, Option.bind_some] at hv ⊢
  rw [h.block g hgB]
  exact hv
end Go.Cf
namespace Go.Proofs.YtbkameioedmlkaaGreatDoor
open Go.RowKit Go.Cf
structure LaidP (w : World) : Prop where
  tab : Lib.TabIs Tryz.prog w "internal/strconv.uint64pow10" .u64 Lib.pow10Tab
  syn : ∃ te pe, w.cell? ⟨3, 0, none⟩ = some (.iface te pe)
  rng : ∃ te pe, w.cell? ⟨4, 0, none⟩ = some (.iface te pe)
  size : 6 ≤ w.heap.size
theorem LaidP.below {w w' : World} {B : Nat} (h : LaidP w) (hb : Below B w w') (hB : 6 ≤ B) : LaidP w' := by
  obtain ⟨te, pe, h1⟩ := h.syn
  obtain ⟨tr, pr, h2⟩ := h.rng
  refine ⟨?_, ⟨te, pe, ?_⟩, ⟨tr, pr, ?_⟩, Nat.le_trans h.size hb.size⟩
  · have hg : Tryz.prog.globalNamed "internal/strconv.uint64pow10" = some 5 := by kernel_rfl
    exact var_below hb hg (by omega) h.tab
  · rw [hb.cell (by show 3 < B; omega)]; exact h1
  · rw [hb.cell (by show 4 < B; omega)]; exact h2
theorem LaidP.base {w0 w : World} {T : List Reg} (h : LaidP w0) (hM : Mem w0 T w) : LaidP w := h.below hM.low h.size
theorem itoa_any (w : World) (n : Int) (h0 : -9223372036854775808 ≤ n) (h1 : n ≤ 9223372036854775807) (hL : LaidP w) : Calls Tryz.prog 144 #[.int .i64 n] w fun e w' => e = .returned (.string (baL (Lib.itoa n))) ∧ Below w.heap.size w w' :=
  (Tryz.strconv_Itoa n h0 h1 w hL.tab).mono fun _ _ ⟨h1, k, os, h2⟩ => ⟨h1, by rw [h2]; exact Lib.below_grow _ w (Nat.le_refl _) k os⟩
theorem atoi_any (w : World) (s : ByteArray) (hs : s.size ≤ 4000000) (hL : LaidP w) : Calls Tryz.prog 143 #[.string s] w fun e w' => ∃ n er b, e = .returned (.tuple #[.int .i64 n, er]) ∧ AtoiEnd s n er b ∧ Below w.heap.size w w' := by
  rcases h : Lib.atoiAll s.data.toList with v | _ | _
  ·
    refine (Tryz.strconv_Atoi_ok s (by omega) v h w).mono fun _ _ ⟨h1, h2⟩ => ⟨_, _, false, h1, .inl ⟨rfl, rfl, h⟩, ?_⟩
    rcases h2 with rfl | ⟨t, rfl⟩
    · exact Below.refl _ _
    · exact Lib.bytesWorld_below _ _ _
  ·
    obtain ⟨te, pe, hv⟩ := hL.syn
    exact (Tryz.strconv_Atoi_syntax s (by omega) h _ w hv (.inr ⟨te, pe, rfl⟩)).mono fun _ _ ⟨N, h1, _, _, h2⟩ => ⟨_, _, true, h1, .inr ⟨⟨_, _, rfl⟩, rfl, by rw [numV, h]⟩, h2⟩
  ·
    obtain ⟨te, pe, hv⟩ := hL.rng
    exact (Tryz.strconv_Atoi_range s (by omega) h _ w hv (.inr ⟨te, pe, rfl⟩)).mono fun _ _ ⟨N, h1, _, _, h2⟩ => ⟨_, _, true, h1, .inr ⟨⟨_, _, rfl⟩, rfl, by rw [numV, h]⟩, h2⟩
end Go.Proofs.YtbkameioedmlkaaGreatDoor
namespace Go.Proofs.YtbkameioedmlkaaGreatDoor
open Go.RowKit Go.Cf
set_option maxRecDepth 10000
theorem fa122_0 (a : Addr) (w : World) : (Instr.fieldAt 122 (.pointer (some a)) 0).run Tryz.prog w = .ok (.pointer (some (a.add 0))) w := by kernel_rfl
theorem el48 : Elem Tryz.prog 48 4 32 := elem_of (z := .agg #[.int .i64 0, .int .i64 0, .int .i64 0, .int .i64 0]) (by kernel_rfl) rfl (by decide)
theorem bd43_0 (x1 : Option Addr) (x1l x1c : Nat) : Tryz.prog.built 43 [(0, .slice x1 x1l x1c)] = some #[.slice x1 x1l x1c] := by kernel_rfl
theorem bd43_  : Tryz.prog.built 43 [] = some #[.slice none 0 0] := by kernel_rfl
set_option maxHeartbeats 4000000 in
theorem polMade1_any (w : World) (bg bc : Nat) (B : Option Addr) (t : Tr) (hto : t.ok) (hsz : t.size ≤ 1000) (hcell : w.cell? ⟨bg, 0, none⟩ = some (.slice B (post t 0).length bc)) (hrd : Rdl w 0 4 pnCells B (post t 0)) (hlc : (post t 0).length ≤ bc) (hcm : bc ≤ maxLen) : Calls Tryz.prog 57 #[.pointer (some ⟨bg, 0, none⟩)] w fun e w' => e = .returned (.tuple #[.agg #[.slice (if 24 < (t).size ∨ 12 < (t).depth then none else B) (if 24 < (t).size ∨ 12 < (t).depth then 0 else (post t 0).length) (if 24 < (t).size ∨ 12 < (t).depth then 0 else bc)], fv (madeR t).1]) ∧ Below w.heap.size w w' := by
  have hpl := post_len t 0
  have hps := t.pos
  have hdd := depL_post hto
  refine gcalls Tryz.func57 rfl Tryz.ntmps57 (Nat.le_of_ble_eq_true rfl) ?_
  refine gfrom [(0, .pointer (some ⟨bg, 0, none⟩))] ⟨rfl, trivial⟩ fun σ => ?_
  refine gseq fun N1 hN1 => ?_
  refine greg ?_
  refine gop_alloc (cs := #[.slice none 0 0]) Tryz.zeroValue43 rfl rfl (fun b2 hb2 => ?_)
  refine gop_alloc (cs := #[.int .i64 0, .int .i64 0]) Tryz.zeroValue33 rfl rfl (fun b3 hb3 => ?_)
  refine gops_nil ?_
  refine hN1 _ _ ?_
  refine gT [box b2 _, box b3 _] rfl ?_
  refine gfrom [(0, .pointer (some ⟨bg, 0, none⟩)), (2, .pointer _), (3, .pointer _)] ⟨rfl, rfl, rfl, trivial⟩ fun σ => ?_
  refine gseq fun N2 hN2 => ?_
  refine greg ?_
  refine gop (y_move (v := .pointer (some ⟨bg, 0, none⟩)) rfl) rfl rfl rfl ?_
  refine gop (y_nilCheck rfl) rfl rfl rfl ?_
  refine gop (y_fieldAddr_box fa122_0 rfl) rfl rfl rfl ?_
  refine gop (y_load Tryz.isAgg41 rfl (cell_base hcell)) rfl rfl rfl ?_
  refine gop (y_build (vs := [(0, .slice _ _ _)]) (cells := #[_]) rfl (bd43_0 _ _ _)) rfl rfl rfl ?_
  refine gop_alloc (cs := #[.slice none 0 0]) Tryz.zeroValue43 rfl rfl (fun b4 hb4 => ?_)
  refine gop_store 2 (v := .agg #[_]) (cs' := #[_]) rfl rfl Tryz.sizeOf43 rfl rfl rfl rfl (Nat.le_of_ble_eq_true rfl) rfl rfl ?_
  refine gops_nil ?_
  refine hN2 _ _ ?_
  refine gT [box b2 _, box b3 _, box b4 _] rfl ?_
  refine gfrom [(2, .pointer _), (3, .pointer _), (4, .pointer _)] ⟨rfl, rfl, rfl, trivial⟩ fun σ => ?_
  refine gseq fun N3 hN3 => ?_
  refine gseq fun N4 hN4 => ?_
  refine greg ?_
  refine gop (y_fieldAddr_box fa43_0 rfl) rfl rfl rfl ?_
  refine gop (y_load Tryz.isAgg41 rfl (cell_box 2 rfl rfl)) rfl rfl rfl ?_
  refine gop (y_len Tryz.underlying41 rfl) rfl rfl rfl ?_
  refine gop (y_gtr rfl rfl) rfl rfl rfl ?_
  refine gop (y_move (v := .bool _) rfl) rfl rfl rfl ?_
  refine gop_if (want := false) rfl rfl rfl rfl rfl rfl (fun hg14 => ?_) (fun hg14 => ?_)
  · 
    have hg14d := of_decide_eq_false hg14
    refine gop (y_bare (y_loads (cs := [_]) Tryz.isAgg43 Tryz.sizeOf43 rfl rfl (cells_box 2 rfl))) rfl rfl rfl ?_
    refine gop_on rfl rfl rfl rfl hg14 ?_
    refine gop_pure (e_call (vs := [.agg #[_]]) Tryz.func68 rfl (by kernel_rfl) rfl) (fun w hM => polDepth_any w B bc (post t 0) (hrd.base hM) hlc hcm (by omega) (by omega) (linked_post hto)) rfl rfl rfl ?_
    refine gop_on rfl rfl rfl rfl hg14 ?_
    refine gop (y_bare (y_gtr rfl rfl)) rfl rfl rfl ?_
    refine gop (y_pick_f (v := .bool _) rfl hg14 rfl) rfl rfl rfl ?_
    refine gops_nil ?_
    refine hN4 _ _ ?_
    refine gfrom [(2, .pointer _), (3, .pointer _), (4, .pointer _), (18, .bool _)] ⟨rfl, rfl, rfl, rfl, trivial⟩ fun σ => ?_
    refine gcond (b := _) rfl (fun hc18 => ?_) (fun hc18 => ?_)
    · 
      replace hc18 := of_decide_eq_true hc18
      have hB : 24 < t.size ∨ 12 < t.depth := by omega
      have hF : (madeR t).1 = ⟨10, -1⟩ := by rw [madeR, if_pos hB]
      refine gseq fun N5 hN5 => ?_
      refine greg ?_
      refine gop (y_build (vs := []) (cells := #[.slice none 0 0]) rfl bd43_) rfl rfl rfl ?_
      refine gop (y_build (vs := [(0, _), (1, _)]) (cells := #[_, _]) rfl (bd33_0_1 _ _)) rfl rfl rfl ?_
      refine gop_store 0 (v := .agg #[_]) (cs' := #[_]) rfl rfl Tryz.sizeOf43 rfl rfl rfl rfl (Nat.le_of_ble_eq_true rfl) rfl rfl ?_
      refine gop_store 1 (v := .agg #[_, _]) (cs' := #[_, _]) rfl rfl Tryz.sizeOf33 rfl rfl rfl rfl (Nat.le_of_ble_eq_true rfl) rfl rfl ?_
      refine gops_nil ?_
      refine hN5 _ _ ?_
      refine gT [box b2 _, box b3 _, box b4 _] rfl ?_
      refine gfrom [(2, .pointer _), (3, .pointer _)] ⟨rfl, rfl, trivial⟩ fun σ => ?_
      refine gret fun w1 hM => ?_
      refine ⟨_, res2 rfl (rc 0 (cs := [_]) hM rfl rfl Tryz.isAgg43 Tryz.sizeOf43 rfl) (rc 1 (cs := [_, _]) hM rfl rfl Tryz.isAgg33 Tryz.sizeOf33 rfl), ?_⟩
      exact ⟨by rw [hF]; first | (simp only [if_pos hB]; done) | (simp only [if_neg hB]; done), hM.low⟩
    · 
      replace hc18 := of_decide_eq_false hc18
      have hB : ¬ (24 < t.size ∨ 12 < t.depth) := by omega
      have hF : (madeR t).1 = ⟨0, 0⟩ := by rw [madeR, if_neg hB]
      refine gskip ?_
      refine hN3 _ _ ?_
      refine gfrom [(2, .pointer _), (3, .pointer _), (4, .pointer _)] ⟨rfl, rfl, rfl, trivial⟩ fun σ => ?_
      refine gseq fun N6 hN6 => ?_
      refine greg ?_
      refine gop (y_loads (cs := [_]) Tryz.isAgg43 Tryz.sizeOf43 rfl rfl (cells_box 2 rfl)) rfl rfl rfl ?_
      refine gop (y_build (vs := []) (cells := #[.int .i64 0, .int .i64 0]) rfl bd33_) rfl rfl rfl ?_
      refine gop_store 0 (v := .agg #[_]) (cs' := #[_]) rfl rfl Tryz.sizeOf43 rfl rfl rfl rfl (Nat.le_of_ble_eq_true rfl) rfl rfl ?_
      refine gop_store 1 (v := .agg #[_, _]) (cs' := #[_, _]) rfl rfl Tryz.sizeOf33 rfl rfl rfl rfl (Nat.le_of_ble_eq_true rfl) rfl rfl ?_
      refine gops_nil ?_
      refine hN6 _ _ ?_
      refine gT [box b2 _, box b3 _, box b4 _] rfl ?_
      refine gfrom [(2, .pointer _), (3, .pointer _)] ⟨rfl, rfl, trivial⟩ fun σ => ?_
      refine gret fun w1 hM => ?_
      refine ⟨_, res2 rfl (rc 0 (cs := [_]) hM rfl rfl Tryz.isAgg43 Tryz.sizeOf43 rfl) (rc 1 (cs := [_, _]) hM rfl rfl Tryz.isAgg33 Tryz.sizeOf33 rfl), ?_⟩
      exact ⟨by rw [hF]; first | (simp only [if_pos hB]; done) | (simp only [if_neg hB]; done), hM.low⟩
  · 
    have hg14d := of_decide_eq_true hg14
    refine gop_off rfl rfl rfl rfl hg14 rfl rfl ?_
    refine gop_off rfl rfl rfl rfl hg14 rfl rfl ?_
    refine gop (y_pick_t (v := .bool _) rfl hg14 rfl) rfl rfl rfl ?_
    refine gops_nil ?_
    refine hN4 _ _ ?_
    refine gfrom [(2, .pointer _), (3, .pointer _), (4, .pointer _), (18, .bool _)] ⟨rfl, rfl, rfl, rfl, trivial⟩ fun σ => ?_
    refine gcond (b := _) rfl (fun hc18 => ?_) (fun hc18 => ?_)
    · 
      have hB : 24 < t.size ∨ 12 < t.depth := by omega
      have hF : (madeR t).1 = ⟨10, -1⟩ := by rw [madeR, if_pos hB]
      refine gseq fun N7 hN7 => ?_
      refine greg ?_
      refine gop (y_build (vs := []) (cells := #[.slice none 0 0]) rfl bd43_) rfl rfl rfl ?_
      refine gop (y_build (vs := [(0, _), (1, _)]) (cells := #[_, _]) rfl (bd33_0_1 _ _)) rfl rfl rfl ?_
      refine gop_store 0 (v := .agg #[_]) (cs' := #[_]) rfl rfl Tryz.sizeOf43 rfl rfl rfl rfl (Nat.le_of_ble_eq_true rfl) rfl rfl ?_
      refine gop_store 1 (v := .agg #[_, _]) (cs' := #[_, _]) rfl rfl Tryz.sizeOf33 rfl rfl rfl rfl (Nat.le_of_ble_eq_true rfl) rfl rfl ?_
      refine gops_nil ?_
      refine hN7 _ _ ?_
      refine gT [box b2 _, box b3 _, box b4 _] rfl ?_
      refine gfrom [(2, .pointer _), (3, .pointer _)] ⟨rfl, rfl, trivial⟩ fun σ => ?_
      refine gret fun w1 hM => ?_
      refine ⟨_, res2 rfl (rc 0 (cs := [_]) hM rfl rfl Tryz.isAgg43 Tryz.sizeOf43 rfl) (rc 1 (cs := [_, _]) hM rfl rfl Tryz.isAgg33 Tryz.sizeOf33 rfl), ?_⟩
      exact ⟨by rw [hF]; first | (simp only [if_pos hB]; done) | (simp only [if_neg hB]; done), hM.low⟩
    · 
      cases hc18
end Go.Proofs.YtbkameioedmlkaaGreatDoor
namespace Go.Cf
open Go.RowKit
theorem byteAtP_lt (s : ByteArray) (j : Nat) : byteAt s j < 256 := (s.data.toList[j]?.getD 0).toNat_lt
theorem sep_idx (s : ByteArray) (j : Nat) : firstIdx ⟨#[32, 40, 41]⟩ (((byteAt s j : Nat) : Int).toNat.toUInt8) < 0 ↔ woB s j = true := by
  have h1 := firstIdx_nonneg ⟨#[32, 40, 41]⟩ (((byteAt s j : Nat) : Int).toNat.toUInt8)
  obtain ⟨c, hc⟩ : ∃ c, ((byteAt s j : Nat) : Int).toNat.toUInt8 = c := ⟨_, rfl⟩
  have hb : c.toNat = byteAt s j := by
    rw [← hc, Int.toNat_natCast]
    show (UInt8.ofNat (byteAt s j)).toNat = _
    rw [UInt8.toNat_ofNat']
    have := byteAtP_lt s j
    omega
  rw [hc] at h1 ⊢
  have e : (([32, 40, 41] : List UInt8).any (· == c)) = !woB s j := by
    have q : ∀ d : UInt8, (d == c) = decide (d.toNat = byteAt s j) := fun d => by
      rw [← hb]
      by_cases h : d = c
      · subst h; simp
      · rw [beq_eq_false_iff_ne.2 h]
        exact (decide_eq_false (fun h2 => h (UInt8.toNat_inj.1 h2))).symm
    simp only [List.any_cons, List.any_nil, q, woB]
    have e1 : (32 : UInt8).toNat = 32 := rfl
    have e2 : (40 : UInt8).toNat = 40 := rfl
    have e3 : (41 : UInt8).toNat = 41 := rfl
    rw [e1, e2, e3]
    by_cases a1 : byteAt s j = 32 <;> by_cases a2 : byteAt s j = 40 <;> by_cases a3 : byteAt s j = 41 <;> simp_all <;> omega
  have h2 : decide (0 ≤ firstIdx ⟨#[32, 40, 41]⟩ c) = !woB s j := h1.trans e
  constructor
  · intro h
    have : decide (0 ≤ firstIdx ⟨#[32, 40, 41]⟩ c) = false := decide_eq_false (by omega)
    rw [this] at h2
    simpa using h2.symm
  · intro h
    rw [h] at h2
    have := of_decide_eq_false h2
    omega
structure RS (s : ByteArray) (at_ : Nat) (ts : List Tk) : Prop where
  ts : ts = tks s at_
  sk : skipW s at_ = at_
  le : at_ ≤ s.size
section
variable {s : ByteArray} {a : Nat} {ts : List Tk}
theorem RS.hd (h : RS s a ts) : s.extract a (nextW s a) = hd ts := by
  rw [h.ts]
  by_cases h1 : a < s.size
  · rw [tks_cons (by rw [h.sk]; exact h1), h.sk]; rfl
  · have : a = s.size := by have := h.le; omega
    rw [tks_nil (by rw [h.sk]; exact h1), this, next_end]
    show s.extract s.size s.size = ⟨#[]⟩
    apply ByteArray.ext
    simp
theorem RS.pos (h : RS s a ts) : pos s.size ts = a := by
  rw [h.ts]
  by_cases h1 : a < s.size
  · rw [tks_cons (by rw [h.sk]; exact h1), h.sk]; rfl
  · have : a = s.size := by have := h.le; omega
    rw [tks_nil (by rw [h.sk]; exact h1), this]; rfl
theorem RS.next (h : RS s a ts) : RS s (skipW s (nextW s a)) ts.tail := by
  refine ⟨?_, skip_skip _ _, skip_le (next_le h.le)⟩
  rw [h.ts, tks_skip]
  by_cases h1 : a < s.size
  · rw [tks_cons (by rw [h.sk]; exact h1), h.sk]; rfl
  · have : a = s.size := by have := h.le; omega
    rw [tks_nil (by rw [h.sk]; exact h1), this, next_end]
    rw [tks_nil (by have := skip_ge s s.size; omega)]; rfl
theorem RS.nil (h : RS s a ts) : ts = [] ↔ ¬ a < s.size := by
  rw [h.ts]
  by_cases h1 : a < s.size
  · rw [tks_cons (by rw [h.sk]; exact h1)]; simp [h1]
  · rw [tks_nil (by rw [h.sk]; exact h1)]; simp [h1]
theorem RS.len (h : RS s a ts) : ts.length ≤ s.size := by rw [h.ts]; exact Nat.le_trans (tks_len s _ a rfl) (by omega)
end
theorem RS.start (s : ByteArray) : RS s (skipW s 0) (tks s 0) := ⟨(tks_skip s 0).symm, skip_skip _ _, skip_le (Nat.zero_le _)⟩
theorem strEqP_dec (a b : ByteArray) : (a.toList == b.toList) = decide (a = b) := by
  by_cases h : a = b
  · subst h; simp
  · rw [decide_eq_false h, beq_eq_false_iff_ne]
    intro h2
    apply h
    rw [ByteArray.toList_eq, ByteArray.toList_eq] at h2
    apply ByteArray.ext
    exact Array.toList_inj.1 h2
def POK (s : ByteArray) (R : Res) (o : List PN) (code : Int) (x : Int) (b : Bool) (o' : List PN) (a' : Nat) (code' : Int) : Prop := match R with
  | .bad c p => b = false ∧ a' = p ∧ code' = c ∧ o'.length ≤ 1000
  | .ok t ts => b = true ∧ x = ((o.length + t.size : Nat) : Int) - 1 ∧ o' = o ++ post t o.length ∧ RS s a' ts ∧ code' = code
theorem pok_yes {s : ByteArray} {R : Res} {o o' : List PN} {code code' x : Int} {a' : Nat} {b : Bool} (h : POK s R o code x b o' a' code') (hb : b = true) : ∃ t ts, R = .ok t ts ∧ x = ((o.length + t.size : Nat) : Int) - 1 ∧ o' = o ++ post t o.length ∧ RS s a' ts ∧ code' = code := by
  cases R with
  | bad c p => rw [POK, hb] at h; exact absurd h.1 (by decide)
  | ok t ts => exact ⟨t, ts, rfl, h.2⟩
theorem pok_no {s : ByteArray} {R : Res} {o o' : List PN} {code code' x : Int} {a' : Nat} {b : Bool} (h : POK s R o code x b o' a' code') (hb : b = false) : R = .bad code' a' ∧ o'.length ≤ 1000 := by
  cases R with
  | bad c p => obtain ⟨_, h1, h2, h3⟩ := h; rw [h1, h2]; exact ⟨rfl, h3⟩
  | ok t ts => rw [POK, hb] at h; exact absurd h.1 (by decide)
theorem pok_bad {s : ByteArray} {o o' : List PN} {code x : Int} {R : Res} {c : Int} {a' : Nat} (h : R = .bad c a') (h2 : o'.length ≤ 1000) : POK s R o code x false o' a' c := by
  rw [h]; exact ⟨rfl, rfl, rfl, h2⟩
theorem pok_ok {s : ByteArray} {o o' : List PN} {code x : Int} {R : Res} {t : Tr} {ts : List Tk} {a' : Nat} (h : R = .ok t ts) (h1 : x = ((o.length + t.size : Nat) : Int) - 1) (h2 : o' = o ++ post t o.length) (h3 : RS s a' ts) : POK s R o code x true o' a' code := by
  rw [h]; exact ⟨rfl, h1, h2, h3, rfl⟩
end Go.Cf
namespace Go.Cf
theorem pok_bad2 {s : ByteArray} {o o' : List PN} {code x : Int} {R : Res} {c : Int} {a' : Nat} {b : Bool} (hb : b = false) (h : R = .bad c a') (h2 : o'.length ≤ 1000) : POK s R o code x b o' a' c := by
  subst hb; exact pok_bad h h2
theorem pok_ok2 {s : ByteArray} {o o' : List PN} {code x : Int} {R : Res} {t : Tr} {ts : List Tk} {a' : Nat} {b : Bool} (hb : b = true) (h : R = .ok t ts) (h1 : x = ((o.length + t.size : Nat) : Int) - 1) (h2 : o' = o ++ post t o.length) (h3 : RS s a' ts) : POK s R o code x b o' a' code := by
  subst hb; exact pok_ok h h1 h2 h3
end Go.Cf
namespace Go.Cf
def LI (s : ByteArray) (lv n : Nat) (R : Res) (o : List PN) (code : Int) (m : Nat) (x : Int) (b : Bool) (o1 : List PN) (a1 : Nat) (code1 : Int) : Prop :=
  m ≤ n ∧ ((b = false ∧ R = .bad code1 a1 ∧ o1.length ≤ 1000) ∨ (b = true ∧ ∃ t us, x = ((o.length + t.size : Nat) : Int) - 1 ∧ o1 = o ++ post t o.length ∧ RS s a1 us ∧ code = code1 ∧ R = rd s.size m lv (some t) us ∧ 3 * us.length + 1 ≤ m ∧ o.length + t.size + us.length ≤ 800))
theorem li_start {s : ByteArray} {lv n : Nat} {R : Res} {o o1 : List PN} {code code1 x : Int} {b : Bool} {a1 : Nat} {ts : List Tk} (hR : R = bindR (rd s.size n (lv + 1) none ts) fun t us => rd s.size n lv (some t) us) (hlv : lv < 2) (hfu : 3 * ts.length + 3 ≤ n + 1 + lv) (hol : o.length + ts.length ≤ 800)
    (hp : POK s (rd s.size n (lv + 1) none ts) o code x b o1 a1 code1) : LI s lv n R o code n x b o1 a1 code1 := by
  refine ⟨Nat.le_refl _, ?_⟩
  cases hb : b with
  | false =>
    obtain ⟨h1, h2⟩ := pok_no hp hb
    exact .inl ⟨rfl, by rw [hR, h1]; rfl, h2⟩
  | true =>
    obtain ⟨t, us, h1, h2, h3, h4, h5⟩ := pok_yes hp hb
    obtain ⟨_, h6⟩ := rd_ok s.size n _ none _ _ _ (fun _ h => by cases h) h1
    have := t.pos
    simp only [Option.map, Option.getD] at h6
    exact .inr ⟨rfl, t, us, h2, h3, h4, h5.symm, by rw [hR, h1]; rfl, by omega, by omega⟩
theorem li_bad {s : ByteArray} {lv n m : Nat} {R : Res} {o o1 : List PN} {code code1 x : Int} {b : Bool} {a1 : Nat} (h : LI s lv n R o code m x b o1 a1 code1) (hb : b = false) : R = .bad code1 a1 ∧ o1.length ≤ 1000 := by
  rcases h.2 with h | h
  · exact h.2
  · rw [h.1] at hb; cases hb
theorem li_ok {s : ByteArray} {lv n m : Nat} {R : Res} {o o1 : List PN} {code code1 x : Int} {b : Bool} {a1 : Nat} (h : LI s lv n R o code m x b o1 a1 code1) (hb : b = true) : ∃ t us, x = ((o.length + t.size : Nat) : Int) - 1 ∧ o1 = o ++ post t o.length ∧ RS s a1 us ∧ code = code1 ∧ R = rd s.size m lv (some t) us ∧ 3 * us.length + 1 ≤ m ∧ o.length + t.size + us.length ≤ 800 := by
  rcases h.2 with h | h
  · rw [h.1] at hb; cases hb
  · exact h.2
end Go.Cf
namespace Go.Proofs.YtbkameioedmlkaaGreatDoor
open Go.RowKit Go.Cf
set_option maxRecDepth 10000
theorem fa124_3 (a : Addr) (w : World) : (Instr.fieldAt 124 (.pointer (some a)) 3).run Tryz.prog w = .ok (.pointer (some (a.add 3))) w := by kernel_rfl
theorem fa124_2 (a : Addr) (w : World) : (Instr.fieldAt 124 (.pointer (some a)) 2).run Tryz.prog w = .ok (.pointer (some (a.add 2))) w := by kernel_rfl
theorem fa124_1 (a : Addr) (w : World) : (Instr.fieldAt 124 (.pointer (some a)) 1).run Tryz.prog w = .ok (.pointer (some (a.add 1))) w := by kernel_rfl
set_option maxHeartbeats 8000000 in
theorem rdScan_any (w0 w : World) (rg n bc : Nat) (B : Option Addr) (s : ByteArray) (code : Int) (fr : Reg) (hs : s.size ≤ 200) (a x : Int) (nx : Nat) (hx : x = (nx : Int)) (hnx : nx ≤ s.size) (hM0 : Mem w0 [box rg (.cells #[.slice B n bc, .string s, .int .i64 (a), .int .i64 (x), .int .i64 code] 124), fr] w) :
    Calls Tryz.prog 54 #[.pointer (some ⟨rg, 0, none⟩)] w fun e w' => e = .returned (.tuple #[]) ∧ Mem w0 [box rg (.cells #[.slice B n bc, .string s, .int .i64 ((skipW s nx : Nat)), .int .i64 ((nextW s (skipW s nx) : Nat)), .int .i64 code] 124), fr] w' := by
  subst hx
  refine gcallsT Tryz.func54 rfl Tryz.ntmps54 (Nat.le_of_ble_eq_true rfl) hM0 ?_
  refine gfrom [(0, .pointer (some ⟨rg, 0, none⟩))] ⟨rfl, trivial⟩ fun σ => ?_
  refine gseq fun N1 hN1 => ?_
  refine greg ?_
  refine gop (y_move (v := .pointer (some ⟨rg, 0, none⟩)) rfl) rfl rfl rfl ?_
  refine gop (y_move (v := .pointer (some ⟨rg, 0, none⟩)) rfl) rfl rfl rfl ?_
  refine gop (y_nilCheck rfl) rfl rfl rfl ?_
  refine gop (y_fieldAddr_box fa124_3 rfl) rfl rfl rfl ?_
  refine gop (y_load Tryz.isAgg3 rfl (cell_box 0 rfl rfl)) rfl rfl rfl ?_
  refine gop (y_nilCheck rfl) rfl rfl rfl ?_
  refine gop (y_fieldAddr_box fa124_2 rfl) rfl rfl rfl ?_
  refine gop_store 0 (v := .int _ _) (cs' := #[_, _, _, _, _]) rfl rfl Tryz.sizeOf3 rfl rfl rfl rfl (Nat.le_of_ble_eq_true rfl) rfl rfl ?_
  refine gops_nil ?_
  refine hN1 _ _ ?_
  refine gT [box rg _, fr] rfl ?_
  refine gfrom [(0, .pointer (some ⟨rg, 0, none⟩))] ⟨rfl, trivial⟩ fun σ => ?_
  refine gseq fun N2 hN2 => ?_
  refine gblock ?_
  refine gfrom2 [] [(0, .pointer (some ⟨rg, 0, none⟩))] trivial ⟨rfl, trivial⟩ fun σ => ?_
  refine gloop2 (G := Nat) (fun j => j ≤ s.size ∧ skipW s j = skipW s nx) (fun j => s.size - j) (fun j => []) (fun j => [(0, box rg (.cells #[.slice B n bc, .string s, .int .i64 ((j : Nat)), .int .i64 ((nx : Nat)), .int .i64 code] 124))]) (nx) ?h0 trivial ⟨rfl, trivial⟩ rfl ?round
  case h0 => exact ⟨hnx, rfl⟩
  case round =>
    intro j hφ σ
    obtain ⟨hj, hjs⟩ := hφ
    refine gT [box rg _, fr] rfl ?_
    refine gseq fun N3 hN3 => ?_
    refine gseq fun N4 hN4 => ?_
    refine greg_q (by kernel_rfl) (by kernel_rfl) ?_
    refine gq (y_move (v := .pointer (some ⟨rg, 0, none⟩)) rfl) rfl rfl rfl ?_
    refine gq (y_nilCheck rfl) rfl rfl rfl ?_
    refine gq (y_fieldAddr_box fa124_2 rfl) rfl rfl rfl ?_
    refine gq (y_load Tryz.isAgg3 rfl (cell_box 0 rfl rfl)) rfl rfl rfl ?_
    refine gq (y_move (v := .pointer (some ⟨rg, 0, none⟩)) rfl) rfl rfl rfl ?_
    refine gq (y_nilCheck rfl) rfl rfl rfl ?_
    refine gq (y_fieldAddr_box fa124_1 rfl) rfl rfl rfl ?_
    refine gq (y_load Tryz.isAgg9 rfl (cell_box 0 rfl rfl)) rfl rfl rfl ?_
    refine gq (y_lens Tryz.underlying9 rfl) rfl rfl rfl ?_
    refine gq (y_lss rfl rfl) rfl rfl rfl ?_
    refine gq (y_move (v := .bool _) rfl) rfl rfl rfl ?_
    refine gq_if (want := true) rfl rfl rfl rfl rfl rfl (fun hg19 => ?_) (fun hg19 => ?_)
    · 
      have hg19d := of_decide_eq_true hg19
      refine gq (y_bare (y_move (v := .pointer (some ⟨rg, 0, none⟩)) rfl)) rfl rfl rfl ?_
      refine gq_on rfl rfl rfl rfl hg19 ?_
      refine gq (y_bare (y_nilCheck rfl)) rfl rfl rfl ?_
      refine gq_on rfl rfl rfl rfl hg19 ?_
      refine gq (y_bare (y_fieldAddr_box fa124_1 rfl)) rfl rfl rfl ?_
      refine gq_on rfl rfl rfl rfl hg19 ?_
      refine gq (y_bare (y_load Tryz.isAgg9 rfl (cell_box 0 rfl rfl))) rfl rfl rfl ?_
      refine gq_on rfl rfl rfl rfl hg19 ?_
      refine gq (y_bare (y_move (v := .pointer (some ⟨rg, 0, none⟩)) rfl)) rfl rfl rfl ?_
      refine gq_on rfl rfl rfl rfl hg19 ?_
      refine gq (y_bare (y_nilCheck rfl)) rfl rfl rfl ?_
      refine gq_on rfl rfl rfl rfl hg19 ?_
      refine gq (y_bare (y_fieldAddr_box fa124_2 rfl)) rfl rfl rfl ?_
      refine gq_on rfl rfl rfl rfl hg19 ?_
      refine gq (y_bare (y_load Tryz.isAgg3 rfl (cell_box 0 rfl rfl))) rfl rfl rfl ?_
      refine gq_on rfl rfl rfl rfl hg19 ?_
      refine gq (y_bare (y_stridx (m := j) Tryz.underlying9 rfl rfl (by omega) (by omega) (by omega))) rfl rfl rfl ?_
      refine gq_on rfl rfl rfl rfl hg19 ?_
      refine gq (y_bare (y_eql rfl rfl)) rfl rfl rfl ?_
      refine gq (y_pick_t (v := .bool _) rfl hg19 rfl) rfl rfl rfl ?_
      refine gqs_nil ?_
      refine hN4 _ _ ?_
      refine gfrom [(0, .pointer (some ⟨rg, 0, none⟩)), (30, .bool _)] ⟨rfl, rfl, trivial⟩ fun σ => ?_
      refine gcond (b := _) rfl (fun hc30 => ?_) (fun hc30 => ?_)
      · 
        replace hc30 := of_decide_eq_true hc30
        have hj1 : j < s.size := by omega
        have hb : spB s j = true := decide_eq_true (by omega)
        refine gskip ?_
        refine hN3 _ _ ?_
        refine gfrom [(0, .pointer (some ⟨rg, 0, none⟩))] ⟨rfl, trivial⟩ fun σ => ?_
        refine gblock ?_
        refine greg ?_
        refine gop (y_move (v := .pointer (some ⟨rg, 0, none⟩)) rfl) rfl rfl rfl ?_
        refine gop (y_nilCheck rfl) rfl rfl rfl ?_
        refine gop (y_fieldAddr_box fa124_2 rfl) rfl rfl rfl ?_
        refine gop (y_load Tryz.isAgg3 rfl (cell_box 0 rfl rfl)) rfl rfl rfl ?_
        refine gop (y_add rfl rfl ⟨by omega, by omega⟩) rfl rfl rfl ?_
        refine gop (y_nilCheck rfl) rfl rfl rfl ?_
        refine gop (y_fieldAddr_box fa124_2 rfl) rfl rfl rfl ?_
        refine gop_store 0 (v := .int _ _) (cs' := #[_, _, _, _, _]) rfl rfl Tryz.sizeOf3 rfl rfl rfl rfl (Nat.le_of_ble_eq_true rfl) rfl rfl ?_
        refine gops_nil ?_
        refine gnext2 (j + 1) (by omega) (⟨by show j + 1 ≤ _; omega, by rw [← hjs]; exact (run_step hj1 hb).symm⟩) trivial ⟨rfl, trivial⟩ ⟨_, rfl⟩
      · 
        replace hc30 := of_decide_eq_false hc30
        have hat : skipW s nx = j := by rw [← hjs]; exact run_stop (fun h => decide_eq_false (by omega))
        refine gexit ?_
        refine hN2 _ _ ?_
        refine gfrom [(0, .pointer (some ⟨rg, 0, none⟩))] ⟨rfl, trivial⟩ fun σ => ?_
        refine gseq fun N5 hN5 => ?_
        refine greg ?_
        refine gop (y_move (v := .pointer (some ⟨rg, 0, none⟩)) rfl) rfl rfl rfl ?_
        refine gop (y_move (v := .pointer (some ⟨rg, 0, none⟩)) rfl) rfl rfl rfl ?_
        refine gop (y_nilCheck rfl) rfl rfl rfl ?_
        refine gop (y_fieldAddr_box fa124_2 rfl) rfl rfl rfl ?_
        refine gop (y_load Tryz.isAgg3 rfl (cell_box 0 rfl rfl)) rfl rfl rfl ?_
        refine gop (y_nilCheck rfl) rfl rfl rfl ?_
        refine gop (y_fieldAddr_box fa124_3 rfl) rfl rfl rfl ?_
        refine gop_store 0 (v := .int _ _) (cs' := #[_, _, _, _, _]) rfl rfl Tryz.sizeOf3 rfl rfl rfl rfl (Nat.le_of_ble_eq_true rfl) rfl rfl ?_
        refine gops_nil ?_
        refine hN5 _ _ ?_
        refine gT [box rg _, fr] rfl ?_
        refine gfrom [(0, .pointer (some ⟨rg, 0, none⟩))] ⟨rfl, trivial⟩ fun σ => ?_
        refine gseq fun N6 hN6 => ?_
        refine gblock ?_
        refine gfrom2 [] [(0, .pointer (some ⟨rg, 0, none⟩))] trivial ⟨rfl, trivial⟩ fun σ => ?_
        refine gloop2 (G := Nat) (fun k => k ≤ s.size ∧ endW s k = endW s j) (fun k => s.size - k) (fun k => []) (fun k => [(0, box rg (.cells #[.slice B n bc, .string s, .int .i64 ((j : Nat)), .int .i64 ((k : Nat)), .int .i64 code] 124))]) (j) ?h0 trivial ⟨rfl, trivial⟩ rfl ?round
        case h0 => exact ⟨hj, rfl⟩
        case round =>
          intro k hφ σ
          obtain ⟨hk, hks⟩ := hφ
          refine gT [box rg _, fr] rfl ?_
          refine gseq fun N7 hN7 => ?_
          refine gseq fun N8 hN8 => ?_
          refine greg_q (by kernel_rfl) (by kernel_rfl) ?_
          refine gq (y_move (v := .pointer (some ⟨rg, 0, none⟩)) rfl) rfl rfl rfl ?_
          refine gq (y_nilCheck rfl) rfl rfl rfl ?_
          refine gq (y_fieldAddr_box fa124_3 rfl) rfl rfl rfl ?_
          refine gq (y_load Tryz.isAgg3 rfl (cell_box 0 rfl rfl)) rfl rfl rfl ?_
          refine gq (y_move (v := .pointer (some ⟨rg, 0, none⟩)) rfl) rfl rfl rfl ?_
          refine gq (y_nilCheck rfl) rfl rfl rfl ?_
          refine gq (y_fieldAddr_box fa124_1 rfl) rfl rfl rfl ?_
          refine gq (y_load Tryz.isAgg9 rfl (cell_box 0 rfl rfl)) rfl rfl rfl ?_
          refine gq (y_lens Tryz.underlying9 rfl) rfl rfl rfl ?_
          refine gq (y_lss rfl rfl) rfl rfl rfl ?_
          refine gq (y_move (v := .bool _) rfl) rfl rfl rfl ?_
          refine gq_if (want := true) rfl rfl rfl rfl rfl rfl (fun hg55 => ?_) (fun hg55 => ?_)
          · 
            have hg55d := of_decide_eq_true hg55
            refine gq (y_bare (y_move (v := .pointer (some ⟨rg, 0, none⟩)) rfl)) rfl rfl rfl ?_
            refine gq_on rfl rfl rfl rfl hg55 ?_
            refine gq (y_bare (y_nilCheck rfl)) rfl rfl rfl ?_
            refine gq_on rfl rfl rfl rfl hg55 ?_
            refine gq (y_bare (y_fieldAddr_box fa124_1 rfl)) rfl rfl rfl ?_
            refine gq_on rfl rfl rfl rfl hg55 ?_
            refine gq (y_bare (y_load Tryz.isAgg9 rfl (cell_box 0 rfl rfl))) rfl rfl rfl ?_
            refine gq_on rfl rfl rfl rfl hg55 ?_
            refine gq (y_bare (y_move (v := .pointer (some ⟨rg, 0, none⟩)) rfl)) rfl rfl rfl ?_
            refine gq_on rfl rfl rfl rfl hg55 ?_
            refine gq (y_bare (y_nilCheck rfl)) rfl rfl rfl ?_
            refine gq_on rfl rfl rfl rfl hg55 ?_
            refine gq (y_bare (y_fieldAddr_box fa124_3 rfl)) rfl rfl rfl ?_
            refine gq_on rfl rfl rfl rfl hg55 ?_
            refine gq (y_bare (y_load Tryz.isAgg3 rfl (cell_box 0 rfl rfl))) rfl rfl rfl ?_
            refine gq_on rfl rfl rfl rfl hg55 ?_
            refine gq (y_bare (y_stridx (m := k) Tryz.underlying9 rfl rfl (by omega) (by omega) (by omega))) rfl rfl rfl ?_
            refine gq_on rfl rfl rfl rfl hg55 ?_
            refine gq_pure (e_call (vs := [_, .int _ _]) Tryz.func92 rfl (by kernel_rfl) rfl) (fun w hM => indexByte_any w _ _) rfl rfl rfl ?_
            refine gq_on rfl rfl rfl rfl hg55 ?_
            refine gq (y_bare (y_lss rfl rfl)) rfl rfl rfl ?_
            refine gq (y_pick_t (v := .bool _) rfl hg55 rfl) rfl rfl rfl ?_
            refine gqs_nil ?_
            refine hN8 _ _ ?_
            refine gfrom [(0, .pointer (some ⟨rg, 0, none⟩)), (67, .bool _)] ⟨rfl, rfl, trivial⟩ fun σ => ?_
            refine gcond (b := _) rfl (fun hc67 => ?_) (fun hc67 => ?_)
            · 
              replace hc67 := of_decide_eq_true hc67
              have hk1 : k < s.size := by omega
              have hw : woB s k = true := (sep_idx s k).1 (by omega)
              refine gskip ?_
              refine hN7 _ _ ?_
              refine gfrom [(0, .pointer (some ⟨rg, 0, none⟩))] ⟨rfl, trivial⟩ fun σ => ?_
              refine gblock ?_
              refine greg ?_
              refine gop (y_move (v := .pointer (some ⟨rg, 0, none⟩)) rfl) rfl rfl rfl ?_
              refine gop (y_nilCheck rfl) rfl rfl rfl ?_
              refine gop (y_fieldAddr_box fa124_3 rfl) rfl rfl rfl ?_
              refine gop (y_load Tryz.isAgg3 rfl (cell_box 0 rfl rfl)) rfl rfl rfl ?_
              refine gop (y_add rfl rfl ⟨by omega, by omega⟩) rfl rfl rfl ?_
              refine gop (y_nilCheck rfl) rfl rfl rfl ?_
              refine gop (y_fieldAddr_box fa124_3 rfl) rfl rfl rfl ?_
              refine gop_store 0 (v := .int _ _) (cs' := #[_, _, _, _, _]) rfl rfl Tryz.sizeOf3 rfl rfl rfl rfl (Nat.le_of_ble_eq_true rfl) rfl rfl ?_
              refine gops_nil ?_
              refine gnext2 (k + 1) (by omega) (⟨by show k + 1 ≤ _; omega, by rw [← hks]; exact (run_step hk1 hw).symm⟩) trivial ⟨rfl, trivial⟩ ⟨_, rfl⟩
            · 
              replace hc67 := of_decide_eq_false hc67
              have hend : endW s j = k := by
                rw [← hks]
                refine run_stop (fun h => ?_)
                by_cases hw : woB s k = true
                · exact absurd ((sep_idx s k).2 hw) (by omega)
                · simpa using hw
              refine gexit ?_
              refine hN6 _ _ ?_
              refine gfrom [(0, .pointer (some ⟨rg, 0, none⟩))] ⟨rfl, trivial⟩ fun σ => ?_
              refine gseq fun N9 hN9 => ?_
              refine greg_q (by kernel_rfl) (by kernel_rfl) ?_
              refine gq (y_move (v := .pointer (some ⟨rg, 0, none⟩)) rfl) rfl rfl rfl ?_
              refine gq (y_nilCheck rfl) rfl rfl rfl ?_
              refine gq (y_fieldAddr_box fa124_3 rfl) rfl rfl rfl ?_
              refine gq (y_load Tryz.isAgg3 rfl (cell_box 0 rfl rfl)) rfl rfl rfl ?_
              refine gq (y_move (v := .pointer (some ⟨rg, 0, none⟩)) rfl) rfl rfl rfl ?_
              refine gq (y_nilCheck rfl) rfl rfl rfl ?_
              refine gq (y_fieldAddr_box fa124_2 rfl) rfl rfl rfl ?_
              refine gq (y_load Tryz.isAgg3 rfl (cell_box 0 rfl rfl)) rfl rfl rfl ?_
              refine gq (y_eql rfl rfl) rfl rfl rfl ?_
              refine gq (y_move (v := .bool _) rfl) rfl rfl rfl ?_
              refine gq_if (want := true) rfl rfl rfl rfl rfl rfl (fun hg84 => ?_) (fun hg84 => ?_)
              · 
                have hg84d := of_decide_eq_true hg84
                refine gq (y_bare (y_move (v := .pointer (some ⟨rg, 0, none⟩)) rfl)) rfl rfl rfl ?_
                refine gq_on rfl rfl rfl rfl hg84 ?_
                refine gq (y_bare (y_nilCheck rfl)) rfl rfl rfl ?_
                refine gq_on rfl rfl rfl rfl hg84 ?_
                refine gq (y_bare (y_fieldAddr_box fa124_2 rfl)) rfl rfl rfl ?_
                refine gq_on rfl rfl rfl rfl hg84 ?_
                refine gq (y_bare (y_load Tryz.isAgg3 rfl (cell_box 0 rfl rfl))) rfl rfl rfl ?_
                refine gq_on rfl rfl rfl rfl hg84 ?_
                refine gq (y_bare (y_move (v := .pointer (some ⟨rg, 0, none⟩)) rfl)) rfl rfl rfl ?_
                refine gq_on rfl rfl rfl rfl hg84 ?_
                refine gq (y_bare (y_nilCheck rfl)) rfl rfl rfl ?_
                refine gq_on rfl rfl rfl rfl hg84 ?_
                refine gq (y_bare (y_fieldAddr_box fa124_1 rfl)) rfl rfl rfl ?_
                refine gq_on rfl rfl rfl rfl hg84 ?_
                refine gq (y_bare (y_load Tryz.isAgg9 rfl (cell_box 0 rfl rfl))) rfl rfl rfl ?_
                refine gq_on rfl rfl rfl rfl hg84 ?_
                refine gq (y_bare (y_lens Tryz.underlying9 rfl)) rfl rfl rfl ?_
                refine gq_on rfl rfl rfl rfl hg84 ?_
                refine gq (y_bare (y_lss rfl rfl)) rfl rfl rfl ?_
                refine gq (y_pick_t (v := .bool _) rfl hg84 rfl) rfl rfl rfl ?_
                refine gqs_nil ?_
                refine hN9 _ _ ?_
                refine gfrom [(0, .pointer (some ⟨rg, 0, none⟩)), (95, .bool _)] ⟨rfl, rfl, trivial⟩ fun σ => ?_
                refine gcond (b := _) rfl (fun hc95 => ?_) (fun hc95 => ?_)
                · 
                  replace hc95 := of_decide_eq_true hc95
                  have hN : nextW s j = k + 1 := by rw [nextW, hend, if_pos (by omega)]; omega
                  refine greg ?_
                  refine gop (y_move (v := .pointer (some ⟨rg, 0, none⟩)) rfl) rfl rfl rfl ?_
                  refine gop (y_nilCheck rfl) rfl rfl rfl ?_
                  refine gop (y_fieldAddr_box fa124_3 rfl) rfl rfl rfl ?_
                  refine gop (y_load Tryz.isAgg3 rfl (cell_box 0 rfl rfl)) rfl rfl rfl ?_
                  refine gop (y_add rfl rfl ⟨by omega, by omega⟩) rfl rfl rfl ?_
                  refine gop (y_nilCheck rfl) rfl rfl rfl ?_
                  refine gop (y_fieldAddr_box fa124_3 rfl) rfl rfl rfl ?_
                  refine gop_store 0 (v := .int _ _) (cs' := #[_, _, _, _, _]) rfl rfl Tryz.sizeOf3 rfl rfl rfl rfl (Nat.le_of_ble_eq_true rfl) rfl rfl ?_
                  refine gops_nil ?_
                  intro w1 hM
                  refine ⟨_, res0 rfl, ?_⟩
                  rw [hat, hN]
                  exact ⟨rfl, weak_take (T' := [_, fr]) rfl _ hM⟩
                · 
                  replace hc95 := of_decide_eq_false hc95
                  have hN : nextW s j = k := by rw [nextW, hend, if_neg (by omega)]
                  refine gskip ?_
                  intro w1 hM
                  refine ⟨_, res0 rfl, ?_⟩
                  rw [hat, hN]
                  exact ⟨rfl, weak_take (T' := [_, fr]) rfl _ hM⟩
              · 
                have hg84d := of_decide_eq_false hg84
                refine gq_off rfl rfl rfl rfl hg84 rfl rfl ?_
                refine gq_off rfl rfl rfl rfl hg84 rfl rfl ?_
                refine gq_off rfl rfl rfl rfl hg84 rfl rfl ?_
                refine gq_off rfl rfl rfl rfl hg84 rfl rfl ?_
                refine gq_off rfl rfl rfl rfl hg84 rfl rfl ?_
                refine gq_off rfl rfl rfl rfl hg84 rfl rfl ?_
                refine gq_off rfl rfl rfl rfl hg84 rfl rfl ?_
                refine gq_off rfl rfl rfl rfl hg84 rfl rfl ?_
                refine gq_off rfl rfl rfl rfl hg84 rfl rfl ?_
                refine gq (y_pick_f (v := .bool _) rfl hg84 rfl) rfl rfl rfl ?_
                refine gqs_nil ?_
                refine hN9 _ _ ?_
                refine gfrom [(0, .pointer (some ⟨rg, 0, none⟩)), (95, .bool _)] ⟨rfl, rfl, trivial⟩ fun σ => ?_
                refine gcond (b := _) rfl (fun hc95 => ?_) (fun hc95 => ?_)
                · 
                  cases hc95
                · 
                  have hN : nextW s j = k := by rw [nextW, hend, if_neg (by omega)]
                  refine gskip ?_
                  intro w1 hM
                  refine ⟨_, res0 rfl, ?_⟩
                  rw [hat, hN]
                  exact ⟨rfl, weak_take (T' := [_, fr]) rfl _ hM⟩
          · 
            have hg55d := of_decide_eq_false hg55
            refine gq_off rfl rfl rfl rfl hg55 rfl rfl ?_
            refine gq_off rfl rfl rfl rfl hg55 rfl rfl ?_
            refine gq_off rfl rfl rfl rfl hg55 rfl rfl ?_
            refine gq_off rfl rfl rfl rfl hg55 rfl rfl ?_
            refine gq_off rfl rfl rfl rfl hg55 rfl rfl ?_
            refine gq_off rfl rfl rfl rfl hg55 rfl rfl ?_
            refine gq_off rfl rfl rfl rfl hg55 rfl rfl ?_
            refine gq_off rfl rfl rfl rfl hg55 rfl rfl ?_
            refine gq_off rfl rfl rfl rfl hg55 rfl rfl ?_
            refine gq_off rfl rfl rfl rfl hg55 rfl rfl ?_
            refine gq (y_pick_f (v := .bool _) rfl hg55 rfl) rfl rfl rfl ?_
            refine gqs_nil ?_
            refine hN8 _ _ ?_
            refine gfrom [(0, .pointer (some ⟨rg, 0, none⟩)), (67, .bool _)] ⟨rfl, rfl, trivial⟩ fun σ => ?_
            refine gcond (b := _) rfl (fun hc67 => ?_) (fun hc67 => ?_)
            · 
              cases hc67
            · 
              have hend : endW s j = k := by
                rw [← hks]
                refine run_stop (fun h => ?_)
                by_cases hw : woB s k = true
                · exact absurd ((sep_idx s k).2 hw) (by omega)
                · simpa using hw
              refine gexit ?_
              refine hN6 _ _ ?_
              refine gfrom [(0, .pointer (some ⟨rg, 0, none⟩))] ⟨rfl, trivial⟩ fun σ => ?_
              refine gseq fun N10 hN10 => ?_
              refine greg_q (by kernel_rfl) (by kernel_rfl) ?_
              refine gq (y_move (v := .pointer (some ⟨rg, 0, none⟩)) rfl) rfl rfl rfl ?_
              refine gq (y_nilCheck rfl) rfl rfl rfl ?_
              refine gq (y_fieldAddr_box fa124_3 rfl) rfl rfl rfl ?_
              refine gq (y_load Tryz.isAgg3 rfl (cell_box 0 rfl rfl)) rfl rfl rfl ?_
              refine gq (y_move (v := .pointer (some ⟨rg, 0, none⟩)) rfl) rfl rfl rfl ?_
              refine gq (y_nilCheck rfl) rfl rfl rfl ?_
              refine gq (y_fieldAddr_box fa124_2 rfl) rfl rfl rfl ?_
              refine gq (y_load Tryz.isAgg3 rfl (cell_box 0 rfl rfl)) rfl rfl rfl ?_
              refine gq (y_eql rfl rfl) rfl rfl rfl ?_
              refine gq (y_move (v := .bool _) rfl) rfl rfl rfl ?_
              refine gq_if (want := true) rfl rfl rfl rfl rfl rfl (fun hg84 => ?_) (fun hg84 => ?_)
              · 
                have hg84d := of_decide_eq_true hg84
                refine gq (y_bare (y_move (v := .pointer (some ⟨rg, 0, none⟩)) rfl)) rfl rfl rfl ?_
                refine gq_on rfl rfl rfl rfl hg84 ?_
                refine gq (y_bare (y_nilCheck rfl)) rfl rfl rfl ?_
                refine gq_on rfl rfl rfl rfl hg84 ?_
                refine gq (y_bare (y_fieldAddr_box fa124_2 rfl)) rfl rfl rfl ?_
                refine gq_on rfl rfl rfl rfl hg84 ?_
                refine gq (y_bare (y_load Tryz.isAgg3 rfl (cell_box 0 rfl rfl))) rfl rfl rfl ?_
                refine gq_on rfl rfl rfl rfl hg84 ?_
                refine gq (y_bare (y_move (v := .pointer (some ⟨rg, 0, none⟩)) rfl)) rfl rfl rfl ?_
                refine gq_on rfl rfl rfl rfl hg84 ?_
                refine gq (y_bare (y_nilCheck rfl)) rfl rfl rfl ?_
                refine gq_on rfl rfl rfl rfl hg84 ?_
                refine gq (y_bare (y_fieldAddr_box fa124_1 rfl)) rfl rfl rfl ?_
                refine gq_on rfl rfl rfl rfl hg84 ?_
                refine gq (y_bare (y_load Tryz.isAgg9 rfl (cell_box 0 rfl rfl))) rfl rfl rfl ?_
                refine gq_on rfl rfl rfl rfl hg84 ?_
                refine gq (y_bare (y_lens Tryz.underlying9 rfl)) rfl rfl rfl ?_
                refine gq_on rfl rfl rfl rfl hg84 ?_
                refine gq (y_bare (y_lss rfl rfl)) rfl rfl rfl ?_
                refine gq (y_pick_t (v := .bool _) rfl hg84 rfl) rfl rfl rfl ?_
                refine gqs_nil ?_
                refine hN10 _ _ ?_
                refine gfrom [(0, .pointer (some ⟨rg, 0, none⟩)), (95, .bool _)] ⟨rfl, rfl, trivial⟩ fun σ => ?_
                refine gcond (b := _) rfl (fun hc95 => ?_) (fun hc95 => ?_)
                · 
                  replace hc95 := of_decide_eq_true hc95
                  have hN : nextW s j = k + 1 := by rw [nextW, hend, if_pos (by omega)]; omega
                  refine greg ?_
                  refine gop (y_move (v := .pointer (some ⟨rg, 0, none⟩)) rfl) rfl rfl rfl ?_
                  refine gop (y_nilCheck rfl) rfl rfl rfl ?_
                  refine gop (y_fieldAddr_box fa124_3 rfl) rfl rfl rfl ?_
                  refine gop (y_load Tryz.isAgg3 rfl (cell_box 0 rfl rfl)) rfl rfl rfl ?_
                  refine gop (y_add rfl rfl ⟨by omega, by omega⟩) rfl rfl rfl ?_
                  refine gop (y_nilCheck rfl) rfl rfl rfl ?_
                  refine gop (y_fieldAddr_box fa124_3 rfl) rfl rfl rfl ?_
                  refine gop_store 0 (v := .int _ _) (cs' := #[_, _, _, _, _]) rfl rfl Tryz.sizeOf3 rfl rfl rfl rfl (Nat.le_of_ble_eq_true rfl) rfl rfl ?_
                  refine gops_nil ?_
                  intro w1 hM
                  refine ⟨_, res0 rfl, ?_⟩
                  rw [hat, hN]
                  exact ⟨rfl, weak_take (T' := [_, fr]) rfl _ hM⟩
                · 
                  replace hc95 := of_decide_eq_false hc95
                  have hN : nextW s j = k := by rw [nextW, hend, if_neg (by omega)]
                  refine gskip ?_
                  intro w1 hM
                  refine ⟨_, res0 rfl, ?_⟩
                  rw [hat, hN]
                  exact ⟨rfl, weak_take (T' := [_, fr]) rfl _ hM⟩
              · 
                have hg84d := of_decide_eq_false hg84
                refine gq_off rfl rfl rfl rfl hg84 rfl rfl ?_
                refine gq_off rfl rfl rfl rfl hg84 rfl rfl ?_
                refine gq_off rfl rfl rfl rfl hg84 rfl rfl ?_
                refine gq_off rfl rfl rfl rfl hg84 rfl rfl ?_
                refine gq_off rfl rfl rfl rfl hg84 rfl rfl ?_
                refine gq_off rfl rfl rfl rfl hg84 rfl rfl ?_
                refine gq_off rfl rfl rfl rfl hg84 rfl rfl ?_
                refine gq_off rfl rfl rfl rfl hg84 rfl rfl ?_
                refine gq_off rfl rfl rfl rfl hg84 rfl rfl ?_
                refine gq (y_pick_f (v := .bool _) rfl hg84 rfl) rfl rfl rfl ?_
                refine gqs_nil ?_
                refine hN10 _ _ ?_
                refine gfrom [(0, .pointer (some ⟨rg, 0, none⟩)), (95, .bool _)] ⟨rfl, rfl, trivial⟩ fun σ => ?_
                refine gcond (b := _) rfl (fun hc95 => ?_) (fun hc95 => ?_)
                · 
                  cases hc95
                · 
                  have hN : nextW s j = k := by rw [nextW, hend, if_neg (by omega)]
                  refine gskip ?_
                  intro w1 hM
                  refine ⟨_, res0 rfl, ?_⟩
                  rw [hat, hN]
                  exact ⟨rfl, weak_take (T' := [_, fr]) rfl _ hM⟩
    · 
      have hg19d := of_decide_eq_false hg19
      refine gq_off rfl rfl rfl rfl hg19 rfl rfl ?_
      refine gq_off rfl rfl rfl rfl hg19 rfl rfl ?_
      refine gq_off rfl rfl rfl rfl hg19 rfl rfl ?_
      refine gq_off rfl rfl rfl rfl hg19 rfl rfl ?_
      refine gq_off rfl rfl rfl rfl hg19 rfl rfl ?_
      refine gq_off rfl rfl rfl rfl hg19 rfl rfl ?_
      refine gq_off rfl rfl rfl rfl hg19 rfl rfl ?_
      refine gq_off rfl rfl rfl rfl hg19 rfl rfl ?_
      refine gq_off rfl rfl rfl rfl hg19 rfl rfl ?_
      refine gq (y_pick_f (v := .bool _) rfl hg19 rfl) rfl rfl rfl ?_
      refine gqs_nil ?_
      refine hN4 _ _ ?_
      refine gfrom [(0, .pointer (some ⟨rg, 0, none⟩)), (30, .bool _)] ⟨rfl, rfl, trivial⟩ fun σ => ?_
      refine gcond (b := _) rfl (fun hc30 => ?_) (fun hc30 => ?_)
      · 
        cases hc30
      · 
        have hat : skipW s nx = j := by rw [← hjs]; exact run_stop (fun h => decide_eq_false (by omega))
        refine gexit ?_
        refine hN2 _ _ ?_
        refine gfrom [(0, .pointer (some ⟨rg, 0, none⟩))] ⟨rfl, trivial⟩ fun σ => ?_
        refine gseq fun N11 hN11 => ?_
        refine greg ?_
        refine gop (y_move (v := .pointer (some ⟨rg, 0, none⟩)) rfl) rfl rfl rfl ?_
        refine gop (y_move (v := .pointer (some ⟨rg, 0, none⟩)) rfl) rfl rfl rfl ?_
        refine gop (y_nilCheck rfl) rfl rfl rfl ?_
        refine gop (y_fieldAddr_box fa124_2 rfl) rfl rfl rfl ?_
        refine gop (y_load Tryz.isAgg3 rfl (cell_box 0 rfl rfl)) rfl rfl rfl ?_
        refine gop (y_nilCheck rfl) rfl rfl rfl ?_
        refine gop (y_fieldAddr_box fa124_3 rfl) rfl rfl rfl ?_
        refine gop_store 0 (v := .int _ _) (cs' := #[_, _, _, _, _]) rfl rfl Tryz.sizeOf3 rfl rfl rfl rfl (Nat.le_of_ble_eq_true rfl) rfl rfl ?_
        refine gops_nil ?_
        refine hN11 _ _ ?_
        refine gT [box rg _, fr] rfl ?_
        refine gfrom [(0, .pointer (some ⟨rg, 0, none⟩))] ⟨rfl, trivial⟩ fun σ => ?_
        refine gseq fun N12 hN12 => ?_
        refine gblock ?_
        refine gfrom2 [] [(0, .pointer (some ⟨rg, 0, none⟩))] trivial ⟨rfl, trivial⟩ fun σ => ?_
        refine gloop2 (G := Nat) (fun k => k ≤ s.size ∧ endW s k = endW s j) (fun k => s.size - k) (fun k => []) (fun k => [(0, box rg (.cells #[.slice B n bc, .string s, .int .i64 ((j : Nat)), .int .i64 ((k : Nat)), .int .i64 code] 124))]) (j) ?h0 trivial ⟨rfl, trivial⟩ rfl ?round
        case h0 => exact ⟨hj, rfl⟩
        case round =>
          intro k hφ σ
          obtain ⟨hk, hks⟩ := hφ
          refine gT [box rg _, fr] rfl ?_
          refine gseq fun N13 hN13 => ?_
          refine gseq fun N14 hN14 => ?_
          refine greg_q (by kernel_rfl) (by kernel_rfl) ?_
          refine gq (y_move (v := .pointer (some ⟨rg, 0, none⟩)) rfl) rfl rfl rfl ?_
          refine gq (y_nilCheck rfl) rfl rfl rfl ?_
          refine gq (y_fieldAddr_box fa124_3 rfl) rfl rfl rfl ?_
          refine gq (y_load Tryz.isAgg3 rfl (cell_box 0 rfl rfl)) rfl rfl rfl ?_
          refine gq (y_move (v := .pointer (some ⟨rg, 0, none⟩)) rfl) rfl rfl rfl ?_
          refine gq (y_nilCheck rfl) rfl rfl rfl ?_
          refine gq (y_fieldAddr_box fa124_1 rfl) rfl rfl rfl ?_
          refine gq (y_load Tryz.isAgg9 rfl (cell_box 0 rfl rfl)) rfl rfl rfl ?_
          refine gq (y_lens Tryz.underlying9 rfl) rfl rfl rfl ?_
          refine gq (y_lss rfl rfl) rfl rfl rfl ?_
          refine gq (y_move (v := .bool _) rfl) rfl rfl rfl ?_
          refine gq_if (want := true) rfl rfl rfl rfl rfl rfl (fun hg55 => ?_) (fun hg55 => ?_)
          · 
            have hg55d := of_decide_eq_true hg55
            refine gq (y_bare (y_move (v := .pointer (some ⟨rg, 0, none⟩)) rfl)) rfl rfl rfl ?_
            refine gq_on rfl rfl rfl rfl hg55 ?_
            refine gq (y_bare (y_nilCheck rfl)) rfl rfl rfl ?_
            refine gq_on rfl rfl rfl rfl hg55 ?_
            refine gq (y_bare (y_fieldAddr_box fa124_1 rfl)) rfl rfl rfl ?_
            refine gq_on rfl rfl rfl rfl hg55 ?_
            refine gq (y_bare (y_load Tryz.isAgg9 rfl (cell_box 0 rfl rfl))) rfl rfl rfl ?_
            refine gq_on rfl rfl rfl rfl hg55 ?_
            refine gq (y_bare (y_move (v := .pointer (some ⟨rg, 0, none⟩)) rfl)) rfl rfl rfl ?_
            refine gq_on rfl rfl rfl rfl hg55 ?_
            refine gq (y_bare (y_nilCheck rfl)) rfl rfl rfl ?_
            refine gq_on rfl rfl rfl rfl hg55 ?_
            refine gq (y_bare (y_fieldAddr_box fa124_3 rfl)) rfl rfl rfl ?_
            refine gq_on rfl rfl rfl rfl hg55 ?_
            refine gq (y_bare (y_load Tryz.isAgg3 rfl (cell_box 0 rfl rfl))) rfl rfl rfl ?_
            refine gq_on rfl rfl rfl rfl hg55 ?_
            refine gq (y_bare (y_stridx (m := k) Tryz.underlying9 rfl rfl (by omega) (by omega) (by omega))) rfl rfl rfl ?_
            refine gq_on rfl rfl rfl rfl hg55 ?_
            refine gq_pure (e_call (vs := [_, .int _ _]) Tryz.func92 rfl (by kernel_rfl) rfl) (fun w hM => indexByte_any w _ _) rfl rfl rfl ?_
            refine gq_on rfl rfl rfl rfl hg55 ?_
            refine gq (y_bare (y_lss rfl rfl)) rfl rfl rfl ?_
            refine gq (y_pick_t (v := .bool _) rfl hg55 rfl) rfl rfl rfl ?_
            refine gqs_nil ?_
            refine hN14 _ _ ?_
            refine gfrom [(0, .pointer (some ⟨rg, 0, none⟩)), (67, .bool _)] ⟨rfl, rfl, trivial⟩ fun σ => ?_
            refine gcond (b := _) rfl (fun hc67 => ?_) (fun hc67 => ?_)
            · 
              replace hc67 := of_decide_eq_true hc67
              have hk1 : k < s.size := by omega
              have hw : woB s k = true := (sep_idx s k).1 (by omega)
              refine gskip ?_
              refine hN13 _ _ ?_
              refine gfrom [(0, .pointer (some ⟨rg, 0, none⟩))] ⟨rfl, trivial⟩ fun σ => ?_
              refine gblock ?_
              refine greg ?_
              refine gop (y_move (v := .pointer (some ⟨rg, 0, none⟩)) rfl) rfl rfl rfl ?_
              refine gop (y_nilCheck rfl) rfl rfl rfl ?_
              refine gop (y_fieldAddr_box fa124_3 rfl) rfl rfl rfl ?_
              refine gop (y_load Tryz.isAgg3 rfl (cell_box 0 rfl rfl)) rfl rfl rfl ?_
              refine gop (y_add rfl rfl ⟨by omega, by omega⟩) rfl rfl rfl ?_
              refine gop (y_nilCheck rfl) rfl rfl rfl ?_
              refine gop (y_fieldAddr_box fa124_3 rfl) rfl rfl rfl ?_
              refine gop_store 0 (v := .int _ _) (cs' := #[_, _, _, _, _]) rfl rfl Tryz.sizeOf3 rfl rfl rfl rfl (Nat.le_of_ble_eq_true rfl) rfl rfl ?_
              refine gops_nil ?_
              refine gnext2 (k + 1) (by omega) (⟨by show k + 1 ≤ _; omega, by rw [← hks]; exact (run_step hk1 hw).symm⟩) trivial ⟨rfl, trivial⟩ ⟨_, rfl⟩
            · 
              replace hc67 := of_decide_eq_false hc67
              have hend : endW s j = k := by
                rw [← hks]
                refine run_stop (fun h => ?_)
                by_cases hw : woB s k = true
                · exact absurd ((sep_idx s k).2 hw) (by omega)
                · simpa using hw
              refine gexit ?_
              refine hN12 _ _ ?_
              refine gfrom [(0, .pointer (some ⟨rg, 0, none⟩))] ⟨rfl, trivial⟩ fun σ => ?_
              refine gseq fun N15 hN15 => ?_
              refine greg_q (by kernel_rfl) (by kernel_rfl) ?_
              refine gq (y_move (v := .pointer (some ⟨rg, 0, none⟩)) rfl) rfl rfl rfl ?_
              refine gq (y_nilCheck rfl) rfl rfl rfl ?_
              refine gq (y_fieldAddr_box fa124_3 rfl) rfl rfl rfl ?_
              refine gq (y_load Tryz.isAgg3 rfl (cell_box 0 rfl rfl)) rfl rfl rfl ?_
              refine gq (y_move (v := .pointer (some ⟨rg, 0, none⟩)) rfl) rfl rfl rfl ?_
              refine gq (y_nilCheck rfl) rfl rfl rfl ?_
              refine gq (y_fieldAddr_box fa124_2 rfl) rfl rfl rfl ?_
              refine gq (y_load Tryz.isAgg3 rfl (cell_box 0 rfl rfl)) rfl rfl rfl ?_
              refine gq (y_eql rfl rfl) rfl rfl rfl ?_
              refine gq (y_move (v := .bool _) rfl) rfl rfl rfl ?_
              refine gq_if (want := true) rfl rfl rfl rfl rfl rfl (fun hg84 => ?_) (fun hg84 => ?_)
              · 
                have hg84d := of_decide_eq_true hg84
                refine gq (y_bare (y_move (v := .pointer (some ⟨rg, 0, none⟩)) rfl)) rfl rfl rfl ?_
                refine gq_on rfl rfl rfl rfl hg84 ?_
                refine gq (y_bare (y_nilCheck rfl)) rfl rfl rfl ?_
                refine gq_on rfl rfl rfl rfl hg84 ?_
                refine gq (y_bare (y_fieldAddr_box fa124_2 rfl)) rfl rfl rfl ?_
                refine gq_on rfl rfl rfl rfl hg84 ?_
                refine gq (y_bare (y_load Tryz.isAgg3 rfl (cell_box 0 rfl rfl))) rfl rfl rfl ?_
                refine gq_on rfl rfl rfl rfl hg84 ?_
                refine gq (y_bare (y_move (v := .pointer (some ⟨rg, 0, none⟩)) rfl)) rfl rfl rfl ?_
                refine gq_on rfl rfl rfl rfl hg84 ?_
                refine gq (y_bare (y_nilCheck rfl)) rfl rfl rfl ?_
                refine gq_on rfl rfl rfl rfl hg84 ?_
                refine gq (y_bare (y_fieldAddr_box fa124_1 rfl)) rfl rfl rfl ?_
                refine gq_on rfl rfl rfl rfl hg84 ?_
                refine gq (y_bare (y_load Tryz.isAgg9 rfl (cell_box 0 rfl rfl))) rfl rfl rfl ?_
                refine gq_on rfl rfl rfl rfl hg84 ?_
                refine gq (y_bare (y_lens Tryz.underlying9 rfl)) rfl rfl rfl ?_
                refine gq_on rfl rfl rfl rfl hg84 ?_
                refine gq (y_bare (y_lss rfl rfl)) rfl rfl rfl ?_
                refine gq (y_pick_t (v := .bool _) rfl hg84 rfl) rfl rfl rfl ?_
                refine gqs_nil ?_
                refine hN15 _ _ ?_
                refine gfrom [(0, .pointer (some ⟨rg, 0, none⟩)), (95, .bool _)] ⟨rfl, rfl, trivial⟩ fun σ => ?_
                refine gcond (b := _) rfl (fun hc95 => ?_) (fun hc95 => ?_)
                · 
                  replace hc95 := of_decide_eq_true hc95
                  have hN : nextW s j = k + 1 := by rw [nextW, hend, if_pos (by omega)]; omega
                  refine greg ?_
                  refine gop (y_move (v := .pointer (some ⟨rg, 0, none⟩)) rfl) rfl rfl rfl ?_
                  refine gop (y_nilCheck rfl) rfl rfl rfl ?_
                  refine gop (y_fieldAddr_box fa124_3 rfl) rfl rfl rfl ?_
                  refine gop (y_load Tryz.isAgg3 rfl (cell_box 0 rfl rfl)) rfl rfl rfl ?_
                  refine gop (y_add rfl rfl ⟨by omega, by omega⟩) rfl rfl rfl ?_
                  refine gop (y_nilCheck rfl) rfl rfl rfl ?_
                  refine gop (y_fieldAddr_box fa124_3 rfl) rfl rfl rfl ?_
                  refine gop_store 0 (v := .int _ _) (cs' := #[_, _, _, _, _]) rfl rfl Tryz.sizeOf3 rfl rfl rfl rfl (Nat.le_of_ble_eq_true rfl) rfl rfl ?_
                  refine gops_nil ?_
                  intro w1 hM
                  refine ⟨_, res0 rfl, ?_⟩
                  rw [hat, hN]
                  exact ⟨rfl, weak_take (T' := [_, fr]) rfl _ hM⟩
                · 
                  replace hc95 := of_decide_eq_false hc95
                  have hN : nextW s j = k := by rw [nextW, hend, if_neg (by omega)]
                  refine gskip ?_
                  intro w1 hM
                  refine ⟨_, res0 rfl, ?_⟩
                  rw [hat, hN]
                  exact ⟨rfl, weak_take (T' := [_, fr]) rfl _ hM⟩
              · 
                have hg84d := of_decide_eq_false hg84
                refine gq_off rfl rfl rfl rfl hg84 rfl rfl ?_
                refine gq_off rfl rfl rfl rfl hg84 rfl rfl ?_
                refine gq_off rfl rfl rfl rfl hg84 rfl rfl ?_
                refine gq_off rfl rfl rfl rfl hg84 rfl rfl ?_
                refine gq_off rfl rfl rfl rfl hg84 rfl rfl ?_
                refine gq_off rfl rfl rfl rfl hg84 rfl rfl ?_
                refine gq_off rfl rfl rfl rfl hg84 rfl rfl ?_
                refine gq_off rfl rfl rfl rfl hg84 rfl rfl ?_
                refine gq_off rfl rfl rfl rfl hg84 rfl rfl ?_
                refine gq (y_pick_f (v := .bool _) rfl hg84 rfl) rfl rfl rfl ?_
                refine gqs_nil ?_
                refine hN15 _ _ ?_
                refine gfrom [(0, .pointer (some ⟨rg, 0, none⟩)), (95, .bool _)] ⟨rfl, rfl, trivial⟩ fun σ => ?_
                refine gcond (b := _) rfl (fun hc95 => ?_) (fun hc95 => ?_)
                · 
                  cases hc95
                · 
                  have hN : nextW s j = k := by rw [nextW, hend, if_neg (by omega)]
                  refine gskip ?_
                  intro w1 hM
                  refine ⟨_, res0 rfl, ?_⟩
                  rw [hat, hN]
                  exact ⟨rfl, weak_take (T' := [_, fr]) rfl _ hM⟩
          · 
            have hg55d := of_decide_eq_false hg55
            refine gq_off rfl rfl rfl rfl hg55 rfl rfl ?_
            refine gq_off rfl rfl rfl rfl hg55 rfl rfl ?_
            refine gq_off rfl rfl rfl rfl hg55 rfl rfl ?_
            refine gq_off rfl rfl rfl rfl hg55 rfl rfl ?_
            refine gq_off rfl rfl rfl rfl hg55 rfl rfl ?_
            refine gq_off rfl rfl rfl rfl hg55 rfl rfl ?_
            refine gq_off rfl rfl rfl rfl hg55 rfl rfl ?_
            refine gq_off rfl rfl rfl rfl hg55 rfl rfl ?_
            refine gq_off rfl rfl rfl rfl hg55 rfl rfl ?_
            refine gq_off rfl rfl rfl rfl hg55 rfl rfl ?_
            refine gq (y_pick_f (v := .bool _) rfl hg55 rfl) rfl rfl rfl ?_
            refine gqs_nil ?_
            refine hN14 _ _ ?_
            refine gfrom [(0, .pointer (some ⟨rg, 0, none⟩)), (67, .bool _)] ⟨rfl, rfl, trivial⟩ fun σ => ?_
            refine gcond (b := _) rfl (fun hc67 => ?_) (fun hc67 => ?_)
            · 
              cases hc67
            · 
              have hend : endW s j = k := by
                rw [← hks]
                refine run_stop (fun h => ?_)
                by_cases hw : woB s k = true
                · exact absurd ((sep_idx s k).2 hw) (by omega)
                · simpa using hw
              refine gexit ?_
              refine hN12 _ _ ?_
              refine gfrom [(0, .pointer (some ⟨rg, 0, none⟩))] ⟨rfl, trivial⟩ fun σ => ?_
              refine gseq fun N16 hN16 => ?_
              refine greg_q (by kernel_rfl) (by kernel_rfl) ?_
              refine gq (y_move (v := .pointer (some ⟨rg, 0, none⟩)) rfl) rfl rfl rfl ?_
              refine gq (y_nilCheck rfl) rfl rfl rfl ?_
              refine gq (y_fieldAddr_box fa124_3 rfl) rfl rfl rfl ?_
              refine gq (y_load Tryz.isAgg3 rfl (cell_box 0 rfl rfl)) rfl rfl rfl ?_
              refine gq (y_move (v := .pointer (some ⟨rg, 0, none⟩)) rfl) rfl rfl rfl ?_
              refine gq (y_nilCheck rfl) rfl rfl rfl ?_
              refine gq (y_fieldAddr_box fa124_2 rfl) rfl rfl rfl ?_
              refine gq (y_load Tryz.isAgg3 rfl (cell_box 0 rfl rfl)) rfl rfl rfl ?_
              refine gq (y_eql rfl rfl) rfl rfl rfl ?_
              refine gq (y_move (v := .bool _) rfl) rfl rfl rfl ?_
              refine gq_if (want := true) rfl rfl rfl rfl rfl rfl (fun hg84 => ?_) (fun hg84 => ?_)
              · 
                have hg84d := of_decide_eq_true hg84
                refine gq (y_bare (y_move (v := .pointer (some ⟨rg, 0, none⟩)) rfl)) rfl rfl rfl ?_
                refine gq_on rfl rfl rfl rfl hg84 ?_
                refine gq (y_bare (y_nilCheck rfl)) rfl rfl rfl ?_
                refine gq_on rfl rfl rfl rfl hg84 ?_
                refine gq (y_bare (y_fieldAddr_box fa124_2 rfl)) rfl rfl rfl ?_
                refine gq_on rfl rfl rfl rfl hg84 ?_
                refine gq (y_bare (y_load Tryz.isAgg3 rfl (cell_box 0 rfl rfl))) rfl rfl rfl ?_
                refine gq_on rfl rfl rfl rfl hg84 ?_
                refine gq (y_bare (y_move (v := .pointer (some ⟨rg, 0, none⟩)) rfl)) rfl rfl rfl ?_
                refine gq_on rfl rfl rfl rfl hg84 ?_
                refine gq (y_bare (y_nilCheck rfl)) rfl rfl rfl ?_
                refine gq_on rfl rfl rfl rfl hg84 ?_
                refine gq (y_bare (y_fieldAddr_box fa124_1 rfl)) rfl rfl rfl ?_
                refine gq_on rfl rfl rfl rfl hg84 ?_
                refine gq (y_bare (y_load Tryz.isAgg9 rfl (cell_box 0 rfl rfl))) rfl rfl rfl ?_
                refine gq_on rfl rfl rfl rfl hg84 ?_
                refine gq (y_bare (y_lens Tryz.underlying9 rfl)) rfl rfl rfl ?_
                refine gq_on rfl rfl rfl rfl hg84 ?_
                refine gq (y_bare (y_lss rfl rfl)) rfl rfl rfl ?_
                refine gq (y_pick_t (v := .bool _) rfl hg84 rfl) rfl rfl rfl ?_
                refine gqs_nil ?_
                refine hN16 _ _ ?_
                refine gfrom [(0, .pointer (some ⟨rg, 0, none⟩)), (95, .bool _)] ⟨rfl, rfl, trivial⟩ fun σ => ?_
                refine gcond (b := _) rfl (fun hc95 => ?_) (fun hc95 => ?_)
                · 
                  replace hc95 := of_decide_eq_true hc95
                  have hN : nextW s j = k + 1 := by rw [nextW, hend, if_pos (by omega)]; omega
                  refine greg ?_
                  refine gop (y_move (v := .pointer (some ⟨rg, 0, none⟩)) rfl) rfl rfl rfl ?_
                  refine gop (y_nilCheck rfl) rfl rfl rfl ?_
                  refine gop (y_fieldAddr_box fa124_3 rfl) rfl rfl rfl ?_
                  refine gop (y_load Tryz.isAgg3 rfl (cell_box 0 rfl rfl)) rfl rfl rfl ?_
                  refine gop (y_add rfl rfl ⟨by omega, by omega⟩) rfl rfl rfl ?_
                  refine gop (y_nilCheck rfl) rfl rfl rfl ?_
                  refine gop (y_fieldAddr_box fa124_3 rfl) rfl rfl rfl ?_
                  refine gop_store 0 (v := .int _ _) (cs' := #[_, _, _, _, _]) rfl rfl Tryz.sizeOf3 rfl rfl rfl rfl (Nat.le_of_ble_eq_true rfl) rfl rfl ?_
                  refine gops_nil ?_
                  intro w1 hM
                  refine ⟨_, res0 rfl, ?_⟩
                  rw [hat, hN]
                  exact ⟨rfl, weak_take (T' := [_, fr]) rfl _ hM⟩
                · 
                  replace hc95 := of_decide_eq_false hc95
                  have hN : nextW s j = k := by rw [nextW, hend, if_neg (by omega)]
                  refine gskip ?_
                  intro w1 hM
                  refine ⟨_, res0 rfl, ?_⟩
                  rw [hat, hN]
                  exact ⟨rfl, weak_take (T' := [_, fr]) rfl _ hM⟩
              · 
                have hg84d := of_decide_eq_false hg84
                refine gq_off rfl rfl rfl rfl hg84 rfl rfl ?_
                refine gq_off rfl rfl rfl rfl hg84 rfl rfl ?_
                refine gq_off rfl rfl rfl rfl hg84 rfl rfl ?_
                refine gq_off rfl rfl rfl rfl hg84 rfl rfl ?_
                refine gq_off rfl rfl rfl rfl hg84 rfl rfl ?_
                refine gq_off rfl rfl rfl rfl hg84 rfl rfl ?_
                refine gq_off rfl rfl rfl rfl hg84 rfl rfl ?_
                refine gq_off rfl rfl rfl rfl hg84 rfl rfl ?_
                refine gq_off rfl rfl rfl rfl hg84 rfl rfl ?_
                refine gq (y_pick_f (v := .bool _) rfl hg84 rfl) rfl rfl rfl ?_
                refine gqs_nil ?_
                refine hN16 _ _ ?_
                refine gfrom [(0, .pointer (some ⟨rg, 0, none⟩)), (95, .bool _)] ⟨rfl, rfl, trivial⟩ fun σ => ?_
                refine gcond (b := _) rfl (fun hc95 => ?_) (fun hc95 => ?_)
                · 
                  cases hc95
                · 
                  have hN : nextW s j = k := by rw [nextW, hend, if_neg (by omega)]
                  refine gskip ?_
                  intro w1 hM
                  refine ⟨_, res0 rfl, ?_⟩
                  rw [hat, hN]
                  exact ⟨rfl, weak_take (T' := [_, fr]) rfl _ hM⟩
end Go.Proofs.YtbkameioedmlkaaGreatDoor
namespace Go.Proofs.YtbkameioedmlkaaGreatDoor
open Go.RowKit Go.Cf
set_option maxRecDepth 10000
theorem fa124_4 (a : Addr) (w : World) : (Instr.fieldAt 124 (.pointer (some a)) 4).run Tryz.prog w = .ok (.pointer (some (a.add 4))) w := by kernel_rfl
set_option maxHeartbeats 1000000 in
theorem rdWord_any (w : World) (rg : Nat) (s : ByteArray) (a x : Nat) (hax : a ≤ x) (hxs : x ≤ s.size) (h1 : w.cell? ⟨rg, 1, none⟩ = some (.string s)) (h2 : w.cell? ⟨rg, 2, none⟩ = some (.int .i64 (a : Int))) (h3 : w.cell? ⟨rg, 3, none⟩ = some (.int .i64 (x : Int))) : Calls Tryz.prog 118 #[.pointer (some ⟨rg, 0, none⟩)] w fun e w' => e = .returned (.string (s.extract a x)) ∧ Below w.heap.size w w' := by
  refine gcalls Tryz.func118 rfl Tryz.ntmps118 (Nat.le_of_ble_eq_true rfl) ?_
  refine gfrom [(0, .pointer (some ⟨rg, 0, none⟩))] ⟨rfl, trivial⟩ fun σ => ?_
  refine gseq fun N1 hN1 => ?_
  refine greg ?_
  refine gop (y_assign (v := .string _) rfl) rfl rfl rfl ?_
  refine gops_nil ?_
  refine hN1 _ _ ?_
  refine gfrom [(0, .pointer (some ⟨rg, 0, none⟩))] ⟨rfl, trivial⟩ fun σ => ?_
  refine gseq fun N2 hN2 => ?_
  refine greg_q (by kernel_rfl) (by kernel_rfl) ?_
  refine gq (y_move (v := .pointer (some ⟨rg, 0, none⟩)) rfl) rfl rfl rfl ?_
  refine gq (y_nilCheck rfl) rfl rfl rfl ?_
  refine gq (y_fieldAddr_box fa124_1 rfl) rfl rfl rfl ?_
  refine gq (y_load Tryz.isAgg9 rfl (cell_base h1)) rfl rfl rfl ?_
  refine gq (y_move (v := .pointer (some ⟨rg, 0, none⟩)) rfl) rfl rfl rfl ?_
  refine gq (y_nilCheck rfl) rfl rfl rfl ?_
  refine gq (y_fieldAddr_box fa124_2 rfl) rfl rfl rfl ?_
  refine gq (y_load Tryz.isAgg3 rfl (cell_base h2)) rfl rfl rfl ?_
  refine gq (y_move (v := .pointer (some ⟨rg, 0, none⟩)) rfl) rfl rfl rfl ?_
  refine gq (y_nilCheck rfl) rfl rfl rfl ?_
  refine gq (y_fieldAddr_box fa124_3 rfl) rfl rfl rfl ?_
  refine gq (y_load Tryz.isAgg3 rfl (cell_base h3)) rfl rfl rfl ?_
  refine gq (y_strslice Tryz.underlying9 rfl rfl rfl (by omega) (by omega) (by omega)) rfl rfl rfl ?_
  refine gq (y_assign (v := .string _) rfl) rfl rfl rfl ?_
  refine gqs_nil ?_
  refine hN2 _ _ ?_
  refine gfrom [(2, .string _)] ⟨rfl, trivial⟩ fun σ => ?_
  refine gret fun w1 hM => ?_
  refine ⟨_, res1 rfl (rt (v := .string _) rfl), ?_⟩
  exact ⟨by simp, hM.low⟩
set_option maxHeartbeats 4000000 in
theorem rdTake_any (w0 w : World) (rg n bc : Nat) (B : Option Addr) (s : ByteArray) (code : Int) (fr : Reg) (hs : s.size ≤ 200) (a : Nat) (ts : List Tk) (hrs : RS s a ts) (x : ByteArray) (hM0 : Mem w0 [box rg (.cells #[.slice B n bc, .string s, .int .i64 ((a : Nat)), .int .i64 ((nextW s (a) : Nat)), .int .i64 code] 124), fr] w) :
    Calls Tryz.prog 94 #[.pointer (some ⟨rg, 0, none⟩), .string x] w fun e w' => ∃ a' ts', e = .returned (.bool (decide (hd ts = x))) ∧ RS s a' ts' ∧ ts' = (if hd ts = x then ts.tail else ts) ∧ Mem w0 [box rg (.cells #[.slice B n bc, .string s, .int .i64 ((a' : Nat)), .int .i64 ((nextW s (a') : Nat)), .int .i64 code] 124), fr] w' := by
  refine gcallsT Tryz.func94 rfl Tryz.ntmps94 (Nat.le_of_ble_eq_true rfl) hM0 ?_
  refine gfrom [(0, .pointer (some ⟨rg, 0, none⟩)), (1, .string x)] ⟨rfl, rfl, trivial⟩ fun σ => ?_
  refine gseq fun N1 hN1 => ?_
  refine greg ?_
  refine gop (y_assign (v := .bool _) rfl) rfl rfl rfl ?_
  refine gops_nil ?_
  refine hN1 _ _ ?_
  refine gfrom [(0, .pointer (some ⟨rg, 0, none⟩)), (1, .string x)] ⟨rfl, rfl, trivial⟩ fun σ => ?_
  refine gseq fun N2 hN2 => ?_
  refine greg ?_
  refine gop (y_move (v := .pointer (some ⟨rg, 0, none⟩)) rfl) rfl rfl rfl ?_
  refine gop_pure (e_call (vs := [.pointer (some ⟨rg, 0, none⟩)]) Tryz.func118 rfl (by kernel_rfl) rfl) (fun w hM => rdWord_any w rg s _ _ (next_ge _ _) (next_le hrs.le) (cell_box (w0 := w0) 0 (off := 1) rfl rfl w hM) (cell_box (w0 := w0) 0 (off := 2) rfl rfl w hM) (cell_box (w0 := w0) 0 (off := 3) rfl rfl w hM)) rfl rfl rfl ?_
  refine gop (y_move (v := .string x) rfl) rfl rfl rfl ?_
  refine gop (y_eqls rfl rfl) rfl rfl rfl ?_
  refine gop (y_assign (v := .bool _) rfl) rfl rfl rfl ?_
  refine gops_nil ?_
  refine hN2 _ _ ?_
  refine gfrom [(0, .pointer (some ⟨rg, 0, none⟩)), (5, .bool _)] ⟨rfl, rfl, trivial⟩ fun σ => ?_
  refine gseq fun N3 hN3 => ?_
  refine gseq fun N4 hN4 => ?_
  refine greg ?_
  refine gop (y_move (v := .bool _) rfl) rfl rfl rfl ?_
  refine gops_nil ?_
  refine hN4 _ _ ?_
  refine gfrom [(0, .pointer (some ⟨rg, 0, none⟩)), (5, .bool _), (10, .bool _)] ⟨rfl, rfl, rfl, trivial⟩ fun σ => ?_
  refine gcond (b := _) rfl (fun hc10 => ?_) (fun hc10 => ?_)
  · 
    rw [strEqP_dec, hrs.hd] at hc10
    have hx := of_decide_eq_true hc10
    refine greg ?_
    refine gop (y_move (v := .pointer (some ⟨rg, 0, none⟩)) rfl) rfl rfl rfl ?_
    refine gop_does1 0 (fun v r G => v = .tuple #[] ∧ r = box rg (.cells #[.slice B n bc, .string s, .int .i64 ((skipW s (nextW s a) : Nat)), .int .i64 ((nextW s (skipW s (nextW s a)) : Nat)), .int .i64 code] 124) ∧ G = []) (e_call (vs := [.pointer (some ⟨rg, 0, none⟩)]) Tryz.func54 rfl (by kernel_rfl) rfl) rfl (fun w fr1 hfr hM => (rdScan_any _ w rg _ _ _ s _ fr1 hs _ _ _ rfl (next_le hrs.le) hM).mono fun _ _ ⟨h1, h2⟩ => ⟨_, _, [], h1, ⟨rfl, rfl, rfl⟩, h2⟩) rfl rfl rfl ?_
    rintro _ _ _ ⟨rfl, rfl, rfl⟩
    refine gops_nil ?_
    refine hN3 _ _ ?_
    refine gT [box rg _, fr] rfl ?_
    refine gfrom [(5, .bool _)] ⟨rfl, trivial⟩ fun σ => ?_
    refine gseq fun N5 hN5 => ?_
    refine greg ?_
    refine gop (y_move (v := .bool _) rfl) rfl rfl rfl ?_
    refine gop (y_assign (v := .bool _) rfl) rfl rfl rfl ?_
    refine gops_nil ?_
    refine hN5 _ _ ?_
    refine gfrom [(4, .bool _)] ⟨rfl, trivial⟩ fun σ => ?_
    refine gret fun w1 hM => ?_
    refine ⟨_, res1 rfl (rt (v := .bool _) rfl), ?_⟩
    rw [strEqP_dec, hrs.hd]
    first
    | exact ⟨_, _, rfl, hrs.next, by rw [if_pos hx], weak_take (T' := [_, fr]) rfl _ hM⟩
    | exact ⟨_, _, rfl, hrs, by rw [if_neg hx], weak_take (T' := [_, fr]) rfl _ hM⟩
  · 
    rw [strEqP_dec, hrs.hd] at hc10
    have hx := of_decide_eq_false hc10
    refine gskip ?_
    refine hN3 _ _ ?_
    refine gfrom [(5, .bool _)] ⟨rfl, trivial⟩ fun σ => ?_
    refine gseq fun N6 hN6 => ?_
    refine greg ?_
    refine gop (y_move (v := .bool _) rfl) rfl rfl rfl ?_
    refine gop (y_assign (v := .bool _) rfl) rfl rfl rfl ?_
    refine gops_nil ?_
    refine hN6 _ _ ?_
    refine gfrom [(4, .bool _)] ⟨rfl, trivial⟩ fun σ => ?_
    refine gret fun w1 hM => ?_
    refine ⟨_, res1 rfl (rt (v := .bool _) rfl), ?_⟩
    rw [strEqP_dec, hrs.hd]
    first
    | exact ⟨_, _, rfl, hrs.next, by rw [if_pos hx], weak_take (T' := [_, fr]) rfl _ hM⟩
    | exact ⟨_, _, rfl, hrs, by rw [if_neg hx], weak_take (T' := [_, fr]) rfl _ hM⟩
set_option maxHeartbeats 4000000 in
theorem rdFail_any (w0 w : World) (rg n bc : Nat) (B : Option Addr) (s : ByteArray) (code a x : Int) (fr : Reg) (c : Int) (hM0 : Mem w0 [box rg (.cells #[.slice B n bc, .string s, .int .i64 (a), .int .i64 (x), .int .i64 code] 124), fr] w) :
    Calls Tryz.prog 56 #[.pointer (some ⟨rg, 0, none⟩), .int .i64 c] w fun e w' => e = .returned (.tuple #[.int .i64 0, .bool false]) ∧ Mem w0 [box rg (.cells #[.slice B n bc, .string s, .int .i64 (a), .int .i64 (x), .int .i64 c] 124), fr] w' := by
  refine gcallsT Tryz.func56 rfl Tryz.ntmps56 (Nat.le_of_ble_eq_true rfl) hM0 ?_
  refine gfrom [(0, .pointer (some ⟨rg, 0, none⟩)), (1, .int _ _)] ⟨rfl, rfl, trivial⟩ fun σ => ?_
  refine gseq fun N1 hN1 => ?_
  refine greg ?_
  refine gop (y_assign (v := .int _ _) rfl) rfl rfl rfl ?_
  refine gop (y_assign (v := .bool _) rfl) rfl rfl rfl ?_
  refine gops_nil ?_
  refine hN1 _ _ ?_
  refine gfrom [(0, .pointer (some ⟨rg, 0, none⟩)), (1, .int _ _)] ⟨rfl, rfl, trivial⟩ fun σ => ?_
  refine gseq fun N2 hN2 => ?_
  refine greg ?_
  refine gop (y_move (v := .pointer (some ⟨rg, 0, none⟩)) rfl) rfl rfl rfl ?_
  refine gop (y_move (v := .int _ _) rfl) rfl rfl rfl ?_
  refine gop (y_nilCheck rfl) rfl rfl rfl ?_
  refine gop (y_fieldAddr_box fa124_4 rfl) rfl rfl rfl ?_
  refine gop_store 0 (v := .int _ _) (cs' := #[_, _, _, _, _]) rfl rfl Tryz.sizeOf3 rfl rfl rfl rfl (Nat.le_of_ble_eq_true rfl) rfl rfl ?_
  refine gops_nil ?_
  refine hN2 _ _ ?_
  refine gT [box rg _, fr] rfl ?_
  refine gfrom [] trivial fun σ => ?_
  refine gseq fun N3 hN3 => ?_
  refine greg ?_
  refine gop (y_assign (v := .int _ _) rfl) rfl rfl rfl ?_
  refine gop (y_assign (v := .bool _) rfl) rfl rfl rfl ?_
  refine gops_nil ?_
  refine hN3 _ _ ?_
  refine gfrom [(4, .int _ _), (5, .bool _)] ⟨rfl, rfl, trivial⟩ fun σ => ?_
  refine gret fun w1 hM => ?_
  refine ⟨_, res2 rfl (rt (v := .int _ _) rfl) (rt (v := .bool _) rfl), ?_⟩
  exact ⟨rfl, weak_take (T' := [_, fr]) rfl _ hM⟩
set_option maxHeartbeats 4000000 in
theorem polAdd5_any (w0 w : World) (rg bc : Nat) (B : Option Addr) (s : ByteArray) (code a x : Int) (o : List PN) (fr : Reg) (hM0 : Mem w0 [box rg (.cells #[.slice B o.length bc, .string s, .int .i64 (a), .int .i64 (x), .int .i64 code] 124), rowl pnCells w0.heap.size 48 4 (.slice B (o).length bc) (o), fr] w) (hol : o.length ≤ 1000) (n : PN) :
    Calls Tryz.prog 95 #[.pointer (some ⟨rg, 0, none⟩), pnV n] w fun e w' => ∃ B' bc', e = .returned (.int .i64 (o.length : Nat)) ∧ Mem w0 [box rg (.cells #[.slice B' (o ++ [n]).length bc', .string s, .int .i64 (a), .int .i64 (x), .int .i64 code] 124), rowl pnCells w0.heap.size 48 4 (.slice B' (o ++ [n]).length bc') (o ++ [n]), fr] w' := by
  refine gcallsT Tryz.func95 rfl Tryz.ntmps95 (Nat.le_of_ble_eq_true rfl) hM0 ?_
  refine gfrom [(0, .pointer (some ⟨rg, 0, none⟩)), (1, .agg #[_, _, _, _])] ⟨rfl, rfl, trivial⟩ fun σ => ?_
  refine gseq fun N1 hN1 => ?_
  refine greg ?_
  refine gop_box (v := .agg #[_, _, _, _]) (cs := #[_, _, _, _]) rfl rfl rfl (fun b3 hb3 => ?_)
  refine gop (y_assign (v := .int _ _) rfl) rfl rfl rfl ?_
  refine gops_nil ?_
  refine hN1 _ _ ?_
  refine gT [box rg _, rowl _ _ _ _ _ _, fr, box b3 _] rfl ?_
  refine gfrom [(0, .pointer (some ⟨rg, 0, none⟩)), (3, .pointer _)] ⟨rfl, rfl, trivial⟩ fun σ => ?_
  refine gseq fun N2 hN2 => ?_
  refine greg_e1 [10] [(1, emp)] (by kernel_rfl) ?_
  refine ge_take 0 (TK := [box rg _, emp, fr, box b3 _]) rfl (by kernel_rfl) (by kernel_rfl) (by kernel_rfl) #[false, true, true, true, true, true, true, true, false, false, false] (by kernel_rfl) rfl (y_move (v := .pointer (some ⟨rg, 0, none⟩)) rfl) rfl rfl rfl (weak_emp 1 rfl) (listed' := #[true, false, false, false, false, false, false, false, false, false, false]) rfl ?_
  refine ge_take 1 (TK := [box rg _, emp, fr, box b3 _]) rfl (by kernel_rfl) (by kernel_rfl) (by kernel_rfl) #[true, false, false, false, false, true, true, false, false, false, false] (by kernel_rfl) rfl (y_move (v := .pointer (some ⟨rg, 0, none⟩)) rfl) rfl rfl rfl (weak_emp 1 rfl) (listed' := #[true, true, false, false, false, false, false, false, false, false, false]) rfl ?_
  refine ge_take 2 (TK := [box rg _, emp, fr, box b3 _]) rfl (by kernel_rfl) (by kernel_rfl) (by kernel_rfl) #[true, true, false, false, false, true, true, false, false, false, false] (by kernel_rfl) rfl (y_nilCheck rfl) rfl rfl rfl (weak_emp 1 rfl) (listed' := #[true, true, true, false, false, false, false, false, false, false, false]) rfl ?_
  refine ge_take 3 (TK := [box rg _, emp, fr, box b3 _]) rfl (by kernel_rfl) (by kernel_rfl) (by kernel_rfl) #[true, true, true, false, false, true, true, false, false, false, false] (by kernel_rfl) rfl (y_fieldAddr_box fa122_0 rfl) rfl rfl rfl (weak_emp 1 rfl) (listed' := #[true, true, true, true, false, false, false, false, false, false, false]) rfl ?_
  refine ge_take 4 (TK := [box rg _, emp, fr, box b3 _]) rfl (by kernel_rfl) (by kernel_rfl) (by kernel_rfl) #[true, true, true, true, false, true, true, false, false, false, false] (by kernel_rfl) rfl (y_load Tryz.isAgg41 rfl (cell_box 0 rfl rfl)) rfl rfl rfl (weak_emp 1 rfl) (listed' := #[true, true, true, true, true, false, false, false, false, false, false]) rfl ?_
  refine ge_take 5 (TK := [box rg _, emp, fr, box b3 _]) rfl (by kernel_rfl) (by kernel_rfl) (by kernel_rfl) #[true, true, true, true, true, false, false, false, false, false, false] (by kernel_rfl) rfl (y_loads (cs := [_, _, _, _]) Tryz.isAgg48 Tryz.sizeOf48 rfl rfl (cells_box 3 rfl)) rfl rfl rfl (weak_emp 1 rfl) (listed' := #[true, true, true, true, true, true, false, false, false, false, false]) rfl ?_
  refine ge_one 6 (k' := 0) (listed' := #[true, true, true, true, true, true, true, false, false, false, false]) (by kernel_rfl) rfl rfl rfl ?_
  refine gop_lit (vs := [.agg #[_, _, _, _]]) (cells := #[_, _, _, _]) Tryz.underlying41 Tryz.sizeOf48 Tryz.zeroValue48 rfl (by decide) (by decide) rfl rfl rfl rfl (fun b11 hb11 => ?_)
  refine gops_nil ?_
  refine ge_fin (TK := [box rg _, emp, fr, box b3 _]) rfl (weak_trans (weak_take (T' := [box rg _, rowl _ _ _ _ _ _, fr, box b3 _]) rfl) (weak_emp 1 rfl)) ?_
  refine ge_one 7 (k' := 0) (listed' := #[true, true, true, true, true, true, true, true, false, false, false]) (by kernel_rfl) rfl rfl rfl ?_
  refine gop_append 1 (f := pnCells) (l2 := [n]) Tryz.underlying41 el48 wide_pn (v := .slice _ _ _) rfl rfl rfl rfl (fun h => by cases h) (by simp [maxLen]; omega) (by simp; omega) (src_box 4 rfl rfl) rfl (fun v12 => ?_)
  refine gops_fact (fun w hM => own_form (hM.own 1 rfl)) ?_
  rintro ⟨A12, c12, rfl, hc12, hm12⟩
  refine gops_nil ?_
  refine ge_fin (TK := [box rg _, emp, fr, box b3 _]) rfl (weak_trans (weak_take (T' := [box rg _, rowl _ _ _ _ _ _, fr, box b3 _]) rfl) (weak_emp 1 rfl)) ?_
  refine ge_take 8 (TK := [box rg _, emp, fr, box b3 _]) rfl (by kernel_rfl) (by kernel_rfl) (by kernel_rfl) #[true, true, true, true, true, true, true, true, false, false, false] (by kernel_rfl) rfl (y_nilCheck rfl) rfl rfl rfl (weak_trans (weak_take (T' := [box rg _, rowl _ _ _ _ _ _, fr, box b3 _]) rfl) (weak_emp 1 rfl)) (listed' := #[true, true, true, true, true, true, true, true, true, false, false]) rfl ?_
  refine ge_take 9 (TK := [box rg _, emp, fr, box b3 _]) rfl (by kernel_rfl) (by kernel_rfl) (by kernel_rfl) #[true, true, true, true, true, true, true, true, true, false, false] (by kernel_rfl) rfl (y_fieldAddr_box fa122_0 rfl) rfl rfl rfl (weak_trans (weak_take (T' := [box rg _, rowl _ _ _ _ _ _, fr, box b3 _]) rfl) (weak_emp 1 rfl)) (listed' := #[true, true, true, true, true, true, true, true, true, true, false]) rfl ?_
  refine ge_one 10 (k' := 1) (listed' := #[true, true, true, true, true, true, true, true, true, true, true]) (by kernel_rfl) rfl rfl rfl ?_
  refine gop_store 0 (v := .slice A12 _ c12) (cs' := #[_, _, _, _, _]) rfl rfl Tryz.sizeOf41 rfl rfl rfl rfl (Nat.le_of_ble_eq_true rfl) rfl rfl ?_
  refine gops_nil ?_
  refine ge_fin (TK := []) rfl (weak_nil) ?_
  refine ge_done (by kernel_rfl) ?_
  refine hN2 _ _ ?_
  refine gT [box rg _, rowl _ _ _ _ _ _, fr, box b3 _, box b11 _] rfl ?_
  refine gfrom [(0, .pointer (some ⟨rg, 0, none⟩))] ⟨rfl, trivial⟩ fun σ => ?_
  refine gseq fun N3 hN3 => ?_
  refine greg ?_
  refine gop (y_move (v := .pointer (some ⟨rg, 0, none⟩)) rfl) rfl rfl rfl ?_
  refine gop (y_nilCheck rfl) rfl rfl rfl ?_
  refine gop (y_fieldAddr_box fa122_0 rfl) rfl rfl rfl ?_
  refine gop (y_load Tryz.isAgg41 rfl (cell_box 0 rfl rfl)) rfl rfl rfl ?_
  refine gop (y_len Tryz.underlying41 rfl) rfl rfl rfl ?_
  refine gop (y_sub rfl rfl ⟨by first | omega | (simp; done) | (simp; omega), by first | omega | (simp; done) | (simp; omega)⟩) rfl rfl rfl ?_
  refine gop (y_assign (v := .int _ _) rfl) rfl rfl rfl ?_
  refine gops_nil ?_
  refine hN3 _ _ ?_
  refine gfrom [(4, .int _ _)] ⟨rfl, trivial⟩ fun σ => ?_
  refine gret fun w1 hM => ?_
  refine ⟨_, res1 rfl (rt (v := .int _ _) rfl), ?_⟩
  exact ⟨A12, c12, by simp, weak_take (T' := [_, _, fr]) rfl _ hM⟩
end Go.Proofs.YtbkameioedmlkaaGreatDoor
