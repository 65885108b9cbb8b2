/- Own frame, plain models and walks, part 5 (texts of this claim put together). -/
import Derived.Test.YtbkameioedmlkaaGreatDoorP16d
import Derived.Lib.AppendIntMem
import Derived.Lib.AtoiAllCases
import Derived.Lib.AtoiErrMem
import Derived.Lib.AtoiTie
import Derived.Lib.ItoaLen
import Derived.Stop.IfaceNil
import Derived.Test.YtbkameioedmlkaaGreatDoorChecked
namespace Go.Proofs.YtbkameioedmlkaaGreatDoor
open Go.RowKit Go.Cf
set_option maxRecDepth 10000
theorem bd98_0 (x1 : Option Addr) (x1l x1c : Nat) : Tryz.prog.built 98 [(0, .slice x1 x1l x1c)] = some #[.slice x1 x1l x1c, .slice none 0 0] := by kernel_rfl
set_option maxHeartbeats 4000000 in
theorem run_any (w : World) (B : Option Addr) (d : Nat) (text : List ByteArray) (ht : Rdl w 0 1 strCells B text) (htb : SB B text.length d 16) (E : Option Addr) (ec : Nat) (es : List EvC) (he : EvsR w 0 E es) (hem : es.length ≤ maxLen) :
    Calls Tryz.prog 8 #[.slice B text.length d, .slice E es.length ec] w fun e w' => ∃ v1 v2, e = .returned (.tuple #[v1, v2, fv (runV text (evs es)).1]) ∧ Below w.heap.size w w' ∧ NewL 5 thrCells (runV text (evs es)).2.1 w.heap.size w' v1 ∧ NewL 1 strCells (runV text (evs es)).2.2 w.heap.size w' v2 := by
  have hmx : maxLen = 9223372036854775807 := rfl
  have htc := htb.len
  have htm := htb.max
  refine gcalls Tryz.func8 rfl Tryz.ntmps8 (Nat.le_of_ble_eq_true rfl) ?_
  refine gfrom [(0, .slice _ _ _), (1, .slice _ _ _)] ⟨rfl, rfl, trivial⟩ fun σ => ?_
  refine gseq fun N1 hN1 => ?_
  refine greg ?_
  refine gop (y_assign (v := .slice _ _ _) rfl) rfl rfl rfl ?_
  refine gop (y_assign (v := .slice _ _ _) rfl) rfl rfl rfl ?_
  refine gop_alloc (cs := #[.int .i64 0, .int .i64 0]) Tryz.zeroValue33 rfl rfl (fun b6 hb6 => ?_)
  refine gops_nil ?_
  refine hN1 _ _ ?_
  refine gT [box b6 _] rfl ?_
  refine gfrom [(0, .slice _ _ _), (1, .slice _ _ _), (6, .pointer _)] ⟨rfl, rfl, rfl, trivial⟩ fun σ => ?_
  refine gseq fun N2 hN2 => ?_
  refine gseq fun N3 hN3 => ?_
  refine greg ?_
  refine gop (y_move (v := .slice _ _ _) rfl) rfl rfl rfl ?_
  refine gop_pure (e_call (vs := [.slice _ _ _, _]) Tryz.func28 rfl (by kernel_rfl) rfl) (fun w hM => linesSecond_any w _ _ _ (ht.base hM) (by omega) (-2)) rfl rfl rfl ?_
  refine gop_alloc (cs := #[.int .i64 0, .int .i64 0]) Tryz.zeroValue33 rfl rfl (fun b7 hb7 => ?_)
  refine gop_store 1 (v := .agg #[_, _]) (cs' := #[_, _]) rfl rfl Tryz.sizeOf33 rfl rfl rfl rfl (Nat.le_of_ble_eq_true rfl) rfl rfl ?_
  refine gops_nil ?_
  refine hN3 _ _ ?_
  refine gT [box b6 _, box b7 _] rfl ?_
  refine gfrom [(0, .slice _ _ _), (1, .slice _ _ _), (6, .pointer _), (7, .pointer _)] ⟨rfl, rfl, rfl, rfl, trivial⟩ fun σ => ?_
  refine gseq fun N4 hN4 => ?_
  refine greg ?_
  refine gop (y_loads (cs := [_, _]) Tryz.isAgg33 Tryz.sizeOf33 rfl rfl (cells_box 1 rfl)) rfl rfl rfl ?_
  refine gop (y_build (vs := []) (cells := #[.int .i64 0, .int .i64 0]) rfl bd33_) rfl rfl rfl ?_
  refine gop (y_bin (vx := .agg #[_, _]) (vy := .agg #[_, _]) rfl rfl (fun w => eg33 _ _ _ _ _ w) (fun w => ne33 _ _ _ _ w)) rfl rfl rfl ?_
  refine gops_nil ?_
  refine hN4 _ _ ?_
  refine gfrom [(0, .slice _ _ _), (1, .slice _ _ _), (6, .pointer _), (7, .pointer _), (16, .bool _)] ⟨rfl, rfl, rfl, rfl, rfl, trivial⟩ fun σ => ?_
  refine gcond (b := _) rfl (fun hc16 => ?_) (fun hc16 => ?_)
  · 
    replace hc16 := fault_ne.1 hc16
    have hV : runV text (evs es) = (secondF (linesF text) (-2), ([], [])) := by rw [runV, if_pos hc16]
    refine gseq fun N5 hN5 => ?_
    refine greg_e1 [] [(0, room b6 33 2)] (by kernel_rfl) ?_
    refine ge_take 0 (TK := [room b6 33 2, box b7 _]) rfl (by kernel_rfl) (by kernel_rfl) (by kernel_rfl) #[false, true, true, false] (by kernel_rfl) rfl (y_loads (cs := [_, _]) Tryz.isAgg33 Tryz.sizeOf33 rfl rfl (cells_box 1 rfl)) rfl rfl rfl (weak_room 0 rfl rfl) (listed' := #[true, false, false, false]) rfl ?_
    refine ge_take 1 (TK := [room b6 33 2, box b7 _]) rfl (by kernel_rfl) (by kernel_rfl) (by kernel_rfl) #[true, false, false, false] (by kernel_rfl) rfl (y_assign (v := .slice _ _ _) rfl) rfl rfl rfl (weak_room 0 rfl rfl) (listed' := #[true, true, false, false]) rfl ?_
    refine ge_take 2 (TK := [room b6 33 2, box b7 _]) rfl (by kernel_rfl) (by kernel_rfl) (by kernel_rfl) #[true, true, false, false] (by kernel_rfl) rfl (y_assign (v := .slice _ _ _) rfl) rfl rfl rfl (weak_room 0 rfl rfl) (listed' := #[true, true, true, false]) rfl ?_
    refine ge_one 3 (k' := 0) (listed' := #[true, true, true, true]) (by kernel_rfl) rfl rfl rfl ?_
    refine gop_store 0 (v := .agg #[_, _]) (cs' := #[_, _]) rfl rfl Tryz.sizeOf33 rfl rfl rfl rfl (Nat.le_of_ble_eq_true rfl) rfl rfl ?_
    refine gops_nil ?_
    refine ge_fin (TK := [room b6 33 2, box b7 _]) rfl (weak_room 0 rfl rfl) ?_
    refine ge_done (by kernel_rfl) ?_
    refine hN5 _ _ ?_
    refine gT [box b6 _, box b7 _] rfl ?_
    refine gfrom [(4, .slice _ _ _), (5, .slice _ _ _), (6, .pointer _)] ⟨rfl, rfl, rfl, trivial⟩ fun σ => ?_
    refine gret fun w1 hM => ?_
    refine ⟨_, res3 rfl (rt (v := .slice _ _ _) rfl) (rt (v := .slice _ _ _) rfl) (rc 0 (cs := [_, _]) hM rfl rfl Tryz.isAgg33 Tryz.sizeOf33 rfl), ?_⟩
    exact ⟨_, _, by rw [hV], hM.low, by rw [hV]; exact newL_nil, by rw [hV]; exact newL_nil⟩
  · 
    replace hc16 := fault_eq.1 hc16
    have htl := linesF_len (second_lines hc16)
    refine gskip ?_
    refine hN2 _ _ ?_
    refine gfrom [(0, .slice _ _ _), (1, .slice _ _ _), (6, .pointer _)] ⟨rfl, rfl, rfl, trivial⟩ fun σ => ?_
    refine gseq fun N6 hN6 => ?_
    refine gseq fun N7 hN7 => ?_
    refine greg ?_
    refine gop (y_move (v := .slice _ _ _) rfl) rfl rfl rfl ?_
    refine gop (y_len Tryz.underlying30 rfl) rfl rfl rfl ?_
    refine gop (y_gtr rfl rfl) rfl rfl rfl ?_
    refine gops_nil ?_
    refine hN7 _ _ ?_
    refine gfrom [(0, .slice _ _ _), (1, .slice _ _ _), (6, .pointer _), (20, .bool _)] ⟨rfl, rfl, rfl, rfl, trivial⟩ fun σ => ?_
    refine gcond (b := _) rfl (fun hc20 => ?_) (fun hc20 => ?_)
    · 
      replace hc20 := of_decide_eq_true hc20
      have hV : runV text (evs es) = (⟨2, -1⟩, ([], [])) := by rw [runV, if_neg (by simp [hc16]), if_pos (by simp; omega)]
      refine gseq fun N8 hN8 => ?_
      refine greg ?_
      refine gop (y_build (vs := [(0, _), (1, _)]) (cells := #[_, _]) rfl (bd33_0_1 _ _)) rfl rfl rfl ?_
      refine gop (y_assign (v := .slice _ _ _) rfl) rfl rfl rfl ?_
      refine gop (y_assign (v := .slice _ _ _) rfl) rfl rfl rfl ?_
      refine gop_store 0 (v := .agg #[_, _]) (cs' := #[_, _]) rfl rfl Tryz.sizeOf33 rfl rfl rfl rfl (Nat.le_of_ble_eq_true rfl) rfl rfl ?_
      refine gops_nil ?_
      refine hN8 _ _ ?_
      refine gT [box b6 _, box b7 _] rfl ?_
      refine gfrom [(4, .slice _ _ _), (5, .slice _ _ _), (6, .pointer _)] ⟨rfl, rfl, rfl, trivial⟩ fun σ => ?_
      refine gret fun w1 hM => ?_
      refine ⟨_, res3 rfl (rt (v := .slice _ _ _) rfl) (rt (v := .slice _ _ _) rfl) (rc 0 (cs := [_, _]) hM rfl rfl Tryz.isAgg33 Tryz.sizeOf33 rfl), ?_⟩
      exact ⟨_, _, by rw [hV], hM.low, by rw [hV]; exact newL_nil, by rw [hV]; exact newL_nil⟩
    · 
      replace hc20 := of_decide_eq_false hc20
      have hV0 : runV text (evs es) = runFrom 0 ([], text) (evs es) := by rw [runV, if_neg (by simp [hc16]), if_neg (by simp; omega)]
      refine gskip ?_
      refine hN6 _ _ ?_
      refine gfrom [(0, .slice _ _ _), (1, .slice _ _ _), (6, .pointer _)] ⟨rfl, rfl, rfl, trivial⟩ fun σ => ?_
      refine gseq fun N9 hN9 => ?_
      refine greg ?_
      refine gop (y_move (v := .slice _ _ _) rfl) rfl rfl rfl ?_
      refine gop_got (fun v T' => ∃ lo, w.heap.size ≤ lo ∧ T' = [rowl strCells lo 9 1 v text]) (e_call (vs := [.slice _ _ _]) Tryz.func29 rfl (by kernel_rfl) rfl) (fun w hM => (clone_any w _ _ _ (ht.base hM) (by omega) htb.nil).mono fun _ _ ⟨v, T1, h1, h2, h3⟩ => ⟨v, T1, h1, ⟨_, hM.low.size, h2⟩, h3⟩) rfl rfl rfl ?_
      rintro v23 _ ⟨lo23, hlo23, rfl⟩
      refine gops_fact (fun w hM => row_form (hM.ok _ (List.mem_of_getElem? (i := 2) rfl))) ?_
      rintro ⟨A23, c23, rfl, hc23, hm23, hn23⟩
      refine gop (y_build (vs := [(0, .slice A23 _ c23)]) (cells := #[_, .slice none 0 0]) rfl (bd98_0 _ _ _)) rfl rfl rfl ?_
      refine gop_alloc (cs := #[.slice none 0 0, .slice none 0 0]) Tryz.zeroValue98 rfl rfl (fun b8 hb8 => ?_)
      refine gop_store 3 (v := .agg #[_, _]) (cs' := #[_, _]) rfl rfl Tryz.sizeOf98 rfl rfl rfl rfl (Nat.le_of_ble_eq_true rfl) rfl rfl ?_
      refine gops_nil ?_
      refine hN9 _ _ ?_
      refine gT [box b6 _, box b7 _, rowl _ _ _ _ _ _, box b8 _] rfl ?_
      refine gfrom [(1, .slice _ _ _), (6, .pointer _), (8, .pointer _)] ⟨rfl, rfl, rfl, trivial⟩ fun σ => ?_
      refine gseq fun N10 hN10 => ?_
      refine gseq fun N11 hN11 => ?_
      refine greg ?_
      refine gop (y_move (v := .slice _ _ _) rfl) rfl rfl rfl ?_
      refine gop (y_len Tryz.underlying30 rfl) rfl rfl rfl ?_
      refine gop (y_move (v := .int _ _) rfl) rfl rfl rfl ?_
      refine gops_nil ?_
      refine hN11 _ _ ?_
      refine gfrom [(6, .pointer _), (8, .pointer _), (25, .slice _ _ _), (26, .int _ _), (27, .int _ _)] ⟨rfl, rfl, rfl, rfl, rfl, trivial⟩ fun σ => ?_
      refine gblock ?_
      refine gnilrow thrCells 39 5 ?_
      refine gfrom2 [(27, .int _ _)] [(6, .pointer _), (8, .pointer _), (25, .slice _ _ _), (26, .int _ _)] ⟨rfl, trivial⟩ ⟨rfl, rfl, rfl, rfl, trivial⟩ fun σ => ?_
      refine gloop2 (G := Nat × Nat × Nat × Option Addr × Option Addr × St × Reg) (fun (k, tc, hc, tA, hA, s, fr) => k ≤ es.length ∧ RI s k ∧ SB tA s.2.length tc 16 ∧ (∀ w1, fr.ok w1 → Rdl w1 w.heap.size 1 strCells tA s.2) ∧ runFrom k s ((evs es).drop k) = runFrom 0 ([], text) (evs es)) (fun (k, tc, hc, tA, hA, s, fr) => es.length - k) (fun (k, tc, hc, tA, hA, s, fr) => [(27, .int .i64 (k : Int))]) (fun (k, tc, hc, tA, hA, s, fr) => [(2, fr), (3, box b8 (.cells #[.slice tA (s.2).length tc, .slice hA (s.1).length hc] 98)), (4, rowl thrCells w.heap.size 39 5 (.slice hA s.1.length hc) (s.1))]) ((0, c23, 0, A23, none, ([], text), rowl strCells lo23 9 1 (.slice A23 text.length c23) text)) ?h0 ⟨rfl, trivial⟩ ⟨rfl, rfl, rfl, rfl, trivial⟩ rfl ?round
      case h0 => exact ⟨Nat.zero_le _, RI.start text htl, ⟨hc23, hm23, hn23, by show text.length * 16 ≤ _; unfold reachBytes; omega⟩, fun w1 ho => (row_rdl (f := strCells) (fun _ => rfl) ho).mono hlo23, rfl⟩
      case round =>
        rintro ⟨k, tc, hc, tA, hA, s, fr⟩ hφ σ
        obtain ⟨hk, hri, hsb, hfx, hrun⟩ := hφ
        refine gT [box b6 _, box b7 _, fr, box b8 _, rowl _ _ _ _ _ _] rfl ?_
        refine gseq fun N12 hN12 => ?_
        refine greg ?_
        refine gop (y_lss rfl rfl) rfl rfl rfl ?_
        refine gops_nil ?_
        refine hN12 _ _ ?_
        refine gfrom [(6, .pointer _), (8, .pointer _), (25, .slice _ _ _), (26, .int _ _), (27, .int _ _), (28, .bool _)] ⟨rfl, rfl, rfl, rfl, rfl, rfl, trivial⟩ fun σ => ?_
        refine gseq fun N13 hN13 => ?_
        refine gcond (b := _) rfl (fun hc28 => ?_) (fun hc28 => ?_)
        · 
          replace hc28 := of_decide_eq_true hc28
          have hk1 : k < es.length := by omega
          have hk2 : k < (evs es).length := by simpa using hk1
          obtain ⟨ad, rfl, -, hcv⟩ := he.rd.at_ hk1
          have hx := he.each _ (List.getElem_mem hk1)
          have hD := runFrom_drop hk2 k s
          rw [List.getElem_map] at hD
          refine gskip ?_
          refine hN13 _ _ ?_
          refine gfrom [(6, .pointer _), (8, .pointer _), (25, .slice _ _ _), (26, .int _ _), (27, .int _ _)] ⟨rfl, rfl, rfl, rfl, rfl, trivial⟩ fun σ => ?_
          refine gseq fun N14 hN14 => ?_
          refine gblock ?_
          refine gseq fun N15 hN15 => ?_
          refine greg ?_
          refine gop (y_move (v := .int _ _) rfl) rfl rfl rfl ?_
          refine gop (y_indexAddr Tryz.underlying30 Tryz.sizeOf29 rfl rfl rfl (by omega) (by omega)) rfl rfl rfl ?_
          refine gop (y_loads (cs := [_, _, _, _, _, _]) Tryz.isAgg29 Tryz.sizeOf29 rfl rfl (cells_base hcv)) rfl rfl rfl ?_
          refine gop_alloc (cs := #[.int .i64 0, .int .i64 0, .int .i64 0, .int .i64 0, .string .empty, .slice none 0 0]) Tryz.zeroValue29 rfl rfl (fun b10 hb10 => ?_)
          refine gop (y_assign (v := .int _ _) rfl) rfl rfl rfl ?_
          refine gop_store 5 (v := .agg #[_, _, _, _, _, _]) (cs' := #[_, _, _, _, _, _]) rfl rfl Tryz.sizeOf29 rfl rfl rfl rfl (Nat.le_of_ble_eq_true rfl) rfl rfl ?_
          refine gops_nil ?_
          refine hN15 _ _ ?_
          refine gT [box b6 _, box b7 _, fr, box b8 _, rowl _ _ _ _ _ _, box b10 _] rfl ?_
          refine gfrom [(6, .pointer _), (8, .pointer _), (9, .int _ _), (10, .pointer _), (25, .slice _ _ _), (26, .int _ _), (27, .int _ _)] ⟨rfl, rfl, rfl, rfl, rfl, rfl, rfl, trivial⟩ fun σ => ?_
          refine gseq fun N16 hN16 => ?_
          refine greg ?_
          refine gop (y_loads (cs := [_, _, _, _, _, _]) Tryz.isAgg29 Tryz.sizeOf29 rfl rfl (cells_box 5 rfl)) rfl rfl rfl ?_
          refine gop_does2 3 4 (fun v r q G => ∃ tA' tc' hA' hc', v = .int .i64 (stepE s es[k].pl).1 ∧ r = box b8 (.cells #[.slice tA' ((stepE s es[k].pl).2.2).length tc', .slice hA' ((stepE s es[k].pl).2.1).length hc'] 98) ∧ q = rowl thrCells w.heap.size 39 5 (.slice hA' (stepE s es[k].pl).2.1.length hc') ((stepE s es[k].pl).2.1) ∧ SB tA' (stepE s es[k].pl).2.2.length tc' 16 ∧ ((tA' = tA ∧ (stepE s es[k].pl).2.2 = s.2) ∨ ∀ w1, (∀ r ∈ G, r.ok w1) → Rdl w1 w.heap.size 1 strCells tA' (stepE s es[k].pl).2.2)) (e_call (vs := [.pointer _, .agg #[_, _, _, _, _, _]]) Tryz.func30 rfl (by kernel_rfl) rfl) rfl rfl rfl (fun w fr1 hfr hM => (step_any _ w b8 tc hc tA hA s.2 s.1 fr1 hM (fun w1 h => hfx w1 (hfr 2 _ rfl (by decide) (by decide) w1 h)) hsb es[k] hx (hri.up (by omega))).mono fun _ _ ⟨tA', tc', hA', hc', G, h1, h2, h3, h4⟩ => ⟨_, _, _, G, h1, ⟨tA', tc', hA', hc', rfl, rfl, rfl, h2, h3⟩, h4⟩) rfl rfl rfl ?_
          rintro _ _ _ G ⟨tA2, tc2, hA2, hc2, rfl, rfl, rfl, hsb2, hdj⟩
          refine gops_mem _ (weak_all 5 2 rfl) ?_
          refine gop (y_assign (v := .int _ _) rfl) rfl rfl rfl ?_
          refine gops_nil ?_
          refine hN16 _ _ ?_
          refine gT [box b6 _, box b7 _, _, box b8 _, rowl _ _ _ _ _ _] rfl ?_
          refine gfrom [(6, .pointer _), (8, .pointer _), (9, .int _ _), (11, .int _ _), (25, .slice _ _ _), (26, .int _ _), (27, .int _ _)] ⟨rfl, rfl, rfl, rfl, rfl, rfl, rfl, trivial⟩ fun σ => ?_
          refine gseq fun N17 hN17 => ?_
          refine greg ?_
          refine gop (y_move (v := .int _ _) rfl) rfl rfl rfl ?_
          refine gop (y_neq rfl rfl) rfl rfl rfl ?_
          refine gops_nil ?_
          refine hN17 _ _ ?_
          refine gfrom [(6, .pointer _), (8, .pointer _), (9, .int _ _), (11, .int _ _), (25, .slice _ _ _), (26, .int _ _), (27, .int _ _), (35, .bool _)] ⟨rfl, rfl, rfl, rfl, rfl, rfl, rfl, rfl, trivial⟩ fun σ => ?_
          refine gcond (b := _) rfl (fun hc35 => ?_) (fun hc35 => ?_)
          · 
            replace hc35 := of_decide_eq_true hc35
            have hV : runV text (evs es) = (⟨(stepE s es[k].pl).1, k⟩, ([], [])) := by rw [hV0, ← hrun, hD, if_pos hc35]
            refine gseq fun N18 hN18 => ?_
            refine greg ?_
            refine gop (y_move (v := .int _ _) rfl) rfl rfl rfl ?_
            refine gop (y_move (v := .int _ _) rfl) rfl rfl rfl ?_
            refine gop (y_build (vs := [(0, .int _ _), (1, .int _ _)]) (cells := #[_, _]) rfl (bd33_0_1 _ _)) rfl rfl rfl ?_
            refine gop (y_assign (v := .slice _ _ _) rfl) rfl rfl rfl ?_
            refine gop (y_assign (v := .slice _ _ _) rfl) rfl rfl rfl ?_
            refine gop_store 0 (v := .agg #[_, _]) (cs' := #[_, _]) rfl rfl Tryz.sizeOf33 rfl rfl rfl rfl (Nat.le_of_ble_eq_true rfl) rfl rfl ?_
            refine gops_nil ?_
            refine hN18 _ _ ?_
            refine gT [box b6 _, box b7 _, _, box b8 _, rowl _ _ _ _ _ _] rfl ?_
            refine gfrom [(4, .slice _ _ _), (5, .slice _ _ _), (6, .pointer _)] ⟨rfl, rfl, rfl, trivial⟩ fun σ => ?_
            refine gret fun w1 hM => ?_
            refine ⟨_, res3 rfl (rt (v := .slice _ _ _) rfl) (rt (v := .slice _ _ _) rfl) (rc 0 (cs := [_, _]) hM rfl rfl Tryz.isAgg33 Tryz.sizeOf33 rfl), ?_⟩
            exact ⟨_, _, by rw [hV], hM.low, by rw [hV]; exact newL_nil, by rw [hV]; exact newL_nil⟩
          · 
            replace hc35 := Decidable.not_not.1 (of_decide_eq_false hc35)
            refine gskip ?_
            refine hN14 _ _ ?_
            refine gfrom [(6, .pointer _), (8, .pointer _), (25, .slice _ _ _), (26, .int _ _), (27, .int _ _)] ⟨rfl, rfl, rfl, rfl, rfl, trivial⟩ fun σ => ?_
            refine greg ?_
            refine gop (y_add rfl rfl ⟨by omega, by omega⟩) rfl rfl rfl ?_
            refine gop (y_move (v := .int _ _) rfl) rfl rfl rfl ?_
            refine gops_nil ?_
            refine gnext2 ((k + 1, tc2, hc2, tA2, hA2, (stepE s es[k].pl).2, both fr (all_ _))) (by show es.length - (k + 1) < es.length - k; omega) (⟨by show k + 1 ≤ _; omega, stepE_RI hri _ hc35, hsb2, ?hfx, by rw [← hrun, hD, if_neg (by simp [hc35])]⟩) ⟨rfl, trivial⟩ ⟨rfl, rfl, rfl, rfl, trivial⟩ ⟨_, rfl⟩
            case hfx =>
              intro w1 ho
              rcases hdj with ⟨e1, e2⟩ | h2
              · rw [e1, e2]; exact hfx w1 ho.1
              · exact h2 w1 fun r hr => (all_ok _ w1).1 ho.2 r (List.mem_cons_of_mem _ hr)
        · 
          replace hc28 := of_decide_eq_false hc28
          have hV : runV text (evs es) = (⟨0, 0⟩, s) := by rw [hV0, ← hrun, List.drop_eq_nil_of_le (by simp; omega), runFrom]
          refine gexit ?_
          refine hN10 _ _ ?_
          refine gfrom [(6, .pointer _), (8, .pointer _)] ⟨rfl, rfl, trivial⟩ fun σ => ?_
          refine gseq fun N19 hN19 => ?_
          refine greg_e1 [] [(0, room b6 33 2)] (by kernel_rfl) ?_
          refine ge_take 0 (TK := [room b6 33 2, box b7 _, fr, box b8 _, rowl _ _ _ _ _ _]) rfl (by kernel_rfl) (by kernel_rfl) (by kernel_rfl) #[false, false, true, true, true, false, false, false] (by kernel_rfl) rfl (y_fieldAddr_box fa98_1 rfl) rfl rfl rfl (weak_room 0 rfl rfl) (listed' := #[true, false, false, false, false, false, false, false]) rfl ?_
          refine ge_take 1 (TK := [room b6 33 2, box b7 _, fr, box b8 _, rowl _ _ _ _ _ _]) rfl (by kernel_rfl) (by kernel_rfl) (by kernel_rfl) #[true, false, true, true, true, false, false, false] (by kernel_rfl) rfl (y_load Tryz.isAgg31 rfl (cell_box 3 rfl rfl)) rfl rfl rfl (weak_room 0 rfl rfl) (listed' := #[true, true, false, false, false, false, false, false]) rfl ?_
          refine ge_take 2 (TK := [room b6 33 2, box b7 _, fr, box b8 _, rowl _ _ _ _ _ _]) rfl (by kernel_rfl) (by kernel_rfl) (by kernel_rfl) #[true, true, false, false, true, true, false, false] (by kernel_rfl) rfl (y_fieldAddr_box fa98_0 rfl) rfl rfl rfl (weak_room 0 rfl rfl) (listed' := #[true, true, true, false, false, false, false, false]) rfl ?_
          refine ge_take 3 (TK := [room b6 33 2, box b7 _, fr, box b8 _, rowl _ _ _ _ _ _]) rfl (by kernel_rfl) (by kernel_rfl) (by kernel_rfl) #[true, true, true, false, true, true, false, false] (by kernel_rfl) rfl (y_load Tryz.isAgg22 rfl (cell_box 3 rfl rfl)) rfl rfl rfl (weak_room 0 rfl rfl) (listed' := #[true, true, true, true, false, false, false, false]) rfl ?_
          refine ge_take 4 (TK := [room b6 33 2, box b7 _, fr, box b8 _, rowl _ _ _ _ _ _]) rfl (by kernel_rfl) (by kernel_rfl) (by kernel_rfl) #[true, true, true, true, false, true, true, false] (by kernel_rfl) rfl (y_build (vs := []) (cells := #[.int .i64 0, .int .i64 0]) rfl bd33_) rfl rfl rfl (weak_room 0 rfl rfl) (listed' := #[true, true, true, true, true, false, false, false]) rfl ?_
          refine ge_take 5 (TK := [room b6 33 2, box b7 _, fr, box b8 _, rowl _ _ _ _ _ _]) rfl (by kernel_rfl) (by kernel_rfl) (by kernel_rfl) #[true, true, true, true, true, false, false, false] (by kernel_rfl) rfl (y_assign (v := .slice _ _ _) rfl) rfl rfl rfl (weak_room 0 rfl rfl) (listed' := #[true, true, true, true, true, true, false, false]) rfl ?_
          refine ge_take 6 (TK := [room b6 33 2, box b7 _, fr, box b8 _, rowl _ _ _ _ _ _]) rfl (by kernel_rfl) (by kernel_rfl) (by kernel_rfl) #[true, true, true, true, true, true, false, false] (by kernel_rfl) rfl (y_assign (v := .slice _ _ _) rfl) rfl rfl rfl (weak_room 0 rfl rfl) (listed' := #[true, true, true, true, true, true, true, false]) rfl ?_
          refine ge_one 7 (k' := 0) (listed' := #[true, true, true, true, true, true, true, true]) (by kernel_rfl) rfl rfl rfl ?_
          refine gop_store 0 (v := .agg #[_, _]) (cs' := #[_, _]) rfl rfl Tryz.sizeOf33 rfl rfl rfl rfl (Nat.le_of_ble_eq_true rfl) rfl rfl ?_
          refine gops_nil ?_
          refine ge_fin (TK := [room b6 33 2, box b7 _, fr, box b8 _, rowl _ _ _ _ _ _]) rfl (weak_room 0 rfl rfl) ?_
          refine ge_done (by kernel_rfl) ?_
          refine hN19 _ _ ?_
          refine gT [box b6 _, box b7 _, fr, box b8 _, rowl _ _ _ _ _ _] rfl ?_
          refine gfrom [(4, .slice _ _ _), (5, .slice _ _ _), (6, .pointer _)] ⟨rfl, rfl, rfl, trivial⟩ fun σ => ?_
          refine gret fun w1 hM => ?_
          refine ⟨_, res3 rfl (rt (v := .slice _ _ _) rfl) (rt (v := .slice _ _ _) rfl) (rc 0 (cs := [_, _]) hM rfl rfl Tryz.isAgg33 Tryz.sizeOf33 rfl), ?_⟩
          exact ⟨_, _, by rw [hV], hM.low, by rw [hV]; exact hM.newL 4 rfl (fun _ => rfl), by rw [hV]; exact ⟨tA, tc, rfl, hsb.len, hsb.max, hfx w1 (hM.ok _ (List.mem_of_getElem? (i := 2) rfl))⟩⟩
end Go.Proofs.YtbkameioedmlkaaGreatDoor
namespace Go.Proofs.YtbkameioedmlkaaGreatDoor
open Go.RowKit Go.Cf
set_option maxRecDepth 10000
theorem fa48_0 (a : Addr) (w : World) : (Instr.fieldAt 48 (.pointer (some a)) 0).run Tryz.prog w = .ok (.pointer (some (a.add 0))) w := by kernel_rfl
theorem fa48_2 (a : Addr) (w : World) : (Instr.fieldAt 48 (.pointer (some a)) 2).run Tryz.prog w = .ok (.pointer (some (a.add 2))) w := by kernel_rfl
theorem fa48_3 (a : Addr) (w : World) : (Instr.fieldAt 48 (.pointer (some a)) 3).run Tryz.prog w = .ok (.pointer (some (a.add 3))) w := by kernel_rfl
set_option maxHeartbeats 1000000 in
theorem polOps_any (w : World) (k : Int) : Calls Tryz.prog 67 #[.int .i64 k] w fun e w' => e = .returned (.int .i64 (opN k : Nat)) ∧ Below w.heap.size w w' := by
  refine gcalls Tryz.func67 rfl Tryz.ntmps67 (Nat.le_of_ble_eq_true rfl) ?_
  refine gfrom [(0, .int _ _)] ⟨rfl, trivial⟩ fun σ => ?_
  refine gseq fun N1 hN1 => ?_
  refine greg ?_
  refine gop (y_assign (v := .int _ _) rfl) rfl rfl rfl ?_
  refine gops_nil ?_
  refine hN1 _ _ ?_
  refine gfrom [(0, .int _ _)] ⟨rfl, trivial⟩ fun σ => ?_
  refine gseq fun N2 hN2 => ?_
  refine gseq fun N3 hN3 => ?_
  refine greg ?_
  refine gop (y_move (v := .int _ _) rfl) rfl rfl rfl ?_
  refine gops_nil ?_
  refine hN3 _ _ ?_
  refine gfrom [(3, .int _ _)] ⟨rfl, trivial⟩ fun σ => ?_
  refine gblock ?_
  refine gseq fun N4 hN4 => ?_
  refine greg ?_
  refine gop (y_eql rfl rfl) rfl rfl rfl ?_
  refine gop (y_assign (v := .bool _) rfl) rfl rfl rfl ?_
  refine gops_nil ?_
  refine hN4 _ _ ?_
  refine gfrom [(3, .int _ _), (4, .bool _)] ⟨rfl, rfl, trivial⟩ fun σ => ?_
  refine gcond (b := _) rfl (fun hc4 => ?_) (fun hc4 => ?_)
  · 
    replace hc4 := of_decide_eq_true hc4
    refine gseq fun N5 hN5 => ?_
    refine greg ?_
    refine gop (y_assign (v := .int _ _) rfl) rfl rfl rfl ?_
    refine gops_nil ?_
    refine hN5 _ _ ?_
    refine gfrom [(2, .int _ _)] ⟨rfl, trivial⟩ fun σ => ?_
    refine gret fun w1 hM => ?_
    refine ⟨_, res1 rfl (rt (v := .int _ _) rfl), ?_⟩
    exact ⟨by rw [opN, if_pos hc4]; rfl, hM.low⟩
  · 
    replace hc4 := of_decide_eq_false hc4
    refine gseq fun N6 hN6 => ?_
    refine gseq fun N7 hN7 => ?_
    refine greg ?_
    refine gop (y_eql rfl rfl) rfl rfl rfl ?_
    refine gop (y_assign (v := .bool _) rfl) rfl rfl rfl ?_
    refine gops_nil ?_
    refine hN7 _ _ ?_
    refine gfrom [(3, .int _ _), (6, .bool _)] ⟨rfl, rfl, trivial⟩ fun σ => ?_
    refine gcond (b := _) rfl (fun hc6 => ?_) (fun hc6 => ?_)
    · 
      replace hc6 := of_decide_eq_true hc6
      refine gskip ?_
      refine hN6 _ _ ?_
      refine gfrom [(6, .bool _)] ⟨rfl, trivial⟩ fun σ => ?_
      refine gcond (b := _) rfl (fun hc6 => ?_) (fun hc6 => ?_)
      · 
        replace hc6 := of_decide_eq_true hc6
        refine gseq fun N8 hN8 => ?_
        refine greg ?_
        refine gop (y_assign (v := .int _ _) rfl) rfl rfl rfl ?_
        refine gops_nil ?_
        refine hN8 _ _ ?_
        refine gfrom [(2, .int _ _)] ⟨rfl, trivial⟩ fun σ => ?_
        refine gret fun w1 hM => ?_
        refine ⟨_, res1 rfl (rt (v := .int _ _) rfl), ?_⟩
        exact ⟨by rw [opN, if_neg (by omega), if_pos (by omega)]; rfl, hM.low⟩
      · 
        replace hc6 := of_decide_eq_false hc6
        refine gskip ?_
        refine hN2 _ _ ?_
        refine gfrom [] trivial fun σ => ?_
        refine gseq fun N9 hN9 => ?_
        refine greg ?_
        refine gop (y_assign (v := .int _ _) rfl) rfl rfl rfl ?_
        refine gops_nil ?_
        refine hN9 _ _ ?_
        refine gfrom [(2, .int _ _)] ⟨rfl, trivial⟩ fun σ => ?_
        refine gret fun w1 hM => ?_
        refine ⟨_, res1 rfl (rt (v := .int _ _) rfl), ?_⟩
        first | (exfalso; omega) | exact ⟨by rw [opN, if_neg (by omega), if_neg (by omega)]; rfl, hM.low⟩
    · 
      replace hc6 := of_decide_eq_false hc6
      refine greg ?_
      refine gop (y_eql rfl rfl) rfl rfl rfl ?_
      refine gop (y_assign (v := .bool _) rfl) rfl rfl rfl ?_
      refine gops_nil ?_
      refine hN6 _ _ ?_
      refine gfrom [(6, .bool _)] ⟨rfl, trivial⟩ fun σ => ?_
      refine gcond (b := _) rfl (fun hc6 => ?_) (fun hc6 => ?_)
      · 
        replace hc6 := of_decide_eq_true hc6
        refine gseq fun N10 hN10 => ?_
        refine greg ?_
        refine gop (y_assign (v := .int _ _) rfl) rfl rfl rfl ?_
        refine gops_nil ?_
        refine hN10 _ _ ?_
        refine gfrom [(2, .int _ _)] ⟨rfl, trivial⟩ fun σ => ?_
        refine gret fun w1 hM => ?_
        refine ⟨_, res1 rfl (rt (v := .int _ _) rfl), ?_⟩
        exact ⟨by rw [opN, if_neg (by omega), if_pos (by omega)]; rfl, hM.low⟩
      · 
        replace hc6 := of_decide_eq_false hc6
        refine gskip ?_
        refine hN2 _ _ ?_
        refine gfrom [] trivial fun σ => ?_
        refine gseq fun N11 hN11 => ?_
        refine greg ?_
        refine gop (y_assign (v := .int _ _) rfl) rfl rfl rfl ?_
        refine gops_nil ?_
        refine hN11 _ _ ?_
        refine gfrom [(2, .int _ _)] ⟨rfl, trivial⟩ fun σ => ?_
        refine gret fun w1 hM => ?_
        refine ⟨_, res1 rfl (rt (v := .int _ _) rfl), ?_⟩
        first | (exfalso; omega) | exact ⟨by rw [opN, if_neg (by omega), if_neg (by omega)]; rfl, hM.low⟩
set_option maxHeartbeats 1000000 in
theorem polMost_any (w : World) (k : Int) : Calls Tryz.prog 98 #[.int .i64 k] w fun e w' => e = .returned (.int .i64 (mostN k)) ∧ Below w.heap.size w w' := by
  refine gcalls Tryz.func98 rfl Tryz.ntmps98 (Nat.le_of_ble_eq_true rfl) ?_
  refine gfrom [(0, .int _ _)] ⟨rfl, trivial⟩ fun σ => ?_
  refine gseq fun N1 hN1 => ?_
  refine greg ?_
  refine gop (y_assign (v := .int _ _) rfl) rfl rfl rfl ?_
  refine gops_nil ?_
  refine hN1 _ _ ?_
  refine gfrom [(0, .int _ _)] ⟨rfl, trivial⟩ fun σ => ?_
  refine gseq fun N2 hN2 => ?_
  refine gseq fun N3 hN3 => ?_
  refine greg ?_
  refine gop (y_move (v := .int _ _) rfl) rfl rfl rfl ?_
  refine gops_nil ?_
  refine hN3 _ _ ?_
  refine gfrom [(3, .int _ _)] ⟨rfl, trivial⟩ fun σ => ?_
  refine gblock ?_
  refine gseq fun N4 hN4 => ?_
  refine greg ?_
  refine gop (y_eql rfl rfl) rfl rfl rfl ?_
  refine gop (y_assign (v := .bool _) rfl) rfl rfl rfl ?_
  refine gops_nil ?_
  refine hN4 _ _ ?_
  refine gfrom [(3, .int _ _), (4, .bool _)] ⟨rfl, rfl, trivial⟩ fun σ => ?_
  refine gcond (b := _) rfl (fun hc4 => ?_) (fun hc4 => ?_)
  · 
    replace hc4 := of_decide_eq_true hc4
    refine gseq fun N5 hN5 => ?_
    refine greg ?_
    refine gop (y_assign (v := .int _ _) rfl) rfl rfl rfl ?_
    refine gops_nil ?_
    refine hN5 _ _ ?_
    refine gfrom [(2, .int _ _)] ⟨rfl, trivial⟩ fun σ => ?_
    refine gret fun w1 hM => ?_
    refine ⟨_, res1 rfl (rt (v := .int _ _) rfl), ?_⟩
    exact ⟨by rw [mostN, if_pos (by omega)], hM.low⟩
  · 
    replace hc4 := of_decide_eq_false hc4
    refine gseq fun N6 hN6 => ?_
    refine greg ?_
    refine gop (y_eql rfl rfl) rfl rfl rfl ?_
    refine gop (y_assign (v := .bool _) rfl) rfl rfl rfl ?_
    refine gops_nil ?_
    refine hN6 _ _ ?_
    refine gfrom [(6, .bool _)] ⟨rfl, trivial⟩ fun σ => ?_
    refine gcond (b := _) rfl (fun hc6 => ?_) (fun hc6 => ?_)
    · 
      replace hc6 := of_decide_eq_true hc6
      refine gseq fun N7 hN7 => ?_
      refine greg ?_
      refine gop (y_assign (v := .int _ _) rfl) rfl rfl rfl ?_
      refine gops_nil ?_
      refine hN7 _ _ ?_
      refine gfrom [(2, .int _ _)] ⟨rfl, trivial⟩ fun σ => ?_
      refine gret fun w1 hM => ?_
      refine ⟨_, res1 rfl (rt (v := .int _ _) rfl), ?_⟩
      exact ⟨by rw [mostN, if_neg (by omega), if_pos (by omega)], hM.low⟩
    · 
      replace hc6 := of_decide_eq_false hc6
      refine gskip ?_
      refine hN2 _ _ ?_
      refine gfrom [] trivial fun σ => ?_
      refine gseq fun N8 hN8 => ?_
      refine greg ?_
      refine gop (y_assign (v := .int _ _) rfl) rfl rfl rfl ?_
      refine gops_nil ?_
      refine hN8 _ _ ?_
      refine gfrom [(2, .int _ _)] ⟨rfl, trivial⟩ fun σ => ?_
      refine gret fun w1 hM => ?_
      refine ⟨_, res1 rfl (rt (v := .int _ _) rfl), ?_⟩
      exact ⟨by rw [mostN, if_neg (by omega), if_neg (by omega)], hM.low⟩
end Go.Proofs.YtbkameioedmlkaaGreatDoor
namespace Go.Proofs.YtbkameioedmlkaaGreatDoor
open Go.RowKit Go.Cf
set_option maxRecDepth 10000
theorem fa43_0 (a : Addr) (w : World) : (Instr.fieldAt 43 (.pointer (some a)) 0).run Tryz.prog w = .ok (.pointer (some (a.add 0))) w := by kernel_rfl
set_option maxHeartbeats 4000000 in
theorem polDepth_any (w : World) (A : Option Addr) (c : Nat) (l : List PN) (hl : Rdl w 0 4 pnCells A l) (hlc : l.length ≤ c) (hcm : c ≤ maxLen) (hln : l.length ≤ 1000) (hpos : 0 < l.length) (hk : Linked l) : Calls Tryz.prog 68 #[.agg #[.slice A l.length c]] w fun e w' => e = .returned (.int .i64 (depL l)) ∧ Below w.heap.size w w' := by
  have hlm : l.length ≤ 9223372036854775807 := by have h9 := Nat.le_trans hlc hcm; unfold maxLen at h9; omega
  refine gcalls Tryz.func68 rfl Tryz.ntmps68 (Nat.le_of_ble_eq_true rfl) ?_
  refine gfrom [(0, .agg #[_])] ⟨rfl, trivial⟩ fun σ => ?_
  refine gseq fun N1 hN1 => ?_
  refine greg ?_
  refine gop_box (v := .agg #[_]) (cs := #[_]) rfl rfl rfl (fun b1 hb1 => ?_)
  refine gop (y_assign (v := .int _ _) rfl) rfl rfl rfl ?_
  refine gops_nil ?_
  refine hN1 _ _ ?_
  refine gT [box b1 _] rfl ?_
  refine gfrom [(1, .pointer _)] ⟨rfl, trivial⟩ fun σ => ?_
  refine gseq fun N2 hN2 => ?_
  refine greg ?_
  refine gop (y_fieldAddr_box fa43_0 rfl) rfl rfl rfl ?_
  refine gop (y_load Tryz.isAgg41 rfl (cell_box 0 rfl rfl)) rfl rfl rfl ?_
  refine gop (y_len Tryz.underlying41 rfl) rfl rfl rfl ?_
  refine gop_make (f := intCells) (bytes := 8) (z := .int .i64 0) ((0 : Int)) Tryz.underlying74 (by kernel_rfl) rfl rfl rfl (k := l.length) rfl rfl (by omega) (by simp [maxLen]; omega) rfl (fun b9 hb9 => ?_)
  refine gop (y_assign (v := .slice (some _) _ _) rfl) rfl rfl rfl ?_
  refine gops_nil ?_
  refine hN2 _ _ ?_
  refine gT [box b1 _, rowl _ _ _ _ _ _] rfl ?_
  refine gfrom [(1, .pointer _), (3, .slice (some _) _ _)] ⟨rfl, rfl, trivial⟩ fun σ => ?_
  refine gseq fun N3 hN3 => ?_
  refine gseq fun N4 hN4 => ?_
  refine greg ?_
  refine gop (y_fieldAddr_box fa43_0 rfl) rfl rfl rfl ?_
  refine gop (y_load Tryz.isAgg41 rfl (cell_box 0 rfl rfl)) rfl rfl rfl ?_
  refine gop (y_len Tryz.underlying41 rfl) rfl rfl rfl ?_
  refine gop (y_move (v := .int _ _) rfl) rfl rfl rfl ?_
  refine gops_nil ?_
  refine hN4 _ _ ?_
  refine gfrom [(3, .slice (some _) _ _), (11, .slice _ _ _), (12, .int _ _), (13, .int _ _)] ⟨rfl, rfl, rfl, rfl, trivial⟩ fun σ => ?_
  refine gblock ?_
  rw [← pad_nil l.length (0 : Int)]
  refine gfrom2 [(13, .int _ _)] [(3, .slice (some _) _ _), (11, .slice _ _ _), (12, .int _ _)] ⟨rfl, trivial⟩ ⟨rfl, rfl, rfl, trivial⟩ fun σ => ?_
  refine gloop2 (G := Nat) (fun k => k ≤ l.length) (fun k => l.length - k) (fun k => [(13, .int .i64 (k : Int))]) (fun k => [(1, rowl intCells w.heap.size 3 1 (.slice (some ⟨b9, 0, none⟩) l.length l.length) (pad 0 (foldTo dN l k) l.length))]) (0) ?h0 ⟨rfl, trivial⟩ ⟨rfl, rfl, rfl, trivial⟩ rfl ?round
  case h0 => exact Nat.zero_le _
  case round =>
    intro k hφ σ
    have hkk : k ≤ l.length := hφ
    refine gT [box b1 _, rowl _ _ _ _ _ _] rfl ?_
    refine gseq fun N5 hN5 => ?_
    refine greg ?_
    refine gop (y_lss rfl rfl) rfl rfl rfl ?_
    refine gops_nil ?_
    refine hN5 _ _ ?_
    refine gfrom [(3, .slice (some _) _ _), (11, .slice _ _ _), (12, .int _ _), (13, .int _ _), (14, .bool _)] ⟨rfl, rfl, rfl, rfl, rfl, trivial⟩ fun σ => ?_
    refine gseq fun N6 hN6 => ?_
    refine gcond (b := _) rfl (fun hc14 => ?_) (fun hc14 => ?_)
    · 
      replace hc14 := of_decide_eq_true hc14
      have hk1 : k < l.length := by omega
      obtain ⟨ad, rfl, -, hca⟩ := hl.at_ hk1
      obtain ⟨hkl, hkr⟩ := hk k hk1
      refine gskip ?_
      refine hN6 _ _ ?_
      refine gfrom [(3, .slice (some _) _ _), (11, .slice _ _ _), (12, .int _ _), (13, .int _ _)] ⟨rfl, rfl, rfl, rfl, trivial⟩ fun σ => ?_
      refine gseq fun N7 hN7 => ?_
      refine gblock ?_
      refine gseq fun N8 hN8 => ?_
      refine greg ?_
      refine gop (y_move (v := .int _ _) rfl) rfl rfl rfl ?_
      refine gop (y_indexAddr (m := k) Tryz.underlying41 Tryz.sizeOf48 rfl rfl (by omega) (by omega) (by omega)) rfl rfl rfl ?_
      refine gop (y_loads (cs := [_, _, _, _]) Tryz.isAgg48 Tryz.sizeOf48 rfl rfl (cells_base hca)) rfl rfl rfl ?_
      refine gop_alloc (cs := #[.int .i64 0, .int .i64 0, .int .i64 0, .int .i64 0]) Tryz.zeroValue48 rfl rfl (fun b5 hb5 => ?_)
      refine gop (y_assign (v := .int _ _) rfl) rfl rfl rfl ?_
      refine gop_store 2 (v := .agg #[_, _, _, _]) (cs' := #[_, _, _, _]) rfl rfl Tryz.sizeOf48 rfl rfl rfl rfl (Nat.le_of_ble_eq_true rfl) rfl rfl ?_
      refine gops_nil ?_
      refine hN8 _ _ ?_
      refine gT [box b1 _, rowl _ _ _ _ _ _, box b5 _] rfl ?_
      refine gfrom [(3, .slice (some _) _ _), (4, .int _ _), (5, .pointer _), (11, .slice _ _ _), (12, .int _ _), (13, .int _ _)] ⟨rfl, rfl, rfl, rfl, rfl, rfl, trivial⟩ fun σ => ?_
      refine gseq fun N9 hN9 => ?_
      refine greg ?_
      refine gop (y_move (v := .slice (some _) _ _) rfl) rfl rfl rfl ?_
      refine gop (y_move (v := .int _ _) rfl) rfl rfl rfl ?_
      refine gop (y_indexAddr (m := k) Tryz.underlying74 Tryz.sizeOf3 rfl rfl (by omega) (by omega) (by omega)) rfl rfl rfl ?_
      refine gop_store_row 1 (f := intCells) (l := pad 0 (foldTo dN l k) l.length) (k := k) (o := 0) (v := .int _ _) (a := (0 : Int)) (a' := (1 : Int)) (fun _ => rfl) rfl rfl rfl Tryz.sizeOf3 rfl rfl rfl rfl (pad_len (by rw [foldTo_len]; omega)).symm (pad_at (foldTo_len k) hk1) (Nat.le_of_ble_eq_true rfl) rfl rfl ?_
      refine gops_nil ?_
      refine hN9 _ _ ?_
      refine gT [box b1 _, rowl _ _ _ _ _ _, box b5 _] rfl ?_
      refine gfrom [(3, .slice (some _) _ _), (4, .int _ _), (5, .pointer _), (11, .slice _ _ _), (12, .int _ _), (13, .int _ _)] ⟨rfl, rfl, rfl, rfl, rfl, rfl, trivial⟩ fun σ => ?_
      refine gseq fun N10 hN10 => ?_
      refine gfrom [(3, .slice (some _) _ _), (4, .int _ _), (5, .pointer _), (11, .slice _ _ _), (12, .int _ _), (13, .int _ _)] ⟨rfl, rfl, rfl, rfl, rfl, rfl, trivial⟩ fun σ => ?_
      refine gcut3 (Lf := [(3, .slice (some _) _ _), (4, .int _ _), (5, .pointer _), (11, .slice _ _ _), (12, .int _ _), (13, .int _ _)]) (G := Unit) (fun g => True) (fun g => []) (fun g => [(1, rowl intCells w.heap.size 3 1 (.slice (some ⟨b9, 0, none⟩) l.length l.length) (pad 0 ((foldTo dN l k) ++ [d1 l[k] (foldTo dN l k)]) l.length))]) ⟨rfl, rfl, rfl, rfl, rfl, rfl, trivial⟩ ?_ ?_
      ·
        refine gseq fun N11 hN11 => ?_
        refine greg ?_
        refine gop (y_fieldAddr_box fa48_0 rfl) rfl rfl rfl ?_
        refine gop (y_load Tryz.isAgg3 rfl (cell_box 2 rfl rfl)) rfl rfl rfl ?_
        refine gop_pure (e_call (vs := [.int _ _]) Tryz.func67 rfl (by kernel_rfl) rfl) (fun w hM => polOps_any w _) rfl rfl rfl ?_
        refine gop (y_gtr rfl rfl) rfl rfl rfl ?_
        refine gops_nil ?_
        refine hN11 _ _ ?_
        refine gfrom [(3, .slice (some _) _ _), (4, .int _ _), (5, .pointer _), (11, .slice _ _ _), (12, .int _ _), (13, .int _ _), (24, .bool _)] ⟨rfl, rfl, rfl, rfl, rfl, rfl, rfl, trivial⟩ fun σ => ?_
        refine gcond (b := _) rfl (fun hc24 => ?_) (fun hc24 => ?_)
        · 
          replace hc24 := of_decide_eq_true hc24
          obtain ⟨hl0, hl1⟩ := hkl (by omega)
          obtain ⟨hg0, hg1⟩ := gI_range hk (Nat.le_of_lt hk1) hl0 hl1
          have hd1 : d1 l[k] (foldTo dN l k) = gI (foldTo dN l k) l[k].left + 1 := by rw [d1, if_neg (by omega)]
          refine greg ?_
          refine gop (y_move (v := .slice (some _) _ _) rfl) rfl rfl rfl ?_
          refine gop (y_move (v := .int _ _) rfl) rfl rfl rfl ?_
          refine gop (y_move (v := .slice (some _) _ _) rfl) rfl rfl rfl ?_
          refine gop (y_fieldAddr_box fa48_2 rfl) rfl rfl rfl ?_
          refine gop (y_load Tryz.isAgg3 rfl (cell_box 2 rfl rfl)) rfl rfl rfl ?_
          refine gop (y_indexAddr (m := l[k].left.toNat) Tryz.underlying74 Tryz.sizeOf3 rfl rfl (by omega) (by omega) (by omega)) rfl rfl rfl ?_
          refine gop (y_load Tryz.isAgg3 rfl (cells_rowl 1 (f := intCells) (l := (pad 0 (foldTo dN l k) l.length).set k 1) rfl (by rw [List.length_set, pad_len (by rw [foldTo_len]; omega)]) (fun _ => rfl) (by rw [List.getElem?_set_ne (by omega), pad_old (by rw [foldTo_len]; omega)]; exact gI_get (by rw [foldTo_len]; omega)) 0 _ rfl)) rfl rfl rfl ?_
          refine gop (y_add rfl rfl ⟨by omega, by omega⟩) rfl rfl rfl ?_
          refine gop (y_indexAddr (m := k) Tryz.underlying74 Tryz.sizeOf3 rfl rfl (by omega) (by omega) (by omega)) rfl rfl rfl ?_
          refine gop_store_row 1 (f := intCells) (l := (pad 0 (foldTo dN l k) l.length).set k 1) (k := k) (o := 0) (v := .int _ _) (a := (1 : Int)) (a' := _) (fun _ => rfl) rfl rfl rfl Tryz.sizeOf3 rfl rfl rfl rfl (by rw [List.length_set, pad_len (by rw [foldTo_len]; omega)]) (by rw [pad_set (foldTo_len k) hk1]; exact pad_new (foldTo_len k)) (Nat.le_of_ble_eq_true rfl) rfl rfl ?_
          refine gops_nil ?_
          rw [hd1, pad_set (foldTo_len k) hk1, pad_set2 (foldTo_len k)]
          refine gcut3_end (()) (trivial) trivial ⟨rfl, rfl, rfl, rfl, rfl, rfl, trivial⟩ ⟨_, rfl⟩
        · 
          replace hc24 := of_decide_eq_false hc24
          have hd1 : d1 l[k] (foldTo dN l k) = 1 := by rw [d1, if_pos (by omega)]
          refine gskip ?_
          rw [hd1, pad_set (foldTo_len k) hk1]
          refine gcut3_end (()) (trivial) trivial ⟨rfl, rfl, rfl, rfl, rfl, rfl, trivial⟩ ⟨_, rfl⟩
      ·
        intro g hcut σ
        refine hN10 _ _ ?_
        refine gseq fun N12 hN12 => ?_
        refine greg ?_
        refine gop (y_fieldAddr_box fa48_0 rfl) rfl rfl rfl ?_
        refine gop (y_load Tryz.isAgg3 rfl (cell_box 2 rfl rfl)) rfl rfl rfl ?_
        refine gop_pure (e_call (vs := [.int _ _]) Tryz.func67 rfl (by kernel_rfl) rfl) (fun w hM => polOps_any w _) rfl rfl rfl ?_
        refine gop (y_gtr rfl rfl) rfl rfl rfl ?_
        refine gops_nil ?_
        refine hN12 _ _ ?_
        refine gT [box b1 _, rowl _ _ _ _ _ _, box b5 _] rfl ?_
        refine gfrom [(3, .slice (some _) _ _), (4, .int _ _), (5, .pointer _), (11, .slice _ _ _), (12, .int _ _), (13, .int _ _), (37, .bool _)] ⟨rfl, rfl, rfl, rfl, rfl, rfl, rfl, trivial⟩ fun σ => ?_
        refine gcond (b := _) rfl (fun hc37 => ?_) (fun hc37 => ?_)
        · 
          replace hc37 := of_decide_eq_true hc37
          obtain ⟨hr0, hr1⟩ := hkr (by omega)
          obtain ⟨hh0, hh1⟩ := gI_range hk (Nat.le_of_lt hk1) hr0 hr1
          have hdN : dN (nAt l k) (foldTo dN l k) = max (d1 l[k] (foldTo dN l k)) (gI (foldTo dN l k) l[k].right + 1) := by rw [nAt_at hk1]; exact dN_two (by omega)
          refine greg_e0 [14] (by kernel_rfl) ?_
          refine ge_take 0 (TK := [box b1 _, rowl _ _ _ _ _ _, box b5 _]) rfl (by kernel_rfl) (by kernel_rfl) (by kernel_rfl) #[false, true, true, true, true, true, true, true, true, true, true, true, true, false, false] (by kernel_rfl) rfl (y_move (v := .slice (some _) _ _) rfl) rfl rfl rfl (weak_refl) (listed' := #[true, false, false, false, false, false, false, false, false, false, false, false, false, false, false]) rfl ?_
          refine ge_take 1 (TK := [box b1 _, rowl _ _ _ _ _ _, box b5 _]) rfl (by kernel_rfl) (by kernel_rfl) (by kernel_rfl) #[true, false, true, true, true, true, true, true, true, true, true, true, true, false, false] (by kernel_rfl) rfl (y_move (v := .int _ _) rfl) rfl rfl rfl (weak_refl) (listed' := #[true, true, false, false, false, false, false, false, false, false, false, false, false, false, false]) rfl ?_
          refine ge_take 2 (TK := [box b1 _, rowl _ _ _ _ _ _, box b5 _]) rfl (by kernel_rfl) (by kernel_rfl) (by kernel_rfl) #[true, true, false, true, false, false, true, true, true, true, true, true, false, false, false] (by kernel_rfl) rfl (y_move (v := .slice (some _) _ _) rfl) rfl rfl rfl (weak_refl) (listed' := #[true, true, true, false, false, false, false, false, false, false, false, false, false, false, false]) rfl ?_
          refine ge_take 3 (TK := [box b1 _, rowl _ _ _ _ _ _, box b5 _]) rfl (by kernel_rfl) (by kernel_rfl) (by kernel_rfl) #[true, true, true, false, false, false, true, true, true, true, true, true, false, false, false] (by kernel_rfl) rfl (y_move (v := .int _ _) rfl) rfl rfl rfl (weak_refl) (listed' := #[true, true, true, true, false, false, false, false, false, false, false, false, false, false, false]) rfl ?_
          refine ge_take 4 (TK := [box b1 _, rowl _ _ _ _ _ _, box b5 _]) rfl (by kernel_rfl) (by kernel_rfl) (by kernel_rfl) #[true, true, true, true, false, false, true, true, true, true, true, true, false, false, false] (by kernel_rfl) rfl (y_indexAddr (m := k) Tryz.underlying74 Tryz.sizeOf3 rfl rfl (by omega) (by omega) (by omega)) rfl rfl rfl (weak_refl) (listed' := #[true, true, true, true, true, false, false, false, false, false, false, false, false, false, false]) rfl ?_
          refine ge_take 5 (TK := [box b1 _, rowl _ _ _ _ _ _, box b5 _]) rfl (by kernel_rfl) (by kernel_rfl) (by kernel_rfl) #[true, true, true, true, true, false, true, true, true, true, true, true, false, false, false] (by kernel_rfl) rfl (y_load Tryz.isAgg3 rfl (cells_rowl 1 (f := intCells) (l := pad 0 ((foldTo dN l k) ++ [d1 l[k] (foldTo dN l k)]) l.length) rfl (by rw [pad_len (by simp [foldTo_len]; omega)]) (fun _ => rfl) (pad_new (foldTo_len k)) 0 _ rfl)) rfl rfl rfl (weak_refl) (listed' := #[true, true, true, true, true, true, false, false, false, false, false, false, false, false, false]) rfl ?_
          refine ge_take 6 (TK := [box b1 _, rowl _ _ _ _ _ _, box b5 _]) rfl (by kernel_rfl) (by kernel_rfl) (by kernel_rfl) #[true, true, true, true, true, true, false, true, true, false, false, false, false, false, false] (by kernel_rfl) rfl (y_move (v := .slice (some _) _ _) rfl) rfl rfl rfl (weak_refl) (listed' := #[true, true, true, true, true, true, true, false, false, false, false, false, false, false, false]) rfl ?_
          refine ge_take 7 (TK := [box b1 _, rowl _ _ _ _ _ _, box b5 _]) rfl (by kernel_rfl) (by kernel_rfl) (by kernel_rfl) #[true, true, true, true, true, true, true, false, false, false, false, false, false, false, false] (by kernel_rfl) rfl (y_fieldAddr_box fa48_3 rfl) rfl rfl rfl (weak_refl) (listed' := #[true, true, true, true, true, true, true, true, false, false, false, false, false, false, false]) rfl ?_
          refine ge_take 8 (TK := [box b1 _, rowl _ _ _ _ _ _, box b5 _]) rfl (by kernel_rfl) (by kernel_rfl) (by kernel_rfl) #[true, true, true, true, true, true, true, true, false, false, false, false, false, false, false] (by kernel_rfl) rfl (y_load Tryz.isAgg3 rfl (cell_box 2 rfl rfl)) rfl rfl rfl (weak_refl) (listed' := #[true, true, true, true, true, true, true, true, true, false, false, false, false, false, false]) rfl ?_
          refine ge_take 9 (TK := [box b1 _, rowl _ _ _ _ _ _, box b5 _]) rfl (by kernel_rfl) (by kernel_rfl) (by kernel_rfl) #[true, true, true, true, true, true, true, true, true, false, false, false, false, false, false] (by kernel_rfl) rfl (y_indexAddr (m := l[k].right.toNat) Tryz.underlying74 Tryz.sizeOf3 rfl rfl (by omega) (by omega) (by omega)) rfl rfl rfl (weak_refl) (listed' := #[true, true, true, true, true, true, true, true, true, true, false, false, false, false, false]) rfl ?_
          refine ge_take 10 (TK := [box b1 _, rowl _ _ _ _ _ _, box b5 _]) rfl (by kernel_rfl) (by kernel_rfl) (by kernel_rfl) #[true, true, true, true, true, true, true, true, true, true, false, false, false, false, false] (by kernel_rfl) rfl (y_load Tryz.isAgg3 rfl (cells_rowl 1 (f := intCells) (l := pad 0 ((foldTo dN l k) ++ [d1 l[k] (foldTo dN l k)]) l.length) rfl (by rw [pad_len (by simp [foldTo_len]; omega)]) (fun _ => rfl) (by rw [pad_old (by simp [foldTo_len]; omega), List.getElem?_append_left (by rw [foldTo_len]; omega)]; exact gI_get (by rw [foldTo_len]; omega)) 0 _ rfl)) rfl rfl rfl (weak_refl) (listed' := #[true, true, true, true, true, true, true, true, true, true, true, false, false, false, false]) rfl ?_
          refine ge_take 11 (TK := [box b1 _, rowl _ _ _ _ _ _, box b5 _]) rfl (by kernel_rfl) (by kernel_rfl) (by kernel_rfl) #[true, true, true, true, true, true, true, true, true, true, true, false, false, false, false] (by kernel_rfl) rfl (y_add rfl rfl ⟨by omega, by omega⟩) rfl rfl rfl (weak_refl) (listed' := #[true, true, true, true, true, true, true, true, true, true, true, true, false, false, false]) rfl ?_
          refine ge_take 12 (TK := [box b1 _, rowl _ _ _ _ _ _, box b5 _]) rfl (by kernel_rfl) (by kernel_rfl) (by kernel_rfl) #[true, true, true, true, true, true, true, true, true, true, true, true, false, false, false] (by kernel_rfl) rfl (y_max rfl rfl) rfl rfl rfl (weak_refl) (listed' := #[true, true, true, true, true, true, true, true, true, true, true, true, true, false, false]) rfl ?_
          refine ge_take 13 (TK := [box b1 _, rowl _ _ _ _ _ _, box b5 _]) rfl (by kernel_rfl) (by kernel_rfl) (by kernel_rfl) #[true, true, true, true, true, true, true, true, true, true, true, true, true, false, false] (by kernel_rfl) rfl (y_indexAddr (m := k) Tryz.underlying74 Tryz.sizeOf3 rfl rfl (by omega) (by omega) (by omega)) rfl rfl rfl (weak_refl) (listed' := #[true, true, true, true, true, true, true, true, true, true, true, true, true, true, false]) rfl ?_
          refine ge_one 14 (k' := 1) (listed' := #[true, true, true, true, true, true, true, true, true, true, true, true, true, true, true]) (by kernel_rfl) rfl rfl rfl ?_
          refine gop_store_row 1 (f := intCells) (l := pad 0 ((foldTo dN l k) ++ [d1 l[k] (foldTo dN l k)]) l.length) (k := k) (o := 0) (v := .int _ _) (a := d1 l[k] (foldTo dN l k)) (a' := _) (fun _ => rfl) rfl rfl rfl Tryz.sizeOf3 rfl rfl rfl rfl (by rw [pad_len (by simp [foldTo_len]; omega)]) (pad_new (foldTo_len k)) (Nat.le_of_ble_eq_true rfl) rfl rfl ?_
          refine gops_nil ?_
          refine ge_fin (TK := []) rfl (weak_nil) ?_
          refine ge_done (by kernel_rfl) ?_
          refine hN7 _ _ ?_
          refine gT [box b1 _, rowl _ _ _ _ _ _, box b5 _] rfl ?_
          refine gfrom [(3, .slice (some _) _ _), (11, .slice _ _ _), (12, .int _ _), (13, .int _ _)] ⟨rfl, rfl, rfl, rfl, trivial⟩ fun σ => ?_
          refine greg ?_
          refine gop (y_add rfl rfl ⟨by omega, by omega⟩) rfl rfl rfl ?_
          refine gop (y_move (v := .int _ _) rfl) rfl rfl rfl ?_
          refine gops_nil ?_
          rw [pad_set2 (foldTo_len k), ← hdN]
          refine gnext2 (k + 1) (by omega) (show k + 1 ≤ _ by omega) ⟨rfl, trivial⟩ ⟨rfl, rfl, rfl, trivial⟩ ⟨_, rfl⟩
        · 
          replace hc37 := of_decide_eq_false hc37
          have hdN : dN (nAt l k) (foldTo dN l k) = d1 l[k] (foldTo dN l k) := by rw [nAt_at hk1]; exact dN_one (by omega)
          refine gskip ?_
          refine hN7 _ _ ?_
          refine gfrom [(3, .slice (some _) _ _), (11, .slice _ _ _), (12, .int _ _), (13, .int _ _)] ⟨rfl, rfl, rfl, rfl, trivial⟩ fun σ => ?_
          refine greg ?_
          refine gop (y_add rfl rfl ⟨by omega, by omega⟩) rfl rfl rfl ?_
          refine gop (y_move (v := .int _ _) rfl) rfl rfl rfl ?_
          refine gops_nil ?_
          rw [← hdN]
          refine gnext2 (k + 1) (by omega) (show k + 1 ≤ _ by omega) ⟨rfl, trivial⟩ ⟨rfl, rfl, rfl, trivial⟩ ⟨_, rfl⟩
    · 
      replace hc14 := of_decide_eq_false hc14
      refine gexit ?_
      refine hN3 _ _ ?_
      refine gfrom [(3, .slice (some _) _ _)] ⟨rfl, trivial⟩ fun σ => ?_
      refine gseq fun N13 hN13 => ?_
      refine greg ?_
      refine gop (y_move (v := .slice (some _) _ _) rfl) rfl rfl rfl ?_
      refine gop (y_move (v := .slice (some _) _ _) rfl) rfl rfl rfl ?_
      refine gop (y_len Tryz.underlying74 rfl) rfl rfl rfl ?_
      refine gop (y_sub rfl rfl ⟨by omega, by omega⟩) rfl rfl rfl ?_
      refine gop (y_indexAddr (m := l.length - 1) Tryz.underlying74 Tryz.sizeOf3 rfl rfl (by omega) (by omega) (by omega)) rfl rfl rfl ?_
      refine gop (y_load Tryz.isAgg3 rfl (cells_rowl 1 (f := intCells) (l := pad 0 (foldTo dN l k) l.length) rfl (by rw [pad_len (by rw [foldTo_len]; omega)]) (fun _ => rfl) (by rw [pad_old (by rw [foldTo_len]; omega), foldTo_get _ _ (by omega)]) 0 _ rfl)) rfl rfl rfl ?_
      refine gop (y_assign (v := .int _ _) rfl) rfl rfl rfl ?_
      refine gops_nil ?_
      refine hN13 _ _ ?_
      refine gfrom [(2, .int _ _)] ⟨rfl, trivial⟩ fun σ => ?_
      refine gret fun w1 hM => ?_
      refine ⟨_, res1 rfl (rt (v := .int _ _) rfl), ?_⟩
      exact ⟨rfl, hM.low⟩
end Go.Proofs.YtbkameioedmlkaaGreatDoor
namespace Go.Cf
open Go.RowKit
def AtoiEnd (s : ByteArray) (n : Int) (er : Value) (b : Bool) : Prop := (er = .nilIface ∧ b = false ∧ Lib.atoiAll s.data.toList = .ok n) ∨ ((∃ t p, er = .iface t p) ∧ b = true ∧ numV s = none)
theorem AtoiEnd.ok {s : ByteArray} {n : Int} {er : Value} {b : Bool} (h : AtoiEnd s n er b) (hb : b = false) : Lib.atoiAll s.data.toList = .ok n := by
  rcases h with ⟨_, _, h⟩ | ⟨_, h, _⟩
  · exact h
  · rw [h] at hb; cases hb
theorem num_bad {s : ByteArray} {n : Int} {er : Value} {b : Bool} (h : AtoiEnd s n er b) (hb : b = true ∨ baL (Lib.itoa n) ≠ s) : numV s = none := by
  rcases h with ⟨_, h1, h2⟩ | ⟨_, _, h2⟩
  · rcases hb with hb | hb
    · rw [h1] at hb; cases hb
    · rw [numV, h2]
      exact if_neg (fun h9 => hb (by rw [h9]; rfl))
  · exact h2
theorem num_good {s : ByteArray} {n : Int} {er : Value} {b : Bool} (h : AtoiEnd s n er b) (hb : b = false) (h2 : baL (Lib.itoa n) = s) : numV s = some n := by
  rw [numV, h.ok hb]
  exact if_pos (by rw [← h2, baL_data])
theorem mem_nil {w w' : World} (h : Below w.heap.size w w') : Mem w [] w' := ⟨h, by simp, by simp, by simp, List.Pairwise.nil⟩
section
variable {P : Program} {w0 : World} {T : List Reg} {ρ : Env} {dst : Option Tmp} {ty t yt : TypeId} {pos : String} {af : Array Edge} {gd : Option (Nat × Bool)} {x y : Operand}
theorem y_errne {y' : Value} {s : ByteArray} {n : Int} {er : Value} {b : Bool} (ht : P.isIface t = true) (h : AtoiEnd s n er b) (hx : ev ρ x = er) (hy : ev ρ (.const y') = .nilIface) : Yield P w0 T ρ ⟨dst, .binOp .neq t x (.const y') yt, ty, pos, af, gd⟩ (.bool b) := fun w _ => by
  rcases h with ⟨rfl, rfl, _⟩ | ⟨⟨te, pe, rfl⟩, rfl, _⟩
  · have h9 := run_neq_nil_nil_at (P := P) w t ht
    simp [execOp, go_sem, hx, hy, h9]
  · have h9 := run_neq_iface_nil (P := P) w t ht te pe
    simp [execOp, go_sem, hx, hy, h9]
end
theorem var_below {P : Program} {B g : Nat} {w w' : World} {n : String} {cs : Array Value} (h : Below B w w') (hg : P.globalNamed n = some g) (hgB : g < B) (hv : w.var? P n = some cs) : w'.var? P n = some cs := by
  unfold World.var? at hv ⊢
  simp only [hg, Option.bind_some] at hv ⊢
  rw [h.block g hgB]
  exact hv
end Go.Cf
namespace Go.Proofs.YtbkameioedmlkaaGreatDoor
open Go.RowKit Go.Cf
structure LaidP (w : World) : Prop where
  tab : Lib.TabIs Tryz.prog w "internal/strconv.uint64pow10" .u64 Lib.pow10Tab
  syn : ∃ te pe, w.cell? ⟨3, 0, none⟩ = some (.iface te pe)
  rng : ∃ te pe, w.cell? ⟨4, 0, none⟩ = some (.iface te pe)
  size : 6 ≤ w.heap.size
theorem LaidP.below {w w' : World} {B : Nat} (h : LaidP w) (hb : Below B w w') (hB : 6 ≤ B) : LaidP w' := by
  obtain ⟨te, pe, h1⟩ := h.syn
  obtain ⟨tr, pr, h2⟩ := h.rng
  refine ⟨?_, ⟨te, pe, ?_⟩, ⟨tr, pr, ?_⟩, Nat.le_trans h.size hb.size⟩
  · have hg : Tryz.prog.globalNamed "internal/strconv.uint64pow10" = some 5 := by kernel_rfl
    exact var_below hb hg (by omega) h.tab
  · rw [hb.cell (by show 3 < B; omega)]; exact h1
  · rw [hb.cell (by show 4 < B; omega)]; exact h2
theorem LaidP.base {w0 w : World} {T : List Reg} (h : LaidP w0) (hM : Mem w0 T w) : LaidP w := h.below hM.low h.size
theorem itoa_any (w : World) (n : Int) (h0 : -9223372036854775808 ≤ n) (h1 : n ≤ 9223372036854775807) (hL : LaidP w) : Calls Tryz.prog 144 #[.int .i64 n] w fun e w' => e = .returned (.string (baL (Lib.itoa n))) ∧ Below w.heap.size w w' :=
  (Tryz.strconv_Itoa n h0 h1 w hL.tab).mono fun _ _ ⟨h1, k, os, h2⟩ => ⟨h1, by rw [h2]; exact Lib.below_grow _ w (Nat.le_refl _) k os⟩
theorem atoi_any (w : World) (s : ByteArray) (hs : s.size ≤ 4000000) (hL : LaidP w) : Calls Tryz.prog 143 #[.string s] w fun e w' => ∃ n er b, e = .returned (.tuple #[.int .i64 n, er]) ∧ AtoiEnd s n er b ∧ Below w.heap.size w w' := by
  rcases h : Lib.atoiAll s.data.toList with v | _ | _
  ·
    refine (Tryz.strconv_Atoi_ok s (by omega) v h w).mono fun _ _ ⟨h1, h2⟩ => ⟨_, _, false, h1, .inl ⟨rfl, rfl, h⟩, ?_⟩
    rcases h2 with rfl | ⟨t, rfl⟩
    · exact Below.refl _ _
    · exact Lib.bytesWorld_below _ _ _
  ·
    obtain ⟨te, pe, hv⟩ := hL.syn
    exact (Tryz.strconv_Atoi_syntax s (by omega) h _ w hv (.inr ⟨te, pe, rfl⟩)).mono fun _ _ ⟨N, h1, _, _, h2⟩ => ⟨_, _, true, h1, .inr ⟨⟨_, _, rfl⟩, rfl, by rw [numV, h]⟩, h2⟩
  ·
    obtain ⟨te, pe, hv⟩ := hL.rng
    exact (Tryz.strconv_Atoi_range s (by omega) h _ w hv (.inr ⟨te, pe, rfl⟩)).mono fun _ _ ⟨N, h1, _, _, h2⟩ => ⟨_, _, true, h1, .inr ⟨⟨_, _, rfl⟩, rfl, by rw [numV, h]⟩, h2⟩
end Go.Proofs.YtbkameioedmlkaaGreatDoor
namespace Go.Proofs.YtbkameioedmlkaaGreatDoor
open Go.RowKit Go.Cf
set_option maxRecDepth 10000
theorem fa122_0 (a : Addr) (w : World) : (Instr.fieldAt 122 (.pointer (some a)) 0).run Tryz.prog w = .ok (.pointer (some (a.add 0))) w := by kernel_rfl
theorem el48 : Elem Tryz.prog 48 4 32 := elem_of (z := .agg #[.int .i64 0, .int .i64 0, .int .i64 0, .int .i64 0]) (by kernel_rfl) rfl (by decide)
theorem bd43_0 (x1 : Option Addr) (x1l x1c : Nat) : Tryz.prog.built 43 [(0, .slice x1 x1l x1c)] = some #[.slice x1 x1l x1c] := by kernel_rfl
theorem bd43_  : Tryz.prog.built 43 [] = some #[.slice none 0 0] := by kernel_rfl
set_option maxHeartbeats 4000000 in
theorem polMade1_any (w : World) (bg bc : Nat) (B : Option Addr) (t : Tr) (hto : t.ok) (hsz : t.size ≤ 1000) (hcell : w.cell? ⟨bg, 0, none⟩ = some (.slice B (post t 0).length bc)) (hrd : Rdl w 0 4 pnCells B (post t 0)) (hlc : (post t 0).length ≤ bc) (hcm : bc ≤ maxLen) : Calls Tryz.prog 57 #[.pointer (some ⟨bg, 0, none⟩)] w fun e w' => e = .returned (.tuple #[.agg #[.slice (if 24 < (t).size ∨ 12 < (t).depth then none else B) (if 24 < (t).size ∨ 12 < (t).depth then 0 else (post t 0).length) (if 24 < (t).size ∨ 12 < (t).depth then 0 else bc)], fv (madeR t).1]) ∧ Below w.heap.size w w' := by
  have hpl := post_len t 0
  have hps := t.pos
  have hdd := depL_post hto
  refine gcalls Tryz.func57 rfl Tryz.ntmps57 (Nat.le_of_ble_eq_true rfl) ?_
  refine gfrom [(0, .pointer (some ⟨bg, 0, none⟩))] ⟨rfl, trivial⟩ fun σ => ?_
  refine gseq fun N1 hN1 => ?_
  refine greg ?_
  refine gop_alloc (cs := #[.slice none 0 0]) Tryz.zeroValue43 rfl rfl (fun b2 hb2 => ?_)
  refine gop_alloc (cs := #[.int .i64 0, .int .i64 0]) Tryz.zeroValue33 rfl rfl (fun b3 hb3 => ?_)
  refine gops_nil ?_
  refine hN1 _ _ ?_
  refine gT [box b2 _, box b3 _] rfl ?_
  refine gfrom [(0, .pointer (some ⟨bg, 0, none⟩)), (2, .pointer _), (3, .pointer _)] ⟨rfl, rfl, rfl, trivial⟩ fun σ => ?_
  refine gseq fun N2 hN2 => ?_
  refine greg ?_
  refine gop (y_move (v := .pointer (some ⟨bg, 0, none⟩)) rfl) rfl rfl rfl ?_
  refine gop (y_nilCheck rfl) rfl rfl rfl ?_
  refine gop (y_fieldAddr_box fa122_0 rfl) rfl rfl rfl ?_
  refine gop (y_load Tryz.isAgg41 rfl (cell_base hcell)) rfl rfl rfl ?_
  refine gop (y_build (vs := [(0, .slice _ _ _)]) (cells := #[_]) rfl (bd43_0 _ _ _)) rfl rfl rfl ?_
  refine gop_alloc (cs := #[.slice none 0 0]) Tryz.zeroValue43 rfl rfl (fun b4 hb4 => ?_)
  refine gop_store 2 (v := .agg #[_]) (cs' := #[_]) rfl rfl Tryz.sizeOf43 rfl rfl rfl rfl (Nat.le_of_ble_eq_true rfl) rfl rfl ?_
  refine gops_nil ?_
  refine hN2 _ _ ?_
  refine gT [box b2 _, box b3 _, box b4 _] rfl ?_
  refine gfrom [(2, .pointer _), (3, .pointer _), (4, .pointer _)] ⟨rfl, rfl, rfl, trivial⟩ fun σ => ?_
  refine gseq fun N3 hN3 => ?_
  refine gseq fun N4 hN4 => ?_
  refine greg ?_
  refine gop (y_fieldAddr_box fa43_0 rfl) rfl rfl rfl ?_
  refine gop (y_load Tryz.isAgg41 rfl (cell_box 2 rfl rfl)) rfl rfl rfl ?_
  refine gop (y_len Tryz.underlying41 rfl) rfl rfl rfl ?_
  refine gop (y_gtr rfl rfl) rfl rfl rfl ?_
  refine gop (y_move (v := .bool _) rfl) rfl rfl rfl ?_
  refine gop_if (want := false) rfl rfl rfl rfl rfl rfl (fun hg14 => ?_) (fun hg14 => ?_)
  · 
    have hg14d := of_decide_eq_false hg14
    refine gop (y_bare (y_loads (cs := [_]) Tryz.isAgg43 Tryz.sizeOf43 rfl rfl (cells_box 2 rfl))) rfl rfl rfl ?_
    refine gop_on rfl rfl rfl rfl hg14 ?_
    refine gop_pure (e_call (vs := [.agg #[_]]) Tryz.func68 rfl (by kernel_rfl) rfl) (fun w hM => polDepth_any w B bc (post t 0) (hrd.base hM) hlc hcm (by omega) (by omega) (linked_post hto)) rfl rfl rfl ?_
    refine gop_on rfl rfl rfl rfl hg14 ?_
    refine gop (y_bare (y_gtr rfl rfl)) rfl rfl rfl ?_
    refine gop (y_pick_f (v := .bool _) rfl hg14 rfl) rfl rfl rfl ?_
    refine gops_nil ?_
    refine hN4 _ _ ?_
    refine gfrom [(2, .pointer _), (3, .pointer _), (4, .pointer _), (18, .bool _)] ⟨rfl, rfl, rfl, rfl, trivial⟩ fun σ => ?_
    refine gcond (b := _) rfl (fun hc18 => ?_) (fun hc18 => ?_)
    · 
      replace hc18 := of_decide_eq_true hc18
      have hB : 24 < t.size ∨ 12 < t.depth := by omega
      have hF : (madeR t).1 = ⟨10, -1⟩ := by rw [madeR, if_pos hB]
      refine gseq fun N5 hN5 => ?_
      refine greg ?_
      refine gop (y_build (vs := []) (cells := #[.slice none 0 0]) rfl bd43_) rfl rfl rfl ?_
      refine gop (y_build (vs := [(0, _), (1, _)]) (cells := #[_, _]) rfl (bd33_0_1 _ _)) rfl rfl rfl ?_
      refine gop_store 0 (v := .agg #[_]) (cs' := #[_]) rfl rfl Tryz.sizeOf43 rfl rfl rfl rfl (Nat.le_of_ble_eq_true rfl) rfl rfl ?_
      refine gop_store 1 (v := .agg #[_, _]) (cs' := #[_, _]) rfl rfl Tryz.sizeOf33 rfl rfl rfl rfl (Nat.le_of_ble_eq_true rfl) rfl rfl ?_
      refine gops_nil ?_
      refine hN5 _ _ ?_
      refine gT [box b2 _, box b3 _, box b4 _] rfl ?_
      refine gfrom [(2, .pointer _), (3, .pointer _)] ⟨rfl, rfl, trivial⟩ fun σ => ?_
      refine gret fun w1 hM => ?_
      refine ⟨_, res2 rfl (rc 0 (cs := [_]) hM rfl rfl Tryz.isAgg43 Tryz.sizeOf43 rfl) (rc 1 (cs := [_, _]) hM rfl rfl Tryz.isAgg33 Tryz.sizeOf33 rfl), ?_⟩
      exact ⟨by rw [hF]; first | (simp only [if_pos hB]; done) | (simp only [if_neg hB]; done), hM.low⟩
    · 
      replace hc18 := of_decide_eq_false hc18
      have hB : ¬ (24 < t.size ∨ 12 < t.depth) := by omega
      have hF : (madeR t).1 = ⟨0, 0⟩ := by rw [madeR, if_neg hB]
      refine gskip ?_
      refine hN3 _ _ ?_
      refine gfrom [(2, .pointer _), (3, .pointer _), (4, .pointer _)] ⟨rfl, rfl, rfl, trivial⟩ fun σ => ?_
      refine gseq fun N6 hN6 => ?_
      refine greg ?_
      refine gop (y_loads (cs := [_]) Tryz.isAgg43 Tryz.sizeOf43 rfl rfl (cells_box 2 rfl)) rfl rfl rfl ?_
      refine gop (y_build (vs := []) (cells := #[.int .i64 0, .int .i64 0]) rfl bd33_) rfl rfl rfl ?_
      refine gop_store 0 (v := .agg #[_]) (cs' := #[_]) rfl rfl Tryz.sizeOf43 rfl rfl rfl rfl (Nat.le_of_ble_eq_true rfl) rfl rfl ?_
      refine gop_store 1 (v := .agg #[_, _]) (cs' := #[_, _]) rfl rfl Tryz.sizeOf33 rfl rfl rfl rfl (Nat.le_of_ble_eq_true rfl) rfl rfl ?_
      refine gops_nil ?_
      refine hN6 _ _ ?_
      refine gT [box b2 _, box b3 _, box b4 _] rfl ?_
      refine gfrom [(2, .pointer _), (3, .pointer _)] ⟨rfl, rfl, trivial⟩ fun σ => ?_
      refine gret fun w1 hM => ?_
      refine ⟨_, res2 rfl (rc 0 (cs := [_]) hM rfl rfl Tryz.isAgg43 Tryz.sizeOf43 rfl) (rc 1 (cs := [_, _]) hM rfl rfl Tryz.isAgg33 Tryz.sizeOf33 rfl), ?_⟩
      exact ⟨by rw [hF]; first | (simp only [if_pos hB]; done) | (simp only [if_neg hB]; done), hM.low⟩
  · 
    have hg14d := of_decide_eq_true hg14
    refine gop_off rfl rfl rfl rfl hg14 rfl rfl ?_
    refine gop_off rfl rfl rfl rfl hg14 rfl rfl ?_
    refine gop (y_pick_t (v := .bool _) rfl hg14 rfl) rfl rfl rfl ?_
    refine gops_nil ?_
    refine hN4 _ _ ?_
    refine gfrom [(2, .pointer _), (3, .pointer _), (4, .pointer _), (18, .bool _)] ⟨rfl, rfl, rfl, rfl, trivial⟩ fun σ => ?_
    refine gcond (b := _) rfl (fun hc18 => ?_) (fun hc18 => ?_)
    · 
      have hB : 24 < t.size ∨ 12 < t.depth := by omega
      have hF : (madeR t).1 = ⟨10, -1⟩ := by rw [madeR, if_pos hB]
      refine gseq fun N7 hN7 => ?_
      refine greg ?_
      refine gop (y_build (vs := []) (cells := #[.slice none 0 0]) rfl bd43_) rfl rfl rfl ?_
      refine gop (y_build (vs := [(0, _), (1, _)]) (cells := #[_, _]) rfl (bd33_0_1 _ _)) rfl rfl rfl ?_
      refine gop_store 0 (v := .agg #[_]) (cs' := #[_]) rfl rfl Tryz.sizeOf43 rfl rfl rfl rfl (Nat.le_of_ble_eq_true rfl) rfl rfl ?_
      refine gop_store 1 (v := .agg #[_, _]) (cs' := #[_, _]) rfl rfl Tryz.sizeOf33 rfl rfl rfl rfl (Nat.le_of_ble_eq_true rfl) rfl rfl ?_
      refine gops_nil ?_
      refine hN7 _ _ ?_
      refine gT [box b2 _, box b3 _, box b4 _] rfl ?_
      refine gfrom [(2, .pointer _), (3, .pointer _)] ⟨rfl, rfl, trivial⟩ fun σ => ?_
      refine gret fun w1 hM => ?_
      refine ⟨_, res2 rfl (rc 0 (cs := [_]) hM rfl rfl Tryz.isAgg43 Tryz.sizeOf43 rfl) (rc 1 (cs := [_, _]) hM rfl rfl Tryz.isAgg33 Tryz.sizeOf33 rfl), ?_⟩
      exact ⟨by rw [hF]; first | (simp only [if_pos hB]; done) | (simp only [if_neg hB]; done), hM.low⟩
    · 
      cases hc18
end Go.Proofs.YtbkameioedmlkaaGreatDoor
namespace Go.Cf
open Go.RowKit
theorem byteAtP_lt (s : ByteArray) (j : Nat) : byteAt s j < 256 := (s.data.toList[j]?.getD 0).toNat_lt
theorem sep_idx (s : ByteArray) (j : Nat) : firstIdx ⟨#[32, 40, 41]⟩ (((byteAt s j : Nat) : Int).toNat.toUInt8) < 0 ↔ woB s j = true := by
  have h1 := firstIdx_nonneg ⟨#[32, 40, 41]⟩ (((byteAt s j : Nat) : Int).toNat.toUInt8)
  obtain ⟨c, hc⟩ : ∃ c, ((byteAt s j : Nat) : Int).toNat.toUInt8 = c := ⟨_, rfl⟩
  have hb : c.toNat = byteAt s j := by
    rw [← hc, Int.toNat_natCast]
    show (UInt8.ofNat (byteAt s j)).toNat = _
    rw [UInt8.toNat_ofNat']
    have := byteAtP_lt s j
    omega
  rw [hc] at h1 ⊢
  have e : (([32, 40, 41] : List UInt8).any (· == c)) = !woB s j := by
    have q : ∀ d : UInt8, (d == c) = decide (d.toNat = byteAt s j) := fun d => by
      rw [← hb]
      by_cases h : d = c
      · subst h; simp
      · rw [beq_eq_false_iff_ne.2 h]
        exact (decide_eq_false (fun h2 => h (UInt8.toNat_inj.1 h2))).symm
    simp only [List.any_cons, List.any_nil, q, woB]
    have e1 : (32 : UInt8).toNat = 32 := rfl
    have e2 : (40 : UInt8).toNat = 40 := rfl
    have e3 : (41 : UInt8).toNat = 41 := rfl
    rw [e1, e2, e3]
    by_cases a1 : byteAt s j = 32 <;> by_cases a2 : byteAt s j = 40 <;> by_cases a3 : byteAt s j = 41 <;> simp_all <;> omega
  have h2 : decide (0 ≤ firstIdx ⟨#[32, 40, 41]⟩ c) = !woB s j := h1.trans e
  constructor
  · intro h
    have : decide (0 ≤ firstIdx ⟨#[32, 40, 41]⟩ c) = false := decide_eq_false (by omega)
    rw [this] at h2
    simpa using h2.symm
  · intro h
    rw [h] at h2
    have := of_decide_eq_false h2
    omega
structure RS (s : ByteArray) (at_ : Nat) (ts : List Tk) : Prop where
  ts : ts = tks s at_
  sk : skipW s at_ = at_
  le : at_ ≤ s.size
section
variable {s : ByteArray} {a : Nat} {ts : List Tk}
theorem RS.hd (h : RS s a ts) : s.extract a (nextW s a) = hd ts := by
  rw [h.ts]
  by_cases h1 : a < s.size
  · rw [tks_cons (by rw [h.sk]; exact h1), h.sk]; rfl
  · have : a = s.size := by have := h.le; omega
    rw [tks_nil (by rw [h.sk]; exact h1), this, next_end]
    show s.extract s.size s.size = ⟨#[]⟩
    apply ByteArray.ext
    simp
theorem RS.pos (h : RS s a ts) : pos s.size ts = a := by
  rw [h.ts]
  by_cases h1 : a < s.size
  · rw [tks_cons (by rw [h.sk]; exact h1), h.sk]; rfl
  · have : a = s.size := by have := h.le; omega
    rw [tks_nil (by rw [h.sk]; exact h1), this]; rfl
theorem RS.next (h : RS s a ts) : RS s (skipW s (nextW s a)) ts.tail := by
  refine ⟨?_, skip_skip _ _, skip_le (next_le h.le)⟩
  rw [h.ts, tks_skip]
  by_cases h1 : a < s.size
  · rw [tks_cons (by rw [h.sk]; exact h1), h.sk]; rfl
  · have : a = s.size := by have := h.le; omega
    rw [tks_nil (by rw [h.sk]; exact h1), this, next_end]
    rw [tks_nil (by have := skip_ge s s.size; omega)]; rfl
theorem RS.nil (h : RS s a ts) : ts = [] ↔ ¬ a < s.size := by
  rw [h.ts]
  by_cases h1 : a < s.size
  · rw [tks_cons (by rw [h.sk]; exact h1)]; simp [h1]
  · rw [tks_nil (by rw [h.sk]; exact h1)]; simp [h1]
theorem RS.len (h : RS s a ts) : ts.length ≤ s.size := by rw [h.ts]; exact Nat.le_trans (tks_len s _ a rfl) (by omega)
end
theorem RS.start (s : ByteArray) : RS s (skipW s 0) (tks s 0) := ⟨(tks_skip s 0).symm, skip_skip _ _, skip_le (Nat.zero_le _)⟩
theorem strEqP_dec (a b : ByteArray) : (a.toList == b.toList) = decide (a = b) := by
  by_cases h : a = b
  · subst h; simp
  · rw [decide_eq_false h, beq_eq_false_iff_ne]
    intro h2
    apply h
    rw [ByteArray.toList_eq, ByteArray.toList_eq] at h2
    apply ByteArray.ext
    exact Array.toList_inj.1 h2
def POK (s : ByteArray) (R : Res) (o : List PN) (code : Int) (x : Int) (b : Bool) (o' : List PN) (a' : Nat) (code' : Int) : Prop := match R with
  | .bad c p => b = false ∧ a' = p ∧ code' = c ∧ o'.length ≤ 1000
  | .ok t ts => b = true ∧ x = ((o.length + t.size : Nat) : Int) - 1 ∧ o' = o ++ post t o.length ∧ RS s a' ts ∧ code' = code
theorem pok_yes {s : ByteArray} {R : Res} {o o' : List PN} {code code' x : Int} {a' : Nat} {b : Bool} (h : POK s R o code x b o' a' code') (hb : b = true) : ∃ t ts, R = .ok t ts ∧ x = ((o.length + t.size : Nat) : Int) - 1 ∧ o' = o ++ post t o.length ∧ RS s a' ts ∧ code' = code := by
  cases R with
  | bad c p => rw [POK, hb] at h; exact absurd h.1 (by decide)
  | ok t ts => exact ⟨t, ts, rfl, h.2⟩
theorem pok_no {s : ByteArray} {R : Res} {o o' : List PN} {code code' x : Int} {a' : Nat} {b : Bool} (h : POK s R o code x b o' a' code') (hb : b = false) : R = .bad code' a' ∧ o'.length ≤ 1000 := by
  cases R with
  | bad c p => obtain ⟨_, h1, h2, h3⟩ := h; rw [h1, h2]; exact ⟨rfl, h3⟩
  | ok t ts => rw [POK, hb] at h; exact absurd h.1 (by decide)
theorem pok_bad {s : ByteArray} {o o' : List PN} {code x : Int} {R : Res} {c : Int} {a' : Nat} (h : R = .bad c a') (h2 : o'.length ≤ 1000) : POK s R o code x false o' a' c := by
  rw [h]; exact ⟨rfl, rfl, rfl, h2⟩
theorem pok_ok {s : ByteArray} {o o' : List PN} {code x : Int} {R : Res} {t : Tr} {ts : List Tk} {a' : Nat} (h : R = .ok t ts) (h1 : x = ((o.length + t.size : Nat) : Int) - 1) (h2 : o' = o ++ post t o.length) (h3 : RS s a' ts) : POK s R o code x true o' a' code := by
  rw [h]; exact ⟨rfl, h1, h2, h3, rfl⟩
end Go.Cf
namespace Go.Cf
theorem pok_bad2 {s : ByteArray} {o o' : List PN} {code x : Int} {R : Res} {c : Int} {a' : Nat} {b : Bool} (hb : b = false) (h : R = .bad c a') (h2 : o'.length ≤ 1000) : POK s R o code x b o' a' c := by
  subst hb; exact pok_bad h h2
theorem pok_ok2 {s : ByteArray} {o o' : List PN} {code x : Int} {R : Res} {t : Tr} {ts : List Tk} {a' : Nat} {b : Bool} (hb : b = true) (h : R = .ok t ts) (h1 : x = ((o.length + t.size : Nat) : Int) - 1) (h2 : o' = o ++ post t o.length) (h3 : RS s a' ts) : POK s R o code x b o' a' code := by
  subst hb; exact pok_ok h h1 h2 h3
end Go.Cf
namespace Go.Cf
def LI (s : ByteArray) (lv n : Nat) (R : Res) (o : List PN) (code : Int) (m : Nat) (x : Int) (b : Bool) (o1 : List PN) (a1 : Nat) (code1 : Int) : Prop :=
  m ≤ n ∧ ((b = false ∧ R = .bad code1 a1 ∧ o1.length ≤ 1000) ∨ (b = true ∧ ∃ t us, x = ((o.length + t.size : Nat) : Int) - 1 ∧ o1 = o ++ post t o.length ∧ RS s a1 us ∧ code = code1 ∧ R = rd s.size m lv (some t) us ∧ 3 * us.length + 1 ≤ m ∧ o.length + t.size + us.length ≤ 800))
theorem li_start {s : ByteArray} {lv n : Nat} {R : Res} {o o1 : List PN} {code code1 x : Int} {b : Bool} {a1 : Nat} {ts : List Tk} (hR : R = bindR (rd s.size n (lv + 1) none ts) fun t us => rd s.size n lv (some t) us) (hlv : lv < 2) (hfu : 3 * ts.length + 3 ≤ n + 1 + lv) (hol : o.length + ts.length ≤ 800)
    (hp : POK s (rd s.size n (lv + 1) none ts) o code x b o1 a1 code1) : LI s lv n R o code n x b o1 a1 code1 := by
  refine ⟨Nat.le_refl _, ?_⟩
  cases hb : b with
  | false =>
    obtain ⟨h1, h2⟩ := pok_no hp hb
    exact .inl ⟨rfl, by rw [hR, h1]; rfl, h2⟩
  | true =>
    obtain ⟨t, us, h1, h2, h3, h4, h5⟩ := pok_yes hp hb
    obtain ⟨_, h6⟩ := rd_ok s.size n _ none _ _ _ (fun _ h => by cases h) h1
    have := t.pos
    simp only [Option.map, Option.getD] at h6
    exact .inr ⟨rfl, t, us, h2, h3, h4, h5.symm, by rw [hR, h1]; rfl, by omega, by omega⟩
theorem li_bad {s : ByteArray} {lv n m : Nat} {R : Res} {o o1 : List PN} {code code1 x : Int} {b : Bool} {a1 : Nat} (h : LI s lv n R o code m x b o1 a1 code1) (hb : b = false) : R = .bad code1 a1 ∧ o1.length ≤ 1000 := by
  rcases h.2 with h | h
  · exact h.2
  · rw [h.1] at hb; cases hb
theorem li_ok {s : ByteArray} {lv n m : Nat} {R : Res} {o o1 : List PN} {code code1 x : Int} {b : Bool} {a1 : Nat} (h : LI s lv n R o code m x b o1 a1 code1) (hb : b = true) : ∃ t us, x = ((o.length + t.size : Nat) : Int) - 1 ∧ o1 = o ++ post t o.length ∧ RS s a1 us ∧ code = code1 ∧ R = rd s.size m lv (some t) us ∧ 3 * us.length + 1 ≤ m ∧ o.length + t.size + us.length ≤ 800 := by
  rcases h.2 with h | h
  · rw [h.1] at hb; cases hb
  · exact h.2
end Go.Cf
namespace Go.Proofs.YtbkameioedmlkaaGreatDoor
open Go.RowKit Go.Cf
set_option maxRecDepth 10000
theorem fa124_3 (a : Addr) (w : World) : (Instr.fieldAt 124 (.pointer (some a)) 3).run Tryz.prog w = .ok (.pointer (some (a.add 3))) w := by kernel_rfl
theorem fa124_2 (a : Addr) (w : World) : (Instr.fieldAt 124 (.pointer (some a)) 2).run Tryz.prog w = .ok (.pointer (some (a.add 2))) w := by kernel_rfl
theorem fa124_1 (a : Addr) (w : World) : (Instr.fieldAt 124 (.pointer (some a)) 1).run Tryz.prog w = .ok (.pointer (some (a.add 1))) w := by kernel_rfl
set_option maxHeartbeats 8000000 in
theorem rdScan_any (w0 w : World) (rg n bc : Nat) (B : Option Addr) (s : ByteArray) (code : Int) (fr : Reg) (hs : s.size ≤ 200) (a x : Int) (nx : Nat) (hx : x = (nx : Int)) (hnx : nx ≤ s.size) (hM0 : Mem w0 [box rg (.cells #[.slice B n bc, .string s, .int .i64 (a), .int .i64 (x), .int .i64 code] 124), fr] w) :
    Calls Tryz.prog 54 #[.pointer (some ⟨rg, 0, none⟩)] w fun e w' => e = .returned (.tuple #[]) ∧ Mem w0 [box rg (.cells #[.slice B n bc, .string s, .int .i64 ((skipW s nx : Nat)), .int .i64 ((nextW s (skipW s nx) : Nat)), .int .i64 code] 124), fr] w' := by
  subst hx
  refine gcallsT Tryz.func54 rfl Tryz.ntmps54 (Nat.le_of_ble_eq_true rfl) hM0 ?_
  refine gfrom [(0, .pointer (some ⟨rg, 0, none⟩))] ⟨rfl, trivial⟩ fun σ => ?_
  refine gseq fun N1 hN1 => ?_
  refine greg ?_
  refine gop (y_move (v := .pointer (some ⟨rg, 0, none⟩)) rfl) rfl rfl rfl ?_
  refine gop (y_move (v := .pointer (some ⟨rg, 0, none⟩)) rfl) rfl rfl rfl ?_
  refine gop (y_nilCheck rfl) rfl rfl rfl ?_
  refine gop (y_fieldAddr_box fa124_3 rfl) rfl rfl rfl ?_
  refine gop (y_load Tryz.isAgg3 rfl (cell_box 0 rfl rfl)) rfl rfl rfl ?_
  refine gop (y_nilCheck rfl) rfl rfl rfl ?_
  refine gop (y_fieldAddr_box fa124_2 rfl) rfl rfl rfl ?_
  refine gop_store 0 (v := .int _ _) (cs' := #[_, _, _, _, _]) rfl rfl Tryz.sizeOf3 rfl rfl rfl rfl (Nat.le_of_ble_eq_true rfl) rfl rfl ?_
  refine gops_nil ?_
  refine hN1 _ _ ?_
  refine gT [box rg _, fr] rfl ?_
  refine gfrom [(0, .pointer (some ⟨rg, 0, none⟩))] ⟨rfl, trivial⟩ fun σ => ?_
  refine gseq fun N2 hN2 => ?_
  refine gblock ?_
  refine gfrom2 [] [(0, .pointer (some ⟨rg, 0, none⟩))] trivial ⟨rfl, trivial⟩ fun σ => ?_
  refine gloop2 (G := Nat) (fun j => j ≤ s.size ∧ skipW s j = skipW s nx) (fun j => s.size - j) (fun j => []) (fun j => [(0, box rg (.cells #[.slice B n bc, .string s, .int .i64 ((j : Nat)), .int .i64 ((nx : Nat)), .int .i64 code] 124))]) (nx) ?h0 trivial ⟨rfl, trivial⟩ rfl ?round
  case h0 => exact ⟨hnx, rfl⟩
  case round =>
    intro j hφ σ
    obtain ⟨hj, hjs⟩ := hφ
    refine gT [box rg _, fr] rfl ?_
    refine gseq fun N3 hN3 => ?_
    refine gseq fun N4 hN4 => ?_
    refine greg_q (by kernel_rfl) (by kernel_rfl) ?_
    refine gq (y_move (v := .pointer (some ⟨rg, 0, none⟩)) rfl) rfl rfl rfl ?_
    refine gq (y_nilCheck rfl) rfl rfl rfl ?_
    refine gq (y_fieldAddr_box fa124_2 rfl) rfl rfl rfl ?_
    refine gq (y_load Tryz.isAgg3 rfl (cell_box 0 rfl rfl)) rfl rfl rfl ?_
    refine gq (y_move (v := .pointer (some ⟨rg, 0, none⟩)) rfl) rfl rfl rfl ?_
    refine gq (y_nilCheck rfl) rfl rfl rfl ?_
    refine gq (y_fieldAddr_box fa124_1 rfl) rfl rfl rfl ?_
    refine gq (y_load Tryz.isAgg9 rfl (cell_box 0 rfl rfl)) rfl rfl rfl ?_
    refine gq (y_lens Tryz.underlying9 rfl) rfl rfl rfl ?_
    refine gq (y_lss rfl rfl) rfl rfl rfl ?_
    refine gq (y_move (v := .bool _) rfl) rfl rfl rfl ?_
    refine gq_if (want := true) rfl rfl rfl rfl rfl rfl (fun hg19 => ?_) (fun hg19 => ?_)
    · 
      have hg19d := of_decide_eq_true hg19
      refine gq (y_bare (y_move (v := .pointer (some ⟨rg, 0, none⟩)) rfl)) rfl rfl rfl ?_
      refine gq_on rfl rfl rfl rfl hg19 ?_
      refine gq (y_bare (y_nilCheck rfl)) rfl rfl rfl ?_
      refine gq_on rfl rfl rfl rfl hg19 ?_
      refine gq (y_bare (y_fieldAddr_box fa124_1 rfl)) rfl rfl rfl ?_
      refine gq_on rfl rfl rfl rfl hg19 ?_
      refine gq (y_bare (y_load Tryz.isAgg9 rfl (cell_box 0 rfl rfl))) rfl rfl rfl ?_
      refine gq_on rfl rfl rfl rfl hg19 ?_
      refine gq (y_bare (y_move (v := .pointer (some ⟨rg, 0, none⟩)) rfl)) rfl rfl rfl ?_
      refine gq_on rfl rfl rfl rfl hg19 ?_
      refine gq (y_bare (y_nilCheck rfl)) rfl rfl rfl ?_
      refine gq_on rfl rfl rfl rfl hg19 ?_
      refine gq (y_bare (y_fieldAddr_box fa124_2 rfl)) rfl rfl rfl ?_
      refine gq_on rfl rfl rfl rfl hg19 ?_
      refine gq (y_bare (y_load Tryz.isAgg3 rfl (cell_box 0 rfl rfl))) rfl rfl rfl ?_
      refine gq_on rfl rfl rfl rfl hg19 ?_
      refine gq (y_bare (y_stridx (m := j) Tryz.underlying9 rfl rfl (by omega) (by omega) (by omega))) rfl rfl rfl ?_
      refine gq_on rfl rfl rfl rfl hg19 ?_
      refine gq (y_bare (y_eql rfl rfl)) rfl rfl rfl ?_
      refine gq (y_pick_t (v := .bool _) rfl hg19 rfl) rfl rfl rfl ?_
      refine gqs_nil ?_
      refine hN4 _ _ ?_
      refine gfrom [(0, .pointer (some ⟨rg, 0, none⟩)), (30, .bool _)] ⟨rfl, rfl, trivial⟩ fun σ => ?_
      refine gcond (b := _) rfl (fun hc30 => ?_) (fun hc30 => ?_)
      · 
        replace hc30 := of_decide_eq_true hc30
        have hj1 : j < s.size := by omega
        have hb : spB s j = true := decide_eq_true (by omega)
        refine gskip ?_
        refine hN3 _ _ ?_
        refine gfrom [(0, .pointer (some ⟨rg, 0, none⟩))] ⟨rfl, trivial⟩ fun σ => ?_
        refine gblock ?_
        refine greg ?_
        refine gop (y_move (v := .pointer (some ⟨rg, 0, none⟩)) rfl) rfl rfl rfl ?_
        refine gop (y_nilCheck rfl) rfl rfl rfl ?_
        refine gop (y_fieldAddr_box fa124_2 rfl) rfl rfl rfl ?_
        refine gop (y_load Tryz.isAgg3 rfl (cell_box 0 rfl rfl)) rfl rfl rfl ?_
        refine gop (y_add rfl rfl ⟨by omega, by omega⟩) rfl rfl rfl ?_
        refine gop (y_nilCheck rfl) rfl rfl rfl ?_
        refine gop (y_fieldAddr_box fa124_2 rfl) rfl rfl rfl ?_
        refine gop_store 0 (v := .int _ _) (cs' := #[_, _, _, _, _]) rfl rfl Tryz.sizeOf3 rfl rfl rfl rfl (Nat.le_of_ble_eq_true rfl) rfl rfl ?_
        refine gops_nil ?_
        refine gnext2 (j + 1) (by omega) (⟨by show j + 1 ≤ _; omega, by rw [← hjs]; exact (run_step hj1 hb).symm⟩) trivial ⟨rfl, trivial⟩ ⟨_, rfl⟩
      · 
        replace hc30 := of_decide_eq_false hc30
        have hat : skipW s nx = j := by rw [← hjs]; exact run_stop (fun h => decide_eq_false (by omega))
        refine gexit ?_
        refine hN2 _ _ ?_
        refine gfrom [(0, .pointer (some ⟨rg, 0, none⟩))] ⟨rfl, trivial⟩ fun σ => ?_
        refine gseq fun N5 hN5 => ?_
        refine greg ?_
        refine gop (y_move (v := .pointer (some ⟨rg, 0, none⟩)) rfl) rfl rfl rfl ?_
        refine gop (y_move (v := .pointer (some ⟨rg, 0, none⟩)) rfl) rfl rfl rfl ?_
        refine gop (y_nilCheck rfl) rfl rfl rfl ?_
        refine gop (y_fieldAddr_box fa124_2 rfl) rfl rfl rfl ?_
        refine gop (y_load Tryz.isAgg3 rfl (cell_box 0 rfl rfl)) rfl rfl rfl ?_
        refine gop (y_nilCheck rfl) rfl rfl rfl ?_
        refine gop (y_fieldAddr_box fa124_3 rfl) rfl rfl rfl ?_
        refine gop_store 0 (v := .int _ _) (cs' := #[_, _, _, _, _]) rfl rfl Tryz.sizeOf3 rfl rfl rfl rfl (Nat.le_of_ble_eq_true rfl) rfl rfl ?_
        refine gops_nil ?_
        refine hN5 _ _ ?_
        refine gT [box rg _, fr] rfl ?_
        refine gfrom [(0, .pointer (some ⟨rg, 0, none⟩))] ⟨rfl, trivial⟩ fun σ => ?_
        refine gseq fun N6 hN6 => ?_
        refine gblock ?_
        refine gfrom2 [] [(0, .pointer (some ⟨rg, 0, none⟩))] trivial ⟨rfl, trivial⟩ fun σ => ?_
        refine gloop2 (G := Nat) (fun k => k ≤ s.size ∧ endW s k = endW s j) (fun k => s.size - k) (fun k => []) (fun k => [(0, box rg (.cells #[.slice B n bc, .string s, .int .i64 ((j : Nat)), .int .i64 ((k : Nat)), .int .i64 code] 124))]) (j) ?h0 trivial ⟨rfl, trivial⟩ rfl ?round
        case h0 => exact ⟨hj, rfl⟩
        case round =>
          intro k hφ σ
          obtain ⟨hk, hks⟩ := hφ
          refine gT [box rg _, fr] rfl ?_
          refine gseq fun N7 hN7 => ?_
          refine gseq fun N8 hN8 => ?_
          refine greg_q (by kernel_rfl) (by kernel_rfl) ?_
          refine gq (y_move (v := .pointer (some ⟨rg, 0, none⟩)) rfl) rfl rfl rfl ?_
          refine gq (y_nilCheck rfl) rfl rfl rfl ?_
          refine gq (y_fieldAddr_box fa124_3 rfl) rfl rfl rfl ?_
          refine gq (y_load Tryz.isAgg3 rfl (cell_box 0 rfl rfl)) rfl rfl rfl ?_
          refine gq (y_move (v := .pointer (some ⟨rg, 0, none⟩)) rfl) rfl rfl rfl ?_
          refine gq (y_nilCheck rfl) rfl rfl rfl ?_
          refine gq (y_fieldAddr_box fa124_1 rfl) rfl rfl rfl ?_
          refine gq (y_load Tryz.isAgg9 rfl (cell_box 0 rfl rfl)) rfl rfl rfl ?_
          refine gq (y_lens Tryz.underlying9 rfl) rfl rfl rfl ?_
          refine gq (y_lss rfl rfl) rfl rfl rfl ?_
          refine gq (y_move (v := .bool _) rfl) rfl rfl rfl ?_
          refine gq_if (want := true) rfl rfl rfl rfl rfl rfl (fun hg55 => ?_) (fun hg55 => ?_)
          · 
            have hg55d := of_decide_eq_true hg55
            refine gq (y_bare (y_move (v := .pointer (some ⟨rg, 0, none⟩)) rfl)) rfl rfl rfl ?_
            refine gq_on rfl rfl rfl rfl hg55 ?_
            refine gq (y_bare (y_nilCheck rfl)) rfl rfl rfl ?_
            refine gq_on rfl rfl rfl rfl hg55 ?_
            refine gq (y_bare (y_fieldAddr_box fa124_1 rfl)) rfl rfl rfl ?_
            refine gq_on rfl rfl rfl rfl hg55 ?_
            refine gq (y_bare (y_load Tryz.isAgg9 rfl (cell_box 0 rfl rfl))) rfl rfl rfl ?_
            refine gq_on rfl rfl rfl rfl hg55 ?_
            refine gq (y_bare (y_move (v := .pointer (some ⟨rg, 0, none⟩)) rfl)) rfl rfl rfl ?_
            refine gq_on rfl rfl rfl rfl hg55 ?_
            refine gq (y_bare (y_nilCheck rfl)) rfl rfl rfl ?_
            refine gq_on rfl rfl rfl rfl hg55 ?_
            refine gq (y_bare (y_fieldAddr_box fa124_3 rfl)) rfl rfl rfl ?_
            refine gq_on rfl rfl rfl rfl hg55 ?_
            refine gq (y_bare (y_load Tryz.isAgg3 rfl (cell_box 0 rfl rfl))) rfl rfl rfl ?_
            refine gq_on rfl rfl rfl rfl hg55 ?_
            refine gq (y_bare (y_stridx (m := k) Tryz.underlying9 rfl rfl (by omega) (by omega) (by omega))) rfl rfl rfl ?_
            refine gq_on rfl rfl rfl rfl hg55 ?_
            refine gq_pure (e_call (vs := [_, .int _ _]) Tryz.func92 rfl (by kernel_rfl) rfl) (fun w hM => indexByte_any w _ _) rfl rfl rfl ?_
            refine gq_on rfl rfl rfl rfl hg55 ?_
            refine gq (y_bare (y_lss rfl rfl)) rfl rfl rfl ?_
            refine gq (y_pick_t (v := .bool _) rfl hg55 rfl) rfl rfl rfl ?_
            refine gqs_nil ?_
            refine hN8 _ _ ?_
            refine gfrom [(0, .pointer (some ⟨rg, 0, none⟩)), (67, .bool _)] ⟨rfl, rfl, trivial⟩ fun σ => ?_
            refine gcond (b := _) rfl (fun hc67 => ?_) (fun hc67 => ?_)
            · 
              replace hc67 := of_decide_eq_true hc67
              have hk1 : k < s.size := by omega
              have hw : woB s k = true := (sep_idx s k).1 (by omega)
              refine gskip ?_
              refine hN7 _ _ ?_
              refine gfrom [(0, .pointer (some ⟨rg, 0, none⟩))] ⟨rfl, trivial⟩ fun σ => ?_
              refine gblock ?_
              refine greg ?_
              refine gop (y_move (v := .pointer (some ⟨rg, 0, none⟩)) rfl) rfl rfl rfl ?_
              refine gop (y_nilCheck rfl) rfl rfl rfl ?_
              refine gop (y_fieldAddr_box fa124_3 rfl) rfl rfl rfl ?_
              refine gop (y_load Tryz.isAgg3 rfl (cell_box 0 rfl rfl)) rfl rfl rfl ?_
              refine gop (y_add rfl rfl ⟨by omega, by omega⟩) rfl rfl rfl ?_
              refine gop (y_nilCheck rfl) rfl rfl rfl ?_
              refine gop (y_fieldAddr_box fa124_3 rfl) rfl rfl rfl ?_
              refine gop_store 0 (v := .int _ _) (cs' := #[_, _, _, _, _]) rfl rfl Tryz.sizeOf3 rfl rfl rfl rfl (Nat.le_of_ble_eq_true rfl) rfl rfl ?_
              refine gops_nil ?_
              refine gnext2 (k + 1) (by omega) (⟨by show k + 1 ≤ _; omega, by rw [← hks]; exact (run_step hk1 hw).symm⟩) trivial ⟨rfl, trivial⟩ ⟨_, rfl⟩
            · 
              replace hc67 := of_decide_eq_false hc67
              have hend : endW s j = k := by
                rw [← hks]
                refine run_stop (fun h => ?_)
                by_cases hw : woB s k = true
                · exact absurd ((sep_idx s k).2 hw) (by omega)
                · simpa using hw
              refine gexit ?_
              refine hN6 _ _ ?_
              refine gfrom [(0, .pointer (some ⟨rg, 0, none⟩))] ⟨rfl, trivial⟩ fun σ => ?_
              refine gseq fun N9 hN9 => ?_
              refine greg_q (by kernel_rfl) (by kernel_rfl) ?_
              refine gq (y_move (v := .pointer (some ⟨rg, 0, none⟩)) rfl) rfl rfl rfl ?_
              refine gq (y_nilCheck rfl) rfl rfl rfl ?_
              refine gq (y_fieldAddr_box fa124_3 rfl) rfl rfl rfl ?_
              refine gq (y_load Tryz.isAgg3 rfl (cell_box 0 rfl rfl)) rfl rfl rfl ?_
              refine gq (y_move (v := .pointer (some ⟨rg, 0, none⟩)) rfl) rfl rfl rfl ?_
              refine gq (y_nilCheck rfl) rfl rfl rfl ?_
              refine gq (y_fieldAddr_box fa124_2 rfl) rfl rfl rfl ?_
              refine gq (y_load Tryz.isAgg3 rfl (cell_box 0 rfl rfl)) rfl rfl rfl ?_
              refine gq (y_eql rfl rfl) rfl rfl rfl ?_
              refine gq (y_move (v := .bool _) rfl) rfl rfl rfl ?_
              refine gq_if (want := true) rfl rfl rfl rfl rfl rfl (fun hg84 => ?_) (fun hg84 => ?_)
              · 
                have hg84d := of_decide_eq_true hg84
                refine gq (y_bare (y_move (v := .pointer (some ⟨rg, 0, none⟩)) rfl)) rfl rfl rfl ?_
                refine gq_on rfl rfl rfl rfl hg84 ?_
                refine gq (y_bare (y_nilCheck rfl)) rfl rfl rfl ?_
                refine gq_on rfl rfl rfl rfl hg84 ?_
                refine gq (y_bare (y_fieldAddr_box fa124_2 rfl)) rfl rfl rfl ?_
                refine gq_on rfl rfl rfl rfl hg84 ?_
                refine gq (y_bare (y_load Tryz.isAgg3 rfl (cell_box 0 rfl rfl))) rfl rfl rfl ?_
                refine gq_on rfl rfl rfl rfl hg84 ?_
                refine gq (y_bare (y_move (v := .pointer (some ⟨rg, 0, none⟩)) rfl)) rfl rfl rfl ?_
                refine gq_on rfl rfl rfl rfl hg84 ?_
                refine gq (y_bare (y_nilCheck rfl)) rfl rfl rfl ?_
                refine gq_on rfl rfl rfl rfl hg84 ?_
                refine gq (y_bare (y_fieldAddr_box fa124_1 rfl)) rfl rfl rfl ?_
                refine gq_on rfl rfl rfl rfl hg84 ?_
                refine gq (y_bare (y_load Tryz.isAgg9 rfl (cell_box 0 rfl rfl))) rfl rfl rfl ?_
                refine gq_on rfl rfl rfl rfl hg84 ?_
                refine gq (y_bare (y_lens Tryz.underlying9 rfl)) rfl rfl rfl ?_
                refine gq_on rfl rfl rfl rfl hg84 ?_
                refine gq (y_bare (y_lss rfl rfl)) rfl rfl rfl ?_
                refine gq (y_pick_t (v := .bool _) rfl hg84 rfl) rfl rfl rfl ?_
                refine gqs_nil ?_
                refine hN9 _ _ ?_
                refine gfrom [(0, .pointer (some ⟨rg, 0, none⟩)), (95, .bool _)] ⟨rfl, rfl, trivial⟩ fun σ => ?_
                refine gcond (b := _) rfl (fun hc95 => ?_) (fun hc95 => ?_)
                · 
                  replace hc95 := of_decide_eq_true hc95
                  have hN : nextW s j = k + 1 := by rw [nextW, hend, if_pos (by omega)]; omega
                  refine greg ?_
                  refine gop (y_move (v := .pointer (some ⟨rg, 0, none⟩)) rfl) rfl rfl rfl ?_
                  refine gop (y_nilCheck rfl) rfl rfl rfl ?_
                  refine gop (y_fieldAddr_box fa124_3 rfl) rfl rfl rfl ?_
                  refine gop (y_load Tryz.isAgg3 rfl (cell_box 0 rfl rfl)) rfl rfl rfl ?_
                  refine gop (y_add rfl rfl ⟨by omega, by omega⟩) rfl rfl rfl ?_
                  refine gop (y_nilCheck rfl) rfl rfl rfl ?_
                  refine gop (y_fieldAddr_box fa124_3 rfl) rfl rfl rfl ?_
                  refine gop_store 0 (v := .int _ _) (cs' := #[_, _, _, _, _]) rfl rfl Tryz.sizeOf3 rfl rfl rfl rfl (Nat.le_of_ble_eq_true rfl) rfl rfl ?_
                  refine gops_nil ?_
                  intro w1 hM
                  refine ⟨_, res0 rfl, ?_⟩
                  rw [hat, hN]
                  exact ⟨rfl, weak_take (T' := [_, fr]) rfl _ hM⟩
                · 
                  replace hc95 := of_decide_eq_false hc95
                  have hN : nextW s j = k := by rw [nextW, hend, if_neg (by omega)]
                  refine gskip ?_
                  intro w1 hM
                  refine ⟨_, res0 rfl, ?_⟩
                  rw [hat, hN]
                  exact ⟨rfl, weak_take (T' := [_, fr]) rfl _ hM⟩
              · 
                have hg84d := of_decide_eq_false hg84
                refine gq_off rfl rfl rfl rfl hg84 rfl rfl ?_
                refine gq_off rfl rfl rfl rfl hg84 rfl rfl ?_
                refine gq_off rfl rfl rfl rfl hg84 rfl rfl ?_
                refine gq_off rfl rfl rfl rfl hg84 rfl rfl ?_
                refine gq_off rfl rfl rfl rfl hg84 rfl rfl ?_
                refine gq_off rfl rfl rfl rfl hg84 rfl rfl ?_
                refine gq_off rfl rfl rfl rfl hg84 rfl rfl ?_
                refine gq_off rfl rfl rfl rfl hg84 rfl rfl ?_
                refine gq_off rfl rfl rfl rfl hg84 rfl rfl ?_
                refine gq (y_pick_f (v := .bool _) rfl hg84 rfl) rfl rfl rfl ?_
                refine gqs_nil ?_
                refine hN9 _ _ ?_
                refine gfrom [(0, .pointer (some ⟨rg, 0, none⟩)), (95, .bool _)] ⟨rfl, rfl, trivial⟩ fun σ => ?_
                refine gcond (b := _) rfl (fun hc95 => ?_) (fun hc95 => ?_)
                · 
                  cases hc95
                · 
                  have hN : nextW s j = k := by rw [nextW, hend, if_neg (by omega)]
                  refine gskip ?_
                  intro w1 hM
                  refine ⟨_, res0 rfl, ?_⟩
                  rw [hat, hN]
                  exact ⟨rfl, weak_take (T' := [_, fr]) rfl _ hM⟩
          · 
            have hg55d := of_decide_eq_false hg55
            refine gq_off rfl rfl rfl rfl hg55 rfl rfl ?_
            refine gq_off rfl rfl rfl rfl hg55 rfl rfl ?_
            refine gq_off rfl rfl rfl rfl hg55 rfl rfl ?_
            refine gq_off rfl rfl rfl rfl hg55 rfl rfl ?_
            refine gq_off rfl rfl rfl rfl hg55 rfl rfl ?_
            refine gq_off rfl rfl rfl rfl hg55 rfl rfl ?_
            refine gq_off rfl rfl rfl rfl hg55 rfl rfl ?_
            refine gq_off rfl rfl rfl rfl hg55 rfl rfl ?_
            refine gq_off rfl rfl rfl rfl hg55 rfl rfl ?_
            refine gq_off rfl rfl rfl rfl hg55 rfl rfl ?_
            refine gq (y_pick_f (v := .bool _) rfl hg55 rfl) rfl rfl rfl ?_
            refine gqs_nil ?_
            refine hN8 _ _ ?_
            refine gfrom [(0, .pointer (some ⟨rg, 0, none⟩)), (67, .bool _)] ⟨rfl, rfl, trivial⟩ fun σ => ?_
            refine gcond (b := _) rfl (fun hc67 => ?_) (fun hc67 => ?_)
            · 
              cases hc67
            · 
              have hend : endW s j = k := by
                rw [← hks]
                refine run_stop (fun h => ?_)
                by_cases hw : woB s k = true
                · exact absurd ((sep_idx s k).2 hw) (by omega)
                · simpa using hw
              refine gexit ?_
              refine hN6 _ _ ?_
              refine gfrom [(0, .pointer (some ⟨rg, 0, none⟩))] ⟨rfl, trivial⟩ fun σ => ?_
              refine gseq fun N10 hN10 => ?_
              refine greg_q (by kernel_rfl) (by kernel_rfl) ?_
              refine gq (y_move (v := .pointer (some ⟨rg, 0, none⟩)) rfl) rfl rfl rfl ?_
              refine gq (y_nilCheck rfl) rfl rfl rfl ?_
              refine gq (y_fieldAddr_box fa124_3 rfl) rfl rfl rfl ?_
              refine gq (y_load Tryz.isAgg3 rfl (cell_box 0 rfl rfl)) rfl rfl rfl ?_
              refine gq (y_move (v := .pointer (some ⟨rg, 0, none⟩)) rfl) rfl rfl rfl ?_
              refine gq (y_nilCheck rfl) rfl rfl rfl ?_
              refine gq (y_fieldAddr_box fa124_2 rfl) rfl rfl rfl ?_
              refine gq (y_load Tryz.isAgg3 rfl (cell_box 0 rfl rfl)) rfl rfl rfl ?_
              refine gq (y_eql rfl rfl) rfl rfl rfl ?_
              refine gq (y_move (v := .bool _) rfl) rfl rfl rfl ?_
              refine gq_if (want := true) rfl rfl rfl rfl rfl rfl (fun hg84 => ?_) (fun hg84 => ?_)
              · 
                have hg84d := of_decide_eq_true hg84
                refine gq (y_bare (y_move (v := .pointer (some ⟨rg, 0, none⟩)) rfl)) rfl rfl rfl ?_
                refine gq_on rfl rfl rfl rfl hg84 ?_
                refine gq (y_bare (y_nilCheck rfl)) rfl rfl rfl ?_
                refine gq_on rfl rfl rfl rfl hg84 ?_
                refine gq (y_bare (y_fieldAddr_box fa124_2 rfl)) rfl rfl rfl ?_
                refine gq_on rfl rfl rfl rfl hg84 ?_
                refine gq (y_bare (y_load Tryz.isAgg3 rfl (cell_box 0 rfl rfl))) rfl rfl rfl ?_
                refine gq_on rfl rfl rfl rfl hg84 ?_
                refine gq (y_bare (y_move (v := .pointer (some ⟨rg, 0, none⟩)) rfl)) rfl rfl rfl ?_
                refine gq_on rfl rfl rfl rfl hg84 ?_
                refine gq (y_bare (y_nilCheck rfl)) rfl rfl rfl ?_
                refine gq_on rfl rfl rfl rfl hg84 ?_
                refine gq (y_bare (y_fieldAddr_box fa124_1 rfl)) rfl rfl rfl ?_
                refine gq_on rfl rfl rfl rfl hg84 ?_
                refine gq (y_bare (y_load Tryz.isAgg9 rfl (cell_box 0 rfl rfl))) rfl rfl rfl ?_
                refine gq_on rfl rfl rfl rfl hg84 ?_
                refine gq (y_bare (y_lens Tryz.underlying9 rfl)) rfl rfl rfl ?_
                refine gq_on rfl rfl rfl rfl hg84 ?_
                refine gq (y_bare (y_lss rfl rfl)) rfl rfl rfl ?_
                refine gq (y_pick_t (v := .bool _) rfl hg84 rfl) rfl rfl rfl ?_
                refine gqs_nil ?_
                refine hN10 _ _ ?_
                refine gfrom [(0, .pointer (some ⟨rg, 0, none⟩)), (95, .bool _)] ⟨rfl, rfl, trivial⟩ fun σ => ?_
                refine gcond (b := _) rfl (fun hc95 => ?_) (fun hc95 => ?_)
                · 
                  replace hc95 := of_decide_eq_true hc95
                  have hN : nextW s j = k + 1 := by rw [nextW, hend, if_pos (by omega)]; omega
                  refine greg ?_
                  refine gop (y_move (v := .pointer (some ⟨rg, 0, none⟩)) rfl) rfl rfl rfl ?_
                  refine gop (y_nilCheck rfl) rfl rfl rfl ?_
                  refine gop (y_fieldAddr_box fa124_3 rfl) rfl rfl rfl ?_
                  refine gop (y_load Tryz.isAgg3 rfl (cell_box 0 rfl rfl)) rfl rfl rfl ?_
                  refine gop (y_add rfl rfl ⟨by omega, by omega⟩) rfl rfl rfl ?_
                  refine gop (y_nilCheck rfl) rfl rfl rfl ?_
                  refine gop (y_fieldAddr_box fa124_3 rfl) rfl rfl rfl ?_
                  refine gop_store 0 (v := .int _ _) (cs' := #[_, _, _, _, _]) rfl rfl Tryz.sizeOf3 rfl rfl rfl rfl (Nat.le_of_ble_eq_true rfl) rfl rfl ?_
                  refine gops_nil ?_
                  intro w1 hM
                  refine ⟨_, res0 rfl, ?_⟩
                  rw [hat, hN]
                  exact ⟨rfl, weak_take (T' := [_, fr]) rfl _ hM⟩
                · 
                  replace hc95 := of_decide_eq_false hc95
                  have hN : nextW s j = k := by rw [nextW, hend, if_neg (by omega)]
                  refine gskip ?_
                  intro w1 hM
                  refine ⟨_, res0 rfl, ?_⟩
                  rw [hat, hN]
                  exact ⟨rfl, weak_take (T' := [_, fr]) rfl _ hM⟩
              · 
                have hg84d := of_decide_eq_false hg84
                refine gq_off rfl rfl rfl rfl hg84 rfl rfl ?_
                refine gq_off rfl rfl rfl rfl hg84 rfl rfl ?_
                refine gq_off rfl rfl rfl rfl hg84 rfl rfl ?_
                refine gq_off rfl rfl rfl rfl hg84 rfl rfl ?_
                refine gq_off rfl rfl rfl rfl hg84 rfl rfl ?_
                refine gq_off rfl rfl rfl rfl hg84 rfl rfl ?_
                refine gq_off rfl rfl rfl rfl hg84 rfl rfl ?_
                refine gq_off rfl rfl rfl rfl hg84 rfl rfl ?_
                refine gq_off rfl rfl rfl rfl hg84 rfl rfl ?_
                refine gq (y_pick_f (v := .bool _) rfl hg84 rfl) rfl rfl rfl ?_
                refine gqs_nil ?_
                refine hN10 _ _ ?_
                refine gfrom [(0, .pointer (some ⟨rg, 0, none⟩)), (95, .bool _)] ⟨rfl, rfl, trivial⟩ fun σ => ?_
                refine gcond (b := _) rfl (fun hc95 => ?_) (fun hc95 => ?_)
                · 
                  cases hc95
                · 
                  have hN : nextW s j = k := by rw [nextW, hend, if_neg (by omega)]
                  refine gskip ?_
                  intro w1 hM
                  refine ⟨_, res0 rfl, ?_⟩
                  rw [hat, hN]
                  exact ⟨rfl, weak_take (T' := [_, fr]) rfl _ hM⟩
    · 
      have hg19d := of_decide_eq_false hg19
      refine gq_off rfl rfl rfl rfl hg19 rfl rfl ?_
      refine gq_off rfl rfl rfl rfl hg19 rfl rfl ?_
      refine gq_off rfl rfl rfl rfl hg19 rfl rfl ?_
      refine gq_off rfl rfl rfl rfl hg19 rfl rfl ?_
      refine gq_off rfl rfl rfl rfl hg19 rfl rfl ?_
      refine gq_off rfl rfl rfl rfl hg19 rfl rfl ?_
      refine gq_off rfl rfl rfl rfl hg19 rfl rfl ?_
      refine gq_off rfl rfl rfl rfl hg19 rfl rfl ?_
      refine gq_off rfl rfl rfl rfl hg19 rfl rfl ?_
      refine gq (y_pick_f (v := .bool _) rfl hg19 rfl) rfl rfl rfl ?_
      refine gqs_nil ?_
      refine hN4 _ _ ?_
      refine gfrom [(0, .pointer (some ⟨rg, 0, none⟩)), (30, .bool _)] ⟨rfl, rfl, trivial⟩ fun σ => ?_
      refine gcond (b := _) rfl (fun hc30 => ?_) (fun hc30 => ?_)
      · 
        cases hc30
      · 
        have hat : skipW s nx = j := by rw [← hjs]; exact run_stop (fun h => decide_eq_false (by omega))
        refine gexit ?_
        refine hN2 _ _ ?_
        refine gfrom [(0, .pointer (some ⟨rg, 0, none⟩))] ⟨rfl, trivial⟩ fun σ => ?_
        refine gseq fun N11 hN11 => ?_
        refine greg ?_
        refine gop (y_move (v := .pointer (some ⟨rg, 0, none⟩)) rfl) rfl rfl rfl ?_
        refine gop (y_move (v := .pointer (some ⟨rg, 0, none⟩)) rfl) rfl rfl rfl ?_
        refine gop (y_nilCheck rfl) rfl rfl rfl ?_
        refine gop (y_fieldAddr_box fa124_2 rfl) rfl rfl rfl ?_
        refine gop (y_load Tryz.isAgg3 rfl (cell_box 0 rfl rfl)) rfl rfl rfl ?_
        refine gop (y_nilCheck rfl) rfl rfl rfl ?_
        refine gop (y_fieldAddr_box fa124_3 rfl) rfl rfl rfl ?_
        refine gop_store 0 (v := .int _ _) (cs' := #[_, _, _, _, _]) rfl rfl Tryz.sizeOf3 rfl rfl rfl rfl (Nat.le_of_ble_eq_true rfl) rfl rfl ?_
        refine gops_nil ?_
        refine hN11 _ _ ?_
        refine gT [box rg _, fr] rfl ?_
        refine gfrom [(0, .pointer (some ⟨rg, 0, none⟩))] ⟨rfl, trivial⟩ fun σ => ?_
        refine gseq fun N12 hN12 => ?_
        refine gblock ?_
        refine gfrom2 [] [(0, .pointer (some ⟨rg, 0, none⟩))] trivial ⟨rfl, trivial⟩ fun σ => ?_
        refine gloop2 (G := Nat) (fun k => k ≤ s.size ∧ endW s k = endW s j) (fun k => s.size - k) (fun k => []) (fun k => [(0, box rg (.cells #[.slice B n bc, .string s, .int .i64 ((j : Nat)), .int .i64 ((k : Nat)), .int .i64 code] 124))]) (j) ?h0 trivial ⟨rfl, trivial⟩ rfl ?round
        case h0 => exact ⟨hj, rfl⟩
        case round =>
          intro k hφ σ
          obtain ⟨hk, hks⟩ := hφ
          refine gT [box rg _, fr] rfl ?_
          refine gseq fun N13 hN13 => ?_
          refine gseq fun N14 hN14 => ?_
          refine greg_q (by kernel_rfl) (by kernel_rfl) ?_
          refine gq (y_move (v := .pointer (some ⟨rg, 0, none⟩)) rfl) rfl rfl rfl ?_
          refine gq (y_nilCheck rfl) rfl rfl rfl ?_
          refine gq (y_fieldAddr_box fa124_3 rfl) rfl rfl rfl ?_
          refine gq (y_load Tryz.isAgg3 rfl (cell_box 0 rfl rfl)) rfl rfl rfl ?_
          refine gq (y_move (v := .pointer (some ⟨rg, 0, none⟩)) rfl) rfl rfl rfl ?_
          refine gq (y_nilCheck rfl) rfl rfl rfl ?_
          refine gq (y_fieldAddr_box fa124_1 rfl) rfl rfl rfl ?_
          refine gq (y_load Tryz.isAgg9 rfl (cell_box 0 rfl rfl)) rfl rfl rfl ?_
          refine gq (y_lens Tryz.underlying9 rfl) rfl rfl rfl ?_
          refine gq (y_lss rfl rfl) rfl rfl rfl ?_
          refine gq (y_move (v := .bool _) rfl) rfl rfl rfl ?_
          refine gq_if (want := true) rfl rfl rfl rfl rfl rfl (fun hg55 => ?_) (fun hg55 => ?_)
          · 
            have hg55d := of_decide_eq_true hg55
            refine gq (y_bare (y_move (v := .pointer (some ⟨rg, 0, none⟩)) rfl)) rfl rfl rfl ?_
            refine gq_on rfl rfl rfl rfl hg55 ?_
            refine gq (y_bare (y_nilCheck rfl)) rfl rfl rfl ?_
            refine gq_on rfl rfl rfl rfl hg55 ?_
            refine gq (y_bare (y_fieldAddr_box fa124_1 rfl)) rfl rfl rfl ?_
            refine gq_on rfl rfl rfl rfl hg55 ?_
            refine gq (y_bare (y_load Tryz.isAgg9 rfl (cell_box 0 rfl rfl))) rfl rfl rfl ?_
            refine gq_on rfl rfl rfl rfl hg55 ?_
            refine gq (y_bare (y_move (v := .pointer (some ⟨rg, 0, none⟩)) rfl)) rfl rfl rfl ?_
            refine gq_on rfl rfl rfl rfl hg55 ?_
            refine gq (y_bare (y_nilCheck rfl)) rfl rfl rfl ?_
            refine gq_on rfl rfl rfl rfl hg55 ?_
            refine gq (y_bare (y_fieldAddr_box fa124_3 rfl)) rfl rfl rfl ?_
            refine gq_on rfl rfl rfl rfl hg55 ?_
            refine gq (y_bare (y_load Tryz.isAgg3 rfl (cell_box 0 rfl rfl))) rfl rfl rfl ?_
            refine gq_on rfl rfl rfl rfl hg55 ?_
            refine gq (y_bare (y_stridx (m := k) Tryz.underlying9 rfl rfl (by omega) (by omega) (by omega))) rfl rfl rfl ?_
            refine gq_on rfl rfl rfl rfl hg55 ?_
            refine gq_pure (e_call (vs := [_, .int _ _]) Tryz.func92 rfl (by kernel_rfl) rfl) (fun w hM => indexByte_any w _ _) rfl rfl rfl ?_
            refine gq_on rfl rfl rfl rfl hg55 ?_
            refine gq (y_bare (y_lss rfl rfl)) rfl rfl rfl ?_
            refine gq (y_pick_t (v := .bool _) rfl hg55 rfl) rfl rfl rfl ?_
            refine gqs_nil ?_
            refine hN14 _ _ ?_
            refine gfrom [(0, .pointer (some ⟨rg, 0, none⟩)), (67, .bool _)] ⟨rfl, rfl, trivial⟩ fun σ => ?_
            refine gcond (b := _) rfl (fun hc67 => ?_) (fun hc67 => ?_)
            · 
              replace hc67 := of_decide_eq_true hc67
              have hk1 : k < s.size := by omega
              have hw : woB s k = true := (sep_idx s k).1 (by omega)
              refine gskip ?_
              refine hN13 _ _ ?_
              refine gfrom [(0, .pointer (some ⟨rg, 0, none⟩))] ⟨rfl, trivial⟩ fun σ => ?_
              refine gblock ?_
              refine greg ?_
              refine gop (y_move (v := .pointer (some ⟨rg, 0, none⟩)) rfl) rfl rfl rfl ?_
              refine gop (y_nilCheck rfl) rfl rfl rfl ?_
              refine gop (y_fieldAddr_box fa124_3 rfl) rfl rfl rfl ?_
              refine gop (y_load Tryz.isAgg3 rfl (cell_box 0 rfl rfl)) rfl rfl rfl ?_
              refine gop (y_add rfl rfl ⟨by omega, by omega⟩) rfl rfl rfl ?_
              refine gop (y_nilCheck rfl) rfl rfl rfl ?_
              refine gop (y_fieldAddr_box fa124_3 rfl) rfl rfl rfl ?_
              refine gop_store 0 (v := .int _ _) (cs' := #[_, _, _, _, _]) rfl rfl Tryz.sizeOf3 rfl rfl rfl rfl (Nat.le_of_ble_eq_true rfl) rfl rfl ?_
              refine gops_nil ?_
              refine gnext2 (k + 1) (by omega) (⟨by show k + 1 ≤ _; omega, by rw [← hks]; exact (run_step hk1 hw).symm⟩) trivial ⟨rfl, trivial⟩ ⟨_, rfl⟩
            · 
              replace hc67 := of_decide_eq_false hc67
              have hend : endW s j = k := by
                rw [← hks]
                refine run_stop (fun h => ?_)
                by_cases hw : woB s k = true
                · exact absurd ((sep_idx s k).2 hw) (by omega)
                · simpa using hw
              refine gexit ?_
              refine hN12 _ _ ?_
              refine gfrom [(0, .pointer (some ⟨rg, 0, none⟩))] ⟨rfl, trivial⟩ fun σ => ?_
              refine gseq fun N15 hN15 => ?_
              refine greg_q (by kernel_rfl) (by kernel_rfl) ?_
              refine gq (y_move (v := .pointer (some ⟨rg, 0, none⟩)) rfl) rfl rfl rfl ?_
              refine gq (y_nilCheck rfl) rfl rfl rfl ?_
              refine gq (y_fieldAddr_box fa124_3 rfl) rfl rfl rfl ?_
              refine gq (y_load Tryz.isAgg3 rfl (cell_box 0 rfl rfl)) rfl rfl rfl ?_
              refine gq (y_move (v := .pointer (some ⟨rg, 0, none⟩)) rfl) rfl rfl rfl ?_
              refine gq (y_nilCheck rfl) rfl rfl rfl ?_
              refine gq (y_fieldAddr_box fa124_2 rfl) rfl rfl rfl ?_
              refine gq (y_load Tryz.isAgg3 rfl (cell_box 0 rfl rfl)) rfl rfl rfl ?_
              refine gq (y_eql rfl rfl) rfl rfl rfl ?_
              refine gq (y_move (v := .bool _) rfl) rfl rfl rfl ?_
              refine gq_if (want := true) rfl rfl rfl rfl rfl rfl (fun hg84 => ?_) (fun hg84 => ?_)
              · 
                have hg84d := of_decide_eq_true hg84
                refine gq (y_bare (y_move (v := .pointer (some ⟨rg, 0, none⟩)) rfl)) rfl rfl rfl ?_
                refine gq_on rfl rfl rfl rfl hg84 ?_
                refine gq (y_bare (y_nilCheck rfl)) rfl rfl rfl ?_
                refine gq_on rfl rfl rfl rfl hg84 ?_
                refine gq (y_bare (y_fieldAddr_box fa124_2 rfl)) rfl rfl rfl ?_
                refine gq_on rfl rfl rfl rfl hg84 ?_
                refine gq (y_bare (y_load Tryz.isAgg3 rfl (cell_box 0 rfl rfl))) rfl rfl rfl ?_
                refine gq_on rfl rfl rfl rfl hg84 ?_
                refine gq (y_bare (y_move (v := .pointer (some ⟨rg, 0, none⟩)) rfl)) rfl rfl rfl ?_
                refine gq_on rfl rfl rfl rfl hg84 ?_
                refine gq (y_bare (y_nilCheck rfl)) rfl rfl rfl ?_
                refine gq_on rfl rfl rfl rfl hg84 ?_
                refine gq (y_bare (y_fieldAddr_box fa124_1 rfl)) rfl rfl rfl ?_
                refine gq_on rfl rfl rfl rfl hg84 ?_
                refine gq (y_bare (y_load Tryz.isAgg9 rfl (cell_box 0 rfl rfl))) rfl rfl rfl ?_
                refine gq_on rfl rfl rfl rfl hg84 ?_
                refine gq (y_bare (y_lens Tryz.underlying9 rfl)) rfl rfl rfl ?_
                refine gq_on rfl rfl rfl rfl hg84 ?_
                refine gq (y_bare (y_lss rfl rfl)) rfl rfl rfl ?_
                refine gq (y_pick_t (v := .bool _) rfl hg84 rfl) rfl rfl rfl ?_
                refine gqs_nil ?_
                refine hN15 _ _ ?_
                refine gfrom [(0, .pointer (some ⟨rg, 0, none⟩)), (95, .bool _)] ⟨rfl, rfl, trivial⟩ fun σ => ?_
                refine gcond (b := _) rfl (fun hc95 => ?_) (fun hc95 => ?_)
                · 
                  replace hc95 := of_decide_eq_true hc95
                  have hN : nextW s j = k + 1 := by rw [nextW, hend, if_pos (by omega)]; omega
                  refine greg ?_
                  refine gop (y_move (v := .pointer (some ⟨rg, 0, none⟩)) rfl) rfl rfl rfl ?_
                  refine gop (y_nilCheck rfl) rfl rfl rfl ?_
                  refine gop (y_fieldAddr_box fa124_3 rfl) rfl rfl rfl ?_
                  refine gop (y_load Tryz.isAgg3 rfl (cell_box 0 rfl rfl)) rfl rfl rfl ?_
                  refine gop (y_add rfl rfl ⟨by omega, by omega⟩) rfl rfl rfl ?_
                  refine gop (y_nilCheck rfl) rfl rfl rfl ?_
                  refine gop (y_fieldAddr_box fa124_3 rfl) rfl rfl rfl ?_
                  refine gop_store 0 (v := .int _ _) (cs' := #[_, _, _, _, _]) rfl rfl Tryz.sizeOf3 rfl rfl rfl rfl (Nat.le_of_ble_eq_true rfl) rfl rfl ?_
                  refine gops_nil ?_
                  intro w1 hM
                  refine ⟨_, res0 rfl, ?_⟩
                  rw [hat, hN]
                  exact ⟨rfl, weak_take (T' := [_, fr]) rfl _ hM⟩
                · 
                  replace hc95 := of_decide_eq_false hc95
                  have hN : nextW s j = k := by rw [nextW, hend, if_neg (by omega)]
                  refine gskip ?_
                  intro w1 hM
                  refine ⟨_, res0 rfl, ?_⟩
                  rw [hat, hN]
                  exact ⟨rfl, weak_take (T' := [_, fr]) rfl _ hM⟩
              · 
                have hg84d := of_decide_eq_false hg84
                refine gq_off rfl rfl rfl rfl hg84 rfl rfl ?_
                refine gq_off rfl rfl rfl rfl hg84 rfl rfl ?_
                refine gq_off rfl rfl rfl rfl hg84 rfl rfl ?_
                refine gq_off rfl rfl rfl rfl hg84 rfl rfl ?_
                refine gq_off rfl rfl rfl rfl hg84 rfl rfl ?_
                refine gq_off rfl rfl rfl rfl hg84 rfl rfl ?_
                refine gq_off rfl rfl rfl rfl hg84 rfl rfl ?_
                refine gq_off rfl rfl rfl rfl hg84 rfl rfl ?_
                refine gq_off rfl rfl rfl rfl hg84 rfl rfl ?_
                refine gq (y_pick_f (v := .bool _) rfl hg84 rfl) rfl rfl rfl ?_
                refine gqs_nil ?_
                refine hN15 _ _ ?_
                refine gfrom [(0, .pointer (some ⟨rg, 0, none⟩)), (95, .bool _)] ⟨rfl, rfl, trivial⟩ fun σ => ?_
                refine gcond (b := _) rfl (fun hc95 => ?_) (fun hc95 => ?_)
                · 
                  cases hc95
                · 
                  have hN : nextW s j = k := by rw [nextW, hend, if_neg (by omega)]
                  refine gskip ?_
                  intro w1 hM
                  refine ⟨_, res0 rfl, ?_⟩
                  rw [hat, hN]
                  exact ⟨rfl, weak_take (T' := [_, fr]) rfl _ hM⟩
          · 
            have hg55d := of_decide_eq_false hg55
            refine gq_off rfl rfl rfl rfl hg55 rfl rfl ?_
            refine gq_off rfl rfl rfl rfl hg55 rfl rfl ?_
            refine gq_off rfl rfl rfl rfl hg55 rfl rfl ?_
            refine gq_off rfl rfl rfl rfl hg55 rfl rfl ?_
            refine gq_off rfl rfl rfl rfl hg55 rfl rfl ?_
            refine gq_off rfl rfl rfl rfl hg55 rfl rfl ?_
            refine gq_off rfl rfl rfl rfl hg55 rfl rfl ?_
            refine gq_off rfl rfl rfl rfl hg55 rfl rfl ?_
            refine gq_off rfl rfl rfl rfl hg55 rfl rfl ?_
            refine gq_off rfl rfl rfl rfl hg55 rfl rfl ?_
            refine gq (y_pick_f (v := .bool _) rfl hg55 rfl) rfl rfl rfl ?_
            refine gqs_nil ?_
            refine hN14 _ _ ?_
            refine gfrom [(0, .pointer (some ⟨rg, 0, none⟩)), (67, .bool _)] ⟨rfl, rfl, trivial⟩ fun σ => ?_
            refine gcond (b := _) rfl (fun hc67 => ?_) (fun hc67 => ?_)
            · 
              cases hc67
            · 
              have hend : endW s j = k := by
                rw [← hks]
                refine run_stop (fun h => ?_)
                by_cases hw : woB s k = true
                · exact absurd ((sep_idx s k).2 hw) (by omega)
                · simpa using hw
              refine gexit ?_
              refine hN12 _ _ ?_
              refine gfrom [(0, .pointer (some ⟨rg, 0, none⟩))] ⟨rfl, trivial⟩ fun σ => ?_
              refine gseq fun N16 hN16 => ?_
              refine greg_q (by kernel_rfl) (by kernel_rfl) ?_
              refine gq (y_move (v := .pointer (some ⟨rg, 0, none⟩)) rfl) rfl rfl rfl ?_
              refine gq (y_nilCheck rfl) rfl rfl rfl ?_
              refine gq (y_fieldAddr_box fa124_3 rfl) rfl rfl rfl ?_
              refine gq (y_load Tryz.isAgg3 rfl (cell_box 0 rfl rfl)) rfl rfl rfl ?_
              refine gq (y_move (v := .pointer (some ⟨rg, 0, none⟩)) rfl) rfl rfl rfl ?_
              refine gq (y_nilCheck rfl) rfl rfl rfl ?_
              refine gq (y_fieldAddr_box fa124_2 rfl) rfl rfl rfl ?_
              refine gq (y_load Tryz.isAgg3 rfl (cell_box 0 rfl rfl)) rfl rfl rfl ?_
              refine gq (y_eql rfl rfl) rfl rfl rfl ?_
              refine gq (y_move (v := .bool _) rfl) rfl rfl rfl ?_
              refine gq_if (want := true) rfl rfl rfl rfl rfl rfl (fun hg84 => ?_) (fun hg84 => ?_)
              · 
                have hg84d := of_decide_eq_true hg84
                refine gq (y_bare (y_move (v := .pointer (some ⟨rg, 0, none⟩)) rfl)) rfl rfl rfl ?_
                refine gq_on rfl rfl rfl rfl hg84 ?_
                refine gq (y_bare (y_nilCheck rfl)) rfl rfl rfl ?_
                refine gq_on rfl rfl rfl rfl hg84 ?_
                refine gq (y_bare (y_fieldAddr_box fa124_2 rfl)) rfl rfl rfl ?_
                refine gq_on rfl rfl rfl rfl hg84 ?_
                refine gq (y_bare (y_load Tryz.isAgg3 rfl (cell_box 0 rfl rfl))) rfl rfl rfl ?_
                refine gq_on rfl rfl rfl rfl hg84 ?_
                refine gq (y_bare (y_move (v := .pointer (some ⟨rg, 0, none⟩)) rfl)) rfl rfl rfl ?_
                refine gq_on rfl rfl rfl rfl hg84 ?_
                refine gq (y_bare (y_nilCheck rfl)) rfl rfl rfl ?_
                refine gq_on rfl rfl rfl rfl hg84 ?_
                refine gq (y_bare (y_fieldAddr_box fa124_1 rfl)) rfl rfl rfl ?_
                refine gq_on rfl rfl rfl rfl hg84 ?_
                refine gq (y_bare (y_load Tryz.isAgg9 rfl (cell_box 0 rfl rfl))) rfl rfl rfl ?_
                refine gq_on rfl rfl rfl rfl hg84 ?_
                refine gq (y_bare (y_lens Tryz.underlying9 rfl)) rfl rfl rfl ?_
                refine gq_on rfl rfl rfl rfl hg84 ?_
                refine gq (y_bare (y_lss rfl rfl)) rfl rfl rfl ?_
                refine gq (y_pick_t (v := .bool _) rfl hg84 rfl) rfl rfl rfl ?_
                refine gqs_nil ?_
                refine hN16 _ _ ?_
                refine gfrom [(0, .pointer (some ⟨rg, 0, none⟩)), (95, .bool _)] ⟨rfl, rfl, trivial⟩ fun σ => ?_
                refine gcond (b := _) rfl (fun hc95 => ?_) (fun hc95 => ?_)
                · 
                  replace hc95 := of_decide_eq_true hc95
                  have hN : nextW s j = k + 1 := by rw [nextW, hend, if_pos (by omega)]; omega
                  refine greg ?_
                  refine gop (y_move (v := .pointer (some ⟨rg, 0, none⟩)) rfl) rfl rfl rfl ?_
                  refine gop (y_nilCheck rfl) rfl rfl rfl ?_
                  refine gop (y_fieldAddr_box fa124_3 rfl) rfl rfl rfl ?_
                  refine gop (y_load Tryz.isAgg3 rfl (cell_box 0 rfl rfl)) rfl rfl rfl ?_
                  refine gop (y_add rfl rfl ⟨by omega, by omega⟩) rfl rfl rfl ?_
                  refine gop (y_nilCheck rfl) rfl rfl rfl ?_
                  refine gop (y_fieldAddr_box fa124_3 rfl) rfl rfl rfl ?_
                  refine gop_store 0 (v := .int _ _) (cs' := #[_, _, _, _, _]) rfl rfl Tryz.sizeOf3 rfl rfl rfl rfl (Nat.le_of_ble_eq_true rfl) rfl rfl ?_
                  refine gops_nil ?_
                  intro w1 hM
                  refine ⟨_, res0 rfl, ?_⟩
                  rw [hat, hN]
                  exact ⟨rfl, weak_take (T' := [_, fr]) rfl _ hM⟩
                · 
                  replace hc95 := of_decide_eq_false hc95
                  have hN : nextW s j = k := by rw [nextW, hend, if_neg (by omega)]
                  refine gskip ?_
                  intro w1 hM
                  refine ⟨_, res0 rfl, ?_⟩
                  rw [hat, hN]
                  exact ⟨rfl, weak_take (T' := [_, fr]) rfl _ hM⟩
              · 
                have hg84d := of_decide_eq_false hg84
                refine gq_off rfl rfl rfl rfl hg84 rfl rfl ?_
                refine gq_off rfl rfl rfl rfl hg84 rfl rfl ?_
                refine gq_off rfl rfl rfl rfl hg84 rfl rfl ?_
                refine gq_off rfl rfl rfl rfl hg84 rfl rfl ?_
                refine gq_off rfl rfl rfl rfl hg84 rfl rfl ?_
                refine gq_off rfl rfl rfl rfl hg84 rfl rfl ?_
                refine gq_off rfl rfl rfl rfl hg84 rfl rfl ?_
                refine gq_off rfl rfl rfl rfl hg84 rfl rfl ?_
                refine gq_off rfl rfl rfl rfl hg84 rfl rfl ?_
                refine gq (y_pick_f (v := .bool _) rfl hg84 rfl) rfl rfl rfl ?_
                refine gqs_nil ?_
                refine hN16 _ _ ?_
                refine gfrom [(0, .pointer (some ⟨rg, 0, none⟩)), (95, .bool _)] ⟨rfl, rfl, trivial⟩ fun σ => ?_
                refine gcond (b := _) rfl (fun hc95 => ?_) (fun hc95 => ?_)
                · 
                  cases hc95
                · 
                  have hN : nextW s j = k := by rw [nextW, hend, if_neg (by omega)]
                  refine gskip ?_
                  intro w1 hM
                  refine ⟨_, res0 rfl, ?_⟩
                  rw [hat, hN]
                  exact ⟨rfl, weak_take (T' := [_, fr]) rfl _ hM⟩
end Go.Proofs.YtbkameioedmlkaaGreatDoor
namespace Go.Proofs.YtbkameioedmlkaaGreatDoor
open Go.RowKit Go.Cf
set_option maxRecDepth 10000
theorem fa124_4 (a : Addr) (w : World) : (Instr.fieldAt 124 (.pointer (some a)) 4).run Tryz.prog w = .ok (.pointer (some (a.add 4))) w := by kernel_rfl
set_option maxHeartbeats 1000000 in
theorem rdWord_any (w : World) (rg : Nat) (s : ByteArray) (a x : Nat) (hax : a ≤ x) (hxs : x ≤ s.size) (h1 : w.cell? ⟨rg, 1, none⟩ = some (.string s)) (h2 : w.cell? ⟨rg, 2, none⟩ = some (.int .i64 (a : Int))) (h3 : w.cell? ⟨rg, 3, none⟩ = some (.int .i64 (x : Int))) : Calls Tryz.prog 118 #[.pointer (some ⟨rg, 0, none⟩)] w fun e w' => e = .returned (.string (s.extract a x)) ∧ Below w.heap.size w w' := by
  refine gcalls Tryz.func118 rfl Tryz.ntmps118 (Nat.le_of_ble_eq_true rfl) ?_
  refine gfrom [(0, .pointer (some ⟨rg, 0, none⟩))] ⟨rfl, trivial⟩ fun σ => ?_
  refine gseq fun N1 hN1 => ?_
  refine greg ?_
  refine gop (y_assign (v := .string _) rfl) rfl rfl rfl ?_
  refine gops_nil ?_
  refine hN1 _ _ ?_
  refine gfrom [(0, .pointer (some ⟨rg, 0, none⟩))] ⟨rfl, trivial⟩ fun σ => ?_
  refine gseq fun N2 hN2 => ?_
  refine greg_q (by kernel_rfl) (by kernel_rfl) ?_
  refine gq (y_move (v := .pointer (some ⟨rg, 0, none⟩)) rfl) rfl rfl rfl ?_
  refine gq (y_nilCheck rfl) rfl rfl rfl ?_
  refine gq (y_fieldAddr_box fa124_1 rfl) rfl rfl rfl ?_
  refine gq (y_load Tryz.isAgg9 rfl (cell_base h1)) rfl rfl rfl ?_
  refine gq (y_move (v := .pointer (some ⟨rg, 0, none⟩)) rfl) rfl rfl rfl ?_
  refine gq (y_nilCheck rfl) rfl rfl rfl ?_
  refine gq (y_fieldAddr_box fa124_2 rfl) rfl rfl rfl ?_
  refine gq (y_load Tryz.isAgg3 rfl (cell_base h2)) rfl rfl rfl ?_
  refine gq (y_move (v := .pointer (some ⟨rg, 0, none⟩)) rfl) rfl rfl rfl ?_
  refine gq (y_nilCheck rfl) rfl rfl rfl ?_
  refine gq (y_fieldAddr_box fa124_3 rfl) rfl rfl rfl ?_
  refine gq (y_load Tryz.isAgg3 rfl (cell_base h3)) rfl rfl rfl ?_
  refine gq (y_strslice Tryz.underlying9 rfl rfl rfl (by omega) (by omega) (by omega)) rfl rfl rfl ?_
  refine gq (y_assign (v := .string _) rfl) rfl rfl rfl ?_
  refine gqs_nil ?_
  refine hN2 _ _ ?_
  refine gfrom [(2, .string _)] ⟨rfl, trivial⟩ fun σ => ?_
  refine gret fun w1 hM => ?_
  refine ⟨_, res1 rfl (rt (v := .string _) rfl), ?_⟩
  exact ⟨by simp, hM.low⟩
set_option maxHeartbeats 4000000 in
theorem rdTake_any (w0 w : World) (rg n bc : Nat) (B : Option Addr) (s : ByteArray) (code : Int) (fr : Reg) (hs : s.size ≤ 200) (a : Nat) (ts : List Tk) (hrs : RS s a ts) (x : ByteArray) (hM0 : Mem w0 [box rg (.cells #[.slice B n bc, .string s, .int .i64 ((a : Nat)), .int .i64 ((nextW s (a) : Nat)), .int .i64 code] 124), fr] w) :
    Calls Tryz.prog 94 #[.pointer (some ⟨rg, 0, none⟩), .string x] w fun e w' => ∃ a' ts', e = .returned (.bool (decide (hd ts = x))) ∧ RS s a' ts' ∧ ts' = (if hd ts = x then ts.tail else ts) ∧ Mem w0 [box rg (.cells #[.slice B n bc, .string s, .int .i64 ((a' : Nat)), .int .i64 ((nextW s (a') : Nat)), .int .i64 code] 124), fr] w' := by
  refine gcallsT Tryz.func94 rfl Tryz.ntmps94 (Nat.le_of_ble_eq_true rfl) hM0 ?_
  refine gfrom [(0, .pointer (some ⟨rg, 0, none⟩)), (1, .string x)] ⟨rfl, rfl, trivial⟩ fun σ => ?_
  refine gseq fun N1 hN1 => ?_
  refine greg ?_
  refine gop (y_assign (v := .bool _) rfl) rfl rfl rfl ?_
  refine gops_nil ?_
  refine hN1 _ _ ?_
  refine gfrom [(0, .pointer (some ⟨rg, 0, none⟩)), (1, .string x)] ⟨rfl, rfl, trivial⟩ fun σ => ?_
  refine gseq fun N2 hN2 => ?_
  refine greg ?_
  refine gop (y_move (v := .pointer (some ⟨rg, 0, none⟩)) rfl) rfl rfl rfl ?_
  refine gop_pure (e_call (vs := [.pointer (some ⟨rg, 0, none⟩)]) Tryz.func118 rfl (by kernel_rfl) rfl) (fun w hM => rdWord_any w rg s _ _ (next_ge _ _) (next_le hrs.le) (cell_box (w0 := w0) 0 (off := 1) rfl rfl w hM) (cell_box (w0 := w0) 0 (off := 2) rfl rfl w hM) (cell_box (w0 := w0) 0 (off := 3) rfl rfl w hM)) rfl rfl rfl ?_
  refine gop (y_move (v := .string x) rfl) rfl rfl rfl ?_
  refine gop (y_eqls rfl rfl) rfl rfl rfl ?_
  refine gop (y_assign (v := .bool _) rfl) rfl rfl rfl ?_
  refine gops_nil ?_
  refine hN2 _ _ ?_
  refine gfrom [(0, .pointer (some ⟨rg, 0, none⟩)), (5, .bool _)] ⟨rfl, rfl, trivial⟩ fun σ => ?_
  refine gseq fun N3 hN3 => ?_
  refine gseq fun N4 hN4 => ?_
  refine greg ?_
  refine gop (y_move (v := .bool _) rfl) rfl rfl rfl ?_
  refine gops_nil ?_
  refine hN4 _ _ ?_
  refine gfrom [(0, .pointer (some ⟨rg, 0, none⟩)), (5, .bool _), (10, .bool _)] ⟨rfl, rfl, rfl, trivial⟩ fun σ => ?_
  refine gcond (b := _) rfl (fun hc10 => ?_) (fun hc10 => ?_)
  · 
    rw [strEqP_dec, hrs.hd] at hc10
    have hx := of_decide_eq_true hc10
    refine greg ?_
    refine gop (y_move (v := .pointer (some ⟨rg, 0, none⟩)) rfl) rfl rfl rfl ?_
    refine gop_does1 0 (fun v r G => v = .tuple #[] ∧ r = box rg (.cells #[.slice B n bc, .string s, .int .i64 ((skipW s (nextW s a) : Nat)), .int .i64 ((nextW s (skipW s (nextW s a)) : Nat)), .int .i64 code] 124) ∧ G = []) (e_call (vs := [.pointer (some ⟨rg, 0, none⟩)]) Tryz.func54 rfl (by kernel_rfl) rfl) rfl (fun w fr1 hfr hM => (rdScan_any _ w rg _ _ _ s _ fr1 hs _ _ _ rfl (next_le hrs.le) hM).mono fun _ _ ⟨h1, h2⟩ => ⟨_, _, [], h1, ⟨rfl, rfl, rfl⟩, h2⟩) rfl rfl rfl ?_
    rintro _ _ _ ⟨rfl, rfl, rfl⟩
    refine gops_nil ?_
    refine hN3 _ _ ?_
    refine gT [box rg _, fr] rfl ?_
    refine gfrom [(5, .bool _)] ⟨rfl, trivial⟩ fun σ => ?_
    refine gseq fun N5 hN5 => ?_
    refine greg ?_
    refine gop (y_move (v := .bool _) rfl) rfl rfl rfl ?_
    refine gop (y_assign (v := .bool _) rfl) rfl rfl rfl ?_
    refine gops_nil ?_
    refine hN5 _ _ ?_
    refine gfrom [(4, .bool _)] ⟨rfl, trivial⟩ fun σ => ?_
    refine gret fun w1 hM => ?_
    refine ⟨_, res1 rfl (rt (v := .bool _) rfl), ?_⟩
    rw [strEqP_dec, hrs.hd]
    first
    | exact ⟨_, _, rfl, hrs.next, by rw [if_pos hx], weak_take (T' := [_, fr]) rfl _ hM⟩
    | exact ⟨_, _, rfl, hrs, by rw [if_neg hx], weak_take (T' := [_, fr]) rfl _ hM⟩
  · 
    rw [strEqP_dec, hrs.hd] at hc10
    have hx := of_decide_eq_false hc10
    refine gskip ?_
    refine hN3 _ _ ?_
    refine gfrom [(5, .bool _)] ⟨rfl, trivial⟩ fun σ => ?_
    refine gseq fun N6 hN6 => ?_
    refine greg ?_
    refine gop (y_move (v := .bool _) rfl) rfl rfl rfl ?_
    refine gop (y_assign (v := .bool _) rfl) rfl rfl rfl ?_
    refine gops_nil ?_
    refine hN6 _ _ ?_
    refine gfrom [(4, .bool _)] ⟨rfl, trivial⟩ fun σ => ?_
    refine gret fun w1 hM => ?_
    refine ⟨_, res1 rfl (rt (v := .bool _) rfl), ?_⟩
    rw [strEqP_dec, hrs.hd]
    first
    | exact ⟨_, _, rfl, hrs.next, by rw [if_pos hx], weak_take (T' := [_, fr]) rfl _ hM⟩
    | exact ⟨_, _, rfl, hrs, by rw [if_neg hx], weak_take (T' := [_, fr]) rfl _ hM⟩
set_option maxHeartbeats 4000000 in
theorem rdFail_any (w0 w : World) (rg n bc : Nat) (B : Option Addr) (s : ByteArray) (code a x : Int) (fr : Reg) (c : Int) (hM0 : Mem w0 [box rg (.cells #[.slice B n bc, .string s, .int .i64 (a), .int .i64 (x), .int .i64 code] 124), fr] w) :
    Calls Tryz.prog 56 #[.pointer (some ⟨rg, 0, none⟩), .int .i64 c] w fun e w' => e = .returned (.tuple #[.int .i64 0, .bool false]) ∧ Mem w0 [box rg (.cells #[.slice B n bc, .string s, .int .i64 (a), .int .i64 (x), .int .i64 c] 124), fr] w' := by
  refine gcallsT Tryz.func56 rfl Tryz.ntmps56 (Nat.le_of_ble_eq_true rfl) hM0 ?_
  refine gfrom [(0, .pointer (some ⟨rg, 0, none⟩)), (1, .int _ _)] ⟨rfl, rfl, trivial⟩ fun σ => ?_
  refine gseq fun N1 hN1 => ?_
  refine greg ?_
  refine gop (y_assign (v := .int _ _) rfl) rfl rfl rfl ?_
  refine gop (y_assign (v := .bool _) rfl) rfl rfl rfl ?_
  refine gops_nil ?_
  refine hN1 _ _ ?_
  refine gfrom [(0, .pointer (some ⟨rg, 0, none⟩)), (1, .int _ _)] ⟨rfl, rfl, trivial⟩ fun σ => ?_
  refine gseq fun N2 hN2 => ?_
  refine greg ?_
  refine gop (y_move (v := .pointer (some ⟨rg, 0, none⟩)) rfl) rfl rfl rfl ?_
  refine gop (y_move (v := .int _ _) rfl) rfl rfl rfl ?_
  refine gop (y_nilCheck rfl) rfl rfl rfl ?_
  refine gop (y_fieldAddr_box fa124_4 rfl) rfl rfl rfl ?_
  refine gop_store 0 (v := .int _ _) (cs' := #[_, _, _, _, _]) rfl rfl Tryz.sizeOf3 rfl rfl rfl rfl (Nat.le_of_ble_eq_true rfl) rfl rfl ?_
  refine gops_nil ?_
  refine hN2 _ _ ?_
  refine gT [box rg _, fr] rfl ?_
  refine gfrom [] trivial fun σ => ?_
  refine gseq fun N3 hN3 => ?_
  refine greg ?_
  refine gop (y_assign (v := .int _ _) rfl) rfl rfl rfl ?_
  refine gop (y_assign (v := .bool _) rfl) rfl rfl rfl ?_
  refine gops_nil ?_
  refine hN3 _ _ ?_
  refine gfrom [(4, .int _ _), (5, .bool _)] ⟨rfl, rfl, trivial⟩ fun σ => ?_
  refine gret fun w1 hM => ?_
  refine ⟨_, res2 rfl (rt (v := .int _ _) rfl) (rt (v := .bool _) rfl), ?_⟩
  exact ⟨rfl, weak_take (T' := [_, fr]) rfl _ hM⟩
set_option maxHeartbeats 4000000 in
theorem polAdd5_any (w0 w : World) (rg bc : Nat) (B : Option Addr) (s : ByteArray) (code a x : Int) (o : List PN) (fr : Reg) (hM0 : Mem w0 [box rg (.cells #[.slice B o.length bc, .string s, .int .i64 (a), .int .i64 (x), .int .i64 code] 124), rowl pnCells w0.heap.size 48 4 (.slice B (o).length bc) (o), fr] w) (hol : o.length ≤ 1000) (n : PN) :
    Calls Tryz.prog 95 #[.pointer (some ⟨rg, 0, none⟩), pnV n] w fun e w' => ∃ B' bc', e = .returned (.int .i64 (o.length : Nat)) ∧ Mem w0 [box rg (.cells #[.slice B' (o ++ [n]).length bc', .string s, .int .i64 (a), .int .i64 (x), .int .i64 code] 124), rowl pnCells w0.heap.size 48 4 (.slice B' (o ++ [n]).length bc') (o ++ [n]), fr] w' := by
  refine gcallsT Tryz.func95 rfl Tryz.ntmps95 (Nat.le_of_ble_eq_true rfl) hM0 ?_
  refine gfrom [(0, .pointer (some ⟨rg, 0, none⟩)), (1, .agg #[_, _, _, _])] ⟨rfl, rfl, trivial⟩ fun σ => ?_
  refine gseq fun N1 hN1 => ?_
  refine greg ?_
  refine gop_box (v := .agg #[_, _, _, _]) (cs := #[_, _, _, _]) rfl rfl rfl (fun b3 hb3 => ?_)
  refine gop (y_assign (v := .int _ _) rfl) rfl rfl rfl ?_
  refine gops_nil ?_
  refine hN1 _ _ ?_
  refine gT [box rg _, rowl _ _ _ _ _ _, fr, box b3 _] rfl ?_
  refine gfrom [(0, .pointer (some ⟨rg, 0, none⟩)), (3, .pointer _)] ⟨rfl, rfl, trivial⟩ fun σ => ?_
  refine gseq fun N2 hN2 => ?_
  refine greg_e1 [10] [(1, emp)] (by kernel_rfl) ?_
  refine ge_take 0 (TK := [box rg _, emp, fr, box b3 _]) rfl (by kernel_rfl) (by kernel_rfl) (by kernel_rfl) #[false, true, true, true, true, true, true, true, false, false, false] (by kernel_rfl) rfl (y_move (v := .pointer (some ⟨rg, 0, none⟩)) rfl) rfl rfl rfl (weak_emp 1 rfl) (listed' := #[true, false, false, false, false, false, false, false, false, false, false]) rfl ?_
  refine ge_take 1 (TK := [box rg _, emp, fr, box b3 _]) rfl (by kernel_rfl) (by kernel_rfl) (by kernel_rfl) #[true, false, false, false, false, true, true, false, false, false, false] (by kernel_rfl) rfl (y_move (v := .pointer (some ⟨rg, 0, none⟩)) rfl) rfl rfl rfl (weak_emp 1 rfl) (listed' := #[true, true, false, false, false, false, false, false, false, false, false]) rfl ?_
  refine ge_take 2 (TK := [box rg _, emp, fr, box b3 _]) rfl (by kernel_rfl) (by kernel_rfl) (by kernel_rfl) #[true, true, false, false, false, true, true, false, false, false, false] (by kernel_rfl) rfl (y_nilCheck rfl) rfl rfl rfl (weak_emp 1 rfl) (listed' := #[true, true, true, false, false, false, false, false, false, false, false]) rfl ?_
  refine ge_take 3 (TK := [box rg _, emp, fr, box b3 _]) rfl (by kernel_rfl) (by kernel_rfl) (by kernel_rfl) #[true, true, true, false, false, true, true, false, false, false, false] (by kernel_rfl) rfl (y_fieldAddr_box fa122_0 rfl) rfl rfl rfl (weak_emp 1 rfl) (listed' := #[true, true, true, true, false, false, false, false, false, false, false]) rfl ?_
  refine ge_take 4 (TK := [box rg _, emp, fr, box b3 _]) rfl (by kernel_rfl) (by kernel_rfl) (by kernel_rfl) #[true, true, true, true, false, true, true, false, false, false, false] (by kernel_rfl) rfl (y_load Tryz.isAgg41 rfl (cell_box 0 rfl rfl)) rfl rfl rfl (weak_emp 1 rfl) (listed' := #[true, true, true, true, true, false, false, false, false, false, false]) rfl ?_
  refine ge_take 5 (TK := [box rg _, emp, fr, box b3 _]) rfl (by kernel_rfl) (by kernel_rfl) (by kernel_rfl) #[true, true, true, true, true, false, false, false, false, false, false] (by kernel_rfl) rfl (y_loads (cs := [_, _, _, _]) Tryz.isAgg48 Tryz.sizeOf48 rfl rfl (cells_box 3 rfl)) rfl rfl rfl (weak_emp 1 rfl) (listed' := #[true, true, true, true, true, true, false, false, false, false, false]) rfl ?_
  refine ge_one 6 (k' := 0) (listed' := #[true, true, true, true, true, true, true, false, false, false, false]) (by kernel_rfl) rfl rfl rfl ?_
  refine gop_lit (vs := [.agg #[_, _, _, _]]) (cells := #[_, _, _, _]) Tryz.underlying41 Tryz.sizeOf48 Tryz.zeroValue48 rfl (by decide) (by decide) rfl rfl rfl rfl (fun b11 hb11 => ?_)
  refine gops_nil ?_
  refine ge_fin (TK := [box rg _, emp, fr, box b3 _]) rfl (weak_trans (weak_take (T' := [box rg _, rowl _ _ _ _ _ _, fr, box b3 _]) rfl) (weak_emp 1 rfl)) ?_
  refine ge_one 7 (k' := 0) (listed' := #[true, true, true, true, true, true, true, true, false, false, false]) (by kernel_rfl) rfl rfl rfl ?_
  refine gop_append 1 (f := pnCells) (l2 := [n]) Tryz.underlying41 el48 wide_pn (v := .slice _ _ _) rfl rfl rfl rfl (fun h => by cases h) (by simp [maxLen]; omega) (by simp; omega) (src_box 4 rfl rfl) rfl (fun v12 => ?_)
  refine gops_fact (fun w hM => own_form (hM.own 1 rfl)) ?_
  rintro ⟨A12, c12, rfl, hc12, hm12⟩
  refine gops_nil ?_
  refine ge_fin (TK := [box rg _, emp, fr, box b3 _]) rfl (weak_trans (weak_take (T' := [box rg _, rowl _ _ _ _ _ _, fr, box b3 _]) rfl) (weak_emp 1 rfl)) ?_
  refine ge_take 8 (TK := [box rg _, emp, fr, box b3 _]) rfl (by kernel_rfl) (by kernel_rfl) (by kernel_rfl) #[true, true, true, true, true, true, true, true, false, false, false] (by kernel_rfl) rfl (y_nilCheck rfl) rfl rfl rfl (weak_trans (weak_take (T' := [box rg _, rowl _ _ _ _ _ _, fr, box b3 _]) rfl) (weak_emp 1 rfl)) (listed' := #[true, true, true, true, true, true, true, true, true, false, false]) rfl ?_
  refine ge_take 9 (TK := [box rg _, emp, fr, box b3 _]) rfl (by kernel_rfl) (by kernel_rfl) (by kernel_rfl) #[true, true, true, true, true, true, true, true, true, false, false] (by kernel_rfl) rfl (y_fieldAddr_box fa122_0 rfl) rfl rfl rfl (weak_trans (weak_take (T' := [box rg _, rowl _ _ _ _ _ _, fr, box b3 _]) rfl) (weak_emp 1 rfl)) (listed' := #[true, true, true, true, true, true, true, true, true, true, false]) rfl ?_
  refine ge_one 10 (k' := 1) (listed' := #[true, true, true, true, true, true, true, true, true, true, true]) (by kernel_rfl) rfl rfl rfl ?_
  refine gop_store 0 (v := .slice A12 _ c12) (cs' := #[_, _, _, _, _]) rfl rfl Tryz.sizeOf41 rfl rfl rfl rfl (Nat.le_of_ble_eq_true rfl) rfl rfl ?_
  refine gops_nil ?_
  refine ge_fin (TK := []) rfl (weak_nil) ?_
  refine ge_done (by kernel_rfl) ?_
  refine hN2 _ _ ?_
  refine gT [box rg _, rowl _ _ _ _ _ _, fr, box b3 _, box b11 _] rfl ?_
  refine gfrom [(0, .pointer (some ⟨rg, 0, none⟩))] ⟨rfl, trivial⟩ fun σ => ?_
  refine gseq fun N3 hN3 => ?_
  refine greg ?_
  refine gop (y_move (v := .pointer (some ⟨rg, 0, none⟩)) rfl) rfl rfl rfl ?_
  refine gop (y_nilCheck rfl) rfl rfl rfl ?_
  refine gop (y_fieldAddr_box fa122_0 rfl) rfl rfl rfl ?_
  refine gop (y_load Tryz.isAgg41 rfl (cell_box 0 rfl rfl)) rfl rfl rfl ?_
  refine gop (y_len Tryz.underlying41 rfl) rfl rfl rfl ?_
  refine gop (y_sub rfl rfl ⟨by first | omega | (simp; done) | (simp; omega), by first | omega | (simp; done) | (simp; omega)⟩) rfl rfl rfl ?_
  refine gop (y_assign (v := .int _ _) rfl) rfl rfl rfl ?_
  refine gops_nil ?_
  refine hN3 _ _ ?_
  refine gfrom [(4, .int _ _)] ⟨rfl, trivial⟩ fun σ => ?_
  refine gret fun w1 hM => ?_
  refine ⟨_, res1 rfl (rt (v := .int _ _) rfl), ?_⟩
  exact ⟨A12, c12, by simp, weak_take (T' := [_, _, fr]) rfl _ hM⟩
end Go.Proofs.YtbkameioedmlkaaGreatDoor
namespace Go.Proofs.YtbkameioedmlkaaGreatDoor
open Go.RowKit Go.Cf
set_option maxRecDepth 10000
theorem fa124_0 (a : Addr) (w : World) : (Instr.fieldAt 124 (.pointer (some a)) 0).run Tryz.prog w = .ok (.pointer (some (a.add 0))) w := by kernel_rfl
theorem bd48_0_1 (x1 : Int) (x2 : Int) : Tryz.prog.built 48 [(0, .int .i64 x1), (1, .int .i64 x2)] = some #[.int .i64 x1, .int .i64 x2, .int .i64 0, .int .i64 0] := by kernel_rfl
set_option maxHeartbeats 8000000 in
theorem rdNumber_any (w0 w : World) (rg bc : Nat) (B : Option Addr) (s : ByteArray) (code : Int) (o : List PN) (fr : Reg) (hs : s.size ≤ 200) (a : Nat) (ts : List Tk) (hrs : RS s a ts) (kd : Int) (hol : o.length ≤ 900) (hL : LaidP w0) (hM0 : Mem w0 [box rg (.cells #[.slice B o.length bc, .string s, .int .i64 ((a : Nat)), .int .i64 ((nextW s (a) : Nat)), .int .i64 code] 124), rowl pnCells w0.heap.size 48 4 (.slice B (o).length bc) (o), fr] w) :
    Calls Tryz.prog 117 #[.pointer (some ⟨rg, 0, none⟩), .int .i64 kd] w fun e w' => ∃ x b B' bc' o' a' code', e = .returned (.tuple #[.int .i64 x, .bool b]) ∧ POK s (numR s.size kd ts) o code x b o' a' code' ∧ Mem w0 [box rg (.cells #[.slice B' o'.length bc', .string s, .int .i64 ((a' : Nat)), .int .i64 ((nextW s (a') : Nat)), .int .i64 code'] 124), rowl pnCells w0.heap.size 48 4 (.slice B' (o').length bc') (o'), fr] w' := by
  have hhd : (hd ts).size ≤ 200 := by rw [← hrs.hd, ByteArray.size_extract]; omega
  refine gcallsT Tryz.func117 rfl Tryz.ntmps117 (Nat.le_of_ble_eq_true rfl) hM0 ?_
  refine gfrom [(0, .pointer (some ⟨rg, 0, none⟩)), (1, .int _ _)] ⟨rfl, rfl, trivial⟩ fun σ => ?_
  refine gseq fun N1 hN1 => ?_
  refine greg ?_
  refine gop (y_assign (v := .int _ _) rfl) rfl rfl rfl ?_
  refine gop (y_assign (v := .bool _) rfl) rfl rfl rfl ?_
  refine gops_nil ?_
  refine hN1 _ _ ?_
  refine gfrom [(0, .pointer (some ⟨rg, 0, none⟩)), (1, .int _ _)] ⟨rfl, rfl, trivial⟩ fun σ => ?_
  refine gseq fun N2 hN2 => ?_
  refine greg ?_
  refine gop (y_move (v := .pointer (some ⟨rg, 0, none⟩)) rfl) rfl rfl rfl ?_
  refine gop_pure (e_call (vs := [.pointer (some ⟨rg, 0, none⟩)]) Tryz.func118 rfl (by kernel_rfl) rfl) (fun w hM => (by have h9 := rdWord_any w rg s _ _ (next_ge _ _) (next_le hrs.le) (cell_box (w0 := w0) 0 (off := 1) rfl rfl w hM) (cell_box (w0 := w0) 0 (off := 2) rfl rfl w hM) (cell_box (w0 := w0) 0 (off := 3) rfl rfl w hM); rw [hrs.hd] at h9; exact h9)) rfl rfl rfl ?_
  refine gop (y_assign (v := .string _) rfl) rfl rfl rfl ?_
  refine gops_nil ?_
  refine hN2 _ _ ?_
  refine gfrom [(0, .pointer (some ⟨rg, 0, none⟩)), (1, .int _ _), (6, .string _)] ⟨rfl, rfl, rfl, trivial⟩ fun σ => ?_
  refine gseq fun N3 hN3 => ?_
  refine greg ?_
  refine gop (y_move (v := .string _) rfl) rfl rfl rfl ?_
  refine gop_got (fun v T' => ∃ n er b, v = .tuple #[.int .i64 n, er] ∧ AtoiEnd (hd ts) n er b ∧ T' = []) (e_call (vs := [.string _]) Tryz.func143 rfl (by kernel_rfl) rfl) (fun w hM => (atoi_any w (hd ts) (by omega) (hL.base hM)).mono fun _ _ ⟨n, er, b, h1, h2, h3⟩ => ⟨_, [], h1, ⟨n, er, b, rfl, h2, rfl⟩, mem_nil h3⟩) rfl rfl rfl ?_
  rintro _ _ ⟨n, er, b, rfl, hAE, rfl⟩
  refine gop (y_move (v := .tuple #[.int _ _, er]) rfl) rfl rfl rfl ?_
  refine gop (y_extract (v := .int _ _) rfl rfl) rfl rfl rfl ?_
  refine gop (y_extract (v := _) rfl rfl) rfl rfl rfl ?_
  refine gop (y_assign (v := .int _ _) rfl) rfl rfl rfl ?_
  refine gop (y_assign (v := _) rfl) rfl rfl rfl ?_
  refine gops_nil ?_
  refine hN3 _ _ ?_
  refine gfrom [(0, .pointer (some ⟨rg, 0, none⟩)), (1, .int _ _), (6, .string _), (7, .int _ _), (8, _)] ⟨rfl, rfl, rfl, rfl, rfl, trivial⟩ fun σ => ?_
  refine gseq fun N4 hN4 => ?_
  refine gseq fun N5 hN5 => ?_
  refine greg ?_
  refine gop (y_move (v := _) rfl) rfl rfl rfl ?_
  refine gop (y_errne (by kernel_rfl) hAE rfl rfl) rfl rfl rfl ?_
  refine gop (y_move (v := .bool _) rfl) rfl rfl rfl ?_
  refine gop_if (want := false) rfl rfl rfl rfl rfl rfl (fun hg18 => ?_) (fun hg18 => ?_)
  · 
    have hg18d := hg18
    refine gop (y_bare (y_move (v := .int _ _) rfl)) rfl rfl rfl ?_
    refine gop_on rfl rfl rfl rfl hg18 ?_
    refine gop_pure (e_call (vs := [.int _ _]) Tryz.func144 rfl (by kernel_rfl) rfl) (fun w hM => itoa_any w n (Lib.atoiAll_bounds (hAE.ok (by assumption))).1 (Lib.atoiAll_bounds (hAE.ok (by assumption))).2 (hL.base hM)) rfl rfl rfl ?_
    refine gop_on rfl rfl rfl rfl hg18 ?_
    refine gop (y_bare (y_move (v := .string _) rfl)) rfl rfl rfl ?_
    refine gop_on rfl rfl rfl rfl hg18 ?_
    refine gop (y_bare (y_neqs rfl rfl)) rfl rfl rfl ?_
    refine gop (y_pick_f (v := .bool _) rfl hg18 rfl) rfl rfl rfl ?_
    refine gops_nil ?_
    refine hN5 _ _ ?_
    refine gfrom [(0, .pointer (some ⟨rg, 0, none⟩)), (1, .int _ _), (7, .int _ _), (23, .bool _)] ⟨rfl, rfl, rfl, rfl, trivial⟩ fun σ => ?_
    refine gcond (b := _) rfl (fun hc23 => ?_) (fun hc23 => ?_)
    · 
      have hV : numV (hd ts) = none := by first | exact num_bad hAE (.inl (by assumption)) | exact num_bad hAE (.inr (fun h9 => by rw [h9] at hc23; simp at hc23))
      have hR : numR s.size kd ts = .bad 1 a := by
        rw [numR, hV]
        show Res.bad 1 (pos s.size ts) = _
        rw [hrs.pos]
      refine gseq fun N6 hN6 => ?_
      refine greg ?_
      refine gop (y_move (v := .pointer (some ⟨rg, 0, none⟩)) rfl) rfl rfl rfl ?_
      refine gop_does1 0 (fun v r G => v = .tuple #[.int .i64 0, .bool false] ∧ r = box rg (.cells #[.slice B o.length bc, .string s, .int .i64 ((a : Nat)), .int .i64 ((nextW s (a) : Nat)), .int .i64 1] 124) ∧ G = []) (e_call (vs := [.pointer (some ⟨rg, 0, none⟩), _]) Tryz.func56 rfl (by kernel_rfl) rfl) rfl (fun w fr1 hfr hM => (rdFail_any _ w rg _ _ _ s _ _ _ fr1 1 hM).mono fun _ _ ⟨h1, h2⟩ => ⟨_, _, [], h1, ⟨rfl, rfl, rfl⟩, h2⟩) rfl rfl rfl ?_
      rintro _ _ _ ⟨rfl, rfl, rfl⟩
      refine gop (y_extract (v := .int _ _) rfl rfl) rfl rfl rfl ?_
      refine gop (y_extract (v := .bool _) rfl rfl) rfl rfl rfl ?_
      refine gop (y_assign (v := .int _ _) rfl) rfl rfl rfl ?_
      refine gop (y_assign (v := .bool _) rfl) rfl rfl rfl ?_
      refine gops_nil ?_
      refine hN6 _ _ ?_
      refine gT [box rg _, rowl _ _ _ _ _ _, fr] rfl ?_
      refine gfrom [(4, .int _ _), (5, .bool _)] ⟨rfl, rfl, trivial⟩ fun σ => ?_
      refine gret fun w1 hM => ?_
      refine ⟨_, res2 rfl (rt (v := .int _ _) rfl) (rt (v := .bool _) rfl), ?_⟩
      exact ⟨_, _, B, bc, o, _, _, rfl, pok_bad hR (by omega), weak_take (T' := [_, _, fr]) rfl _ hM⟩
    · 
      have hV : numV (hd ts) = some n := num_good hAE (by assumption) (by rw [strEqP_dec] at hc23; simpa using hc23)
      refine gskip ?_
      refine hN4 _ _ ?_
      refine gfrom [(0, .pointer (some ⟨rg, 0, none⟩)), (1, .int _ _), (7, .int _ _)] ⟨rfl, rfl, rfl, trivial⟩ fun σ => ?_
      refine gseq fun N7 hN7 => ?_
      refine gseq fun N8 hN8 => ?_
      refine greg ?_
      refine gop (y_move (v := .int _ _) rfl) rfl rfl rfl ?_
      refine gop (y_lss rfl rfl) rfl rfl rfl ?_
      refine gop (y_move (v := .bool _) rfl) rfl rfl rfl ?_
      refine gop_if (want := false) rfl rfl rfl rfl rfl rfl (fun hg30 => ?_) (fun hg30 => ?_)
      · 
        have hg30d := of_decide_eq_false hg30
        refine gop (y_bare (y_move (v := .int _ _) rfl)) rfl rfl rfl ?_
        refine gop_on rfl rfl rfl rfl hg30 ?_
        refine gop (y_bare (y_move (v := .int _ _) rfl)) rfl rfl rfl ?_
        refine gop_on rfl rfl rfl rfl hg30 ?_
        refine gop_pure (e_call (vs := [.int _ _]) Tryz.func98 rfl (by kernel_rfl) rfl) (fun w hM => polMost_any w _) rfl rfl rfl ?_
        refine gop_on rfl rfl rfl rfl hg30 ?_
        refine gop (y_bare (y_gtr rfl rfl)) rfl rfl rfl ?_
        refine gop (y_pick_f (v := .bool _) rfl hg30 rfl) rfl rfl rfl ?_
        refine gops_nil ?_
        refine hN8 _ _ ?_
        refine gfrom [(0, .pointer (some ⟨rg, 0, none⟩)), (1, .int _ _), (7, .int _ _), (35, .bool _)] ⟨rfl, rfl, rfl, rfl, trivial⟩ fun σ => ?_
        refine gcond (b := _) rfl (fun hc35 => ?_) (fun hc35 => ?_)
        · 
          replace hc35 := of_decide_eq_true hc35
          have hR : numR s.size kd ts = .bad 3 a := by
            rw [numR, hV]
            show (if n < 0 ∨ mostN kd < n then Res.bad 3 (pos s.size ts) else _) = _
            rw [if_pos (by omega), hrs.pos]
          refine gseq fun N9 hN9 => ?_
          refine greg ?_
          refine gop (y_move (v := .pointer (some ⟨rg, 0, none⟩)) rfl) rfl rfl rfl ?_
          refine gop_does1 0 (fun v r G => v = .tuple #[.int .i64 0, .bool false] ∧ r = box rg (.cells #[.slice B o.length bc, .string s, .int .i64 ((a : Nat)), .int .i64 ((nextW s (a) : Nat)), .int .i64 3] 124) ∧ G = []) (e_call (vs := [.pointer (some ⟨rg, 0, none⟩), _]) Tryz.func56 rfl (by kernel_rfl) rfl) rfl (fun w fr1 hfr hM => (rdFail_any _ w rg _ _ _ s _ _ _ fr1 3 hM).mono fun _ _ ⟨h1, h2⟩ => ⟨_, _, [], h1, ⟨rfl, rfl, rfl⟩, h2⟩) rfl rfl rfl ?_
          rintro _ _ _ ⟨rfl, rfl, rfl⟩
          refine gop (y_extract (v := .int _ _) rfl rfl) rfl rfl rfl ?_
          refine gop (y_extract (v := .bool _) rfl rfl) rfl rfl rfl ?_
          refine gop (y_assign (v := .int _ _) rfl) rfl rfl rfl ?_
          refine gop (y_assign (v := .bool _) rfl) rfl rfl rfl ?_
          refine gops_nil ?_
          refine hN9 _ _ ?_
          refine gT [box rg _, rowl _ _ _ _ _ _, fr] rfl ?_
          refine gfrom [(4, .int _ _), (5, .bool _)] ⟨rfl, rfl, trivial⟩ fun σ => ?_
          refine gret fun w1 hM => ?_
          refine ⟨_, res2 rfl (rt (v := .int _ _) rfl) (rt (v := .bool _) rfl), ?_⟩
          exact ⟨_, _, B, bc, o, _, _, rfl, pok_bad hR (by omega), weak_take (T' := [_, _, fr]) rfl _ hM⟩
        · 
          replace hc35 := of_decide_eq_false hc35
          have hR : numR s.size kd ts = .ok (.leaf kd n) ts.tail := by
            rw [numR, hV]
            show (if n < 0 ∨ mostN kd < n then Res.bad 3 (pos s.size ts) else _) = _
            rw [if_neg (by omega)]
          refine gskip ?_
          refine hN7 _ _ ?_
          refine gfrom [(0, .pointer (some ⟨rg, 0, none⟩)), (1, .int _ _), (7, .int _ _)] ⟨rfl, rfl, rfl, trivial⟩ fun σ => ?_
          refine gseq fun N10 hN10 => ?_
          refine greg ?_
          refine gop (y_move (v := .pointer (some ⟨rg, 0, none⟩)) rfl) rfl rfl rfl ?_
          refine gop_does1 0 (fun v r G => v = .tuple #[] ∧ r = box rg (.cells #[.slice B o.length bc, .string s, .int .i64 ((skipW s (nextW s a) : Nat)), .int .i64 ((nextW s (skipW s (nextW s a)) : Nat)), .int .i64 code] 124) ∧ G = []) (e_call (vs := [.pointer (some ⟨rg, 0, none⟩)]) Tryz.func54 rfl (by kernel_rfl) rfl) rfl (fun w fr1 hfr hM => (rdScan_any _ w rg _ _ _ s _ fr1 hs _ _ _ rfl (next_le hrs.le) hM).mono fun _ _ ⟨h1, h2⟩ => ⟨_, _, [], h1, ⟨rfl, rfl, rfl⟩, h2⟩) rfl rfl rfl ?_
          rintro _ _ _ ⟨rfl, rfl, rfl⟩
          refine gops_nil ?_
          refine hN10 _ _ ?_
          refine gT [box rg _, rowl _ _ _ _ _ _, fr] rfl ?_
          refine gfrom [(0, .pointer (some ⟨rg, 0, none⟩)), (1, .int _ _), (7, .int _ _)] ⟨rfl, rfl, rfl, trivial⟩ fun σ => ?_
          refine gseq fun N11 hN11 => ?_
          refine greg ?_
          refine gop (y_move (v := .pointer (some ⟨rg, 0, none⟩)) rfl) rfl rfl rfl ?_
          refine gop (y_nilCheck rfl) rfl rfl rfl ?_
          refine gop (y_fieldAddr_box fa124_0 rfl) rfl rfl rfl ?_
          refine gop (y_move (v := .int _ _) rfl) rfl rfl rfl ?_
          refine gop (y_move (v := .int _ _) rfl) rfl rfl rfl ?_
          refine gop (y_build (vs := [(0, .int _ _), (1, .int _ _)]) (cells := #[_, _, .int .i64 0, .int .i64 0]) rfl (bd48_0_1 _ _)) rfl rfl rfl ?_
          refine gop_does2 0 1 (fun v r s1 G => ∃ B' bc', v = .int .i64 ((o).length : Nat) ∧ r = box rg (.cells #[.slice B' (o ++ [(⟨kd, n, 0, 0⟩ : PN)]).length bc', .string s, .int .i64 ((skipW s (nextW s a) : Nat)), .int .i64 ((nextW s (skipW s (nextW s a)) : Nat)), .int .i64 code] 124) ∧ s1 = rowl pnCells w0.heap.size 48 4 (.slice B' (o ++ [(⟨kd, n, 0, 0⟩ : PN)]).length bc') (o ++ [(⟨kd, n, 0, 0⟩ : PN)]) ∧ G = []) (e_call (vs := [.pointer _, .agg #[_, _, _, _]]) Tryz.func95 rfl (by kernel_rfl) rfl) rfl rfl rfl (fun w fr1 hfr hM => (polAdd5_any _ w rg _ _ s _ _ _ (o) fr1 hM (by omega) ((⟨kd, n, 0, 0⟩ : PN))).mono fun _ _ ⟨B', bc', h1, h2⟩ => ⟨_, _, _, [], h1, ⟨B', bc', rfl, rfl, rfl, rfl⟩, h2⟩) rfl rfl rfl ?_
          rintro _ _ _ _ ⟨B48, bc48, rfl, rfl, rfl, rfl⟩
          refine gop (y_assign (v := .int _ _) rfl) rfl rfl rfl ?_
          refine gop (y_assign (v := .bool _) rfl) rfl rfl rfl ?_
          refine gops_nil ?_
          refine hN11 _ _ ?_
          refine gT [box rg _, rowl _ _ _ _ _ _, fr] rfl ?_
          refine gfrom [(4, .int _ _), (5, .bool _)] ⟨rfl, rfl, trivial⟩ fun σ => ?_
          refine gret fun w1 hM => ?_
          refine ⟨_, res2 rfl (rt (v := .int _ _) rfl) (rt (v := .bool _) rfl), ?_⟩
          exact ⟨_, _, B48, bc48, _, _, _, rfl, pok_ok hR (by simp only [Tr.size]; omega) rfl hrs.next, weak_take (T' := [_, _, fr]) rfl _ hM⟩
      · 
        have hg30d := of_decide_eq_true hg30
        refine gop_off rfl rfl rfl rfl hg30 rfl rfl ?_
        refine gop_off rfl rfl rfl rfl hg30 rfl rfl ?_
        refine gop_off rfl rfl rfl rfl hg30 rfl rfl ?_
        refine gop (y_pick_t (v := .bool _) rfl hg30 rfl) rfl rfl rfl ?_
        refine gops_nil ?_
        refine hN8 _ _ ?_
        refine gfrom [(0, .pointer (some ⟨rg, 0, none⟩)), (1, .int _ _), (7, .int _ _), (35, .bool _)] ⟨rfl, rfl, rfl, rfl, trivial⟩ fun σ => ?_
        refine gcond (b := _) rfl (fun hc35 => ?_) (fun hc35 => ?_)
        · 
          have hR : numR s.size kd ts = .bad 3 a := by
            rw [numR, hV]
            show (if n < 0 ∨ mostN kd < n then Res.bad 3 (pos s.size ts) else _) = _
            rw [if_pos (by omega), hrs.pos]
          refine gseq fun N12 hN12 => ?_
          refine greg ?_
          refine gop (y_move (v := .pointer (some ⟨rg, 0, none⟩)) rfl) rfl rfl rfl ?_
          refine gop_does1 0 (fun v r G => v = .tuple #[.int .i64 0, .bool false] ∧ r = box rg (.cells #[.slice B o.length bc, .string s, .int .i64 ((a : Nat)), .int .i64 ((nextW s (a) : Nat)), .int .i64 3] 124) ∧ G = []) (e_call (vs := [.pointer (some ⟨rg, 0, none⟩), _]) Tryz.func56 rfl (by kernel_rfl) rfl) rfl (fun w fr1 hfr hM => (rdFail_any _ w rg _ _ _ s _ _ _ fr1 3 hM).mono fun _ _ ⟨h1, h2⟩ => ⟨_, _, [], h1, ⟨rfl, rfl, rfl⟩, h2⟩) rfl rfl rfl ?_
          rintro _ _ _ ⟨rfl, rfl, rfl⟩
          refine gop (y_extract (v := .int _ _) rfl rfl) rfl rfl rfl ?_
          refine gop (y_extract (v := .bool _) rfl rfl) rfl rfl rfl ?_
          refine gop (y_assign (v := .int _ _) rfl) rfl rfl rfl ?_
          refine gop (y_assign (v := .bool _) rfl) rfl rfl rfl ?_
          refine gops_nil ?_
          refine hN12 _ _ ?_
          refine gT [box rg _, rowl _ _ _ _ _ _, fr] rfl ?_
          refine gfrom [(4, .int _ _), (5, .bool _)] ⟨rfl, rfl, trivial⟩ fun σ => ?_
          refine gret fun w1 hM => ?_
          refine ⟨_, res2 rfl (rt (v := .int _ _) rfl) (rt (v := .bool _) rfl), ?_⟩
          exact ⟨_, _, B, bc, o, _, _, rfl, pok_bad hR (by omega), weak_take (T' := [_, _, fr]) rfl _ hM⟩
        · 
          cases hc35
  · 
    have hg18d := hg18
    refine gop_off rfl rfl rfl rfl hg18 rfl rfl ?_
    refine gop_off rfl rfl rfl rfl hg18 rfl rfl ?_
    refine gop_off rfl rfl rfl rfl hg18 rfl rfl ?_
    refine gop (y_pick_t (v := .bool _) rfl hg18 rfl) rfl rfl rfl ?_
    refine gops_nil ?_
    refine hN5 _ _ ?_
    refine gfrom [(0, .pointer (some ⟨rg, 0, none⟩)), (1, .int _ _), (7, .int _ _), (23, .bool _)] ⟨rfl, rfl, rfl, rfl, trivial⟩ fun σ => ?_
    refine gcond (b := _) rfl (fun hc23 => ?_) (fun hc23 => ?_)
    · 
      have hV : numV (hd ts) = none := by first | exact num_bad hAE (.inl (by assumption)) | exact num_bad hAE (.inr (fun h9 => by rw [h9] at hc23; simp at hc23))
      have hR : numR s.size kd ts = .bad 1 a := by
        rw [numR, hV]
        show Res.bad 1 (pos s.size ts) = _
        rw [hrs.pos]
      refine gseq fun N13 hN13 => ?_
      refine greg ?_
      refine gop (y_move (v := .pointer (some ⟨rg, 0, none⟩)) rfl) rfl rfl rfl ?_
      refine gop_does1 0 (fun v r G => v = .tuple #[.int .i64 0, .bool false] ∧ r = box rg (.cells #[.slice B o.length bc, .string s, .int .i64 ((a : Nat)), .int .i64 ((nextW s (a) : Nat)), .int .i64 1] 124) ∧ G = []) (e_call (vs := [.pointer (some ⟨rg, 0, none⟩), _]) Tryz.func56 rfl (by kernel_rfl) rfl) rfl (fun w fr1 hfr hM => (rdFail_any _ w rg _ _ _ s _ _ _ fr1 1 hM).mono fun _ _ ⟨h1, h2⟩ => ⟨_, _, [], h1, ⟨rfl, rfl, rfl⟩, h2⟩) rfl rfl rfl ?_
      rintro _ _ _ ⟨rfl, rfl, rfl⟩
      refine gop (y_extract (v := .int _ _) rfl rfl) rfl rfl rfl ?_
      refine gop (y_extract (v := .bool _) rfl rfl) rfl rfl rfl ?_
      refine gop (y_assign (v := .int _ _) rfl) rfl rfl rfl ?_
      refine gop (y_assign (v := .bool _) rfl) rfl rfl rfl ?_
      refine gops_nil ?_
      refine hN13 _ _ ?_
      refine gT [box rg _, rowl _ _ _ _ _ _, fr] rfl ?_
      refine gfrom [(4, .int _ _), (5, .bool _)] ⟨rfl, rfl, trivial⟩ fun σ => ?_
      refine gret fun w1 hM => ?_
      refine ⟨_, res2 rfl (rt (v := .int _ _) rfl) (rt (v := .bool _) rfl), ?_⟩
      exact ⟨_, _, B, bc, o, _, _, rfl, pok_bad hR (by omega), weak_take (T' := [_, _, fr]) rfl _ hM⟩
    · 
      cases hc23
end Go.Proofs.YtbkameioedmlkaaGreatDoor
namespace Go.Proofs.YtbkameioedmlkaaGreatDoor
open Go.RowKit Go.Cf
def ListH (w0 : World) (s : ByteArray) (rg n : Nat) : Prop := ∀ (lv : Nat) (vi : Int) (w : World) (B : Option Addr) (bc : Nat) (code : Int) (o : List PN) (fr : Reg) (a : Nat) (ts : List Tk), lv ≤ 2 → vi = (lv : Int) → 3 * ts.length + 3 ≤ n + lv → RS s a ts → o.length + ts.length ≤ 800 → Mem w0 [box rg (.cells #[.slice B o.length bc, .string s, .int .i64 ((a : Nat)), .int .i64 ((nextW s (a) : Nat)), .int .i64 code] 124), rowl pnCells w0.heap.size 48 4 (.slice B (o).length bc) (o), fr] w →
    Calls Tryz.prog 55 #[.pointer (some ⟨rg, 0, none⟩), .int .i64 vi] w fun e w' => ∃ x b B' bc' o' a' code', e = .returned (.tuple #[.int .i64 x, .bool b]) ∧ POK s (rd s.size n lv none ts) o code x b o' a' code' ∧ Mem w0 [box rg (.cells #[.slice B' o'.length bc', .string s, .int .i64 ((a' : Nat)), .int .i64 ((nextW s (a') : Nat)), .int .i64 code'] 124), rowl pnCells w0.heap.size 48 4 (.slice B' (o').length bc') (o'), fr] w'
def FacH (w0 : World) (s : ByteArray) (rg n : Nat) : Prop := ∀ (w : World) (B : Option Addr) (bc : Nat) (code : Int) (o : List PN) (fr : Reg) (a : Nat) (ts : List Tk), 3 * ts.length + 1 ≤ n → RS s a ts → o.length + ts.length ≤ 800 → Mem w0 [box rg (.cells #[.slice B o.length bc, .string s, .int .i64 ((a : Nat)), .int .i64 ((nextW s (a) : Nat)), .int .i64 code] 124), rowl pnCells w0.heap.size 48 4 (.slice B (o).length bc) (o), fr] w →
    Calls Tryz.prog 93 #[.pointer (some ⟨rg, 0, none⟩)] w fun e w' => ∃ x b B' bc' o' a' code', e = .returned (.tuple #[.int .i64 x, .bool b]) ∧ POK s (rd s.size n 2 none ts) o code x b o' a' code' ∧ Mem w0 [box rg (.cells #[.slice B' o'.length bc', .string s, .int .i64 ((a' : Nat)), .int .i64 ((nextW s (a') : Nat)), .int .i64 code'] 124), rowl pnCells w0.heap.size 48 4 (.slice B' (o').length bc') (o'), fr] w'
end Go.Proofs.YtbkameioedmlkaaGreatDoor
namespace Go.Proofs.YtbkameioedmlkaaGreatDoor
open Go.RowKit Go.Cf
set_option maxRecDepth 10000
theorem bd48_0_2 (x1 : Int) (x2 : Int) : Tryz.prog.built 48 [(0, .int .i64 x1), (2, .int .i64 x2)] = some #[.int .i64 x1, .int .i64 0, .int .i64 x2, .int .i64 0] := by kernel_rfl
theorem bd48_0 (x1 : Int) : Tryz.prog.built 48 [(0, .int .i64 x1)] = some #[.int .i64 x1, .int .i64 0, .int .i64 0, .int .i64 0] := by kernel_rfl
set_option maxHeartbeats 16000000 in
theorem rdFactor_step (w0 : World) (s : ByteArray) (hs : s.size ≤ 200) (hL : LaidP w0) (rg n : Nat) (hF : FacH w0 s rg n) (hLi : ListH w0 s rg n) : FacH w0 s rg (n + 1) := by
  intro w B bc code o fr a ts hfu hrs hol hM0
  have hrd : rd s.size (n + 1) 2 none ts = fac s.size (rd s.size n 2 none) (rd s.size n 0 none) ts := by rw [rd, if_pos rfl]
  refine gcallsT Tryz.func93 rfl Tryz.ntmps93 (Nat.le_of_ble_eq_true rfl) hM0 ?_
  refine gfrom [(0, .pointer (some ⟨rg, 0, none⟩))] ⟨rfl, trivial⟩ fun σ => ?_
  refine gseq fun N1 hN1 => ?_
  refine greg ?_
  refine gop (y_assign (v := .int _ _) rfl) rfl rfl rfl ?_
  refine gop (y_assign (v := .bool _) rfl) rfl rfl rfl ?_
  refine gops_nil ?_
  refine hN1 _ _ ?_
  refine gfrom [(0, .pointer (some ⟨rg, 0, none⟩))] ⟨rfl, trivial⟩ fun σ => ?_
  refine gseq fun N2 hN2 => ?_
  refine gblock ?_
  refine gseq fun N3 hN3 => ?_
  refine greg ?_
  refine gop (y_move (v := .pointer (some ⟨rg, 0, none⟩)) rfl) rfl rfl rfl ?_
  refine gop_does1 0 (fun v r G => ∃ a' ts', v = .bool (decide (hd ts = wNot)) ∧ r = box rg (.cells #[.slice B (o).length bc, .string s, .int .i64 ((a' : Nat)), .int .i64 ((nextW s (a') : Nat)), .int .i64 code] 124) ∧ RS s a' ts' ∧ ts' = (if hd ts = wNot then ts.tail else ts) ∧ G = []) (e_call (vs := [.pointer (some ⟨rg, 0, none⟩), _]) Tryz.func94 rfl (by kernel_rfl) rfl) rfl (fun w fr1 hfr hM => (rdTake_any _ w rg _ _ _ s _ fr1 hs _ ts hrs _ hM).mono fun _ _ ⟨a', ts', h1, h2, h3, h4⟩ => ⟨_, _, [], h1, ⟨a', ts', rfl, rfl, h2, h3, rfl⟩, h4⟩) rfl rfl rfl ?_
  rintro _ _ _ ⟨a10, ts10, rfl, rfl, hrs10, hts10, rfl⟩
  refine gop (y_assign (v := .bool _) rfl) rfl rfl rfl ?_
  refine gops_nil ?_
  refine hN3 _ _ ?_
  refine gT [box rg _, rowl _ _ _ _ _ _, fr] rfl ?_
  refine gfrom [(0, .pointer (some ⟨rg, 0, none⟩)), (8, .bool _)] ⟨rfl, rfl, trivial⟩ fun σ => ?_
  refine gcond (b := _) rfl (fun hc8 => ?_) (fun hc8 => ?_)
  · 
    replace hc8 := of_decide_eq_true hc8
    have ht10 : ts10 = ts.tail := by rw [hts10, if_pos hc8]
    have hpl := hd_pos (ts := ts) (by rw [hc8]; decide)
    have htl10 : ts10.length + 1 = ts.length := by rw [ht10]; exact hpl
    refine gseq fun N4 hN4 => ?_
    refine greg ?_
    refine gop (y_move (v := .pointer (some ⟨rg, 0, none⟩)) rfl) rfl rfl rfl ?_
    refine gop_does2 0 1 (fun v r s1 G => ∃ x b B' bc' o' a' code', v = .tuple #[.int .i64 x, .bool b] ∧ r = box rg (.cells #[.slice B' o'.length bc', .string s, .int .i64 ((a' : Nat)), .int .i64 ((nextW s (a') : Nat)), .int .i64 code'] 124) ∧ s1 = rowl pnCells w0.heap.size 48 4 (.slice B' (o').length bc') (o') ∧ G = [] ∧ POK s (rd s.size n 2 none ts10) (o) code x b o' a' code') (e_call (vs := [.pointer (some ⟨rg, 0, none⟩)]) Tryz.func93 rfl (by kernel_rfl) rfl) rfl rfl rfl (fun w fr1 hfr hM => (hF w _ _ _ o fr1 _ ts10 (by omega) hrs10 (by omega) hM).mono fun _ _ ⟨x, b, B', bc', o', a', code', h1, h2, h3⟩ => ⟨_, _, _, [], h1, ⟨x, b, B', bc', o', a', code', rfl, rfl, rfl, rfl, h2⟩, h3⟩) rfl rfl rfl ?_
    rintro _ _ _ _ ⟨x13, b13, B13, bc13, o13, a13, code13, rfl, rfl, rfl, rfl, hp13⟩
    refine gop (y_move (v := .tuple #[.int _ _, .bool _]) rfl) rfl rfl rfl ?_
    refine gop (y_extract (v := .int _ _) rfl rfl) rfl rfl rfl ?_
    refine gop (y_extract (v := .bool _) rfl rfl) rfl rfl rfl ?_
    refine gop (y_assign (v := .int _ _) rfl) rfl rfl rfl ?_
    refine gop (y_assign (v := .bool _) rfl) rfl rfl rfl ?_
    refine gops_nil ?_
    refine hN4 _ _ ?_
    refine gT [box rg _, rowl _ _ _ _ _ _, fr] rfl ?_
    refine gfrom [(0, .pointer (some ⟨rg, 0, none⟩)), (4, .int _ _), (5, .bool _)] ⟨rfl, rfl, rfl, trivial⟩ fun σ => ?_
    refine gseq fun N5 hN5 => ?_
    refine gseq fun N6 hN6 => ?_
    refine greg ?_
    refine gop (y_move (v := .bool _) rfl) rfl rfl rfl ?_
    refine gop (y_not rfl) rfl rfl rfl ?_
    refine gops_nil ?_
    refine hN6 _ _ ?_
    refine gfrom [(0, .pointer (some ⟨rg, 0, none⟩)), (4, .int _ _), (17, .bool _)] ⟨rfl, rfl, rfl, trivial⟩ fun σ => ?_
    refine gcond (b := _) rfl (fun hc17 => ?_) (fun hc17 => ?_)
    · 
      replace hc17 := not_t hc17
      have hb13 : b13 = false := by simpa using hc17
      obtain ⟨hR13, ho13⟩ := pok_no hp13 hb13
      refine gseq fun N7 hN7 => ?_
      refine greg ?_
      refine gop (y_assign (v := .int _ _) rfl) rfl rfl rfl ?_
      refine gop (y_assign (v := .bool _) rfl) rfl rfl rfl ?_
      refine gops_nil ?_
      refine hN7 _ _ ?_
      refine gfrom [(2, .int _ _), (3, .bool _)] ⟨rfl, rfl, trivial⟩ fun σ => ?_
      refine gret fun w1 hM => ?_
      refine ⟨_, res2 rfl (rt (v := .int _ _) rfl) (rt (v := .bool _) rfl), ?_⟩
      have hR : rd s.size (n + 1) 2 none ts = .bad code13 a13 := by rw [hrd, fac, if_pos hc8, ← ht10, hR13]; rfl
      exact ⟨_, _, _, _, _, _, _, rfl, pok_bad hR ho13, weak_take (T' := [_, _, fr]) rfl _ hM⟩
    · 
      replace hc17 := not_f hc17
      obtain ⟨t13, us13, hR13, hx13, ho13, hrt13, hcd13⟩ := pok_yes hp13 (by first | assumption | simpa using hc17)
      have hsz13 : t13.size + us13.length ≤ ts10.length := (rd_ok s.size n 2 none ts10 t13 us13 (fun _ h => by cases h) hR13).2
      subst hx13
      subst ho13
      obtain rfl : code = code13 := hcd13.symm
      refine gskip ?_
      refine hN5 _ _ ?_
      refine gfrom [(0, .pointer (some ⟨rg, 0, none⟩)), (4, .int _ _)] ⟨rfl, rfl, trivial⟩ fun σ => ?_
      refine gseq fun N8 hN8 => ?_
      refine greg ?_
      refine gop (y_move (v := .pointer (some ⟨rg, 0, none⟩)) rfl) rfl rfl rfl ?_
      refine gop (y_nilCheck rfl) rfl rfl rfl ?_
      refine gop (y_fieldAddr_box fa124_0 rfl) rfl rfl rfl ?_
      refine gop (y_move (v := .int _ _) rfl) rfl rfl rfl ?_
      refine gop (y_build (vs := [(0, _), (2, .int _ _)]) (cells := #[_, .int .i64 0, _, .int .i64 0]) rfl (bd48_0_2 _ _)) rfl rfl rfl ?_
      refine gop_does2 0 1 (fun v r s1 G => ∃ B' bc', v = .int .i64 ((o ++ post t13 o.length).length : Nat) ∧ r = box rg (.cells #[.slice B' (o ++ post t13 o.length ++ [(⟨5, 0, ((o.length + t13.size : Nat) : Int) - 1, 0⟩ : PN)]).length bc', .string s, .int .i64 ((a13 : Nat)), .int .i64 ((nextW s (a13) : Nat)), .int .i64 code] 124) ∧ s1 = rowl pnCells w0.heap.size 48 4 (.slice B' (o ++ post t13 o.length ++ [(⟨5, 0, ((o.length + t13.size : Nat) : Int) - 1, 0⟩ : PN)]).length bc') (o ++ post t13 o.length ++ [(⟨5, 0, ((o.length + t13.size : Nat) : Int) - 1, 0⟩ : PN)]) ∧ G = []) (e_call (vs := [.pointer _, .agg #[_, _, _, _]]) Tryz.func95 rfl (by kernel_rfl) rfl) rfl rfl rfl (fun w fr1 hfr hM => (polAdd5_any _ w rg _ _ s _ _ _ (o ++ post t13 o.length) fr1 hM (by rw [app_len]; omega) ((⟨5, 0, ((o.length + t13.size : Nat) : Int) - 1, 0⟩ : PN))).mono fun _ _ ⟨B', bc', h1, h2⟩ => ⟨_, _, _, [], h1, ⟨B', bc', rfl, rfl, rfl, rfl⟩, h2⟩) rfl rfl rfl ?_
      rintro _ _ _ _ ⟨B23, bc23, rfl, rfl, rfl, rfl⟩
      refine gop (y_assign (v := .int _ _) rfl) rfl rfl rfl ?_
      refine gop (y_assign (v := .bool _) rfl) rfl rfl rfl ?_
      refine gops_nil ?_
      refine hN8 _ _ ?_
      refine gT [box rg _, rowl _ _ _ _ _ _, fr] rfl ?_
      refine gfrom [(2, .int _ _), (3, .bool _)] ⟨rfl, rfl, trivial⟩ fun σ => ?_
      refine gret fun w1 hM => ?_
      refine ⟨_, res2 rfl (rt (v := .int _ _) rfl) (rt (v := .bool _) rfl), ?_⟩
      have hR : rd s.size (n + 1) 2 none ts = .ok (.neg t13) us13 := by rw [hrd, fac, if_pos hc8, ← ht10, hR13]; rfl
      exact ⟨_, _, B23, bc23, _, _, _, rfl, pok_ok hR (by rw [app_len, size_neg]; omega) (post_neg_app o t13) hrt13, weak_take (T' := [_, _, fr]) rfl _ hM⟩
  · 
    replace hc8 := of_decide_eq_false hc8
    obtain rfl : ts = ts10 := by rw [hts10, if_neg hc8]
    obtain rfl : a = a10 := by rw [← hrs.pos, ← hrs10.pos]
    refine gseq fun N9 hN9 => ?_
    refine greg ?_
    refine gop (y_move (v := .pointer (some ⟨rg, 0, none⟩)) rfl) rfl rfl rfl ?_
    refine gop_does1 0 (fun v r G => ∃ a' ts', v = .bool (decide (hd ts = wL)) ∧ r = box rg (.cells #[.slice B (o).length bc, .string s, .int .i64 ((a' : Nat)), .int .i64 ((nextW s (a') : Nat)), .int .i64 code] 124) ∧ RS s a' ts' ∧ ts' = (if hd ts = wL then ts.tail else ts) ∧ G = []) (e_call (vs := [.pointer (some ⟨rg, 0, none⟩), _]) Tryz.func94 rfl (by kernel_rfl) rfl) rfl (fun w fr1 hfr hM => (rdTake_any _ w rg _ _ _ s _ fr1 hs _ ts hrs _ hM).mono fun _ _ ⟨a', ts', h1, h2, h3, h4⟩ => ⟨_, _, [], h1, ⟨a', ts', rfl, rfl, h2, h3, rfl⟩, h4⟩) rfl rfl rfl ?_
    rintro _ _ _ ⟨a26, ts26, rfl, rfl, hrs26, hts26, rfl⟩
    refine gop (y_assign (v := .bool _) rfl) rfl rfl rfl ?_
    refine gops_nil ?_
    refine hN9 _ _ ?_
    refine gT [box rg _, rowl _ _ _ _ _ _, fr] rfl ?_
    refine gfrom [(0, .pointer (some ⟨rg, 0, none⟩)), (24, .bool _)] ⟨rfl, rfl, trivial⟩ fun σ => ?_
    refine gcond (b := _) rfl (fun hc24 => ?_) (fun hc24 => ?_)
    · 
      replace hc24 := of_decide_eq_true hc24
      have ht26 : ts26 = ts.tail := by rw [hts26, if_pos hc24]
      have hpl := hd_pos (ts := ts) (by rw [hc24]; decide)
      have htl26 : ts26.length + 1 = ts.length := by rw [ht26]; exact hpl
      refine gseq fun N10 hN10 => ?_
      refine greg ?_
      refine gop (y_move (v := .pointer (some ⟨rg, 0, none⟩)) rfl) rfl rfl rfl ?_
      refine gop_does2 0 1 (fun v r s1 G => ∃ x b B' bc' o' a' code', v = .tuple #[.int .i64 x, .bool b] ∧ r = box rg (.cells #[.slice B' o'.length bc', .string s, .int .i64 ((a' : Nat)), .int .i64 ((nextW s (a') : Nat)), .int .i64 code'] 124) ∧ s1 = rowl pnCells w0.heap.size 48 4 (.slice B' (o').length bc') (o') ∧ G = [] ∧ POK s (rd s.size n 0 none ts26) (o) code x b o' a' code') (e_call (vs := [.pointer (some ⟨rg, 0, none⟩), _]) Tryz.func55 rfl (by kernel_rfl) rfl) rfl rfl rfl (fun w fr1 hfr hM => (hLi 0 _ w _ _ _ o fr1 _ ts26 (by omega) rfl (by omega) hrs26 (by omega) hM).mono fun _ _ ⟨x, b, B', bc', o', a', code', h1, h2, h3⟩ => ⟨_, _, _, [], h1, ⟨x, b, B', bc', o', a', code', rfl, rfl, rfl, rfl, h2⟩, h3⟩) rfl rfl rfl ?_
      rintro _ _ _ _ ⟨x29, b29, B29, bc29, o29, a29, code29, rfl, rfl, rfl, rfl, hp29⟩
      refine gop (y_move (v := .tuple #[.int _ _, .bool _]) rfl) rfl rfl rfl ?_
      refine gop (y_extract (v := .int _ _) rfl rfl) rfl rfl rfl ?_
      refine gop (y_extract (v := .bool _) rfl rfl) rfl rfl rfl ?_
      refine gop (y_assign (v := .int _ _) rfl) rfl rfl rfl ?_
      refine gop (y_assign (v := .bool _) rfl) rfl rfl rfl ?_
      refine gops_nil ?_
      refine hN10 _ _ ?_
      refine gT [box rg _, rowl _ _ _ _ _ _, fr] rfl ?_
      refine gfrom [(0, .pointer (some ⟨rg, 0, none⟩)), (6, .int _ _), (7, .bool _)] ⟨rfl, rfl, rfl, trivial⟩ fun σ => ?_
      refine gseq fun N11 hN11 => ?_
      refine gseq fun N12 hN12 => ?_
      refine greg ?_
      refine gop (y_move (v := .bool _) rfl) rfl rfl rfl ?_
      refine gop (y_move (v := .bool _) rfl) rfl rfl rfl ?_
      refine gop_if (want := true) rfl rfl rfl rfl rfl rfl (fun hg33 => ?_) (fun hg33 => ?_)
      · 
        have hg33d := hg33
        obtain ⟨t29, us29, hR29, hx29, ho29, hrt29, hcd29⟩ := pok_yes hp29 (by first | assumption | simpa using hg33d)
        have hsz29 : t29.size + us29.length ≤ ts26.length := (rd_ok s.size n 0 none ts26 t29 us29 (fun _ h => by cases h) hR29).2
        subst hx29
        subst ho29
        obtain rfl : code = code29 := hcd29.symm
        refine gop (y_bare (y_move (v := .pointer (some ⟨rg, 0, none⟩)) rfl)) rfl rfl rfl ?_
        refine gop_on rfl rfl rfl rfl hg33 ?_
        refine gop_does1 0 (fun v r G => ∃ a' ts', v = .bool (decide (hd us29 = wR)) ∧ r = box rg (.cells #[.slice B29 (o ++ post t29 o.length).length bc29, .string s, .int .i64 ((a' : Nat)), .int .i64 ((nextW s (a') : Nat)), .int .i64 code] 124) ∧ RS s a' ts' ∧ ts' = (if hd us29 = wR then us29.tail else us29) ∧ G = []) (e_call (vs := [.pointer (some ⟨rg, 0, none⟩), _]) Tryz.func94 rfl (by kernel_rfl) rfl) rfl (fun w fr1 hfr hM => (rdTake_any _ w rg _ _ _ s _ fr1 hs _ us29 hrt29 _ hM).mono fun _ _ ⟨a', ts', h1, h2, h3, h4⟩ => ⟨_, _, [], h1, ⟨a', ts', rfl, rfl, h2, h3, rfl⟩, h4⟩) rfl rfl rfl ?_
        rintro _ _ _ ⟨a35, ts35, rfl, rfl, hrs35, hts35, rfl⟩
        refine gop_on rfl rfl rfl rfl hg33 ?_
        refine gop (y_bare (y_not rfl)) rfl rfl rfl ?_
        refine gop (y_pick_t (v := .bool _) rfl hg33 rfl) rfl rfl rfl ?_
        refine gops_nil ?_
        refine hN12 _ _ ?_
        refine gT [box rg _, rowl _ _ _ _ _ _, fr] rfl ?_
        refine gfrom [(0, .pointer (some ⟨rg, 0, none⟩)), (6, .int _ _), (7, .bool _), (37, .bool _)] ⟨rfl, rfl, rfl, rfl, trivial⟩ fun σ => ?_
        refine gcond (b := _) rfl (fun hc37 => ?_) (fun hc37 => ?_)
        · 
          replace hc37 := not_t hc37
          have hw : ¬ hd us29 = wR := by simpa using hc37
          obtain rfl : us29 = ts35 := by rw [hts35, if_neg hw]
          obtain rfl : a29 = a35 := by rw [← hrt29.pos, ← hrs35.pos]
          refine gseq fun N13 hN13 => ?_
          refine greg ?_
          refine gop (y_move (v := .pointer (some ⟨rg, 0, none⟩)) rfl) rfl rfl rfl ?_
          refine gop_does1 0 (fun v r G => v = .tuple #[.int .i64 0, .bool false] ∧ r = box rg (.cells #[.slice B29 (o ++ post t29 o.length).length bc29, .string s, .int .i64 ((a29 : Nat)), .int .i64 ((nextW s (a29) : Nat)), .int .i64 1] 124) ∧ G = []) (e_call (vs := [.pointer (some ⟨rg, 0, none⟩), _]) Tryz.func56 rfl (by kernel_rfl) rfl) rfl (fun w fr1 hfr hM => (rdFail_any _ w rg _ _ _ s _ _ _ fr1 1 hM).mono fun _ _ ⟨h1, h2⟩ => ⟨_, _, [], h1, ⟨rfl, rfl, rfl⟩, h2⟩) rfl rfl rfl ?_
          rintro _ _ _ ⟨rfl, rfl, rfl⟩
          refine gop (y_extract (v := .int _ _) rfl rfl) rfl rfl rfl ?_
          refine gop (y_extract (v := .bool _) rfl rfl) rfl rfl rfl ?_
          refine gop (y_assign (v := .int _ _) rfl) rfl rfl rfl ?_
          refine gop (y_assign (v := .bool _) rfl) rfl rfl rfl ?_
          refine gops_nil ?_
          refine hN13 _ _ ?_
          refine gT [box rg _, rowl _ _ _ _ _ _, fr] rfl ?_
          refine gfrom [(2, .int _ _), (3, .bool _)] ⟨rfl, rfl, trivial⟩ fun σ => ?_
          refine gret fun w1 hM => ?_
          refine ⟨_, res2 rfl (rt (v := .int _ _) rfl) (rt (v := .bool _) rfl), ?_⟩
          have hR : rd s.size (n + 1) 2 none ts = .bad 1 a29 := by
            rw [hrd, fac, if_neg hc8, if_pos hc24, ← ht26, hR29]
            show (if hd us29 = wR then _ else Res.bad 1 (pos s.size us29)) = _
            rw [if_neg hw, hrt29.pos]
          exact ⟨_, _, _, _, _, _, _, rfl, pok_bad hR (by rw [app_len]; omega), weak_take (T' := [_, _, fr]) rfl _ hM⟩
        · 
          replace hc37 := not_f hc37
          refine gskip ?_
          refine hN11 _ _ ?_
          refine gfrom [(6, .int _ _), (7, .bool _)] ⟨rfl, rfl, trivial⟩ fun σ => ?_
          refine gseq fun N14 hN14 => ?_
          refine greg ?_
          refine gop (y_move (v := .int _ _) rfl) rfl rfl rfl ?_
          refine gop (y_move (v := .bool _) rfl) rfl rfl rfl ?_
          refine gop (y_assign (v := .int _ _) rfl) rfl rfl rfl ?_
          refine gop (y_assign (v := .bool _) rfl) rfl rfl rfl ?_
          refine gops_nil ?_
          refine hN14 _ _ ?_
          refine gfrom [(2, .int _ _), (3, .bool _)] ⟨rfl, rfl, trivial⟩ fun σ => ?_
          refine gret fun w1 hM => ?_
          refine ⟨_, res2 rfl (rt (v := .int _ _) rfl) (rt (v := .bool _) rfl), ?_⟩
          first
          | (have hw : hd us29 = wR := by simpa using hc37
             have hR : rd s.size (n + 1) 2 none ts = .ok t29 ts35 := by
               rw [hrd, fac, if_neg hc8, if_pos hc24, ← ht26, hR29]
               show (if hd us29 = wR then Res.ok t29 us29.tail else _) = _
               rw [if_pos hw, hts35, if_pos hw]
             exact ⟨_, _, B29, bc29, _, _, _, rfl, pok_ok2 (by assumption) hR rfl rfl hrs35, weak_take (T' := [_, _, fr]) rfl _ hM⟩)
          | (obtain ⟨hR29, ho29⟩ := pok_no hp29 (by assumption)
             have hR : rd s.size (n + 1) 2 none ts = .bad code29 a29 := by rw [hrd, fac, if_neg hc8, if_pos hc24, ← ht26, hR29]; rfl
             exact ⟨_, _, _, _, _, _, _, rfl, pok_bad2 (by assumption) hR ho29, weak_take (T' := [_, _, fr]) rfl _ hM⟩)
      · 
        have hg33d := hg33
        refine gop_off rfl rfl rfl rfl hg33 rfl rfl ?_
        refine gop_off rfl rfl rfl rfl hg33 rfl rfl ?_
        refine gop (y_pick_f (v := .bool _) rfl hg33 rfl) rfl rfl rfl ?_
        refine gops_nil ?_
        refine hN12 _ _ ?_
        refine gfrom [(0, .pointer (some ⟨rg, 0, none⟩)), (6, .int _ _), (7, .bool _), (37, .bool _)] ⟨rfl, rfl, rfl, rfl, trivial⟩ fun σ => ?_
        refine gcond (b := _) rfl (fun hc37 => ?_) (fun hc37 => ?_)
        · 
          cases hc37
        · 
          refine gskip ?_
          refine hN11 _ _ ?_
          refine gfrom [(6, .int _ _), (7, .bool _)] ⟨rfl, rfl, trivial⟩ fun σ => ?_
          refine gseq fun N15 hN15 => ?_
          refine greg ?_
          refine gop (y_move (v := .int _ _) rfl) rfl rfl rfl ?_
          refine gop (y_move (v := .bool _) rfl) rfl rfl rfl ?_
          refine gop (y_assign (v := .int _ _) rfl) rfl rfl rfl ?_
          refine gop (y_assign (v := .bool _) rfl) rfl rfl rfl ?_
          refine gops_nil ?_
          refine hN15 _ _ ?_
          refine gfrom [(2, .int _ _), (3, .bool _)] ⟨rfl, rfl, trivial⟩ fun σ => ?_
          refine gret fun w1 hM => ?_
          refine ⟨_, res2 rfl (rt (v := .int _ _) rfl) (rt (v := .bool _) rfl), ?_⟩
          first
          | (have hw : hd us29 = wR := by simpa using hc37
             have hR : rd s.size (n + 1) 2 none ts = .ok t29 ts35 := by
               rw [hrd, fac, if_neg hc8, if_pos hc24, ← ht26, hR29]
               show (if hd us29 = wR then Res.ok t29 us29.tail else _) = _
               rw [if_pos hw, hts35, if_pos hw]
             exact ⟨_, _, B29, bc29, _, _, _, rfl, pok_ok2 (by assumption) hR rfl rfl hrs35, weak_take (T' := [_, _, fr]) rfl _ hM⟩)
          | (obtain ⟨hR29, ho29⟩ := pok_no hp29 (by assumption)
             have hR : rd s.size (n + 1) 2 none ts = .bad code29 a29 := by rw [hrd, fac, if_neg hc8, if_pos hc24, ← ht26, hR29]; rfl
             exact ⟨_, _, _, _, _, _, _, rfl, pok_bad2 (by assumption) hR ho29, weak_take (T' := [_, _, fr]) rfl _ hM⟩)
    · 
      replace hc24 := of_decide_eq_false hc24
      obtain rfl : ts = ts26 := by rw [hts26, if_neg hc24]
      obtain rfl : a = a26 := by rw [← hrs.pos, ← hrs26.pos]
      refine gseq fun N16 hN16 => ?_
      refine greg ?_
      refine gop (y_move (v := .pointer (some ⟨rg, 0, none⟩)) rfl) rfl rfl rfl ?_
      refine gop_does1 0 (fun v r G => ∃ a' ts', v = .bool (decide (hd ts = wScore)) ∧ r = box rg (.cells #[.slice B (o).length bc, .string s, .int .i64 ((a' : Nat)), .int .i64 ((nextW s (a') : Nat)), .int .i64 code] 124) ∧ RS s a' ts' ∧ ts' = (if hd ts = wScore then ts.tail else ts) ∧ G = []) (e_call (vs := [.pointer (some ⟨rg, 0, none⟩), _]) Tryz.func94 rfl (by kernel_rfl) rfl) rfl (fun w fr1 hfr hM => (rdTake_any _ w rg _ _ _ s _ fr1 hs _ ts hrs _ hM).mono fun _ _ ⟨a', ts', h1, h2, h3, h4⟩ => ⟨_, _, [], h1, ⟨a', ts', rfl, rfl, h2, h3, rfl⟩, h4⟩) rfl rfl rfl ?_
      rintro _ _ _ ⟨a46, ts46, rfl, rfl, hrs46, hts46, rfl⟩
      refine gop (y_assign (v := .bool _) rfl) rfl rfl rfl ?_
      refine gops_nil ?_
      refine hN16 _ _ ?_
      refine gT [box rg _, rowl _ _ _ _ _ _, fr] rfl ?_
      refine gfrom [(0, .pointer (some ⟨rg, 0, none⟩)), (44, .bool _)] ⟨rfl, rfl, trivial⟩ fun σ => ?_
      refine gcond (b := _) rfl (fun hc44 => ?_) (fun hc44 => ?_)
      · 
        replace hc44 := of_decide_eq_true hc44
        have ht46 : ts46 = ts.tail := by rw [hts46, if_pos hc44]
        have hpl := hd_pos (ts := ts) (by rw [hc44]; decide)
        have htl46 : ts46.length + 1 = ts.length := by rw [ht46]; exact hpl
        refine gseq fun N17 hN17 => ?_
        refine greg ?_
        refine gop (y_move (v := .pointer (some ⟨rg, 0, none⟩)) rfl) rfl rfl rfl ?_
        refine gop_does2 0 1 (fun v r s1 G => ∃ x b B' bc' o' a' code', v = .tuple #[.int .i64 x, .bool b] ∧ r = box rg (.cells #[.slice B' o'.length bc', .string s, .int .i64 ((a' : Nat)), .int .i64 ((nextW s (a') : Nat)), .int .i64 code'] 124) ∧ s1 = rowl pnCells w0.heap.size 48 4 (.slice B' (o').length bc') (o') ∧ G = [] ∧ POK s (numR s.size 1 ts46) (o) code x b o' a' code') (e_call (vs := [.pointer (some ⟨rg, 0, none⟩), _]) Tryz.func117 rfl (by kernel_rfl) rfl) rfl rfl rfl (fun w fr1 hfr hM => (rdNumber_any _ w rg _ _ s _ o fr1 hs _ ts46 hrs46 _ (by omega) hL hM).mono fun _ _ ⟨x, b, B', bc', o', a', code', h1, h2, h3⟩ => ⟨_, _, _, [], h1, ⟨x, b, B', bc', o', a', code', rfl, rfl, rfl, rfl, h2⟩, h3⟩) rfl rfl rfl ?_
        rintro _ _ _ _ ⟨x48, b48, B48, bc48, o48, a48, code48, rfl, rfl, rfl, rfl, hp48⟩
        refine gop (y_extract (v := .int _ _) rfl rfl) rfl rfl rfl ?_
        refine gop (y_extract (v := .bool _) rfl rfl) rfl rfl rfl ?_
        refine gop (y_assign (v := .int _ _) rfl) rfl rfl rfl ?_
        refine gop (y_assign (v := .bool _) rfl) rfl rfl rfl ?_
        refine gops_nil ?_
        refine hN17 _ _ ?_
        refine gT [box rg _, rowl _ _ _ _ _ _, fr] rfl ?_
        refine gfrom [(2, .int _ _), (3, .bool _)] ⟨rfl, rfl, trivial⟩ fun σ => ?_
        refine gret fun w1 hM => ?_
        refine ⟨_, res2 rfl (rt (v := .int _ _) rfl) (rt (v := .bool _) rfl), ?_⟩
        have hR : rd s.size (n + 1) 2 none ts = numR s.size 1 ts46 := by rw [hrd, fac, if_neg hc8, if_neg hc24, if_pos hc44, ht46]
        exact ⟨x48, b48, B48, bc48, o48, a48, code48, rfl, by rw [hR]; exact hp48, weak_take (T' := [_, _, fr]) rfl _ hM⟩
      · 
        replace hc44 := of_decide_eq_false hc44
        obtain rfl : ts = ts46 := by rw [hts46, if_neg hc44]
        obtain rfl : a = a46 := by rw [← hrs.pos, ← hrs46.pos]
        refine gseq fun N18 hN18 => ?_
        refine greg ?_
        refine gop (y_move (v := .pointer (some ⟨rg, 0, none⟩)) rfl) rfl rfl rfl ?_
        refine gop_does1 0 (fun v r G => ∃ a' ts', v = .bool (decide (hd ts = wUser)) ∧ r = box rg (.cells #[.slice B (o).length bc, .string s, .int .i64 ((a' : Nat)), .int .i64 ((nextW s (a') : Nat)), .int .i64 code] 124) ∧ RS s a' ts' ∧ ts' = (if hd ts = wUser then ts.tail else ts) ∧ G = []) (e_call (vs := [.pointer (some ⟨rg, 0, none⟩), _]) Tryz.func94 rfl (by kernel_rfl) rfl) rfl (fun w fr1 hfr hM => (rdTake_any _ w rg _ _ _ s _ fr1 hs _ ts hrs _ hM).mono fun _ _ ⟨a', ts', h1, h2, h3, h4⟩ => ⟨_, _, [], h1, ⟨a', ts', rfl, rfl, h2, h3, rfl⟩, h4⟩) rfl rfl rfl ?_
        rintro _ _ _ ⟨a53, ts53, rfl, rfl, hrs53, hts53, rfl⟩
        refine gop (y_assign (v := .bool _) rfl) rfl rfl rfl ?_
        refine gops_nil ?_
        refine hN18 _ _ ?_
        refine gT [box rg _, rowl _ _ _ _ _ _, fr] rfl ?_
        refine gfrom [(0, .pointer (some ⟨rg, 0, none⟩)), (51, .bool _)] ⟨rfl, rfl, trivial⟩ fun σ => ?_
        refine gcond (b := _) rfl (fun hc51 => ?_) (fun hc51 => ?_)
        · 
          replace hc51 := of_decide_eq_true hc51
          have ht53 : ts53 = ts.tail := by rw [hts53, if_pos hc51]
          have hpl := hd_pos (ts := ts) (by rw [hc51]; decide)
          have htl53 : ts53.length + 1 = ts.length := by rw [ht53]; exact hpl
          refine gseq fun N19 hN19 => ?_
          refine greg ?_
          refine gop (y_move (v := .pointer (some ⟨rg, 0, none⟩)) rfl) rfl rfl rfl ?_
          refine gop_does2 0 1 (fun v r s1 G => ∃ x b B' bc' o' a' code', v = .tuple #[.int .i64 x, .bool b] ∧ r = box rg (.cells #[.slice B' o'.length bc', .string s, .int .i64 ((a' : Nat)), .int .i64 ((nextW s (a') : Nat)), .int .i64 code'] 124) ∧ s1 = rowl pnCells w0.heap.size 48 4 (.slice B' (o').length bc') (o') ∧ G = [] ∧ POK s (numR s.size 4 ts53) (o) code x b o' a' code') (e_call (vs := [.pointer (some ⟨rg, 0, none⟩), _]) Tryz.func117 rfl (by kernel_rfl) rfl) rfl rfl rfl (fun w fr1 hfr hM => (rdNumber_any _ w rg _ _ s _ o fr1 hs _ ts53 hrs53 _ (by omega) hL hM).mono fun _ _ ⟨x, b, B', bc', o', a', code', h1, h2, h3⟩ => ⟨_, _, _, [], h1, ⟨x, b, B', bc', o', a', code', rfl, rfl, rfl, rfl, h2⟩, h3⟩) rfl rfl rfl ?_
          rintro _ _ _ _ ⟨x55, b55, B55, bc55, o55, a55, code55, rfl, rfl, rfl, rfl, hp55⟩
          refine gop (y_extract (v := .int _ _) rfl rfl) rfl rfl rfl ?_
          refine gop (y_extract (v := .bool _) rfl rfl) rfl rfl rfl ?_
          refine gop (y_assign (v := .int _ _) rfl) rfl rfl rfl ?_
          refine gop (y_assign (v := .bool _) rfl) rfl rfl rfl ?_
          refine gops_nil ?_
          refine hN19 _ _ ?_
          refine gT [box rg _, rowl _ _ _ _ _ _, fr] rfl ?_
          refine gfrom [(2, .int _ _), (3, .bool _)] ⟨rfl, rfl, trivial⟩ fun σ => ?_
          refine gret fun w1 hM => ?_
          refine ⟨_, res2 rfl (rt (v := .int _ _) rfl) (rt (v := .bool _) rfl), ?_⟩
          have hR : rd s.size (n + 1) 2 none ts = numR s.size 4 ts53 := by rw [hrd, fac, if_neg hc8, if_neg hc24, if_neg hc44, if_pos hc51, ht53]
          exact ⟨x55, b55, B55, bc55, o55, a55, code55, rfl, by rw [hR]; exact hp55, weak_take (T' := [_, _, fr]) rfl _ hM⟩
        · 
          replace hc51 := of_decide_eq_false hc51
          obtain rfl : ts = ts53 := by rw [hts53, if_neg hc51]
          obtain rfl : a = a53 := by rw [← hrs.pos, ← hrs53.pos]
          refine gseq fun N20 hN20 => ?_
          refine greg ?_
          refine gop (y_move (v := .pointer (some ⟨rg, 0, none⟩)) rfl) rfl rfl rfl ?_
          refine gop_does1 0 (fun v r G => ∃ a' ts', v = .bool (decide (hd ts = wOwners)) ∧ r = box rg (.cells #[.slice B (o).length bc, .string s, .int .i64 ((a' : Nat)), .int .i64 ((nextW s (a') : Nat)), .int .i64 code] 124) ∧ RS s a' ts' ∧ ts' = (if hd ts = wOwners then ts.tail else ts) ∧ G = []) (e_call (vs := [.pointer (some ⟨rg, 0, none⟩), _]) Tryz.func94 rfl (by kernel_rfl) rfl) rfl (fun w fr1 hfr hM => (rdTake_any _ w rg _ _ _ s _ fr1 hs _ ts hrs _ hM).mono fun _ _ ⟨a', ts', h1, h2, h3, h4⟩ => ⟨_, _, [], h1, ⟨a', ts', rfl, rfl, h2, h3, rfl⟩, h4⟩) rfl rfl rfl ?_
          rintro _ _ _ ⟨a60, ts60, rfl, rfl, hrs60, hts60, rfl⟩
          refine gop (y_assign (v := .bool _) rfl) rfl rfl rfl ?_
          refine gops_nil ?_
          refine hN20 _ _ ?_
          refine gT [box rg _, rowl _ _ _ _ _ _, fr] rfl ?_
          refine gfrom [(0, .pointer (some ⟨rg, 0, none⟩)), (58, .bool _)] ⟨rfl, rfl, trivial⟩ fun σ => ?_
          refine gcond (b := _) rfl (fun hc58 => ?_) (fun hc58 => ?_)
          · 
            replace hc58 := of_decide_eq_true hc58
            have ht60 : ts60 = ts.tail := by rw [hts60, if_pos hc58]
            have hpl := hd_pos (ts := ts) (by rw [hc58]; decide)
            have htl60 : ts60.length + 1 = ts.length := by rw [ht60]; exact hpl
            refine gseq fun N21 hN21 => ?_
            refine greg ?_
            refine gop (y_move (v := .pointer (some ⟨rg, 0, none⟩)) rfl) rfl rfl rfl ?_
            refine gop (y_nilCheck rfl) rfl rfl rfl ?_
            refine gop (y_fieldAddr_box fa124_0 rfl) rfl rfl rfl ?_
            refine gop (y_build (vs := [(0, _)]) (cells := #[_, .int .i64 0, .int .i64 0, .int .i64 0]) rfl (bd48_0 _)) rfl rfl rfl ?_
            refine gop_does2 0 1 (fun v r s1 G => ∃ B' bc', v = .int .i64 ((o).length : Nat) ∧ r = box rg (.cells #[.slice B' (o ++ [(⟨2, 0, 0, 0⟩ : PN)]).length bc', .string s, .int .i64 ((a60 : Nat)), .int .i64 ((nextW s (a60) : Nat)), .int .i64 code] 124) ∧ s1 = rowl pnCells w0.heap.size 48 4 (.slice B' (o ++ [(⟨2, 0, 0, 0⟩ : PN)]).length bc') (o ++ [(⟨2, 0, 0, 0⟩ : PN)]) ∧ G = []) (e_call (vs := [.pointer _, .agg #[_, _, _, _]]) Tryz.func95 rfl (by kernel_rfl) rfl) rfl rfl rfl (fun w fr1 hfr hM => (polAdd5_any _ w rg _ _ s _ _ _ (o) fr1 hM (by omega) ((⟨2, 0, 0, 0⟩ : PN))).mono fun _ _ ⟨B', bc', h1, h2⟩ => ⟨_, _, _, [], h1, ⟨B', bc', rfl, rfl, rfl, rfl⟩, h2⟩) rfl rfl rfl ?_
            rintro _ _ _ _ ⟨B65, bc65, rfl, rfl, rfl, rfl⟩
            refine gop (y_assign (v := .int _ _) rfl) rfl rfl rfl ?_
            refine gop (y_assign (v := .bool _) rfl) rfl rfl rfl ?_
            refine gops_nil ?_
            refine hN21 _ _ ?_
            refine gT [box rg _, rowl _ _ _ _ _ _, fr] rfl ?_
            refine gfrom [(2, .int _ _), (3, .bool _)] ⟨rfl, rfl, trivial⟩ fun σ => ?_
            refine gret fun w1 hM => ?_
            refine ⟨_, res2 rfl (rt (v := .int _ _) rfl) (rt (v := .bool _) rfl), ?_⟩
            have hR : rd s.size (n + 1) 2 none ts = .ok (.leaf 2 0) ts60 := by rw [hrd, fac, if_neg hc8, if_neg hc24, if_neg hc44, if_neg hc51, if_pos hc58, ht60]
            exact ⟨_, _, B65, bc65, _, _, _, rfl, pok_ok hR (by simp only [Tr.size]; omega) rfl hrs60, weak_take (T' := [_, _, fr]) rfl _ hM⟩
          · 
            replace hc58 := of_decide_eq_false hc58
            obtain rfl : ts = ts60 := by rw [hts60, if_neg hc58]
            obtain rfl : a = a60 := by rw [← hrs.pos, ← hrs60.pos]
            refine gseq fun N22 hN22 => ?_
            refine greg ?_
            refine gop (y_move (v := .pointer (some ⟨rg, 0, none⟩)) rfl) rfl rfl rfl ?_
            refine gop_does1 0 (fun v r G => ∃ a' ts', v = .bool (decide (hd ts = wTests)) ∧ r = box rg (.cells #[.slice B (o).length bc, .string s, .int .i64 ((a' : Nat)), .int .i64 ((nextW s (a') : Nat)), .int .i64 code] 124) ∧ RS s a' ts' ∧ ts' = (if hd ts = wTests then ts.tail else ts) ∧ G = []) (e_call (vs := [.pointer (some ⟨rg, 0, none⟩), _]) Tryz.func94 rfl (by kernel_rfl) rfl) rfl (fun w fr1 hfr hM => (rdTake_any _ w rg _ _ _ s _ fr1 hs _ ts hrs _ hM).mono fun _ _ ⟨a', ts', h1, h2, h3, h4⟩ => ⟨_, _, [], h1, ⟨a', ts', rfl, rfl, h2, h3, rfl⟩, h4⟩) rfl rfl rfl ?_
            rintro _ _ _ ⟨a68, ts68, rfl, rfl, hrs68, hts68, rfl⟩
            refine gop (y_assign (v := .bool _) rfl) rfl rfl rfl ?_
            refine gops_nil ?_
            refine hN22 _ _ ?_
            refine gT [box rg _, rowl _ _ _ _ _ _, fr] rfl ?_
            refine gfrom [(0, .pointer (some ⟨rg, 0, none⟩)), (66, .bool _)] ⟨rfl, rfl, trivial⟩ fun σ => ?_
            refine gcond (b := _) rfl (fun hc66 => ?_) (fun hc66 => ?_)
            · 
              replace hc66 := of_decide_eq_true hc66
              have ht68 : ts68 = ts.tail := by rw [hts68, if_pos hc66]
              have hpl := hd_pos (ts := ts) (by rw [hc66]; decide)
              have htl68 : ts68.length + 1 = ts.length := by rw [ht68]; exact hpl
              refine gseq fun N23 hN23 => ?_
              refine greg ?_
              refine gop (y_move (v := .pointer (some ⟨rg, 0, none⟩)) rfl) rfl rfl rfl ?_
              refine gop (y_nilCheck rfl) rfl rfl rfl ?_
              refine gop (y_fieldAddr_box fa124_0 rfl) rfl rfl rfl ?_
              refine gop (y_build (vs := [(0, _)]) (cells := #[_, .int .i64 0, .int .i64 0, .int .i64 0]) rfl (bd48_0 _)) rfl rfl rfl ?_
              refine gop_does2 0 1 (fun v r s1 G => ∃ B' bc', v = .int .i64 ((o).length : Nat) ∧ r = box rg (.cells #[.slice B' (o ++ [(⟨3, 0, 0, 0⟩ : PN)]).length bc', .string s, .int .i64 ((a68 : Nat)), .int .i64 ((nextW s (a68) : Nat)), .int .i64 code] 124) ∧ s1 = rowl pnCells w0.heap.size 48 4 (.slice B' (o ++ [(⟨3, 0, 0, 0⟩ : PN)]).length bc') (o ++ [(⟨3, 0, 0, 0⟩ : PN)]) ∧ G = []) (e_call (vs := [.pointer _, .agg #[_, _, _, _]]) Tryz.func95 rfl (by kernel_rfl) rfl) rfl rfl rfl (fun w fr1 hfr hM => (polAdd5_any _ w rg _ _ s _ _ _ (o) fr1 hM (by omega) ((⟨3, 0, 0, 0⟩ : PN))).mono fun _ _ ⟨B', bc', h1, h2⟩ => ⟨_, _, _, [], h1, ⟨B', bc', rfl, rfl, rfl, rfl⟩, h2⟩) rfl rfl rfl ?_
              rintro _ _ _ _ ⟨B73, bc73, rfl, rfl, rfl, rfl⟩
              refine gop (y_assign (v := .int _ _) rfl) rfl rfl rfl ?_
              refine gop (y_assign (v := .bool _) rfl) rfl rfl rfl ?_
              refine gops_nil ?_
              refine hN23 _ _ ?_
              refine gT [box rg _, rowl _ _ _ _ _ _, fr] rfl ?_
              refine gfrom [(2, .int _ _), (3, .bool _)] ⟨rfl, rfl, trivial⟩ fun σ => ?_
              refine gret fun w1 hM => ?_
              refine ⟨_, res2 rfl (rt (v := .int _ _) rfl) (rt (v := .bool _) rfl), ?_⟩
              have hR : rd s.size (n + 1) 2 none ts = .ok (.leaf 3 0) ts68 := by rw [hrd, fac, if_neg hc8, if_neg hc24, if_neg hc44, if_neg hc51, if_neg hc58, if_pos hc66, ht68]
              exact ⟨_, _, B73, bc73, _, _, _, rfl, pok_ok hR (by simp only [Tr.size]; omega) rfl hrs68, weak_take (T' := [_, _, fr]) rfl _ hM⟩
            · 
              replace hc66 := of_decide_eq_false hc66
              obtain rfl : ts = ts68 := by rw [hts68, if_neg hc66]
              obtain rfl : a = a68 := by rw [← hrs.pos, ← hrs68.pos]
              refine gskip ?_
              refine hN2 _ _ ?_
              refine gfrom [(0, .pointer (some ⟨rg, 0, none⟩))] ⟨rfl, trivial⟩ fun σ => ?_
              refine gseq fun N24 hN24 => ?_
              refine greg ?_
              refine gop (y_move (v := .pointer (some ⟨rg, 0, none⟩)) rfl) rfl rfl rfl ?_
              refine gop_does1 0 (fun v r G => v = .tuple #[.int .i64 0, .bool false] ∧ r = box rg (.cells #[.slice B o.length bc, .string s, .int .i64 ((a : Nat)), .int .i64 ((nextW s (a) : Nat)), .int .i64 1] 124) ∧ G = []) (e_call (vs := [.pointer (some ⟨rg, 0, none⟩), _]) Tryz.func56 rfl (by kernel_rfl) rfl) rfl (fun w fr1 hfr hM => (rdFail_any _ w rg _ _ _ s _ _ _ fr1 1 hM).mono fun _ _ ⟨h1, h2⟩ => ⟨_, _, [], h1, ⟨rfl, rfl, rfl⟩, h2⟩) rfl rfl rfl ?_
              rintro _ _ _ ⟨rfl, rfl, rfl⟩
              refine gop (y_extract (v := .int _ _) rfl rfl) rfl rfl rfl ?_
              refine gop (y_extract (v := .bool _) rfl rfl) rfl rfl rfl ?_
              refine gop (y_assign (v := .int _ _) rfl) rfl rfl rfl ?_
              refine gop (y_assign (v := .bool _) rfl) rfl rfl rfl ?_
              refine gops_nil ?_
              refine hN24 _ _ ?_
              refine gT [box rg _, rowl _ _ _ _ _ _, fr] rfl ?_
              refine gfrom [(2, .int _ _), (3, .bool _)] ⟨rfl, rfl, trivial⟩ fun σ => ?_
              refine gret fun w1 hM => ?_
              refine ⟨_, res2 rfl (rt (v := .int _ _) rfl) (rt (v := .bool _) rfl), ?_⟩
              have hR : rd s.size (n + 1) 2 none ts = .bad 1 a := by rw [hrd, fac, if_neg hc8, if_neg hc24, if_neg hc44, if_neg hc51, if_neg hc58, if_neg hc66, hrs.pos]
              exact ⟨_, _, B, bc, o, _, _, rfl, pok_bad hR (by omega), weak_take (T' := [_, _, fr]) rfl _ hM⟩
end Go.Proofs.YtbkameioedmlkaaGreatDoor
namespace Go.Proofs.YtbkameioedmlkaaGreatDoor
open Go.RowKit Go.Cf
set_option maxRecDepth 10000
theorem bd48_0_2_3 (x1 : Int) (x2 : Int) (x3 : Int) : Tryz.prog.built 48 [(0, .int .i64 x1), (2, .int .i64 x2), (3, .int .i64 x3)] = some #[.int .i64 x1, .int .i64 0, .int .i64 x2, .int .i64 x3] := by kernel_rfl
set_option maxHeartbeats 16000000 in
theorem rdList_step (w0 : World) (s : ByteArray) (hs : s.size ≤ 200) (rg n : Nat) (hFac : FacH w0 s rg (n + 1)) (hLi : ∀ m, m ≤ n → ListH w0 s rg m) : ListH w0 s rg (n + 1) := by
  intro lv vi w B bc code o fr a ts hlv hvi hfu hrs hol hM0
  refine gcallsT Tryz.func55 rfl Tryz.ntmps55 (Nat.le_of_ble_eq_true rfl) hM0 ?_
  refine gfrom [(0, .pointer (some ⟨rg, 0, none⟩)), (1, .int _ _)] ⟨rfl, rfl, trivial⟩ fun σ => ?_
  refine gseq fun N1 hN1 => ?_
  refine greg ?_
  refine gop (y_assign (v := .int _ _) rfl) rfl rfl rfl ?_
  refine gop (y_assign (v := .bool _) rfl) rfl rfl rfl ?_
  refine gops_nil ?_
  refine hN1 _ _ ?_
  refine gfrom [(0, .pointer (some ⟨rg, 0, none⟩)), (1, .int _ _)] ⟨rfl, rfl, trivial⟩ fun σ => ?_
  refine gseq fun N2 hN2 => ?_
  refine gseq fun N3 hN3 => ?_
  refine greg ?_
  refine gop (y_move (v := .int _ _) rfl) rfl rfl rfl ?_
  refine gop (y_eql rfl rfl) rfl rfl rfl ?_
  refine gops_nil ?_
  refine hN3 _ _ ?_
  refine gfrom [(0, .pointer (some ⟨rg, 0, none⟩)), (1, .int _ _), (12, .bool _)] ⟨rfl, rfl, rfl, trivial⟩ fun σ => ?_
  refine gcond (b := _) rfl (fun hc12 => ?_) (fun hc12 => ?_)
  · 
    replace hc12 := of_decide_eq_true hc12
    obtain rfl : lv = 2 := by omega
    refine gseq fun N4 hN4 => ?_
    refine greg ?_
    refine gop (y_move (v := .pointer (some ⟨rg, 0, none⟩)) rfl) rfl rfl rfl ?_
    refine gop_does2 0 1 (fun v r s1 G => ∃ x b B' bc' o' a' code', v = .tuple #[.int .i64 x, .bool b] ∧ r = box rg (.cells #[.slice B' o'.length bc', .string s, .int .i64 ((a' : Nat)), .int .i64 ((nextW s (a') : Nat)), .int .i64 code'] 124) ∧ s1 = rowl pnCells w0.heap.size 48 4 (.slice B' (o').length bc') (o') ∧ G = [] ∧ POK s (rd s.size (n + 1) 2 none ts) (o) code x b o' a' code') (e_call (vs := [.pointer (some ⟨rg, 0, none⟩)]) Tryz.func93 rfl (by kernel_rfl) rfl) rfl rfl rfl (fun w fr1 hfr hM => (hFac w _ _ _ o fr1 _ ts (by omega) hrs (by omega) hM).mono fun _ _ ⟨x, b, B', bc', o', a', code', h1, h2, h3⟩ => ⟨_, _, _, [], h1, ⟨x, b, B', bc', o', a', code', rfl, rfl, rfl, rfl, h2⟩, h3⟩) rfl rfl rfl ?_
    rintro _ _ _ _ ⟨x14, b14, B14, bc14, o14, a14, code14, rfl, rfl, rfl, rfl, hp14⟩
    refine gop (y_extract (v := .int _ _) rfl rfl) rfl rfl rfl ?_
    refine gop (y_extract (v := .bool _) rfl rfl) rfl rfl rfl ?_
    refine gop (y_assign (v := .int _ _) rfl) rfl rfl rfl ?_
    refine gop (y_assign (v := .bool _) rfl) rfl rfl rfl ?_
    refine gops_nil ?_
    refine hN4 _ _ ?_
    refine gT [box rg _, rowl _ _ _ _ _ _, fr] rfl ?_
    refine gfrom [(4, .int _ _), (5, .bool _)] ⟨rfl, rfl, trivial⟩ fun σ => ?_
    refine gret fun w1 hM => ?_
    refine ⟨_, res2 rfl (rt (v := .int _ _) rfl) (rt (v := .bool _) rfl), ?_⟩
    exact ⟨x14, b14, B14, bc14, o14, a14, code14, rfl, hp14, weak_take (T' := [_, _, fr]) rfl _ hM⟩
  · 
    replace hc12 := of_decide_eq_false hc12
    have hlv2 : lv < 2 := by omega
    have hR0 : (rd s.size (n + 1) lv none ts) = bindR (rd s.size n (lv + 1) none ts) fun t us => rd s.size n lv (some t) us := by rw [rd, if_neg (by omega)]
    refine gskip ?_
    refine hN2 _ _ ?_
    refine gfrom [(0, .pointer (some ⟨rg, 0, none⟩)), (1, .int _ _)] ⟨rfl, rfl, trivial⟩ fun σ => ?_
    refine gseq fun N5 hN5 => ?_
    refine greg ?_
    refine gop (y_assign (v := .string _) rfl) rfl rfl rfl ?_
    refine gop (y_assign (v := .int _ _) rfl) rfl rfl rfl ?_
    refine gops_nil ?_
    refine hN5 _ _ ?_
    refine gfrom [(0, .pointer (some ⟨rg, 0, none⟩)), (1, .int _ _), (6, .string _), (7, .int _ _)] ⟨rfl, rfl, rfl, rfl, trivial⟩ fun σ => ?_
    refine gseq fun N6 hN6 => ?_
    refine gfrom [(0, .pointer (some ⟨rg, 0, none⟩)), (1, .int _ _), (6, .string _), (7, .int _ _)] ⟨rfl, rfl, rfl, rfl, trivial⟩ fun σ => ?_
    refine gcut3 (Lf := [(0, .pointer (some ⟨rg, 0, none⟩)), (1, .int _ _)]) (G := Unit) (fun g => True) (fun g => [(6, .string (signL lv)), (7, .int .i64 (kindL lv))]) (fun g => []) ⟨rfl, rfl, trivial⟩ ?_ ?_
    ·
      refine gseq fun N7 hN7 => ?_
      refine greg ?_
      refine gop (y_move (v := .int _ _) rfl) rfl rfl rfl ?_
      refine gop (y_eql rfl rfl) rfl rfl rfl ?_
      refine gops_nil ?_
      refine hN7 _ _ ?_
      refine gfrom [(0, .pointer (some ⟨rg, 0, none⟩)), (1, .int _ _), (6, .string _), (7, .int _ _), (18, .bool _)] ⟨rfl, rfl, rfl, rfl, rfl, trivial⟩ fun σ => ?_
      refine gcond (b := _) rfl (fun hc18 => ?_) (fun hc18 => ?_)
      · 
        replace hc18 := of_decide_eq_true hc18
        refine greg ?_
        refine gop (y_assign (v := .string _) rfl) rfl rfl rfl ?_
        refine gop (y_assign (v := .int _ _) rfl) rfl rfl rfl ?_
        refine gops_nil ?_
        refine gcut3_end (()) (trivial) ⟨(congrArg Value.string (by first | (obtain rfl : lv = 1 := (by omega); rfl) | (obtain rfl : lv = 0 := (by omega); rfl))), (congrArg (Value.int .i64) (by first | (obtain rfl : lv = 1 := (by omega); rfl) | (obtain rfl : lv = 0 := (by omega); rfl))), trivial⟩ ⟨rfl, rfl, trivial⟩ ⟨_, rfl⟩
      · 
        replace hc18 := of_decide_eq_false hc18
        refine gskip ?_
        refine gcut3_end (()) (trivial) ⟨(congrArg Value.string (by first | (obtain rfl : lv = 1 := (by omega); rfl) | (obtain rfl : lv = 0 := (by omega); rfl))), (congrArg (Value.int .i64) (by first | (obtain rfl : lv = 1 := (by omega); rfl) | (obtain rfl : lv = 0 := (by omega); rfl))), trivial⟩ ⟨rfl, rfl, trivial⟩ ⟨_, rfl⟩
    ·
      intro g hcut σ
      refine hN6 _ _ ?_
      refine gseq fun N8 hN8 => ?_
      refine greg ?_
      refine gop (y_move (v := .pointer (some ⟨rg, 0, none⟩)) rfl) rfl rfl rfl ?_
      refine gop (y_move (v := .int _ _) rfl) rfl rfl rfl ?_
      refine gop (y_add rfl rfl ⟨by omega, by omega⟩) rfl rfl rfl ?_
      refine gop_does2 0 1 (fun v r s1 G => ∃ x b B' bc' o' a' code', v = .tuple #[.int .i64 x, .bool b] ∧ r = box rg (.cells #[.slice B' o'.length bc', .string s, .int .i64 ((a' : Nat)), .int .i64 ((nextW s (a') : Nat)), .int .i64 code'] 124) ∧ s1 = rowl pnCells w0.heap.size 48 4 (.slice B' (o').length bc') (o') ∧ G = [] ∧ POK s (rd s.size n (lv + 1) none ts) (o) code x b o' a' code') (e_call (vs := [.pointer (some ⟨rg, 0, none⟩), .int _ _]) Tryz.func55 rfl (by kernel_rfl) rfl) rfl rfl rfl (fun w fr1 hfr hM => (hLi n (Nat.le_refl _) (lv + 1) _ w _ _ _ o fr1 _ ts (by omega) (by omega) (by omega) hrs (by omega) hM).mono fun _ _ ⟨x, b, B', bc', o', a', code', h1, h2, h3⟩ => ⟨_, _, _, [], h1, ⟨x, b, B', bc', o', a', code', rfl, rfl, rfl, rfl, h2⟩, h3⟩) rfl rfl rfl ?_
      rintro _ _ _ _ ⟨x23, b23, B23, bc23, o23, a23, code23, rfl, rfl, rfl, rfl, hp23⟩
      refine gop (y_move (v := .tuple #[.int _ _, .bool _]) rfl) rfl rfl rfl ?_
      refine gop (y_extract (v := .int _ _) rfl rfl) rfl rfl rfl ?_
      refine gop (y_extract (v := .bool _) rfl rfl) rfl rfl rfl ?_
      refine gop (y_assign (v := .int _ _) rfl) rfl rfl rfl ?_
      refine gop (y_assign (v := .bool _) rfl) rfl rfl rfl ?_
      refine gops_nil ?_
      refine hN8 _ _ ?_
      refine gT [box rg _, rowl _ _ _ _ _ _, fr] rfl ?_
      refine gfrom [(0, .pointer (some ⟨rg, 0, none⟩)), (1, .int _ _), (6, .string _), (7, .int _ _), (8, .int _ _), (9, .bool _)] ⟨rfl, rfl, rfl, rfl, rfl, rfl, trivial⟩ fun σ => ?_
      refine gseq fun N9 hN9 => ?_
      refine gblock ?_
      refine gfrom2 [(8, .int _ _), (9, .bool _)] [(0, .pointer (some ⟨rg, 0, none⟩)), (1, .int _ _), (6, .string _), (7, .int _ _)] ⟨rfl, rfl, trivial⟩ ⟨rfl, rfl, rfl, rfl, trivial⟩ fun σ => ?_
      refine gloop2 (G := Nat × Int × Bool × Option Addr × Nat × List PN × Nat × Int) (fun (m, x, b, B, bc, o1, a1, code1) => LI s lv n (rd s.size (n + 1) lv none ts) o code m x b o1 a1 code1) (fun (m, x, b, B, bc, o1, a1, code1) => m) (fun (m, x, b, B, bc, o1, a1, code1) => [(8, .int .i64 x), (9, .bool b)]) (fun (m, x, b, B, bc, o1, a1, code1) => [(0, box rg (.cells #[.slice B o1.length bc, .string s, .int .i64 ((a1 : Nat)), .int .i64 ((nextW s (a1) : Nat)), .int .i64 code1] 124)), (1, rowl pnCells w0.heap.size 48 4 (.slice B (o1).length bc) (o1))]) ((n, x23, b23, B23, bc23, o23, a23, code23)) ?h0 ⟨rfl, rfl, trivial⟩ ⟨rfl, rfl, rfl, rfl, trivial⟩ rfl ?round
      case h0 => exact li_start hR0 hlv2 (by omega) hol hp23
      case round =>
        rintro ⟨m, x, b, B, bc, o1, a1, code1⟩ hli σ
        replace hli : LI s lv n (rd s.size (n + 1) lv none ts) o code m x b o1 a1 code1 := hli
        refine gT [box rg _, rowl _ _ _ _ _ _, fr] rfl ?_
        refine gseq fun N10 hN10 => ?_
        refine gseq fun N11 hN11 => ?_
        refine greg ?_
        refine gop (y_move (v := .bool _) rfl) rfl rfl rfl ?_
        refine gop (y_move (v := .bool _) rfl) rfl rfl rfl ?_
        refine gop_if (want := true) rfl rfl rfl rfl rfl rfl (fun hg27 => ?_) (fun hg27 => ?_)
        · 
          have hg27d := hg27
          obtain ⟨t, us, rfl, rfl, hru, rfl, hRm, hfm, hlen⟩ := li_ok hli (by assumption)
          refine gop (y_bare (y_move (v := .pointer (some ⟨rg, 0, none⟩)) rfl)) rfl rfl rfl ?_
          refine gop_on rfl rfl rfl rfl hg27 ?_
          refine gop (y_bare (y_move (v := .string _) rfl)) rfl rfl rfl ?_
          refine gop_on rfl rfl rfl rfl hg27 ?_
          refine gop_does1 0 (fun v r G => ∃ a' ts', v = .bool (decide (hd us = signL lv)) ∧ r = box rg (.cells #[.slice B (o ++ post t o.length).length bc, .string s, .int .i64 ((a' : Nat)), .int .i64 ((nextW s (a') : Nat)), .int .i64 code] 124) ∧ RS s a' ts' ∧ ts' = (if hd us = signL lv then us.tail else us) ∧ G = []) (e_call (vs := [.pointer (some ⟨rg, 0, none⟩), .string _]) Tryz.func94 rfl (by kernel_rfl) rfl) rfl (fun w fr1 hfr hM => (rdTake_any _ w rg _ _ _ s _ fr1 hs _ us hru _ hM).mono fun _ _ ⟨a', ts', h1, h2, h3, h4⟩ => ⟨_, _, [], h1, ⟨a', ts', rfl, rfl, h2, h3, rfl⟩, h4⟩) rfl rfl rfl ?_
          rintro _ _ _ ⟨a30, ts30, rfl, rfl, hrs30, hts30, rfl⟩
          refine gop (y_pick_t (v := .bool _) rfl hg27 rfl) rfl rfl rfl ?_
          refine gops_nil ?_
          refine hN11 _ _ ?_
          refine gT [box rg _, rowl _ _ _ _ _ _, fr] rfl ?_
          refine gfrom [(0, .pointer (some ⟨rg, 0, none⟩)), (1, .int _ _), (6, .string _), (7, .int _ _), (8, .int _ _), (9, .bool _), (31, .bool _)] ⟨rfl, rfl, rfl, rfl, rfl, rfl, rfl, trivial⟩ fun σ => ?_
          refine gcond (b := _) rfl (fun hc31 => ?_) (fun hc31 => ?_)
          · 
            have hsg : hd us = signL lv := by simpa using hc31
            obtain ⟨mm, rfl⟩ : ∃ k, m = k + 1 := ⟨m - 1, by omega⟩
            have ht30 : ts30 = us.tail := by rw [hts30, if_pos hsg]
            have hpl := hd_pos (ts := us) (by rw [hsg]; exact sign_ne lv)
            have htl30 : ts30.length + 1 = us.length := by rw [ht30]; exact hpl
            have hmn := hli.1
            have htp := t.pos
            have hRm1 : (rd s.size (n + 1) lv none ts) = bindR (rd s.size mm (lv + 1) none ts30) fun t2 ts' => rd s.size mm lv (some (.bin (kindL lv) t t2)) ts' := by rw [hRm, rd, if_pos hsg, ht30]
            refine gskip ?_
            refine hN10 _ _ ?_
            refine gfrom [(0, .pointer (some ⟨rg, 0, none⟩)), (1, .int _ _), (6, .string _), (7, .int _ _), (8, .int _ _)] ⟨rfl, rfl, rfl, rfl, rfl, trivial⟩ fun σ => ?_
            refine gblock ?_
            refine gseq fun N12 hN12 => ?_
            refine greg ?_
            refine gop (y_assign (v := .int _ _) rfl) rfl rfl rfl ?_
            refine gops_nil ?_
            refine hN12 _ _ ?_
            refine gfrom [(0, .pointer (some ⟨rg, 0, none⟩)), (1, .int _ _), (6, .string _), (7, .int _ _), (8, .int _ _)] ⟨rfl, rfl, rfl, rfl, rfl, trivial⟩ fun σ => ?_
            refine gseq fun N13 hN13 => ?_
            refine greg ?_
            refine gop (y_move (v := .pointer (some ⟨rg, 0, none⟩)) rfl) rfl rfl rfl ?_
            refine gop (y_move (v := .int _ _) rfl) rfl rfl rfl ?_
            refine gop (y_add rfl rfl ⟨by omega, by omega⟩) rfl rfl rfl ?_
            refine gop_does2 0 1 (fun v r s1 G => ∃ x b B' bc' o' a' code', v = .tuple #[.int .i64 x, .bool b] ∧ r = box rg (.cells #[.slice B' o'.length bc', .string s, .int .i64 ((a' : Nat)), .int .i64 ((nextW s (a') : Nat)), .int .i64 code'] 124) ∧ s1 = rowl pnCells w0.heap.size 48 4 (.slice B' (o').length bc') (o') ∧ G = [] ∧ POK s (rd s.size mm (lv + 1) none ts30) (o ++ post t o.length) code x b o' a' code') (e_call (vs := [.pointer (some ⟨rg, 0, none⟩), .int _ _]) Tryz.func55 rfl (by kernel_rfl) rfl) rfl rfl rfl (fun w fr1 hfr hM => (hLi mm (by omega) (lv + 1) _ w _ _ _ (o ++ post t o.length) fr1 _ ts30 (by omega) (by omega) (by omega) hrs30 (by rw [app_len]; omega) hM).mono fun _ _ ⟨x, b, B', bc', o', a', code', h1, h2, h3⟩ => ⟨_, _, _, [], h1, ⟨x, b, B', bc', o', a', code', rfl, rfl, rfl, rfl, h2⟩, h3⟩) rfl rfl rfl ?_
            rintro _ _ _ _ ⟨x36, b36, B36, bc36, o36, a36, code36, rfl, rfl, rfl, rfl, hp36⟩
            refine gop (y_move (v := .tuple #[.int _ _, .bool _]) rfl) rfl rfl rfl ?_
            refine gop (y_extract (v := .int _ _) rfl rfl) rfl rfl rfl ?_
            refine gop (y_extract (v := .bool _) rfl rfl) rfl rfl rfl ?_
            refine gop (y_assign (v := .int _ _) rfl) rfl rfl rfl ?_
            refine gop (y_assign (v := .bool _) rfl) rfl rfl rfl ?_
            refine gops_nil ?_
            refine hN13 _ _ ?_
            refine gT [box rg _, rowl _ _ _ _ _ _, fr] rfl ?_
            refine gfrom [(0, .pointer (some ⟨rg, 0, none⟩)), (1, .int _ _), (6, .string _), (7, .int _ _), (8, .int _ _), (9, .bool _), (10, .int _ _)] ⟨rfl, rfl, rfl, rfl, rfl, rfl, rfl, trivial⟩ fun σ => ?_
            refine gseq fun N14 hN14 => ?_
            refine greg ?_
            refine gop (y_move (v := .bool _) rfl) rfl rfl rfl ?_
            refine gops_nil ?_
            refine hN14 _ _ ?_
            refine gfrom [(0, .pointer (some ⟨rg, 0, none⟩)), (1, .int _ _), (6, .string _), (7, .int _ _), (8, .int _ _), (9, .bool _), (10, .int _ _), (39, .bool _)] ⟨rfl, rfl, rfl, rfl, rfl, rfl, rfl, rfl, trivial⟩ fun σ => ?_
            refine gcond (b := _) rfl (fun hc39 => ?_) (fun hc39 => ?_)
            · 
              have hb36 : b36 = true := hc39
              obtain ⟨t36, us36, hR36, hx36, ho36, hrt36, hcd36⟩ := pok_yes hp36 (by first | assumption | simpa using hc39)
              have hsz36 : t36.size + us36.length ≤ ts30.length := (rd_ok s.size mm (lv + 1) none ts30 t36 us36 (fun _ h => by cases h) hR36).2
              subst hx36
              subst ho36
              obtain rfl : code = code36 := hcd36.symm
              have hR2 : (rd s.size (n + 1) lv none ts) = rd s.size mm lv (some (.bin (kindL lv) t t36)) us36 := by rw [hRm1, hR36]; rfl
              have htp36 := t36.pos
              have hal := app_len o t
              refine greg ?_
              refine gop (y_move (v := .pointer (some ⟨rg, 0, none⟩)) rfl) rfl rfl rfl ?_
              refine gop (y_nilCheck rfl) rfl rfl rfl ?_
              refine gop (y_fieldAddr_box fa124_0 rfl) rfl rfl rfl ?_
              refine gop (y_move (v := .int _ _) rfl) rfl rfl rfl ?_
              refine gop (y_move (v := .int _ _) rfl) rfl rfl rfl ?_
              refine gop (y_move (v := .int _ _) rfl) rfl rfl rfl ?_
              refine gop (y_build (vs := [(0, .int _ _), (2, .int _ _), (3, .int _ _)]) (cells := #[_, .int .i64 0, _, _]) rfl (bd48_0_2_3 _ _ _)) rfl rfl rfl ?_
              refine gop_does2 0 1 (fun v r s1 G => ∃ B' bc', v = .int .i64 (((o ++ post t o.length) ++ post t36 (o ++ post t o.length).length).length : Nat) ∧ r = box rg (.cells #[.slice B' ((o ++ post t o.length) ++ post t36 (o ++ post t o.length).length ++ [(⟨kindL lv, 0, ((o.length + t.size : Nat) : Int) - 1, (((o ++ post t o.length).length + t36.size : Nat) : Int) - 1⟩ : PN)]).length bc', .string s, .int .i64 ((a36 : Nat)), .int .i64 ((nextW s (a36) : Nat)), .int .i64 code] 124) ∧ s1 = rowl pnCells w0.heap.size 48 4 (.slice B' ((o ++ post t o.length) ++ post t36 (o ++ post t o.length).length ++ [(⟨kindL lv, 0, ((o.length + t.size : Nat) : Int) - 1, (((o ++ post t o.length).length + t36.size : Nat) : Int) - 1⟩ : PN)]).length bc') ((o ++ post t o.length) ++ post t36 (o ++ post t o.length).length ++ [(⟨kindL lv, 0, ((o.length + t.size : Nat) : Int) - 1, (((o ++ post t o.length).length + t36.size : Nat) : Int) - 1⟩ : PN)]) ∧ G = []) (e_call (vs := [.pointer _, .agg #[_, _, _, _]]) Tryz.func95 rfl (by kernel_rfl) rfl) rfl rfl rfl (fun w fr1 hfr hM => (polAdd5_any _ w rg _ _ s _ _ _ ((o ++ post t o.length) ++ post t36 (o ++ post t o.length).length) fr1 hM (by rw [app_len, app_len]; omega) ((⟨kindL lv, 0, ((o.length + t.size : Nat) : Int) - 1, (((o ++ post t o.length).length + t36.size : Nat) : Int) - 1⟩ : PN))).mono fun _ _ ⟨B', bc', h1, h2⟩ => ⟨_, _, _, [], h1, ⟨B', bc', rfl, rfl, rfl, rfl⟩, h2⟩) rfl rfl rfl ?_
              rintro _ _ _ _ ⟨B47, bc47, rfl, rfl, rfl, rfl⟩
              refine gop (y_assign (v := .int _ _) rfl) rfl rfl rfl ?_
              refine gops_nil ?_
              refine gnext2 ((mm, (((o ++ post t o.length) ++ post t36 (o ++ post t o.length).length).length : Nat), b36, B47, bc47, (o ++ post t o.length) ++ post t36 (o ++ post t o.length).length ++ [(⟨kindL lv, 0, ((o.length + t.size : Nat) : Int) - 1, (((o ++ post t o.length).length + t36.size : Nat) : Int) - 1⟩ : PN)], a36, code)) (by show mm < mm + 1; omega) (⟨by omega, .inr ⟨hb36, .bin (kindL lv) t t36, us36, by rw [app_len, app_len, size_bin]; omega, post_bin_app o (kindL lv) t t36, hrt36, rfl, hR2, by omega, by rw [size_bin]; omega⟩⟩) ⟨rfl, rfl, trivial⟩ ⟨rfl, rfl, rfl, rfl, trivial⟩ ⟨_, rfl⟩
            · 
              have hb36 : b36 = false := by simpa using hc39
              obtain ⟨hR36, ho36⟩ := pok_no hp36 hb36
              have hR2 : (rd s.size (n + 1) lv none ts) = .bad code36 a36 := by rw [hRm1, hR36]; rfl
              refine gskip ?_
              refine gnext2 ((mm, _, b36, B36, bc36, o36, a36, code36)) (by show mm < mm + 1; omega) (⟨by omega, .inl ⟨hb36, hR2, ho36⟩⟩) ⟨rfl, rfl, trivial⟩ ⟨rfl, rfl, rfl, rfl, trivial⟩ ⟨_, rfl⟩
          · 
            refine gexit ?_
            refine hN9 _ _ ?_
            refine gfrom [(8, .int _ _), (9, .bool _)] ⟨rfl, rfl, trivial⟩ fun σ => ?_
            refine gseq fun N15 hN15 => ?_
            refine greg ?_
            refine gop (y_move (v := .int _ _) rfl) rfl rfl rfl ?_
            refine gop (y_move (v := .bool _) rfl) rfl rfl rfl ?_
            refine gop (y_assign (v := .int _ _) rfl) rfl rfl rfl ?_
            refine gop (y_assign (v := .bool _) rfl) rfl rfl rfl ?_
            refine gops_nil ?_
            refine hN15 _ _ ?_
            refine gfrom [(4, .int _ _), (5, .bool _)] ⟨rfl, rfl, trivial⟩ fun σ => ?_
            refine gret fun w1 hM => ?_
            refine ⟨_, res2 rfl (rt (v := .int _ _) rfl) (rt (v := .bool _) rfl), ?_⟩
            first
            | (have hne : ¬ hd us = signL lv := by simpa using hc31
               have hRx : (rd s.size (n + 1) lv none ts) = .ok t us := by
                 obtain ⟨mm, rfl⟩ : ∃ k, m = k + 1 := ⟨m - 1, by omega⟩
                 rw [hRm, rd, if_neg hne]
               obtain rfl : us = ts30 := by rw [hts30, if_neg hne]
               exact ⟨_, _, B, bc, _, _, _, rfl, pok_ok2 (by assumption) hRx rfl rfl hrs30, weak_take (T' := [_, _, fr]) rfl _ hM⟩)
            | (obtain ⟨hRb, hob⟩ := li_bad hli (by assumption)
               exact ⟨_, _, _, _, _, _, _, rfl, pok_bad2 (by assumption) hRb hob, weak_take (T' := [_, _, fr]) rfl _ hM⟩)
        · 
          have hg27d := hg27
          refine gop_off rfl rfl rfl rfl hg27 rfl rfl ?_
          refine gop_off rfl rfl rfl rfl hg27 rfl rfl ?_
          refine gop (y_pick_f (v := .bool _) rfl hg27 rfl) rfl rfl rfl ?_
          refine gops_nil ?_
          refine hN11 _ _ ?_
          refine gfrom [(0, .pointer (some ⟨rg, 0, none⟩)), (1, .int _ _), (6, .string _), (7, .int _ _), (8, .int _ _), (9, .bool _), (31, .bool _)] ⟨rfl, rfl, rfl, rfl, rfl, rfl, rfl, trivial⟩ fun σ => ?_
          refine gcond (b := _) rfl (fun hc31 => ?_) (fun hc31 => ?_)
          · 
            cases hc31
          · 
            refine gexit ?_
            refine hN9 _ _ ?_
            refine gfrom [(8, .int _ _), (9, .bool _)] ⟨rfl, rfl, trivial⟩ fun σ => ?_
            refine gseq fun N16 hN16 => ?_
            refine greg ?_
            refine gop (y_move (v := .int _ _) rfl) rfl rfl rfl ?_
            refine gop (y_move (v := .bool _) rfl) rfl rfl rfl ?_
            refine gop (y_assign (v := .int _ _) rfl) rfl rfl rfl ?_
            refine gop (y_assign (v := .bool _) rfl) rfl rfl rfl ?_
            refine gops_nil ?_
            refine hN16 _ _ ?_
            refine gfrom [(4, .int _ _), (5, .bool _)] ⟨rfl, rfl, trivial⟩ fun σ => ?_
            refine gret fun w1 hM => ?_
            refine ⟨_, res2 rfl (rt (v := .int _ _) rfl) (rt (v := .bool _) rfl), ?_⟩
            first
            | (have hne : ¬ hd us = signL lv := by simpa using hc31
               have hRx : (rd s.size (n + 1) lv none ts) = .ok t us := by
                 obtain ⟨mm, rfl⟩ : ∃ k, m = k + 1 := ⟨m - 1, by omega⟩
                 rw [hRm, rd, if_neg hne]
               obtain rfl : us = ts30 := by rw [hts30, if_neg hne]
               exact ⟨_, _, B, bc, _, _, _, rfl, pok_ok2 (by assumption) hRx rfl rfl hrs30, weak_take (T' := [_, _, fr]) rfl _ hM⟩)
            | (obtain ⟨hRb, hob⟩ := li_bad hli (by assumption)
               exact ⟨_, _, _, _, _, _, _, rfl, pok_bad2 (by assumption) hRb hob, weak_take (T' := [_, _, fr]) rfl _ hM⟩)
end Go.Proofs.YtbkameioedmlkaaGreatDoor
namespace Go.Proofs.YtbkameioedmlkaaGreatDoor
open Go.RowKit Go.Cf
theorem rd_both (w0 : World) (s : ByteArray) (hs : s.size ≤ 200) (hL : LaidP w0) (rg : Nat) : ∀ n, (∀ m, m ≤ n → ListH w0 s rg m) ∧ FacH w0 s rg n
  | 0 => ⟨fun m hm lv vi w B bc code o fr a ts hlv hvi hfu => by omega, fun w B bc code o fr a ts hfu => by omega⟩
  | n + 1 => by
    obtain ⟨h1, h2⟩ := rd_both w0 s hs hL rg n
    have h3 := rdFactor_step w0 s hs hL rg n h2 (h1 n (Nat.le_refl _))
    refine ⟨fun m hm => ?_, h3⟩
    rcases Nat.lt_or_ge n m with h | h
    · obtain rfl : m = n + 1 := by omega
      exact rdList_step w0 s hs rg n h3 h1
    · exact h1 m h
end Go.Proofs.YtbkameioedmlkaaGreatDoor
namespace Go.Proofs.YtbkameioedmlkaaGreatDoor
open Go.RowKit Go.Cf
set_option maxRecDepth 10000
theorem bd124_1 (x1 : ByteArray) : Tryz.prog.built 124 [(1, .string x1)] = some #[.slice none 0 0, .string x1, .int .i64 0, .int .i64 0, .int .i64 0] := by kernel_rfl
set_option maxHeartbeats 8000000 in
theorem polParse_any (w : World) (s : ByteArray) (hL : LaidP w) (hs0 : s.size ≤ 9223372036854775807) :
    Calls Tryz.prog 27 #[.string s] w fun e w' => ∃ pv, e = .returned (.tuple #[.agg #[pv], fv (parR s).1]) ∧ Below w.heap.size w w' ∧ NewL 4 pnCells (parR s).2 w.heap.size w' pv := by
  refine gcalls Tryz.func27 rfl Tryz.ntmps27 (Nat.le_of_ble_eq_true rfl) ?_
  refine gfrom [(0, .string s)] ⟨rfl, trivial⟩ fun σ => ?_
  refine gseq fun N1 hN1 => ?_
  refine greg ?_
  refine gop_alloc (cs := #[.slice none 0 0]) Tryz.zeroValue43 rfl rfl (fun b2 hb2 => ?_)
  refine gop_alloc (cs := #[.int .i64 0, .int .i64 0]) Tryz.zeroValue33 rfl rfl (fun b3 hb3 => ?_)
  refine gops_nil ?_
  refine hN1 _ _ ?_
  refine gT [box b2 _, box b3 _] rfl ?_
  refine gfrom [(0, .string s), (2, .pointer _), (3, .pointer _)] ⟨rfl, rfl, rfl, trivial⟩ fun σ => ?_
  refine gseq fun N2 hN2 => ?_
  refine gseq fun N3 hN3 => ?_
  refine greg ?_
  refine gop (y_move (v := .string s) rfl) rfl rfl rfl ?_
  refine gop (y_lens Tryz.underlying9 rfl) rfl rfl rfl ?_
  refine gop (y_gtr rfl rfl) rfl rfl rfl ?_
  refine gops_nil ?_
  refine hN3 _ _ ?_
  refine gfrom [(0, .string s), (2, .pointer _), (3, .pointer _), (9, .bool _)] ⟨rfl, rfl, rfl, rfl, trivial⟩ fun σ => ?_
  refine gcond (b := _) rfl (fun hc9 => ?_) (fun hc9 => ?_)
  · 
    replace hc9 := of_decide_eq_true hc9
    have hP : parR s = (⟨2, -1⟩, []) := by rw [parR, if_pos (by omega)]
    refine gseq fun N4 hN4 => ?_
    refine greg ?_
    refine gop (y_build (vs := []) (cells := #[.slice none 0 0]) rfl bd43_) rfl rfl rfl ?_
    refine gop (y_build (vs := [(0, _), (1, _)]) (cells := #[_, _]) rfl (bd33_0_1 _ _)) rfl rfl rfl ?_
    refine gop_store 0 (v := .agg #[_]) (cs' := #[_]) rfl rfl Tryz.sizeOf43 rfl rfl rfl rfl (Nat.le_of_ble_eq_true rfl) rfl rfl ?_
    refine gop_store 1 (v := .agg #[_, _]) (cs' := #[_, _]) rfl rfl Tryz.sizeOf33 rfl rfl rfl rfl (Nat.le_of_ble_eq_true rfl) rfl rfl ?_
    refine gops_nil ?_
    refine hN4 _ _ ?_
    refine gT [box b2 _, box b3 _] rfl ?_
    refine gfrom [(2, .pointer _), (3, .pointer _)] ⟨rfl, rfl, trivial⟩ fun σ => ?_
    refine gret fun w1 hM => ?_
    refine ⟨_, res2 rfl (rc 0 (cs := [_]) hM rfl rfl Tryz.isAgg43 Tryz.sizeOf43 rfl) (rc 1 (cs := [_, _]) hM rfl rfl Tryz.isAgg33 Tryz.sizeOf33 rfl), ?_⟩
    rw [hP]
    exact ⟨_, rfl, hM.low, newL_nil⟩
  · 
    replace hc9 := of_decide_eq_false hc9
    have hs : s.size ≤ 200 := by omega
    refine gskip ?_
    refine hN2 _ _ ?_
    refine gfrom [(0, .string s), (2, .pointer _), (3, .pointer _)] ⟨rfl, rfl, rfl, trivial⟩ fun σ => ?_
    refine gseq fun N5 hN5 => ?_
    refine greg ?_
    refine gop (y_move (v := .string s) rfl) rfl rfl rfl ?_
    refine gop (y_build (vs := [(1, .string s)]) (cells := #[.slice none 0 0, _, .int .i64 0, .int .i64 0, .int .i64 0]) rfl (bd124_1 _)) rfl rfl rfl ?_
    refine gop_alloc (cs := #[.slice none 0 0, .string .empty, .int .i64 0, .int .i64 0, .int .i64 0]) Tryz.zeroValue124 rfl rfl (fun b4 hb4 => ?_)
    refine gop_store 2 (v := .agg #[_, _, _, _, _]) (cs' := #[_, _, _, _, _]) rfl rfl Tryz.sizeOf124 rfl rfl rfl rfl (Nat.le_of_ble_eq_true rfl) rfl rfl ?_
    refine gops_nil ?_
    refine hN5 _ _ ?_
    refine gT [box b2 _, box b3 _, box b4 _] rfl ?_
    refine gfrom [(0, .string s), (2, .pointer _), (3, .pointer _), (4, .pointer _)] ⟨rfl, rfl, rfl, rfl, trivial⟩ fun σ => ?_
    refine gseq fun N6 hN6 => ?_
    refine greg ?_
    refine gop_does1 2 (fun v r G => v = .tuple #[] ∧ r = box b4 (.cells #[.slice none 0 0, .string s, .int .i64 ((skipW s 0 : Nat)), .int .i64 ((nextW s (skipW s 0) : Nat)), .int .i64 0] 124) ∧ G = []) (e_call (vs := [.pointer _]) Tryz.func54 rfl (by kernel_rfl) rfl) rfl (fun w fr1 hfr hM => (rdScan_any _ w b4 _ _ _ s _ fr1 hs _ _ 0 rfl (Nat.zero_le _) hM).mono fun _ _ ⟨h1, h2⟩ => ⟨_, _, [], h1, ⟨rfl, rfl, rfl⟩, h2⟩) rfl rfl rfl ?_
    rintro _ _ _ ⟨rfl, rfl, rfl⟩
    refine gops_nil ?_
    refine hN6 _ _ ?_
    refine gT [box b2 _, box b3 _, box b4 _] rfl ?_
    refine gfrom [(0, .string s), (2, .pointer _), (3, .pointer _), (4, .pointer _)] ⟨rfl, rfl, rfl, rfl, trivial⟩ fun σ => ?_
    refine gseq fun N7 hN7 => ?_
    refine greg ?_
    refine gops_nilrow pnCells 48 4 ?_
    refine gop_does2 2 3 (fun v r s1 G => ∃ x b B' bc' o' a' code', v = .tuple #[.int .i64 x, .bool b] ∧ r = box b4 (.cells #[.slice B' o'.length bc', .string s, .int .i64 ((a' : Nat)), .int .i64 ((nextW s (a') : Nat)), .int .i64 code'] 124) ∧ s1 = rowl pnCells w.heap.size 48 4 (.slice B' (o').length bc') (o') ∧ G = [] ∧ POK s (rd s.size (fuelOf s) 0 none (tks s 0)) ([]) 0 x b o' a' code') (e_call (vs := [.pointer _, _]) Tryz.func55 rfl (by kernel_rfl) rfl) rfl rfl rfl (fun w fr1 hfr hM => ((rd_both _ s hs hL b4 (fuelOf s)).1 _ (Nat.le_refl _) 0 _ w _ _ _ [] fr1 _ (tks s 0) (by omega) rfl (by unfold fuelOf; omega) (RS.start s) (by have h9 := tks_len s _ 0 rfl; simp; omega) hM).mono fun _ _ ⟨x, b, B', bc', o', a', code', h1, h2, h3⟩ => ⟨_, _, _, [], h1, ⟨x, b, B', bc', o', a', code', rfl, rfl, rfl, rfl, h2⟩, h3⟩) rfl rfl rfl ?_
    rintro _ _ _ _ ⟨x16, b16, B16, bc16, o16, a16, code16, rfl, rfl, rfl, rfl, hp16⟩
    refine gops_fact (fun w hM => row_form (hM.ok _ (List.mem_of_getElem? (i := 3) rfl))) ?_
    rintro ⟨A16, c16, hv16, hc16, hm16, hn16⟩
    simp only [Value.slice.injEq] at hv16
    obtain ⟨rfl, -, rfl⟩ := hv16
    refine gop (y_move (v := .tuple #[.int _ _, .bool _]) rfl) rfl rfl rfl ?_
    refine gop (y_extract (v := .int _ _) rfl rfl) rfl rfl rfl ?_
    refine gop (y_extract (v := .bool _) rfl rfl) rfl rfl rfl ?_
    refine gop (y_assign (v := .int _ _) rfl) rfl rfl rfl ?_
    refine gop (y_assign (v := .bool _) rfl) rfl rfl rfl ?_
    refine gops_nil ?_
    refine hN7 _ _ ?_
    refine gT [box b2 _, box b3 _, box b4 _, rowl _ _ _ _ _ _] rfl ?_
    refine gfrom [(0, .string s), (2, .pointer _), (3, .pointer _), (4, .pointer _), (6, .bool _)] ⟨rfl, rfl, rfl, rfl, rfl, trivial⟩ fun σ => ?_
    refine gseq fun N8 hN8 => ?_
    refine gfrom [(0, .string s), (2, .pointer _), (3, .pointer _), (4, .pointer _), (6, .bool _)] ⟨rfl, rfl, rfl, rfl, rfl, trivial⟩ fun σ => ?_
    refine gcut3 (Lf := [(2, .pointer _), (3, .pointer _), (4, .pointer _)]) (G := Bool × Int × Nat) (fun (b, cd, ac) => (b = false ∧ parR s = (⟨cd, ac⟩, [])) ∨ (b = true ∧ ∃ t : Tr, t.ok ∧ t.size ≤ 1000 ∧ o16 = post t 0 ∧ parR s = madeR t)) (fun (b, cd, ac) => [(6, .bool b)]) (fun (b, cd, ac) => [(2, box b4 (.cells #[.slice B16 o16.length bc16, .string s, .int .i64 ((ac : Nat)), .int .i64 ((nextW s (ac) : Nat)), .int .i64 cd] 124))]) ⟨rfl, rfl, rfl, trivial⟩ ?_ ?_
    ·
      refine gseq fun N9 hN9 => ?_
      refine greg ?_
      refine gop (y_move (v := .bool _) rfl) rfl rfl rfl ?_
      refine gop (y_move (v := .bool _) rfl) rfl rfl rfl ?_
      refine gop_if (want := true) rfl rfl rfl rfl rfl rfl (fun hg20 => ?_) (fun hg20 => ?_)
      · 
        have hg20d := hg20
        have hb16 : b16 = true := by assumption
        obtain ⟨t, us, hR, hx, ho, hrt, -⟩ := pok_yes hp16 hb16
        obtain ⟨hto, hts⟩ := rd_ok s.size _ _ none _ _ _ (fun _ h => by cases h) hR
        have htl := tks_len s _ 0 rfl
        simp only [Option.map, Option.getD] at hts
        refine gop (y_bare (y_fieldAddr_box fa124_2 rfl)) rfl rfl rfl ?_
        refine gop_on rfl rfl rfl rfl hg20 ?_
        refine gop (y_bare (y_load Tryz.isAgg3 rfl (cell_box 2 rfl rfl))) rfl rfl rfl ?_
        refine gop_on rfl rfl rfl rfl hg20 ?_
        refine gop (y_bare (y_move (v := .string s) rfl)) rfl rfl rfl ?_
        refine gop_on rfl rfl rfl rfl hg20 ?_
        refine gop (y_bare (y_lens Tryz.underlying9 rfl)) rfl rfl rfl ?_
        refine gop_on rfl rfl rfl rfl hg20 ?_
        refine gop (y_bare (y_lss rfl rfl)) rfl rfl rfl ?_
        refine gop (y_pick_t (v := .bool _) rfl hg20 rfl) rfl rfl rfl ?_
        refine gops_nil ?_
        refine hN9 _ _ ?_
        refine gfrom [(2, .pointer _), (3, .pointer _), (4, .pointer _), (6, .bool _), (26, .bool _)] ⟨rfl, rfl, rfl, rfl, rfl, trivial⟩ fun σ => ?_
        refine gcond (b := _) rfl (fun hc26 => ?_) (fun hc26 => ?_)
        · 
          replace hc26 := of_decide_eq_true hc26
          have hus : us ≠ [] := fun h => hrt.nil.1 h (by omega)
          have hP : parR s = (⟨1, a16⟩, []) := by
            rw [parR, if_neg (by omega), hR]
            show (if us = [] then madeR t else (⟨1, pos s.size us⟩, [])) = _
            rw [if_neg hus, hrt.pos]
          refine greg ?_
          refine gop_does1 2 (fun v r G => v = .tuple #[.int .i64 0, .bool false] ∧ r = box b4 (.cells #[.slice B16 o16.length bc16, .string s, .int .i64 ((a16 : Nat)), .int .i64 ((nextW s (a16) : Nat)), .int .i64 1] 124) ∧ G = []) (e_call (vs := [.pointer _, _]) Tryz.func56 rfl (by kernel_rfl) rfl) rfl (fun w fr1 hfr hM => (rdFail_any _ w b4 _ _ _ s _ _ _ fr1 1 hM).mono fun _ _ ⟨h1, h2⟩ => ⟨_, _, [], h1, ⟨rfl, rfl, rfl⟩, h2⟩) rfl rfl rfl ?_
          rintro _ _ _ ⟨rfl, rfl, rfl⟩
          refine gop (y_move (v := .tuple #[.int _ _, .bool _]) rfl) rfl rfl rfl ?_
          refine gop (y_extract (v := .int _ _) rfl rfl) rfl rfl rfl ?_
          refine gop (y_extract (v := .bool _) rfl rfl) rfl rfl rfl ?_
          refine gop (y_assign (v := .bool _) rfl) rfl rfl rfl ?_
          refine gops_nil ?_
          refine gcut3_end ((false, 1, a16)) (.inl ⟨rfl, hP⟩) ⟨rfl, trivial⟩ ⟨rfl, rfl, rfl, trivial⟩ ⟨_, rfl⟩
        · 
          replace hc26 := of_decide_eq_false hc26
          first
          | (have hP : parR s = madeR t := by
               rw [parR, if_neg (by omega), hR]
               show (if us = [] then madeR t else (⟨1, pos s.size us⟩, [])) = _
               rw [if_pos (hrt.nil.2 (by omega))])
          | skip
          refine gskip ?_
          refine gcut3_end ((b16, code16, a16)) (.inr ⟨hb16, t, hto, by omega, ho, hP⟩) ⟨rfl, trivial⟩ ⟨rfl, rfl, rfl, trivial⟩ ⟨_, rfl⟩
      · 
        have hg20d := hg20
        have hb16 : b16 = false := by assumption
        obtain ⟨hR, -⟩ := pok_no hp16 hb16
        have hP : parR s = (⟨code16, a16⟩, []) := by rw [parR, if_neg (by omega), hR]
        refine gop_off rfl rfl rfl rfl hg20 rfl rfl ?_
        refine gop_off rfl rfl rfl rfl hg20 rfl rfl ?_
        refine gop_off rfl rfl rfl rfl hg20 rfl rfl ?_
        refine gop_off rfl rfl rfl rfl hg20 rfl rfl ?_
        refine gop (y_pick_f (v := .bool _) rfl hg20 rfl) rfl rfl rfl ?_
        refine gops_nil ?_
        refine hN9 _ _ ?_
        refine gfrom [(2, .pointer _), (3, .pointer _), (4, .pointer _), (6, .bool _), (26, .bool _)] ⟨rfl, rfl, rfl, rfl, rfl, trivial⟩ fun σ => ?_
        refine gcond (b := _) rfl (fun hc26 => ?_) (fun hc26 => ?_)
        · 
          cases hc26
        · 
          first
          | (have hP : parR s = madeR t := by
               rw [parR, if_neg (by omega), hR]
               show (if us = [] then madeR t else (⟨1, pos s.size us⟩, [])) = _
               rw [if_pos (hrt.nil.2 (by omega))])
          | skip
          refine gskip ?_
          refine gcut3_end ((b16, code16, a16)) (.inl ⟨hb16, hP⟩) ⟨rfl, trivial⟩ ⟨rfl, rfl, rfl, trivial⟩ ⟨_, rfl⟩
    ·
      rintro ⟨b, cd, ac⟩ hcut σ
      refine hN8 _ _ ?_
      refine gseq fun N10 hN10 => ?_
      refine gseq fun N11 hN11 => ?_
      refine greg ?_
      refine gop (y_move (v := .bool _) rfl) rfl rfl rfl ?_
      refine gop (y_not rfl) rfl rfl rfl ?_
      refine gops_nil ?_
      refine hN11 _ _ ?_
      refine gT [box b2 _, box b3 _, box b4 _, rowl _ _ _ _ _ _] rfl ?_
      refine gfrom [(2, .pointer _), (3, .pointer _), (4, .pointer _), (32, .bool _)] ⟨rfl, rfl, rfl, rfl, trivial⟩ fun σ => ?_
      refine gcond (b := _) rfl (fun hc32 => ?_) (fun hc32 => ?_)
      · 
        replace hc32 := not_t hc32
        have hb : b = false := by simpa using hc32
        have hP : parR s = (⟨cd, ac⟩, []) := by
          rcases hcut with h9 | h9
          · exact h9.2
          · rw [hb] at h9; exact absurd h9.1 (by decide)
        refine gseq fun N12 hN12 => ?_
        refine greg_e1 [] [(0, room b2 43 1), (1, room b3 33 2)] (by kernel_rfl) ?_
        refine ge_take 0 (TK := [room b2 43 1, room b3 33 2, box b4 _, rowl _ _ _ _ _ _]) rfl (by kernel_rfl) (by kernel_rfl) (by kernel_rfl) #[false, true, true, true, true, true, false, false] (by kernel_rfl) rfl (y_build (vs := []) (cells := #[.slice none 0 0]) rfl bd43_) rfl rfl rfl (weak_trans (weak_room 0 rfl rfl) (weak_room 1 rfl rfl)) (listed' := #[true, false, false, false, false, false, false, false]) rfl ?_
        refine ge_take 1 (TK := [room b2 43 1, room b3 33 2, box b4 _, rowl _ _ _ _ _ _]) rfl (by kernel_rfl) (by kernel_rfl) (by kernel_rfl) #[true, false, false, true, true, false, true, false] (by kernel_rfl) rfl (y_fieldAddr_box fa124_4 rfl) rfl rfl rfl (weak_trans (weak_room 0 rfl rfl) (weak_room 1 rfl rfl)) (listed' := #[true, true, false, false, false, false, false, false]) rfl ?_
        refine ge_take 2 (TK := [room b2 43 1, room b3 33 2, box b4 _, rowl _ _ _ _ _ _]) rfl (by kernel_rfl) (by kernel_rfl) (by kernel_rfl) #[true, true, false, true, true, false, true, false] (by kernel_rfl) rfl (y_load Tryz.isAgg3 rfl (cell_box 2 rfl rfl)) rfl rfl rfl (weak_trans (weak_room 0 rfl rfl) (weak_room 1 rfl rfl)) (listed' := #[true, true, true, false, false, false, false, false]) rfl ?_
        refine ge_take 3 (TK := [room b2 43 1, room b3 33 2, box b4 _, rowl _ _ _ _ _ _]) rfl (by kernel_rfl) (by kernel_rfl) (by kernel_rfl) #[true, true, true, false, false, false, true, false] (by kernel_rfl) rfl (y_fieldAddr_box fa124_2 rfl) rfl rfl rfl (weak_trans (weak_room 0 rfl rfl) (weak_room 1 rfl rfl)) (listed' := #[true, true, true, true, false, false, false, false]) rfl ?_
        refine ge_take 4 (TK := [room b2 43 1, room b3 33 2, box b4 _, rowl _ _ _ _ _ _]) rfl (by kernel_rfl) (by kernel_rfl) (by kernel_rfl) #[true, true, true, true, false, false, true, false] (by kernel_rfl) rfl (y_load Tryz.isAgg3 rfl (cell_box 2 rfl rfl)) rfl rfl rfl (weak_trans (weak_room 0 rfl rfl) (weak_room 1 rfl rfl)) (listed' := #[true, true, true, true, true, false, false, false]) rfl ?_
        refine ge_take 5 (TK := [room b2 43 1, room b3 33 2, box b4 _, rowl _ _ _ _ _ _]) rfl (by kernel_rfl) (by kernel_rfl) (by kernel_rfl) #[true, true, true, true, true, false, true, false] (by kernel_rfl) rfl (y_build (vs := [(0, .int _ _), (1, .int _ _)]) (cells := #[_, _]) rfl (bd33_0_1 _ _)) rfl rfl rfl (weak_trans (weak_room 0 rfl rfl) (weak_room 1 rfl rfl)) (listed' := #[true, true, true, true, true, true, false, false]) rfl ?_
        refine ge_one 6 (k' := 0) (listed' := #[true, true, true, true, true, true, true, false]) (by kernel_rfl) rfl rfl rfl ?_
        refine gop_store 0 (v := .agg #[_]) (cs' := #[_]) rfl rfl Tryz.sizeOf43 rfl rfl rfl rfl (Nat.le_of_ble_eq_true rfl) rfl rfl ?_
        refine gops_nil ?_
        refine ge_fin (TK := [room b2 43 1, room b3 33 2, box b4 _, rowl _ _ _ _ _ _]) rfl (weak_trans (weak_room 0 rfl rfl) (weak_room 1 rfl rfl)) ?_
        refine ge_one 7 (k' := 0) (listed' := #[true, true, true, true, true, true, true, true]) (by kernel_rfl) rfl rfl rfl ?_
        refine gop_store 1 (v := .agg #[_, _]) (cs' := #[_, _]) rfl rfl Tryz.sizeOf33 rfl rfl rfl rfl (Nat.le_of_ble_eq_true rfl) rfl rfl ?_
        refine gops_nil ?_
        refine ge_fin (TK := [room b2 43 1, room b3 33 2, box b4 _, rowl _ _ _ _ _ _]) rfl (weak_trans (weak_room 0 rfl rfl) (weak_room 1 rfl rfl)) ?_
        refine ge_done (by kernel_rfl) ?_
        refine hN12 _ _ ?_
        refine gT [box b2 _, box b3 _, box b4 _, rowl _ _ _ _ _ _] rfl ?_
        refine gfrom [(2, .pointer _), (3, .pointer _)] ⟨rfl, rfl, trivial⟩ fun σ => ?_
        refine gret fun w1 hM => ?_
        refine ⟨_, res2 rfl (rc 0 (cs := [_]) hM rfl rfl Tryz.isAgg43 Tryz.sizeOf43 rfl) (rc 1 (cs := [_, _]) hM rfl rfl Tryz.isAgg33 Tryz.sizeOf33 rfl), ?_⟩
        rw [hP]
        exact ⟨_, rfl, hM.low, newL_nil⟩
      · 
        replace hc32 := not_f hc32
        have hb : b = true := by simpa using hc32
        obtain ⟨t, hto, hts, rfl, hP⟩ : ∃ t : Tr, t.ok ∧ t.size ≤ 1000 ∧ o16 = post t 0 ∧ parR s = madeR t := by
          rcases hcut with h9 | h9
          · rw [hb] at h9; exact absurd h9.1 (by decide)
          · exact h9.2
        refine gskip ?_
        refine hN10 _ _ ?_
        refine gfrom [(2, .pointer _), (3, .pointer _), (4, .pointer _)] ⟨rfl, rfl, rfl, trivial⟩ fun σ => ?_
        refine gseq fun N13 hN13 => ?_
        refine greg ?_
        refine gop (y_fieldAddr_box fa124_0 rfl) rfl rfl rfl ?_
        refine gop_pure (e_call (vs := [.pointer _]) Tryz.func57 rfl (by kernel_rfl) rfl) (fun w hM => polMade1_any w b4 _ _ t hto (by omega) (cell_box 2 (off := 0) rfl rfl w hM) ((row_rdl (f := pnCells) (fun _ => rfl) (hM.ok _ (List.mem_of_getElem? (i := 3) rfl))).mono (Nat.zero_le _)) hc16 hm16) rfl rfl rfl ?_
        refine gop (y_extract (v := .agg #[_]) rfl rfl) rfl rfl rfl ?_
        refine gop (y_extract (v := .agg #[_, _]) rfl rfl) rfl rfl rfl ?_
        refine gop_store 0 (v := .agg #[_]) (cs' := #[_]) rfl rfl Tryz.sizeOf43 rfl rfl rfl rfl (Nat.le_of_ble_eq_true rfl) rfl rfl ?_
        refine gop_store 1 (v := .agg #[_, _]) (cs' := #[_, _]) rfl rfl Tryz.sizeOf33 rfl rfl rfl rfl (Nat.le_of_ble_eq_true rfl) rfl rfl ?_
        refine gops_nil ?_
        refine hN13 _ _ ?_
        refine gT [box b2 _, box b3 _, box b4 _, rowl _ _ _ _ _ _] rfl ?_
        refine gfrom [(2, .pointer _), (3, .pointer _)] ⟨rfl, rfl, trivial⟩ fun σ => ?_
        refine gret fun w1 hM => ?_
        refine ⟨_, res2 rfl (rc 0 (cs := [_]) hM rfl rfl Tryz.isAgg43 Tryz.sizeOf43 rfl) (rc 1 (cs := [_, _]) hM rfl rfl Tryz.isAgg33 Tryz.sizeOf33 rfl), ?_⟩
        rw [hP]
        by_cases hB : 24 < t.size ∨ 12 < t.depth
        · have hm : (madeR t).2 = [] := by rw [madeR, if_pos hB]
          refine ⟨_, rfl, hM.low, ?_⟩
          rw [hm]
          simp only [if_pos hB]
          exact newL_nil
        · have hm : (madeR t).2 = post t 0 := by rw [madeR, if_neg hB]
          refine ⟨_, rfl, hM.low, ?_⟩
          rw [hm]
          simp only [if_neg hB]
          exact hM.newL 3 rfl (fun _ => rfl)
end Go.Proofs.YtbkameioedmlkaaGreatDoor
