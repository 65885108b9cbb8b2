/- walks, printed by program -/
import Derived.Test.YtbaojdiccikbiaaThrB
namespace Go.Proofs.Ytbaojdiccikbiaa
open Go.RowKit Go.Cf
set_option maxRecDepth 10000

theorem bd82_0 (x1 : Option Addr) (x1l x1c : Nat) : Try.prog.built 82 [(0, .slice x1 x1l x1c)] = some #[.slice x1 x1l x1c, .slice none 0 0] := by kernel_rfl

set_option maxHeartbeats 4000000 in
theorem run_any (w : World) (B : Option Addr) (d : Nat) (text : List ByteArray) (ht : Rdl w 0 1 strCells B text) (htb : SB B text.length d 16) (E : Option Addr) (ec : Nat) (es : List EvC) (he : EvsR w 0 E es) (hem : es.length ≤ maxLen) :
    Calls Try.prog 24 #[.slice B text.length d, .slice E es.length ec] w fun e w' => ∃ v1 v2, e = .returned (.tuple #[v1, v2, fv (runV text (evs es)).1]) ∧ Below w.heap.size w w' ∧ NewL 5 thrCells (runV text (evs es)).2.1 w.heap.size w' v1 ∧ NewL 1 strCells (runV text (evs es)).2.2 w.heap.size w' v2 := by
  have hmx : maxLen = 9223372036854775807 := rfl
  have htc := htb.len
  have htm := htb.max
  refine gcalls Try.func24 rfl Try.ntmps24 (Nat.le_of_ble_eq_true rfl) ?_
  refine gfrom [(0, .slice _ _ _), (1, .slice _ _ _)] ⟨rfl, rfl, trivial⟩ fun σ => ?_
  refine gseq fun N1 hN1 => ?_
  refine greg ?_
  refine gop (y_assign (v := .slice _ _ _) rfl) rfl rfl rfl ?_
  refine gop (y_assign (v := .slice _ _ _) rfl) rfl rfl rfl ?_
  refine gop_alloc (cs := #[.int .i64 0, .int .i64 0]) Try.zeroValue27 rfl rfl (fun b6 hb6 => ?_)
  refine gops_nil ?_
  refine hN1 _ _ ?_
  refine gT [box b6 _] rfl ?_
  refine gfrom [(0, .slice _ _ _), (1, .slice _ _ _), (6, .pointer _)] ⟨rfl, rfl, rfl, trivial⟩ fun σ => ?_
  refine gseq fun N2 hN2 => ?_
  refine gseq fun N3 hN3 => ?_
  refine greg ?_
  refine gop (y_move (v := .slice _ _ _) rfl) rfl rfl rfl ?_
  refine gop_pure (e_call (vs := [.slice _ _ _, _]) Try.func38 rfl (by kernel_rfl) rfl) (fun w hM => linesSecond_any w _ _ _ (ht.base hM) (by omega) (-2)) rfl rfl rfl ?_
  refine gop_alloc (cs := #[.int .i64 0, .int .i64 0]) Try.zeroValue27 rfl rfl (fun b7 hb7 => ?_)
  refine gop_store 1 (v := .agg #[_, _]) (cs' := #[_, _]) rfl rfl Try.sizeOf27 rfl rfl rfl rfl (Nat.le_of_ble_eq_true rfl) rfl rfl ?_
  refine gops_nil ?_
  refine hN3 _ _ ?_
  refine gT [box b6 _, box b7 _] rfl ?_
  refine gfrom [(0, .slice _ _ _), (1, .slice _ _ _), (6, .pointer _), (7, .pointer _)] ⟨rfl, rfl, rfl, rfl, trivial⟩ fun σ => ?_
  refine gseq fun N4 hN4 => ?_
  refine greg ?_
  refine gop (y_loads (cs := [_, _]) Try.isAgg27 Try.sizeOf27 rfl rfl (cells_box 1 rfl)) rfl rfl rfl ?_
  refine gop (y_build (vs := []) (cells := #[.int .i64 0, .int .i64 0]) rfl bd27_) rfl rfl rfl ?_
  refine gop (y_bin (vx := .agg #[_, _]) (vy := .agg #[_, _]) rfl rfl (fun w => eg27 _ _ _ _ _ w) (fun w => ne27 _ _ _ _ w)) rfl rfl rfl ?_
  refine gops_nil ?_
  refine hN4 _ _ ?_
  refine gfrom [(0, .slice _ _ _), (1, .slice _ _ _), (6, .pointer _), (7, .pointer _), (16, .bool _)] ⟨rfl, rfl, rfl, rfl, rfl, trivial⟩ fun σ => ?_
  refine gcond (b := _) rfl (fun hc16 => ?_) (fun hc16 => ?_)
  · -- slot 16 t
    replace hc16 := fault_ne.1 hc16
    have hV : runV text (evs es) = (secondF (linesF text) (-2), ([], [])) := by rw [runV, if_pos hc16]
    refine gseq fun N5 hN5 => ?_
    refine greg_e1 [] [(0, room b6 27 2)] (by kernel_rfl) ?_
    refine ge_take 0 (TK := [room b6 27 2, box b7 _]) rfl (by kernel_rfl) (by kernel_rfl) (by kernel_rfl) #[false, true, true, false] (by kernel_rfl) rfl (y_loads (cs := [_, _]) Try.isAgg27 Try.sizeOf27 rfl rfl (cells_box 1 rfl)) rfl rfl rfl (weak_room 0 rfl rfl) (listed' := #[true, false, false, false]) rfl ?_
    refine ge_take 1 (TK := [room b6 27 2, box b7 _]) rfl (by kernel_rfl) (by kernel_rfl) (by kernel_rfl) #[true, false, false, false] (by kernel_rfl) rfl (y_assign (v := .slice _ _ _) rfl) rfl rfl rfl (weak_room 0 rfl rfl) (listed' := #[true, true, false, false]) rfl ?_
    refine ge_take 2 (TK := [room b6 27 2, box b7 _]) rfl (by kernel_rfl) (by kernel_rfl) (by kernel_rfl) #[true, true, false, false] (by kernel_rfl) rfl (y_assign (v := .slice _ _ _) rfl) rfl rfl rfl (weak_room 0 rfl rfl) (listed' := #[true, true, true, false]) rfl ?_
    refine ge_one 3 (k' := 0) (listed' := #[true, true, true, true]) (by kernel_rfl) rfl rfl rfl ?_
    refine gop_store 0 (v := .agg #[_, _]) (cs' := #[_, _]) rfl rfl Try.sizeOf27 rfl rfl rfl rfl (Nat.le_of_ble_eq_true rfl) rfl rfl ?_
    refine gops_nil ?_
    refine ge_fin (TK := [room b6 27 2, box b7 _]) rfl (weak_room 0 rfl rfl) ?_
    refine ge_done (by kernel_rfl) ?_
    refine hN5 _ _ ?_
    refine gT [box b6 _, box b7 _] rfl ?_
    refine gfrom [(4, .slice _ _ _), (5, .slice _ _ _), (6, .pointer _)] ⟨rfl, rfl, rfl, trivial⟩ fun σ => ?_
    refine gret fun w1 hM => ?_
    refine ⟨_, res3 rfl (rt (v := .slice _ _ _) rfl) (rt (v := .slice _ _ _) rfl) (rc 0 (cs := [_, _]) hM rfl rfl Try.isAgg27 Try.sizeOf27 rfl), ?_⟩
    exact ⟨_, _, by rw [hV], hM.low, by rw [hV]; exact newL_nil, by rw [hV]; exact newL_nil⟩
  · -- slot 16 f
    replace hc16 := fault_eq.1 hc16
    have htl := linesF_len (second_lines hc16)
    refine gskip ?_
    refine hN2 _ _ ?_
    refine gfrom [(0, .slice _ _ _), (1, .slice _ _ _), (6, .pointer _)] ⟨rfl, rfl, rfl, trivial⟩ fun σ => ?_
    refine gseq fun N6 hN6 => ?_
    refine gseq fun N7 hN7 => ?_
    refine greg ?_
    refine gop (y_move (v := .slice _ _ _) rfl) rfl rfl rfl ?_
    refine gop (y_len Try.underlying54 rfl) rfl rfl rfl ?_
    refine gop (y_gtr rfl rfl) rfl rfl rfl ?_
    refine gops_nil ?_
    refine hN7 _ _ ?_
    refine gfrom [(0, .slice _ _ _), (1, .slice _ _ _), (6, .pointer _), (20, .bool _)] ⟨rfl, rfl, rfl, rfl, trivial⟩ fun σ => ?_
    refine gcond (b := _) rfl (fun hc20 => ?_) (fun hc20 => ?_)
    · -- slot 20 t
      replace hc20 := of_decide_eq_true hc20
      have hV : runV text (evs es) = (⟨2, -1⟩, ([], [])) := by rw [runV, if_neg (by simp [hc16]), if_pos (by simp; omega)]
      refine gseq fun N8 hN8 => ?_
      refine greg ?_
      refine gop (y_build (vs := [(0, _), (1, _)]) (cells := #[_, _]) rfl (bd27_0_1 _ _)) rfl rfl rfl ?_
      refine gop (y_assign (v := .slice _ _ _) rfl) rfl rfl rfl ?_
      refine gop (y_assign (v := .slice _ _ _) rfl) rfl rfl rfl ?_
      refine gop_store 0 (v := .agg #[_, _]) (cs' := #[_, _]) rfl rfl Try.sizeOf27 rfl rfl rfl rfl (Nat.le_of_ble_eq_true rfl) rfl rfl ?_
      refine gops_nil ?_
      refine hN8 _ _ ?_
      refine gT [box b6 _, box b7 _] rfl ?_
      refine gfrom [(4, .slice _ _ _), (5, .slice _ _ _), (6, .pointer _)] ⟨rfl, rfl, rfl, trivial⟩ fun σ => ?_
      refine gret fun w1 hM => ?_
      refine ⟨_, res3 rfl (rt (v := .slice _ _ _) rfl) (rt (v := .slice _ _ _) rfl) (rc 0 (cs := [_, _]) hM rfl rfl Try.isAgg27 Try.sizeOf27 rfl), ?_⟩
      exact ⟨_, _, by rw [hV], hM.low, by rw [hV]; exact newL_nil, by rw [hV]; exact newL_nil⟩
    · -- slot 20 f
      replace hc20 := of_decide_eq_false hc20
      have hV0 : runV text (evs es) = runFrom 0 ([], text) (evs es) := by rw [runV, if_neg (by simp [hc16]), if_neg (by simp; omega)]
      refine gskip ?_
      refine hN6 _ _ ?_
      refine gfrom [(0, .slice _ _ _), (1, .slice _ _ _), (6, .pointer _)] ⟨rfl, rfl, rfl, trivial⟩ fun σ => ?_
      refine gseq fun N9 hN9 => ?_
      refine greg ?_
      refine gop (y_move (v := .slice _ _ _) rfl) rfl rfl rfl ?_
      refine gop_got (fun v T' => ∃ lo, w.heap.size ≤ lo ∧ T' = [rowl strCells lo 9 1 v text]) (e_call (vs := [.slice _ _ _]) Try.func41 rfl (by kernel_rfl) rfl) (fun w hM => (clone_any w _ _ _ (ht.base hM) (by omega) htb.nil).mono fun _ _ ⟨v, T1, h1, h2, h3⟩ => ⟨v, T1, h1, ⟨_, hM.low.size, h2⟩, h3⟩) rfl rfl rfl ?_
      rintro v23 _ ⟨lo23, hlo23, rfl⟩
      refine gops_fact (fun w hM => row_form (hM.ok _ (List.mem_of_getElem? (i := 2) rfl))) ?_
      rintro ⟨A23, c23, rfl, hc23, hm23, hn23⟩
      refine gop (y_build (vs := [(0, .slice A23 _ c23)]) (cells := #[_, .slice none 0 0]) rfl (bd82_0 _ _ _)) rfl rfl rfl ?_
      refine gop_alloc (cs := #[.slice none 0 0, .slice none 0 0]) Try.zeroValue82 rfl rfl (fun b8 hb8 => ?_)
      refine gop_store 3 (v := .agg #[_, _]) (cs' := #[_, _]) rfl rfl Try.sizeOf82 rfl rfl rfl rfl (Nat.le_of_ble_eq_true rfl) rfl rfl ?_
      refine gops_nil ?_
      refine hN9 _ _ ?_
      refine gT [box b6 _, box b7 _, rowl _ _ _ _ _ _, box b8 _] rfl ?_
      refine gfrom [(1, .slice _ _ _), (6, .pointer _), (8, .pointer _)] ⟨rfl, rfl, rfl, trivial⟩ fun σ => ?_
      refine gseq fun N10 hN10 => ?_
      refine gseq fun N11 hN11 => ?_
      refine greg ?_
      refine gop (y_move (v := .slice _ _ _) rfl) rfl rfl rfl ?_
      refine gop (y_len Try.underlying54 rfl) rfl rfl rfl ?_
      refine gop (y_move (v := .int _ _) rfl) rfl rfl rfl ?_
      refine gops_nil ?_
      refine hN11 _ _ ?_
      refine gfrom [(6, .pointer _), (8, .pointer _), (25, .slice _ _ _), (26, .int _ _), (27, .int _ _)] ⟨rfl, rfl, rfl, rfl, rfl, trivial⟩ fun σ => ?_
      refine gblock ?_
      refine gnilrow thrCells 60 5 ?_
      refine gfrom2 [(27, .int _ _)] [(6, .pointer _), (8, .pointer _), (25, .slice _ _ _), (26, .int _ _)] ⟨rfl, trivial⟩ ⟨rfl, rfl, rfl, rfl, trivial⟩ fun σ => ?_
      refine gloop2 (G := Nat × Nat × Nat × Option Addr × Option Addr × St × Reg) (fun (k, tc, hc, tA, hA, s, fr) => k ≤ es.length ∧ RI s k ∧ SB tA s.2.length tc 16 ∧ (∀ w1, fr.ok w1 → Rdl w1 w.heap.size 1 strCells tA s.2) ∧ runFrom k s ((evs es).drop k) = runFrom 0 ([], text) (evs es)) (fun (k, tc, hc, tA, hA, s, fr) => es.length - k) (fun (k, tc, hc, tA, hA, s, fr) => [(27, .int .i64 (k : Int))]) (fun (k, tc, hc, tA, hA, s, fr) => [(2, fr), (3, box b8 (.cells #[.slice tA (s.2).length tc, .slice hA (s.1).length hc] 82)), (4, rowl thrCells w.heap.size 60 5 (.slice hA s.1.length hc) (s.1))]) ((0, c23, 0, A23, none, ([], text), rowl strCells lo23 9 1 (.slice A23 text.length c23) text)) ?h0 ⟨rfl, trivial⟩ ⟨rfl, rfl, rfl, rfl, trivial⟩ rfl ?round
      case h0 => exact ⟨Nat.zero_le _, RI.start text htl, ⟨hc23, hm23, hn23, by show text.length * 16 ≤ _; unfold reachBytes; omega⟩, fun w1 ho => (row_rdl (f := strCells) (fun _ => rfl) ho).mono hlo23, rfl⟩
      case round =>
        rintro ⟨k, tc, hc, tA, hA, s, fr⟩ hφ σ
        obtain ⟨hk, hri, hsb, hfx, hrun⟩ := hφ
        refine gT [box b6 _, box b7 _, fr, box b8 _, rowl _ _ _ _ _ _] rfl ?_
        refine gseq fun N12 hN12 => ?_
        refine greg ?_
        refine gop (y_lss rfl rfl) rfl rfl rfl ?_
        refine gops_nil ?_
        refine hN12 _ _ ?_
        refine gfrom [(6, .pointer _), (8, .pointer _), (25, .slice _ _ _), (26, .int _ _), (27, .int _ _), (28, .bool _)] ⟨rfl, rfl, rfl, rfl, rfl, rfl, trivial⟩ fun σ => ?_
        refine gseq fun N13 hN13 => ?_
        refine gcond (b := _) rfl (fun hc28 => ?_) (fun hc28 => ?_)
        · -- slot 28 t
          replace hc28 := of_decide_eq_true hc28
          have hk1 : k < es.length := by omega
          have hk2 : k < (evs es).length := by simpa using hk1
          obtain ⟨ad, rfl, -, hcv⟩ := he.rd.at_ hk1
          have hx := he.each _ (List.getElem_mem hk1)
          have hD := runFrom_drop hk2 k s
          rw [List.getElem_map] at hD
          refine gskip ?_
          refine hN13 _ _ ?_
          refine gfrom [(6, .pointer _), (8, .pointer _), (25, .slice _ _ _), (26, .int _ _), (27, .int _ _)] ⟨rfl, rfl, rfl, rfl, rfl, trivial⟩ fun σ => ?_
          refine gseq fun N14 hN14 => ?_
          refine gblock ?_
          refine gseq fun N15 hN15 => ?_
          refine greg ?_
          refine gop (y_move (v := .int _ _) rfl) rfl rfl rfl ?_
          refine gop (y_indexAddr Try.underlying54 Try.sizeOf66 rfl rfl rfl (by omega) (by omega)) rfl rfl rfl ?_
          refine gop (y_loads (cs := [_, _, _, _, _, _]) Try.isAgg66 Try.sizeOf66 rfl rfl (cells_base hcv)) rfl rfl rfl ?_
          refine gop_alloc (cs := #[.int .i64 0, .int .i64 0, .int .i64 0, .int .i64 0, .string .empty, .slice none 0 0]) Try.zeroValue66 rfl rfl (fun b10 hb10 => ?_)
          refine gop (y_assign (v := .int _ _) rfl) rfl rfl rfl ?_
          refine gop_store 5 (v := .agg #[_, _, _, _, _, _]) (cs' := #[_, _, _, _, _, _]) rfl rfl Try.sizeOf66 rfl rfl rfl rfl (Nat.le_of_ble_eq_true rfl) rfl rfl ?_
          refine gops_nil ?_
          refine hN15 _ _ ?_
          refine gT [box b6 _, box b7 _, fr, box b8 _, rowl _ _ _ _ _ _, box b10 _] rfl ?_
          refine gfrom [(6, .pointer _), (8, .pointer _), (9, .int _ _), (10, .pointer _), (25, .slice _ _ _), (26, .int _ _), (27, .int _ _)] ⟨rfl, rfl, rfl, rfl, rfl, rfl, rfl, trivial⟩ fun σ => ?_
          refine gseq fun N16 hN16 => ?_
          refine greg ?_
          refine gop (y_loads (cs := [_, _, _, _, _, _]) Try.isAgg66 Try.sizeOf66 rfl rfl (cells_box 5 rfl)) rfl rfl rfl ?_
          refine gop_does2 3 4 (fun v r q G => ∃ tA' tc' hA' hc', v = .int .i64 (stepE s es[k].pl).1 ∧ r = box b8 (.cells #[.slice tA' ((stepE s es[k].pl).2.2).length tc', .slice hA' ((stepE s es[k].pl).2.1).length hc'] 82) ∧ q = rowl thrCells w.heap.size 60 5 (.slice hA' (stepE s es[k].pl).2.1.length hc') ((stepE s es[k].pl).2.1) ∧ SB tA' (stepE s es[k].pl).2.2.length tc' 16 ∧ ((tA' = tA ∧ (stepE s es[k].pl).2.2 = s.2) ∨ ∀ w1, (∀ r ∈ G, r.ok w1) → Rdl w1 w.heap.size 1 strCells tA' (stepE s es[k].pl).2.2)) (e_call (vs := [.pointer _, .agg #[_, _, _, _, _, _]]) Try.func42 rfl (by kernel_rfl) rfl) rfl rfl rfl (fun w fr1 hfr hM => (step_any _ w b8 tc hc tA hA s.2 s.1 fr1 hM (fun w1 h => hfx w1 (hfr 2 _ rfl (by decide) (by decide) w1 h)) hsb es[k] hx (hri.up (by omega))).mono fun _ _ ⟨tA', tc', hA', hc', G, h1, h2, h3, h4⟩ => ⟨_, _, _, G, h1, ⟨tA', tc', hA', hc', rfl, rfl, rfl, h2, h3⟩, h4⟩) rfl rfl rfl ?_
          rintro _ _ _ G ⟨tA2, tc2, hA2, hc2, rfl, rfl, rfl, hsb2, hdj⟩
          refine gops_mem _ (weak_all 5 2 rfl) ?_
          refine gop (y_assign (v := .int _ _) rfl) rfl rfl rfl ?_
          refine gops_nil ?_
          refine hN16 _ _ ?_
          refine gT [box b6 _, box b7 _, _, box b8 _, rowl _ _ _ _ _ _] rfl ?_
          refine gfrom [(6, .pointer _), (8, .pointer _), (9, .int _ _), (11, .int _ _), (25, .slice _ _ _), (26, .int _ _), (27, .int _ _)] ⟨rfl, rfl, rfl, rfl, rfl, rfl, rfl, trivial⟩ fun σ => ?_
          refine gseq fun N17 hN17 => ?_
          refine greg ?_
          refine gop (y_move (v := .int _ _) rfl) rfl rfl rfl ?_
          refine gop (y_neq rfl rfl) rfl rfl rfl ?_
          refine gops_nil ?_
          refine hN17 _ _ ?_
          refine gfrom [(6, .pointer _), (8, .pointer _), (9, .int _ _), (11, .int _ _), (25, .slice _ _ _), (26, .int _ _), (27, .int _ _), (35, .bool _)] ⟨rfl, rfl, rfl, rfl, rfl, rfl, rfl, rfl, trivial⟩ fun σ => ?_
          refine gcond (b := _) rfl (fun hc35 => ?_) (fun hc35 => ?_)
          · -- slot 35 t
            replace hc35 := of_decide_eq_true hc35
            have hV : runV text (evs es) = (⟨(stepE s es[k].pl).1, k⟩, ([], [])) := by rw [hV0, ← hrun, hD, if_pos hc35]
            refine gseq fun N18 hN18 => ?_
            refine greg ?_
            refine gop (y_move (v := .int _ _) rfl) rfl rfl rfl ?_
            refine gop (y_move (v := .int _ _) rfl) rfl rfl rfl ?_
            refine gop (y_build (vs := [(0, .int _ _), (1, .int _ _)]) (cells := #[_, _]) rfl (bd27_0_1 _ _)) rfl rfl rfl ?_
            refine gop (y_assign (v := .slice _ _ _) rfl) rfl rfl rfl ?_
            refine gop (y_assign (v := .slice _ _ _) rfl) rfl rfl rfl ?_
            refine gop_store 0 (v := .agg #[_, _]) (cs' := #[_, _]) rfl rfl Try.sizeOf27 rfl rfl rfl rfl (Nat.le_of_ble_eq_true rfl) rfl rfl ?_
            refine gops_nil ?_
            refine hN18 _ _ ?_
            refine gT [box b6 _, box b7 _, _, box b8 _, rowl _ _ _ _ _ _] rfl ?_
            refine gfrom [(4, .slice _ _ _), (5, .slice _ _ _), (6, .pointer _)] ⟨rfl, rfl, rfl, trivial⟩ fun σ => ?_
            refine gret fun w1 hM => ?_
            refine ⟨_, res3 rfl (rt (v := .slice _ _ _) rfl) (rt (v := .slice _ _ _) rfl) (rc 0 (cs := [_, _]) hM rfl rfl Try.isAgg27 Try.sizeOf27 rfl), ?_⟩
            exact ⟨_, _, by rw [hV], hM.low, by rw [hV]; exact newL_nil, by rw [hV]; exact newL_nil⟩
          · -- slot 35 f
            replace hc35 := Decidable.not_not.1 (of_decide_eq_false hc35)
            refine gskip ?_
            refine hN14 _ _ ?_
            refine gfrom [(6, .pointer _), (8, .pointer _), (25, .slice _ _ _), (26, .int _ _), (27, .int _ _)] ⟨rfl, rfl, rfl, rfl, rfl, trivial⟩ fun σ => ?_
            refine greg ?_
            refine gop (y_add rfl rfl ⟨by omega, by omega⟩) rfl rfl rfl ?_
            refine gop (y_move (v := .int _ _) rfl) rfl rfl rfl ?_
            refine gops_nil ?_
            refine gnext2 ((k + 1, tc2, hc2, tA2, hA2, (stepE s es[k].pl).2, both fr (all_ _))) (by show es.length - (k + 1) < es.length - k; omega) (⟨by show k + 1 ≤ _; omega, stepE_RI hri _ hc35, hsb2, ?hfx, by rw [← hrun, hD, if_neg (by simp [hc35])]⟩) ⟨rfl, trivial⟩ ⟨rfl, rfl, rfl, rfl, trivial⟩ ⟨_, rfl⟩
            case hfx =>
              intro w1 ho
              rcases hdj with ⟨e1, e2⟩ | h2
              · rw [e1, e2]; exact hfx w1 ho.1
              · exact h2 w1 fun r hr => (all_ok _ w1).1 ho.2 r (List.mem_cons_of_mem _ hr)
        · -- slot 28 f
          replace hc28 := of_decide_eq_false hc28
          have hV : runV text (evs es) = (⟨0, 0⟩, s) := by rw [hV0, ← hrun, List.drop_eq_nil_of_le (by simp; omega), runFrom]
          refine gexit ?_
          refine hN10 _ _ ?_
          refine gfrom [(6, .pointer _), (8, .pointer _)] ⟨rfl, rfl, trivial⟩ fun σ => ?_
          refine gseq fun N19 hN19 => ?_
          refine greg_e1 [] [(0, room b6 27 2)] (by kernel_rfl) ?_
          refine ge_take 0 (TK := [room b6 27 2, box b7 _, fr, box b8 _, rowl _ _ _ _ _ _]) rfl (by kernel_rfl) (by kernel_rfl) (by kernel_rfl) #[false, false, true, true, true, false, false, false] (by kernel_rfl) rfl (y_fieldAddr_box fa82_1 rfl) rfl rfl rfl (weak_room 0 rfl rfl) (listed' := #[true, false, false, false, false, false, false, false]) rfl ?_
          refine ge_take 1 (TK := [room b6 27 2, box b7 _, fr, box b8 _, rowl _ _ _ _ _ _]) rfl (by kernel_rfl) (by kernel_rfl) (by kernel_rfl) #[true, false, true, true, true, false, false, false] (by kernel_rfl) rfl (y_load Try.isAgg55 rfl (cell_box 3 rfl rfl)) rfl rfl rfl (weak_room 0 rfl rfl) (listed' := #[true, true, false, false, false, false, false, false]) rfl ?_
          refine ge_take 2 (TK := [room b6 27 2, box b7 _, fr, box b8 _, rowl _ _ _ _ _ _]) rfl (by kernel_rfl) (by kernel_rfl) (by kernel_rfl) #[true, true, false, false, true, true, false, false] (by kernel_rfl) rfl (y_fieldAddr_box fa82_0 rfl) rfl rfl rfl (weak_room 0 rfl rfl) (listed' := #[true, true, true, false, false, false, false, false]) rfl ?_
          refine ge_take 3 (TK := [room b6 27 2, box b7 _, fr, box b8 _, rowl _ _ _ _ _ _]) rfl (by kernel_rfl) (by kernel_rfl) (by kernel_rfl) #[true, true, true, false, true, true, false, false] (by kernel_rfl) rfl (y_load Try.isAgg41 rfl (cell_box 3 rfl rfl)) rfl rfl rfl (weak_room 0 rfl rfl) (listed' := #[true, true, true, true, false, false, false, false]) rfl ?_
          refine ge_take 4 (TK := [room b6 27 2, box b7 _, fr, box b8 _, rowl _ _ _ _ _ _]) rfl (by kernel_rfl) (by kernel_rfl) (by kernel_rfl) #[true, true, true, true, false, true, true, false] (by kernel_rfl) rfl (y_build (vs := []) (cells := #[.int .i64 0, .int .i64 0]) rfl bd27_) rfl rfl rfl (weak_room 0 rfl rfl) (listed' := #[true, true, true, true, true, false, false, false]) rfl ?_
          refine ge_take 5 (TK := [room b6 27 2, box b7 _, fr, box b8 _, rowl _ _ _ _ _ _]) rfl (by kernel_rfl) (by kernel_rfl) (by kernel_rfl) #[true, true, true, true, true, false, false, false] (by kernel_rfl) rfl (y_assign (v := .slice _ _ _) rfl) rfl rfl rfl (weak_room 0 rfl rfl) (listed' := #[true, true, true, true, true, true, false, false]) rfl ?_
          refine ge_take 6 (TK := [room b6 27 2, box b7 _, fr, box b8 _, rowl _ _ _ _ _ _]) rfl (by kernel_rfl) (by kernel_rfl) (by kernel_rfl) #[true, true, true, true, true, true, false, false] (by kernel_rfl) rfl (y_assign (v := .slice _ _ _) rfl) rfl rfl rfl (weak_room 0 rfl rfl) (listed' := #[true, true, true, true, true, true, true, false]) rfl ?_
          refine ge_one 7 (k' := 0) (listed' := #[true, true, true, true, true, true, true, true]) (by kernel_rfl) rfl rfl rfl ?_
          refine gop_store 0 (v := .agg #[_, _]) (cs' := #[_, _]) rfl rfl Try.sizeOf27 rfl rfl rfl rfl (Nat.le_of_ble_eq_true rfl) rfl rfl ?_
          refine gops_nil ?_
          refine ge_fin (TK := [room b6 27 2, box b7 _, fr, box b8 _, rowl _ _ _ _ _ _]) rfl (weak_room 0 rfl rfl) ?_
          refine ge_done (by kernel_rfl) ?_
          refine hN19 _ _ ?_
          refine gT [box b6 _, box b7 _, fr, box b8 _, rowl _ _ _ _ _ _] rfl ?_
          refine gfrom [(4, .slice _ _ _), (5, .slice _ _ _), (6, .pointer _)] ⟨rfl, rfl, rfl, trivial⟩ fun σ => ?_
          refine gret fun w1 hM => ?_
          refine ⟨_, res3 rfl (rt (v := .slice _ _ _) rfl) (rt (v := .slice _ _ _) rfl) (rc 0 (cs := [_, _]) hM rfl rfl Try.isAgg27 Try.sizeOf27 rfl), ?_⟩
          exact ⟨_, _, by rw [hV], hM.low, by rw [hV]; exact hM.newL 4 rfl (fun _ => rfl), by rw [hV]; exact ⟨tA, tc, rfl, hsb.len, hsb.max, hfx w1 (hM.ok _ (List.mem_of_getElem? (i := 2) rfl))⟩⟩
end Go.Proofs.Ytbaojdiccikbiaa
