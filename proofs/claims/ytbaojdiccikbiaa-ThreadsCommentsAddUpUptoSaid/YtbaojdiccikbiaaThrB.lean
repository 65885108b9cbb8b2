/- walks, printed by program -/
import Derived.Test.YtbaojdiccikbiaaThrA
namespace Go.Proofs.Ytbaojdiccikbiaa
open Go.RowKit Go.Cf
set_option maxRecDepth 10000

theorem fa82_0 (a : Addr) (w : World) : (Instr.fieldAt 82 (.pointer (some a)) 0).run Try.prog w = .ok (.pointer (some (a.add 0))) w := by kernel_rfl
theorem fa60_3 (a : Addr) (w : World) : (Instr.fieldAt 60 (.pointer (some a)) 3).run Try.prog w = .ok (.pointer (some (a.add 3))) w := by kernel_rfl
theorem fa60_1 (a : Addr) (w : World) : (Instr.fieldAt 60 (.pointer (some a)) 1).run Try.prog w = .ok (.pointer (some (a.add 1))) w := by kernel_rfl
theorem bd60_0_1_2 (x1 : Int) (x2 : Int) (x3 : Int) : Try.prog.built 60 [(0, .int .i64 x1), (1, .int .i64 x2), (2, .int .i64 x3)] = some #[.int .i64 x1, .int .i64 x2, .int .i64 x3, .bool false, .bool false] := by kernel_rfl
theorem el60 : Elem Try.prog 60 5 32 := elem_of (z := .agg #[.int .i64 0, .int .i64 0, .int .i64 0, .bool false, .bool false]) (by kernel_rfl) rfl (by decide)
theorem fa60_2 (a : Addr) (w : World) : (Instr.fieldAt 60 (.pointer (some a)) 2).run Try.prog w = .ok (.pointer (some (a.add 2))) w := by kernel_rfl
theorem fa60_4 (a : Addr) (w : World) : (Instr.fieldAt 60 (.pointer (some a)) 4).run Try.prog w = .ok (.pointer (some (a.add 4))) w := by kernel_rfl
theorem fa60_0 (a : Addr) (w : World) : (Instr.fieldAt 60 (.pointer (some a)) 0).run Try.prog w = .ok (.pointer (some (a.add 0))) w := by kernel_rfl

set_option maxHeartbeats 4000000 in
theorem patch_any (w0 w : World) (br tc hc : Nat) (tA hA : Option Addr) (text : List ByteArray) (l : List Thr) (fr : Reg) (hM0 : Mem w0 [box br (.cells #[.slice tA (text).length tc, .slice hA (l).length hc] 82), rowl thrCells w0.heap.size 60 5 (.slice hA l.length hc) (l), fr] w) (htx : ∀ w1, fr.ok w1 → Rdl w1 w0.heap.size 1 strCells tA text) (htb : SB tA text.length tc 16) (A : Option Addr) (c : Nat) (hs : List HunkC) (hp : PatR w0 0 A c hs) (hi : RI (l, text) 100) :
    Calls Try.prog 54 #[.pointer (some ⟨br, 0, none⟩), .agg #[.slice A hs.length c]] w fun e w' => ∃ tA' tc' hA' hc' G, e = .returned (.int .i64 (patchT (l, text) (pls hs)).1) ∧ SB tA' (patchT (l, text) (pls hs)).2.2.length tc' 16 ∧ ((tA' = tA ∧ (patchT (l, text) (pls hs)).2.2 = text) ∨ ∀ w1, (∀ r ∈ G, r.ok w1) → Rdl w1 w0.heap.size 1 strCells tA' (patchT (l, text) (pls hs)).2.2) ∧ Mem w0 (box br (.cells #[.slice tA' ((patchT (l, text) (pls hs)).2.2).length tc', .slice hA' ((patchT (l, text) (pls hs)).2.1).length hc'] 82) :: rowl thrCells w0.heap.size 60 5 (.slice hA' (patchT (l, text) (pls hs)).2.1.length hc') ((patchT (l, text) (pls hs)).2.1) :: fr :: G) w' := by
  have hi1 := hi.lo
  have hi2 := hi.hi
  have hi3 := hi.few
  simp only at hi1 hi2 hi3
  refine gcallsT Try.func54 rfl Try.ntmps54 (Nat.le_of_ble_eq_true rfl) hM0 ?_
  refine gfrom [(0, .pointer _), (1, .agg #[_])] ⟨rfl, rfl, trivial⟩ fun σ => ?_
  refine gseq fun N1 hN1 => ?_
  refine greg ?_
  refine gop_box (v := .agg #[_]) (cs := #[_]) rfl rfl rfl (fun b3 hb3 => ?_)
  refine gop (y_assign (v := .int _ _) rfl) rfl rfl rfl ?_
  refine gops_nil ?_
  refine hN1 _ _ ?_
  refine gT [box br _, rowl _ _ _ _ _ _, fr, box b3 _] rfl ?_
  refine gfrom [(0, .pointer _), (3, .pointer _)] ⟨rfl, rfl, trivial⟩ fun σ => ?_
  refine gseq fun N2 hN2 => ?_
  refine greg_e0 [11] (by kernel_rfl) ?_
  refine ge_take 0 (TK := [box br _, rowl _ _ _ _ _ _, fr, box b3 _]) rfl (by kernel_rfl) (by kernel_rfl) (by kernel_rfl) #[false, true, true, true, true, false, false, false, false, true, false, false] (by kernel_rfl) rfl (y_loads (cs := [_]) Try.isAgg25 Try.sizeOf25 rfl rfl (cells_box 3 rfl)) rfl rfl rfl (weak_refl) (listed' := #[true, false, false, false, false, false, false, false, false, false, false, false]) rfl ?_
  refine ge_take 1 (TK := [box br _, rowl _ _ _ _ _ _, fr, box b3 _]) rfl (by kernel_rfl) (by kernel_rfl) (by kernel_rfl) #[true, false, false, false, false, false, false, false, false, true, false, false] (by kernel_rfl) rfl (y_move (v := .pointer _) rfl) rfl rfl rfl (weak_refl) (listed' := #[true, true, false, false, false, false, false, false, false, false, false, false]) rfl ?_
  refine ge_take 2 (TK := [box br _, rowl _ _ _ _ _ _, fr, box b3 _]) rfl (by kernel_rfl) (by kernel_rfl) (by kernel_rfl) #[true, true, false, false, false, false, false, false, false, true, false, false] (by kernel_rfl) rfl (y_nilCheck rfl) rfl rfl rfl (weak_refl) (listed' := #[true, true, true, false, false, false, false, false, false, false, false, false]) rfl ?_
  refine ge_take 3 (TK := [box br _, rowl _ _ _ _ _ _, fr, box b3 _]) rfl (by kernel_rfl) (by kernel_rfl) (by kernel_rfl) #[true, true, true, false, false, false, false, false, false, true, false, false] (by kernel_rfl) rfl (y_fieldAddr_box fa82_0 rfl) rfl rfl rfl (weak_refl) (listed' := #[true, true, true, true, false, false, false, false, false, false, false, false]) rfl ?_
  refine ge_take 4 (TK := [box br _, rowl _ _ _ _ _ _, fr, box b3 _]) rfl (by kernel_rfl) (by kernel_rfl) (by kernel_rfl) #[true, true, true, true, false, false, false, false, false, true, false, false] (by kernel_rfl) rfl (y_load Try.isAgg41 rfl (cell_box 0 rfl rfl)) rfl rfl rfl (weak_refl) (listed' := #[true, true, true, true, true, false, false, false, false, false, false, false]) rfl ?_
  refine ge_two 5 9 (by kernel_rfl) ?_ ?_
  · -- op 5 first
    refine ge_op 5 (k' := 0) (listed' := #[true, true, true, true, true, true, false, false, false, false, false, false]) rfl rfl rfl ?_
    refine gop_got (fun v T' => ∃ lo v1, w0.heap.size ≤ lo ∧ v = .tuple #[v1, fv (applyF (pls hs) text)] ∧ T' = [rowl strCells lo 9 1 v1 (applyR (pls hs) text)]) (e_call (vs := [.agg #[_], .slice _ _ _]) Try.func23 rfl (by kernel_rfl) rfl) (fun w hM => (apply_any w _ _ hs (PatR.lasts.base hp hM) _ _ text ((htx w (hM.ok _ (List.mem_of_getElem? (i := 2) rfl))).mono (Nat.zero_le _)) htb).mono fun _ _ ⟨v, T1, h1, h2, h3⟩ => ⟨_, T1, h1, ⟨_, v, hM.low.size, rfl, h2⟩, h3⟩) rfl rfl rfl ?_
    rintro _ _ ⟨lo17, v17, hlo17, rfl, rfl⟩
    refine gops_fact (fun w hM => row_form (hM.ok _ (List.mem_of_getElem? (i := 4) rfl))) ?_
    rintro ⟨A17, c17, rfl, hc17, hm17, hn17⟩
    refine gops_nil ?_
    refine ge_fin (TK := [box br _, rowl _ _ _ _ _ _, fr, box b3 _]) rfl (weak_take (T' := [box br _, rowl _ _ _ _ _ _, fr, box b3 _]) rfl) ?_
    refine ge_take 6 (TK := [box br _, rowl _ _ _ _ _ _, fr, box b3 _]) rfl (by kernel_rfl) (by kernel_rfl) (by kernel_rfl) #[true, true, true, true, true, true, false, false, false, true, false, false] (by kernel_rfl) rfl (y_move (v := .tuple #[.slice A17 _ c17, .agg #[_, _]]) rfl) rfl rfl rfl (weak_take (T' := [box br _, rowl _ _ _ _ _ _, fr, box b3 _]) rfl) (listed' := #[true, true, true, true, true, true, true, false, false, false, false, false]) rfl ?_
    refine ge_take 7 (TK := [box br _, rowl _ _ _ _ _ _, fr, box b3 _]) rfl (by kernel_rfl) (by kernel_rfl) (by kernel_rfl) #[true, true, true, true, true, true, true, false, true, true, false, false] (by kernel_rfl) rfl (y_extract (v := .slice _ _ _) rfl rfl) rfl rfl rfl (weak_take (T' := [box br _, rowl _ _ _ _ _ _, fr, box b3 _]) rfl) (listed' := #[true, true, true, true, true, true, true, true, false, false, false, false]) rfl ?_
    refine ge_take 8 (TK := [box br _, rowl _ _ _ _ _ _, fr, box b3 _]) rfl (by kernel_rfl) (by kernel_rfl) (by kernel_rfl) #[true, true, true, true, true, true, true, true, false, true, true, false] (by kernel_rfl) rfl (y_extract (v := .agg #[_, _]) rfl rfl) rfl rfl rfl (weak_take (T' := [box br _, rowl _ _ _ _ _ _, fr, box b3 _]) rfl) (listed' := #[true, true, true, true, true, true, true, true, true, false, false, false]) rfl ?_
    refine ge_one 9 (k' := 0) (listed' := #[true, true, true, true, true, true, true, true, true, true, false, false]) (by kernel_rfl) rfl rfl rfl ?_
    refine gop_alloc (cs := #[.int .i64 0, .int .i64 0]) Try.zeroValue27 rfl rfl (fun b6 hb6 => ?_)
    refine gops_nil ?_
    refine ge_fin (TK := [box br _, rowl _ _ _ _ _ _, fr, box b3 _]) rfl (weak_take (T' := [box br _, rowl _ _ _ _ _ _, fr, box b3 _]) rfl) ?_
    refine ge_take 10 (TK := [box br _, rowl _ _ _ _ _ _, fr, box b3 _]) rfl (by kernel_rfl) (by kernel_rfl) (by kernel_rfl) #[true, true, true, true, true, true, true, true, true, true, false, false] (by kernel_rfl) rfl (y_assign (v := .slice _ _ _) rfl) rfl rfl rfl (weak_take (T' := [box br _, rowl _ _ _ _ _ _, fr, box b3 _]) rfl) (listed' := #[true, true, true, true, true, true, true, true, true, true, true, false]) rfl ?_
    refine ge_one 11 (k' := 1) (listed' := #[true, true, true, true, true, true, true, true, true, true, true, true]) (by kernel_rfl) rfl rfl rfl ?_
    refine gop_store 5 (v := .agg #[_, _]) (cs' := #[_, _]) rfl rfl Try.sizeOf27 rfl rfl rfl rfl (Nat.le_of_ble_eq_true rfl) rfl rfl ?_
    refine gops_nil ?_
    refine ge_fin (TK := []) rfl (weak_nil) ?_
    refine ge_done (by kernel_rfl) ?_
    refine hN2 _ _ ?_
    refine gT [box br _, rowl _ _ _ _ _ _, fr, box b3 _, rowl _ _ _ _ _ _, box b6 _] rfl ?_
    refine gfrom [(0, .pointer _), (3, .pointer _), (5, .slice _ _ _), (6, .pointer _)] ⟨rfl, rfl, rfl, rfl, trivial⟩ fun σ => ?_
    refine gseq fun N3 hN3 => ?_
    refine gseq fun N4 hN4 => ?_
    refine greg ?_
    refine gop (y_loads (cs := [_, _]) Try.isAgg27 Try.sizeOf27 rfl rfl (cells_box 5 rfl)) rfl rfl rfl ?_
    refine gop (y_build (vs := []) (cells := #[.int .i64 0, .int .i64 0]) rfl bd27_) rfl rfl rfl ?_
    refine gop (y_bin (vx := .agg #[_, _]) (vy := .agg #[_, _]) rfl rfl (fun w => eg27 _ _ _ _ _ w) (fun w => ne27 _ _ _ _ w)) rfl rfl rfl ?_
    refine gops_nil ?_
    refine hN4 _ _ ?_
    refine gfrom [(0, .pointer _), (3, .pointer _), (5, .slice _ _ _), (6, .pointer _), (22, .bool _)] ⟨rfl, rfl, rfl, rfl, rfl, trivial⟩ fun σ => ?_
    refine gcond (b := _) rfl (fun hc22 => ?_) (fun hc22 => ?_)
    · -- slot 22 t
      replace hc22 := fault_ne.1 hc22
      have hP : patchT (l, text) (pls hs) = ((applyF (pls hs) text).code, (l, text)) := by rw [patchT, if_pos hc22]
      refine gseq fun N5 hN5 => ?_
      refine greg ?_
      refine gop (y_fieldAddr_box fa27_0 rfl) rfl rfl rfl ?_
      refine gop (y_load Try.isAgg3 rfl (cell_box 5 rfl rfl)) rfl rfl rfl ?_
      refine gop (y_assign (v := .int _ _) rfl) rfl rfl rfl ?_
      refine gops_nil ?_
      refine hN5 _ _ ?_
      refine gfrom [(4, .int _ _)] ⟨rfl, trivial⟩ fun σ => ?_
      refine gret fun w1 hM => ?_
      refine ⟨_, res1 rfl (rt (v := .int _ _) rfl), ?_⟩
      rw [hP]
      exact ⟨tA, tc, hA, hc, _, rfl, htb, .inl ⟨rfl, rfl⟩, hM⟩
    · -- slot 22 f
      replace hc22 := fault_eq.1 hc22
      obtain ⟨_, happ, hAR⟩ := applyF_code (hs := pls hs) (text := text) (by rw [hc22])
      have hv := happ.pv
      have hP : patchT (l, text) (pls hs) = (0, (l.map (followT (pls hs)), applyR (pls hs) text)) := by rw [hAR, patchT, if_neg (by simp [hc22])]
      refine gskip ?_
      refine hN3 _ _ ?_
      refine gfrom [(0, .pointer _), (3, .pointer _), (5, .slice _ _ _)] ⟨rfl, rfl, rfl, trivial⟩ fun σ => ?_
      refine gseq fun N6 hN6 => ?_
      refine greg ?_
      refine gop (y_move (v := .pointer _) rfl) rfl rfl rfl ?_
      refine gop (y_move (v := .slice _ _ _) rfl) rfl rfl rfl ?_
      refine gop (y_nilCheck rfl) rfl rfl rfl ?_
      refine gop (y_fieldAddr_box fa82_0 rfl) rfl rfl rfl ?_
      refine gop_store 0 (v := .slice _ _ _) (cs' := #[_, _]) rfl rfl Try.sizeOf41 rfl rfl rfl rfl (Nat.le_of_ble_eq_true rfl) rfl rfl ?_
      refine gops_nil ?_
      refine hN6 _ _ ?_
      refine gT [box br _, rowl _ _ _ _ _ _, fr, box b3 _, rowl _ _ _ _ _ _, box b6 _] rfl ?_
      refine gfrom [(0, .pointer _), (3, .pointer _)] ⟨rfl, rfl, trivial⟩ fun σ => ?_
      refine gseq fun N7 hN7 => ?_
      refine gseq fun N8 hN8 => ?_
      refine greg ?_
      refine gop (y_move (v := .pointer _) rfl) rfl rfl rfl ?_
      refine gop (y_nilCheck rfl) rfl rfl rfl ?_
      refine gop (y_fieldAddr_box fa82_1 rfl) rfl rfl rfl ?_
      refine gop (y_load Try.isAgg55 rfl (cell_box 0 rfl rfl)) rfl rfl rfl ?_
      refine gop (y_len Try.underlying55 rfl) rfl rfl rfl ?_
      refine gop (y_move (v := .int _ _) rfl) rfl rfl rfl ?_
      refine gops_nil ?_
      refine hN8 _ _ ?_
      refine gfrom [(0, .pointer _), (3, .pointer _), (33, .int _ _), (34, .int _ _)] ⟨rfl, rfl, rfl, rfl, trivial⟩ fun σ => ?_
      refine gblock ?_
      refine gfrom2 [(34, .int _ _)] [(0, .pointer _), (3, .pointer _), (33, .int _ _)] ⟨rfl, trivial⟩ ⟨rfl, rfl, rfl, trivial⟩ fun σ => ?_
      refine gloop2 (G := Nat) (fun k => k ≤ l.length) (fun k => l.length - k) (fun k => [(34, .int .i64 (k : Int))]) (fun k => [(1, rowl thrCells w0.heap.size 60 5 (.slice hA l.length hc) (flK (pls hs) l k))]) (0) ?h0 ⟨rfl, trivial⟩ ⟨rfl, rfl, rfl, trivial⟩ rfl ?round
      case h0 => exact Nat.zero_le _
      case round =>
        intro k hφ σ
        have hk : k ≤ l.length := hφ
        refine gT [box br _, rowl _ _ _ _ _ _, fr, box b3 _, rowl _ _ _ _ _ _, box b6 _] rfl ?_
        refine gseq fun N9 hN9 => ?_
        refine greg ?_
        refine gop (y_lss rfl rfl) rfl rfl rfl ?_
        refine gops_nil ?_
        refine hN9 _ _ ?_
        refine gfrom [(0, .pointer _), (3, .pointer _), (33, .int _ _), (34, .int _ _), (35, .bool _)] ⟨rfl, rfl, rfl, rfl, rfl, trivial⟩ fun σ => ?_
        refine gseq fun N10 hN10 => ?_
        refine gcond (b := _) rfl (fun hc35 => ?_) (fun hc35 => ?_)
        · -- slot 35 t
          replace hc35 := of_decide_eq_true hc35
          have hk1 : k < l.length := by omega
          refine g_fact (fun w hM => own_some (hM.own 1 rfl) (by rw [flK_len _ _ hk]; omega)) ?_
          rintro ⟨rg, cg, hvg, -, -⟩
          simp only [Value.slice.injEq] at hvg
          obtain ⟨rfl, -, rfl⟩ := hvg
          have hl1 := hi1 _ (List.getElem_mem hk1)
          have hl2 := hi2 _ (List.getElem_mem hk1)
          refine gskip ?_
          refine hN10 _ _ ?_
          refine gfrom [(0, .pointer _), (3, .pointer _), (33, .int _ _), (34, .int _ _)] ⟨rfl, rfl, rfl, rfl, trivial⟩ fun σ => ?_
          refine gseq fun N11 hN11 => ?_
          refine gblock ?_
          refine gseq fun N12 hN12 => ?_
          refine greg ?_
          refine gop (y_move (v := .int _ _) rfl) rfl rfl rfl ?_
          refine gop (y_assign (v := .int _ _) rfl) rfl rfl rfl ?_
          refine gops_nil ?_
          refine hN12 _ _ ?_
          refine gfrom [(0, .pointer _), (3, .pointer _), (7, .int _ _), (33, .int _ _), (34, .int _ _)] ⟨rfl, rfl, rfl, rfl, rfl, trivial⟩ fun σ => ?_
          refine gseq fun N13 hN13 => ?_
          refine greg ?_
          refine gop (y_move (v := .pointer _) rfl) rfl rfl rfl ?_
          refine gop (y_nilCheck rfl) rfl rfl rfl ?_
          refine gop (y_fieldAddr_box fa82_1 rfl) rfl rfl rfl ?_
          refine gop (y_load Try.isAgg55 rfl (cell_box 0 rfl rfl)) rfl rfl rfl ?_
          refine gop (y_move (v := .int _ _) rfl) rfl rfl rfl ?_
          refine gop (y_indexAddr (m := k) Try.underlying55 Try.sizeOf60 rfl rfl (by omega) (by omega) (by omega)) rfl rfl rfl ?_
          refine gop (y_assign (v := .pointer _) rfl) rfl rfl rfl ?_
          refine gops_nil ?_
          refine hN13 _ _ ?_
          refine gfrom [(0, .pointer _), (3, .pointer _), (8, .pointer _), (33, .int _ _), (34, .int _ _)] ⟨rfl, rfl, rfl, rfl, rfl, trivial⟩ fun σ => ?_
          refine gseq fun N14 hN14 => ?_
          refine gseq fun N15 hN15 => ?_
          refine greg ?_
          refine gop (y_move (v := .pointer _) rfl) rfl rfl rfl ?_
          refine gop (y_nilCheck rfl) rfl rfl rfl ?_
          refine gop (y_fieldAddr_add fa60_3 rfl) rfl rfl rfl ?_
          refine gop (y_load Try.isAgg4 rfl (cells_rowl 1 (f := thrCells) (l := flK (pls hs) l k) rfl (flK_len _ _ hk).symm (fun _ => rfl) (flK_at hk1) 3 _ rfl)) rfl rfl rfl ?_
          refine gops_nil ?_
          refine hN15 _ _ ?_
          refine gfrom [(0, .pointer _), (3, .pointer _), (8, .pointer _), (33, .int _ _), (34, .int _ _), (46, .bool _)] ⟨rfl, rfl, rfl, rfl, rfl, rfl, trivial⟩ fun σ => ?_
          refine gcond (b := _) rfl (fun hc46 => ?_) (fun hc46 => ?_)
          · -- slot 46 t
            have hft : followT (pls hs) l[k] = l[k] := followT_out hc46
            refine gexit ?_
            refine hN11 _ _ ?_
            refine gfrom [(0, .pointer _), (3, .pointer _), (33, .int _ _), (34, .int _ _)] ⟨rfl, rfl, rfl, rfl, trivial⟩ fun σ => ?_
            refine greg ?_
            refine gop (y_add rfl rfl ⟨by omega, by omega⟩) rfl rfl rfl ?_
            refine gop (y_move (v := .int _ _) rfl) rfl rfl rfl ?_
            refine gops_nil ?_
            rw [flK_same hk1 hft]
            refine gnext2 (k + 1) (by omega) (show k + 1 ≤ _ by omega) ⟨rfl, trivial⟩ ⟨rfl, rfl, rfl, trivial⟩ ⟨_, rfl⟩
          · -- slot 46 f
            refine gskip ?_
            refine hN14 _ _ ?_
            refine gfrom [(0, .pointer _), (3, .pointer _), (8, .pointer _), (33, .int _ _), (34, .int _ _)] ⟨rfl, rfl, rfl, rfl, rfl, trivial⟩ fun σ => ?_
            refine gseq fun N16 hN16 => ?_
            refine greg_q (by kernel_rfl) (by kernel_rfl) ?_
            refine gq (y_loads (cs := [_]) Try.isAgg25 Try.sizeOf25 rfl rfl (cells_box 3 rfl)) rfl rfl rfl ?_
            refine gq (y_move (v := .pointer _) rfl) rfl rfl rfl ?_
            refine gq (y_nilCheck rfl) rfl rfl rfl ?_
            refine gq (y_fieldAddr_add fa60_1 rfl) rfl rfl rfl ?_
            refine gq (y_load Try.isAgg3 rfl (cells_rowl 1 (f := thrCells) (l := flK (pls hs) l k) rfl (flK_len _ _ hk).symm (fun _ => rfl) (flK_at hk1) 1 _ rfl)) rfl rfl rfl ?_
            refine gq_pure (e_call (vs := [.agg #[_], .int _ _]) Try.func34 rfl (by kernel_rfl) rfl) (fun w hM => place_any w _ _ hs (PatR.lasts.base hp hM) (by simpa using hv.len) hv.each l[k].line (by omega) (by omega)) rfl rfl rfl ?_
            refine gq (y_move (v := .tuple #[.int _ _, .bool _]) rfl) rfl rfl rfl ?_
            refine gq (y_extract (v := .int _ _) rfl rfl) rfl rfl rfl ?_
            refine gq (y_extract (v := .bool _) rfl rfl) rfl rfl rfl ?_
            refine gq (y_assign (v := .int _ _) rfl) rfl rfl rfl ?_
            refine gq (y_assign (v := .bool _) rfl) rfl rfl rfl ?_
            refine gqs_nil ?_
            refine hN16 _ _ ?_
            refine gfrom [(0, .pointer _), (3, .pointer _), (8, .pointer _), (9, .int _ _), (10, .bool _), (33, .int _ _), (34, .int _ _)] ⟨rfl, rfl, rfl, rfl, rfl, rfl, rfl, trivial⟩ fun σ => ?_
            refine gseq fun N17 hN17 => ?_
            refine greg ?_
            refine gop (y_move (v := .pointer _) rfl) rfl rfl rfl ?_
            refine gop (y_move (v := .bool _) rfl) rfl rfl rfl ?_
            refine gop (y_not rfl) rfl rfl rfl ?_
            refine gop (y_nilCheck rfl) rfl rfl rfl ?_
            refine gop (y_fieldAddr_add fa60_3 rfl) rfl rfl rfl ?_
            refine gop_store_row 1 (f := thrCells) (l := flK (pls hs) l k) (k := k) (o := 3) (v := .bool _) (a := l[k]) (a' := { l[k] with outdated := !(place (pls hs) l[k].line 0).2 }) (fun _ => rfl) rfl rfl rfl Try.sizeOf4 rfl rfl rfl rfl (flK_len _ _ hk).symm (flK_at hk1) (Nat.le_of_ble_eq_true rfl) rfl rfl ?_
            refine gops_nil ?_
            refine hN17 _ _ ?_
            refine gT [box br _, rowl _ _ _ _ _ _, fr, box b3 _, rowl _ _ _ _ _ _, box b6 _] rfl ?_
            refine gfrom [(0, .pointer _), (3, .pointer _), (8, .pointer _), (9, .int _ _), (10, .bool _), (33, .int _ _), (34, .int _ _)] ⟨rfl, rfl, rfl, rfl, rfl, rfl, rfl, trivial⟩ fun σ => ?_
            refine gseq fun N18 hN18 => ?_
            refine greg ?_
            refine gop (y_move (v := .bool _) rfl) rfl rfl rfl ?_
            refine gops_nil ?_
            refine hN18 _ _ ?_
            refine gfrom [(0, .pointer _), (3, .pointer _), (8, .pointer _), (9, .int _ _), (33, .int _ _), (34, .int _ _), (61, .bool _)] ⟨rfl, rfl, rfl, rfl, rfl, rfl, rfl, trivial⟩ fun σ => ?_
            refine gcond (b := _) rfl (fun hc61 => ?_) (fun hc61 => ?_)
            · -- slot 61 t
              have hft : ({ l[k] with line := (place (pls hs) l[k].line 0).1, outdated := !(place (pls hs) l[k].line 0).2 } : Thr) = followT (pls hs) l[k] := by rw [followT, if_neg (by simp [hc46]), if_pos hc61, hc61]; rfl
              refine greg ?_
              refine gop (y_move (v := .pointer _) rfl) rfl rfl rfl ?_
              refine gop (y_move (v := .int _ _) rfl) rfl rfl rfl ?_
              refine gop (y_nilCheck rfl) rfl rfl rfl ?_
              refine gop (y_fieldAddr_add fa60_1 rfl) rfl rfl rfl ?_
              refine gop_store_row 1 (f := thrCells) (l := (flK (pls hs) l k).set k { l[k] with outdated := !(place (pls hs) l[k].line 0).2 }) (k := k) (o := 1) (v := .int _ _) (a := { l[k] with outdated := !(place (pls hs) l[k].line 0).2 }) (a' := { l[k] with line := (place (pls hs) l[k].line 0).1, outdated := !(place (pls hs) l[k].line 0).2 }) (fun _ => rfl) rfl rfl rfl Try.sizeOf3 rfl rfl rfl rfl (by rw [List.length_set, flK_len _ _ hk]) (by rw [List.getElem?_set_self (by rw [flK_len _ _ hk]; exact hk1)]) (Nat.le_of_ble_eq_true rfl) rfl rfl ?_
              refine gops_nil ?_
              refine hN11 _ _ ?_
              refine gT [box br _, rowl _ _ _ _ _ _, fr, box b3 _, rowl _ _ _ _ _ _, box b6 _] rfl ?_
              refine gfrom [(0, .pointer _), (3, .pointer _), (33, .int _ _), (34, .int _ _)] ⟨rfl, rfl, rfl, rfl, trivial⟩ fun σ => ?_
              refine greg ?_
              refine gop (y_add rfl rfl ⟨by omega, by omega⟩) rfl rfl rfl ?_
              refine gop (y_move (v := .int _ _) rfl) rfl rfl rfl ?_
              refine gops_nil ?_
              rw [List.set_set, flK_set hk1 hft]
              refine gnext2 (k + 1) (by omega) (show k + 1 ≤ _ by omega) ⟨rfl, trivial⟩ ⟨rfl, rfl, rfl, trivial⟩ ⟨_, rfl⟩
            · -- slot 61 f
              have hft : ({ l[k] with outdated := !(place (pls hs) l[k].line 0).2 } : Thr) = followT (pls hs) l[k] := by rw [followT, if_neg (by simp [hc46]), if_neg (by simp [hc61]), hc61]; rfl
              refine gskip ?_
              refine hN11 _ _ ?_
              refine gfrom [(0, .pointer _), (3, .pointer _), (33, .int _ _), (34, .int _ _)] ⟨rfl, rfl, rfl, rfl, trivial⟩ fun σ => ?_
              refine greg ?_
              refine gop (y_add rfl rfl ⟨by omega, by omega⟩) rfl rfl rfl ?_
              refine gop (y_move (v := .int _ _) rfl) rfl rfl rfl ?_
              refine gops_nil ?_
              rw [flK_set hk1 hft]
              refine gnext2 (k + 1) (by omega) (show k + 1 ≤ _ by omega) ⟨rfl, trivial⟩ ⟨rfl, rfl, rfl, trivial⟩ ⟨_, rfl⟩
        · -- slot 35 f
          replace hc35 := of_decide_eq_false hc35
          rw [flK_all _ _ (by omega : l.length ≤ k)]
          refine gexit ?_
          refine hN7 _ _ ?_
          refine gfrom [] trivial fun σ => ?_
          refine gseq fun N19 hN19 => ?_
          refine greg ?_
          refine gop (y_assign (v := .int _ _) rfl) rfl rfl rfl ?_
          refine gops_nil ?_
          refine hN19 _ _ ?_
          refine gfrom [(4, .int _ _)] ⟨rfl, trivial⟩ fun σ => ?_
          refine gret fun w1 hM => ?_
          refine ⟨_, res1 rfl (rt (v := .int _ _) rfl), ?_⟩
          rw [hP]
          have e1 : l.length = (l.map (followT (pls hs))).length := by simp
          rw [e1] at hM
          exact ⟨A17, c17, hA, hc, _, rfl, ⟨hc17, hm17, hn17, by have := happ.len; rw [← hAR] at this; show (applyR (pls hs) text).length * 16 ≤ _; unfold reachBytes; omega⟩, .inr fun w1 h2 => (row_rdl (f := strCells) (fun _ => rfl) (h2 _ (List.mem_of_getElem? (i := 1) rfl))).mono hlo17, hM⟩
  · -- op 9 first
    refine ge_op 9 (k' := 0) (listed' := #[true, true, true, true, true, false, false, false, false, true, false, false]) rfl rfl rfl ?_
    refine gop_alloc (cs := #[.int .i64 0, .int .i64 0]) Try.zeroValue27 rfl rfl (fun b6 hb6 => ?_)
    refine gops_nil ?_
    refine ge_fin (TK := [box br _, rowl _ _ _ _ _ _, fr, box b3 _]) rfl (weak_take (T' := [box br _, rowl _ _ _ _ _ _, fr, box b3 _]) rfl) ?_
    refine ge_one 5 (k' := 0) (listed' := #[true, true, true, true, true, true, false, false, false, true, false, false]) (by kernel_rfl) rfl rfl rfl ?_
    refine gop_got (fun v T' => ∃ lo v1, w0.heap.size ≤ lo ∧ v = .tuple #[v1, fv (applyF (pls hs) text)] ∧ T' = [rowl strCells lo 9 1 v1 (applyR (pls hs) text)]) (e_call (vs := [.agg #[_], .slice _ _ _]) Try.func23 rfl (by kernel_rfl) rfl) (fun w hM => (apply_any w _ _ hs (PatR.lasts.base hp hM) _ _ text ((htx w (hM.ok _ (List.mem_of_getElem? (i := 2) rfl))).mono (Nat.zero_le _)) htb).mono fun _ _ ⟨v, T1, h1, h2, h3⟩ => ⟨_, T1, h1, ⟨_, v, hM.low.size, rfl, h2⟩, h3⟩) rfl rfl rfl ?_
    rintro _ _ ⟨lo17, v17, hlo17, rfl, rfl⟩
    refine gops_fact (fun w hM => row_form (hM.ok _ (List.mem_of_getElem? (i := 5) rfl))) ?_
    rintro ⟨A17, c17, rfl, hc17, hm17, hn17⟩
    refine gops_nil ?_
    refine ge_fin (TK := [box br _, rowl _ _ _ _ _ _, fr, box b3 _]) rfl (weak_take (T' := [box br _, rowl _ _ _ _ _ _, fr, box b3 _]) rfl) ?_
    refine ge_take 6 (TK := [box br _, rowl _ _ _ _ _ _, fr, box b3 _]) rfl (by kernel_rfl) (by kernel_rfl) (by kernel_rfl) #[true, true, true, true, true, true, false, false, false, true, false, false] (by kernel_rfl) rfl (y_move (v := .tuple #[.slice A17 _ c17, .agg #[_, _]]) rfl) rfl rfl rfl (weak_take (T' := [box br _, rowl _ _ _ _ _ _, fr, box b3 _]) rfl) (listed' := #[true, true, true, true, true, true, true, false, false, true, false, false]) rfl ?_
    refine ge_take 7 (TK := [box br _, rowl _ _ _ _ _ _, fr, box b3 _]) rfl (by kernel_rfl) (by kernel_rfl) (by kernel_rfl) #[true, true, true, true, true, true, true, false, true, true, false, false] (by kernel_rfl) rfl (y_extract (v := .slice _ _ _) rfl rfl) rfl rfl rfl (weak_take (T' := [box br _, rowl _ _ _ _ _ _, fr, box b3 _]) rfl) (listed' := #[true, true, true, true, true, true, true, true, false, true, false, false]) rfl ?_
    refine ge_take 8 (TK := [box br _, rowl _ _ _ _ _ _, fr, box b3 _]) rfl (by kernel_rfl) (by kernel_rfl) (by kernel_rfl) #[true, true, true, true, true, true, true, true, false, true, true, false] (by kernel_rfl) rfl (y_extract (v := .agg #[_, _]) rfl rfl) rfl rfl rfl (weak_take (T' := [box br _, rowl _ _ _ _ _ _, fr, box b3 _]) rfl) (listed' := #[true, true, true, true, true, true, true, true, true, true, false, false]) rfl ?_
    refine ge_take 10 (TK := [box br _, rowl _ _ _ _ _ _, fr, box b3 _]) rfl (by kernel_rfl) (by kernel_rfl) (by kernel_rfl) #[true, true, true, true, true, true, true, true, true, true, false, false] (by kernel_rfl) rfl (y_assign (v := .slice _ _ _) rfl) rfl rfl rfl (weak_take (T' := [box br _, rowl _ _ _ _ _ _, fr, box b3 _]) rfl) (listed' := #[true, true, true, true, true, true, true, true, true, true, true, false]) rfl ?_
    refine ge_one 11 (k' := 1) (listed' := #[true, true, true, true, true, true, true, true, true, true, true, true]) (by kernel_rfl) rfl rfl rfl ?_
    refine gop_store 4 (v := .agg #[_, _]) (cs' := #[_, _]) rfl rfl Try.sizeOf27 rfl rfl rfl rfl (Nat.le_of_ble_eq_true rfl) rfl rfl ?_
    refine gops_nil ?_
    refine ge_fin (TK := []) rfl (weak_nil) ?_
    refine ge_done (by kernel_rfl) ?_
    refine fin_mem _ (weak_perm (List.Perm.cons _ (List.Perm.cons _ (List.Perm.cons _ (List.Perm.cons _ (List.Perm.swap _ _ _)))))) ?_
    refine hN2 _ _ ?_
    refine gT [box br _, rowl _ _ _ _ _ _, fr, box b3 _, rowl _ _ _ _ _ _, box b6 _] rfl ?_
    refine gfrom [(0, .pointer _), (3, .pointer _), (5, .slice _ _ _), (6, .pointer _)] ⟨rfl, rfl, rfl, rfl, trivial⟩ fun σ => ?_
    refine gseq fun N20 hN20 => ?_
    refine gseq fun N21 hN21 => ?_
    refine greg ?_
    refine gop (y_loads (cs := [_, _]) Try.isAgg27 Try.sizeOf27 rfl rfl (cells_box 5 rfl)) rfl rfl rfl ?_
    refine gop (y_build (vs := []) (cells := #[.int .i64 0, .int .i64 0]) rfl bd27_) rfl rfl rfl ?_
    refine gop (y_bin (vx := .agg #[_, _]) (vy := .agg #[_, _]) rfl rfl (fun w => eg27 _ _ _ _ _ w) (fun w => ne27 _ _ _ _ w)) rfl rfl rfl ?_
    refine gops_nil ?_
    refine hN21 _ _ ?_
    refine gfrom [(0, .pointer _), (3, .pointer _), (5, .slice _ _ _), (6, .pointer _), (22, .bool _)] ⟨rfl, rfl, rfl, rfl, rfl, trivial⟩ fun σ => ?_
    refine gcond (b := _) rfl (fun hc22 => ?_) (fun hc22 => ?_)
    · -- slot 22 t
      replace hc22 := fault_ne.1 hc22
      have hP : patchT (l, text) (pls hs) = ((applyF (pls hs) text).code, (l, text)) := by rw [patchT, if_pos hc22]
      refine gseq fun N22 hN22 => ?_
      refine greg ?_
      refine gop (y_fieldAddr_box fa27_0 rfl) rfl rfl rfl ?_
      refine gop (y_load Try.isAgg3 rfl (cell_box 5 rfl rfl)) rfl rfl rfl ?_
      refine gop (y_assign (v := .int _ _) rfl) rfl rfl rfl ?_
      refine gops_nil ?_
      refine hN22 _ _ ?_
      refine gfrom [(4, .int _ _)] ⟨rfl, trivial⟩ fun σ => ?_
      refine gret fun w1 hM => ?_
      refine ⟨_, res1 rfl (rt (v := .int _ _) rfl), ?_⟩
      rw [hP]
      exact ⟨tA, tc, hA, hc, _, rfl, htb, .inl ⟨rfl, rfl⟩, hM⟩
    · -- slot 22 f
      replace hc22 := fault_eq.1 hc22
      obtain ⟨_, happ, hAR⟩ := applyF_code (hs := pls hs) (text := text) (by rw [hc22])
      have hv := happ.pv
      have hP : patchT (l, text) (pls hs) = (0, (l.map (followT (pls hs)), applyR (pls hs) text)) := by rw [hAR, patchT, if_neg (by simp [hc22])]
      refine gskip ?_
      refine hN20 _ _ ?_
      refine gfrom [(0, .pointer _), (3, .pointer _), (5, .slice _ _ _)] ⟨rfl, rfl, rfl, trivial⟩ fun σ => ?_
      refine gseq fun N23 hN23 => ?_
      refine greg ?_
      refine gop (y_move (v := .pointer _) rfl) rfl rfl rfl ?_
      refine gop (y_move (v := .slice _ _ _) rfl) rfl rfl rfl ?_
      refine gop (y_nilCheck rfl) rfl rfl rfl ?_
      refine gop (y_fieldAddr_box fa82_0 rfl) rfl rfl rfl ?_
      refine gop_store 0 (v := .slice _ _ _) (cs' := #[_, _]) rfl rfl Try.sizeOf41 rfl rfl rfl rfl (Nat.le_of_ble_eq_true rfl) rfl rfl ?_
      refine gops_nil ?_
      refine hN23 _ _ ?_
      refine gT [box br _, rowl _ _ _ _ _ _, fr, box b3 _, rowl _ _ _ _ _ _, box b6 _] rfl ?_
      refine gfrom [(0, .pointer _), (3, .pointer _)] ⟨rfl, rfl, trivial⟩ fun σ => ?_
      refine gseq fun N24 hN24 => ?_
      refine gseq fun N25 hN25 => ?_
      refine greg ?_
      refine gop (y_move (v := .pointer _) rfl) rfl rfl rfl ?_
      refine gop (y_nilCheck rfl) rfl rfl rfl ?_
      refine gop (y_fieldAddr_box fa82_1 rfl) rfl rfl rfl ?_
      refine gop (y_load Try.isAgg55 rfl (cell_box 0 rfl rfl)) rfl rfl rfl ?_
      refine gop (y_len Try.underlying55 rfl) rfl rfl rfl ?_
      refine gop (y_move (v := .int _ _) rfl) rfl rfl rfl ?_
      refine gops_nil ?_
      refine hN25 _ _ ?_
      refine gfrom [(0, .pointer _), (3, .pointer _), (33, .int _ _), (34, .int _ _)] ⟨rfl, rfl, rfl, rfl, trivial⟩ fun σ => ?_
      refine gblock ?_
      refine gfrom2 [(34, .int _ _)] [(0, .pointer _), (3, .pointer _), (33, .int _ _)] ⟨rfl, trivial⟩ ⟨rfl, rfl, rfl, trivial⟩ fun σ => ?_
      refine gloop2 (G := Nat) (fun k => k ≤ l.length) (fun k => l.length - k) (fun k => [(34, .int .i64 (k : Int))]) (fun k => [(1, rowl thrCells w0.heap.size 60 5 (.slice hA l.length hc) (flK (pls hs) l k))]) (0) ?h0 ⟨rfl, trivial⟩ ⟨rfl, rfl, rfl, trivial⟩ rfl ?round
      case h0 => exact Nat.zero_le _
      case round =>
        intro k hφ σ
        have hk : k ≤ l.length := hφ
        refine gT [box br _, rowl _ _ _ _ _ _, fr, box b3 _, rowl _ _ _ _ _ _, box b6 _] rfl ?_
        refine gseq fun N26 hN26 => ?_
        refine greg ?_
        refine gop (y_lss rfl rfl) rfl rfl rfl ?_
        refine gops_nil ?_
        refine hN26 _ _ ?_
        refine gfrom [(0, .pointer _), (3, .pointer _), (33, .int _ _), (34, .int _ _), (35, .bool _)] ⟨rfl, rfl, rfl, rfl, rfl, trivial⟩ fun σ => ?_
        refine gseq fun N27 hN27 => ?_
        refine gcond (b := _) rfl (fun hc35 => ?_) (fun hc35 => ?_)
        · -- slot 35 t
          replace hc35 := of_decide_eq_true hc35
          have hk1 : k < l.length := by omega
          refine g_fact (fun w hM => own_some (hM.own 1 rfl) (by rw [flK_len _ _ hk]; omega)) ?_
          rintro ⟨rg, cg, hvg, -, -⟩
          simp only [Value.slice.injEq] at hvg
          obtain ⟨rfl, -, rfl⟩ := hvg
          have hl1 := hi1 _ (List.getElem_mem hk1)
          have hl2 := hi2 _ (List.getElem_mem hk1)
          refine gskip ?_
          refine hN27 _ _ ?_
          refine gfrom [(0, .pointer _), (3, .pointer _), (33, .int _ _), (34, .int _ _)] ⟨rfl, rfl, rfl, rfl, trivial⟩ fun σ => ?_
          refine gseq fun N28 hN28 => ?_
          refine gblock ?_
          refine gseq fun N29 hN29 => ?_
          refine greg ?_
          refine gop (y_move (v := .int _ _) rfl) rfl rfl rfl ?_
          refine gop (y_assign (v := .int _ _) rfl) rfl rfl rfl ?_
          refine gops_nil ?_
          refine hN29 _ _ ?_
          refine gfrom [(0, .pointer _), (3, .pointer _), (7, .int _ _), (33, .int _ _), (34, .int _ _)] ⟨rfl, rfl, rfl, rfl, rfl, trivial⟩ fun σ => ?_
          refine gseq fun N30 hN30 => ?_
          refine greg ?_
          refine gop (y_move (v := .pointer _) rfl) rfl rfl rfl ?_
          refine gop (y_nilCheck rfl) rfl rfl rfl ?_
          refine gop (y_fieldAddr_box fa82_1 rfl) rfl rfl rfl ?_
          refine gop (y_load Try.isAgg55 rfl (cell_box 0 rfl rfl)) rfl rfl rfl ?_
          refine gop (y_move (v := .int _ _) rfl) rfl rfl rfl ?_
          refine gop (y_indexAddr (m := k) Try.underlying55 Try.sizeOf60 rfl rfl (by omega) (by omega) (by omega)) rfl rfl rfl ?_
          refine gop (y_assign (v := .pointer _) rfl) rfl rfl rfl ?_
          refine gops_nil ?_
          refine hN30 _ _ ?_
          refine gfrom [(0, .pointer _), (3, .pointer _), (8, .pointer _), (33, .int _ _), (34, .int _ _)] ⟨rfl, rfl, rfl, rfl, rfl, trivial⟩ fun σ => ?_
          refine gseq fun N31 hN31 => ?_
          refine gseq fun N32 hN32 => ?_
          refine greg ?_
          refine gop (y_move (v := .pointer _) rfl) rfl rfl rfl ?_
          refine gop (y_nilCheck rfl) rfl rfl rfl ?_
          refine gop (y_fieldAddr_add fa60_3 rfl) rfl rfl rfl ?_
          refine gop (y_load Try.isAgg4 rfl (cells_rowl 1 (f := thrCells) (l := flK (pls hs) l k) rfl (flK_len _ _ hk).symm (fun _ => rfl) (flK_at hk1) 3 _ rfl)) rfl rfl rfl ?_
          refine gops_nil ?_
          refine hN32 _ _ ?_
          refine gfrom [(0, .pointer _), (3, .pointer _), (8, .pointer _), (33, .int _ _), (34, .int _ _), (46, .bool _)] ⟨rfl, rfl, rfl, rfl, rfl, rfl, trivial⟩ fun σ => ?_
          refine gcond (b := _) rfl (fun hc46 => ?_) (fun hc46 => ?_)
          · -- slot 46 t
            have hft : followT (pls hs) l[k] = l[k] := followT_out hc46
            refine gexit ?_
            refine hN28 _ _ ?_
            refine gfrom [(0, .pointer _), (3, .pointer _), (33, .int _ _), (34, .int _ _)] ⟨rfl, rfl, rfl, rfl, trivial⟩ fun σ => ?_
            refine greg ?_
            refine gop (y_add rfl rfl ⟨by omega, by omega⟩) rfl rfl rfl ?_
            refine gop (y_move (v := .int _ _) rfl) rfl rfl rfl ?_
            refine gops_nil ?_
            rw [flK_same hk1 hft]
            refine gnext2 (k + 1) (by omega) (show k + 1 ≤ _ by omega) ⟨rfl, trivial⟩ ⟨rfl, rfl, rfl, trivial⟩ ⟨_, rfl⟩
          · -- slot 46 f
            refine gskip ?_
            refine hN31 _ _ ?_
            refine gfrom [(0, .pointer _), (3, .pointer _), (8, .pointer _), (33, .int _ _), (34, .int _ _)] ⟨rfl, rfl, rfl, rfl, rfl, trivial⟩ fun σ => ?_
            refine gseq fun N33 hN33 => ?_
            refine greg_q (by kernel_rfl) (by kernel_rfl) ?_
            refine gq (y_loads (cs := [_]) Try.isAgg25 Try.sizeOf25 rfl rfl (cells_box 3 rfl)) rfl rfl rfl ?_
            refine gq (y_move (v := .pointer _) rfl) rfl rfl rfl ?_
            refine gq (y_nilCheck rfl) rfl rfl rfl ?_
            refine gq (y_fieldAddr_add fa60_1 rfl) rfl rfl rfl ?_
            refine gq (y_load Try.isAgg3 rfl (cells_rowl 1 (f := thrCells) (l := flK (pls hs) l k) rfl (flK_len _ _ hk).symm (fun _ => rfl) (flK_at hk1) 1 _ rfl)) rfl rfl rfl ?_
            refine gq_pure (e_call (vs := [.agg #[_], .int _ _]) Try.func34 rfl (by kernel_rfl) rfl) (fun w hM => place_any w _ _ hs (PatR.lasts.base hp hM) (by simpa using hv.len) hv.each l[k].line (by omega) (by omega)) rfl rfl rfl ?_
            refine gq (y_move (v := .tuple #[.int _ _, .bool _]) rfl) rfl rfl rfl ?_
            refine gq (y_extract (v := .int _ _) rfl rfl) rfl rfl rfl ?_
            refine gq (y_extract (v := .bool _) rfl rfl) rfl rfl rfl ?_
            refine gq (y_assign (v := .int _ _) rfl) rfl rfl rfl ?_
            refine gq (y_assign (v := .bool _) rfl) rfl rfl rfl ?_
            refine gqs_nil ?_
            refine hN33 _ _ ?_
            refine gfrom [(0, .pointer _), (3, .pointer _), (8, .pointer _), (9, .int _ _), (10, .bool _), (33, .int _ _), (34, .int _ _)] ⟨rfl, rfl, rfl, rfl, rfl, rfl, rfl, trivial⟩ fun σ => ?_
            refine gseq fun N34 hN34 => ?_
            refine greg ?_
            refine gop (y_move (v := .pointer _) rfl) rfl rfl rfl ?_
            refine gop (y_move (v := .bool _) rfl) rfl rfl rfl ?_
            refine gop (y_not rfl) rfl rfl rfl ?_
            refine gop (y_nilCheck rfl) rfl rfl rfl ?_
            refine gop (y_fieldAddr_add fa60_3 rfl) rfl rfl rfl ?_
            refine gop_store_row 1 (f := thrCells) (l := flK (pls hs) l k) (k := k) (o := 3) (v := .bool _) (a := l[k]) (a' := { l[k] with outdated := !(place (pls hs) l[k].line 0).2 }) (fun _ => rfl) rfl rfl rfl Try.sizeOf4 rfl rfl rfl rfl (flK_len _ _ hk).symm (flK_at hk1) (Nat.le_of_ble_eq_true rfl) rfl rfl ?_
            refine gops_nil ?_
            refine hN34 _ _ ?_
            refine gT [box br _, rowl _ _ _ _ _ _, fr, box b3 _, rowl _ _ _ _ _ _, box b6 _] rfl ?_
            refine gfrom [(0, .pointer _), (3, .pointer _), (8, .pointer _), (9, .int _ _), (10, .bool _), (33, .int _ _), (34, .int _ _)] ⟨rfl, rfl, rfl, rfl, rfl, rfl, rfl, trivial⟩ fun σ => ?_
            refine gseq fun N35 hN35 => ?_
            refine greg ?_
            refine gop (y_move (v := .bool _) rfl) rfl rfl rfl ?_
            refine gops_nil ?_
            refine hN35 _ _ ?_
            refine gfrom [(0, .pointer _), (3, .pointer _), (8, .pointer _), (9, .int _ _), (33, .int _ _), (34, .int _ _), (61, .bool _)] ⟨rfl, rfl, rfl, rfl, rfl, rfl, rfl, trivial⟩ fun σ => ?_
            refine gcond (b := _) rfl (fun hc61 => ?_) (fun hc61 => ?_)
            · -- slot 61 t
              have hft : ({ l[k] with line := (place (pls hs) l[k].line 0).1, outdated := !(place (pls hs) l[k].line 0).2 } : Thr) = followT (pls hs) l[k] := by rw [followT, if_neg (by simp [hc46]), if_pos hc61, hc61]; rfl
              refine greg ?_
              refine gop (y_move (v := .pointer _) rfl) rfl rfl rfl ?_
              refine gop (y_move (v := .int _ _) rfl) rfl rfl rfl ?_
              refine gop (y_nilCheck rfl) rfl rfl rfl ?_
              refine gop (y_fieldAddr_add fa60_1 rfl) rfl rfl rfl ?_
              refine gop_store_row 1 (f := thrCells) (l := (flK (pls hs) l k).set k { l[k] with outdated := !(place (pls hs) l[k].line 0).2 }) (k := k) (o := 1) (v := .int _ _) (a := { l[k] with outdated := !(place (pls hs) l[k].line 0).2 }) (a' := { l[k] with line := (place (pls hs) l[k].line 0).1, outdated := !(place (pls hs) l[k].line 0).2 }) (fun _ => rfl) rfl rfl rfl Try.sizeOf3 rfl rfl rfl rfl (by rw [List.length_set, flK_len _ _ hk]) (by rw [List.getElem?_set_self (by rw [flK_len _ _ hk]; exact hk1)]) (Nat.le_of_ble_eq_true rfl) rfl rfl ?_
              refine gops_nil ?_
              refine hN28 _ _ ?_
              refine gT [box br _, rowl _ _ _ _ _ _, fr, box b3 _, rowl _ _ _ _ _ _, box b6 _] rfl ?_
              refine gfrom [(0, .pointer _), (3, .pointer _), (33, .int _ _), (34, .int _ _)] ⟨rfl, rfl, rfl, rfl, trivial⟩ fun σ => ?_
              refine greg ?_
              refine gop (y_add rfl rfl ⟨by omega, by omega⟩) rfl rfl rfl ?_
              refine gop (y_move (v := .int _ _) rfl) rfl rfl rfl ?_
              refine gops_nil ?_
              rw [List.set_set, flK_set hk1 hft]
              refine gnext2 (k + 1) (by omega) (show k + 1 ≤ _ by omega) ⟨rfl, trivial⟩ ⟨rfl, rfl, rfl, trivial⟩ ⟨_, rfl⟩
            · -- slot 61 f
              have hft : ({ l[k] with outdated := !(place (pls hs) l[k].line 0).2 } : Thr) = followT (pls hs) l[k] := by rw [followT, if_neg (by simp [hc46]), if_neg (by simp [hc61]), hc61]; rfl
              refine gskip ?_
              refine hN28 _ _ ?_
              refine gfrom [(0, .pointer _), (3, .pointer _), (33, .int _ _), (34, .int _ _)] ⟨rfl, rfl, rfl, rfl, trivial⟩ fun σ => ?_
              refine greg ?_
              refine gop (y_add rfl rfl ⟨by omega, by omega⟩) rfl rfl rfl ?_
              refine gop (y_move (v := .int _ _) rfl) rfl rfl rfl ?_
              refine gops_nil ?_
              rw [flK_set hk1 hft]
              refine gnext2 (k + 1) (by omega) (show k + 1 ≤ _ by omega) ⟨rfl, trivial⟩ ⟨rfl, rfl, rfl, trivial⟩ ⟨_, rfl⟩
        · -- slot 35 f
          replace hc35 := of_decide_eq_false hc35
          rw [flK_all _ _ (by omega : l.length ≤ k)]
          refine gexit ?_
          refine hN24 _ _ ?_
          refine gfrom [] trivial fun σ => ?_
          refine gseq fun N36 hN36 => ?_
          refine greg ?_
          refine gop (y_assign (v := .int _ _) rfl) rfl rfl rfl ?_
          refine gops_nil ?_
          refine hN36 _ _ ?_
          refine gfrom [(4, .int _ _)] ⟨rfl, trivial⟩ fun σ => ?_
          refine gret fun w1 hM => ?_
          refine ⟨_, res1 rfl (rt (v := .int _ _) rfl), ?_⟩
          rw [hP]
          have e1 : l.length = (l.map (followT (pls hs))).length := by simp
          rw [e1] at hM
          exact ⟨A17, c17, hA, hc, _, rfl, ⟨hc17, hm17, hn17, by have := happ.len; rw [← hAR] at this; show (applyR (pls hs) text).length * 16 ≤ _; unfold reachBytes; omega⟩, .inr fun w1 h2 => (row_rdl (f := strCells) (fun _ => rfl) (h2 _ (List.mem_of_getElem? (i := 1) rfl))).mono hlo17, hM⟩

set_option maxHeartbeats 4000000 in
theorem step_any (w0 w : World) (br tc hc : Nat) (tA hA : Option Addr) (text : List ByteArray) (l : List Thr) (fr : Reg) (hM0 : Mem w0 [box br (.cells #[.slice tA (text).length tc, .slice hA (l).length hc] 82), rowl thrCells w0.heap.size 60 5 (.slice hA l.length hc) (l), fr] w) (htx : ∀ w1, fr.ok w1 → Rdl w1 w0.heap.size 1 strCells tA text) (htb : SB tA text.length tc 16) (x : EvC) (hx : EvR w0 0 x) (hi : RI (l, text) 100) :
    Calls Try.prog 42 #[.pointer (some ⟨br, 0, none⟩), evV x] w fun e w' => ∃ tA' tc' hA' hc' G, e = .returned (.int .i64 (stepE (l, text) x.pl).1) ∧ SB tA' (stepE (l, text) x.pl).2.2.length tc' 16 ∧ ((tA' = tA ∧ (stepE (l, text) x.pl).2.2 = text) ∨ ∀ w1, (∀ r ∈ G, r.ok w1) → Rdl w1 w0.heap.size 1 strCells tA' (stepE (l, text) x.pl).2.2) ∧ Mem w0 (box br (.cells #[.slice tA' ((stepE (l, text) x.pl).2.2).length tc', .slice hA' ((stepE (l, text) x.pl).2.1).length hc'] 82) :: rowl thrCells w0.heap.size 60 5 (.slice hA' (stepE (l, text) x.pl).2.1.length hc') ((stepE (l, text) x.pl).2.1) :: fr :: G) w' := by
  have hmx : maxLen = 9223372036854775807 := rfl
  have hi3 := hi.few
  simp only at hi3
  refine gcallsT Try.func42 rfl Try.ntmps42 (Nat.le_of_ble_eq_true rfl) hM0 ?_
  refine gfrom [(0, .pointer _), (1, .agg #[_, _, _, _, _, _])] ⟨rfl, rfl, trivial⟩ fun σ => ?_
  refine gseq fun N1 hN1 => ?_
  refine greg ?_
  refine gop_box (v := .agg #[_, _, _, _, _, _]) (cs := #[_, _, _, _, _, _]) rfl rfl rfl (fun b3 hb3 => ?_)
  refine gop (y_assign (v := .int _ _) rfl) rfl rfl rfl ?_
  refine gops_nil ?_
  refine hN1 _ _ ?_
  refine gT [box br _, rowl _ _ _ _ _ _, fr, box b3 _] rfl ?_
  refine gfrom [(0, .pointer _), (3, .pointer _)] ⟨rfl, rfl, trivial⟩ fun σ => ?_
  refine gseq fun N2 hN2 => ?_
  refine gseq fun N3 hN3 => ?_
  refine greg ?_
  refine gop (y_loads (cs := [_, _, _, _, _, _]) Try.isAgg66 Try.sizeOf66 rfl rfl (cells_box 3 rfl)) rfl rfl rfl ?_
  refine gop_pure (e_call (vs := [.agg #[_, _, _, _, _, _]]) Try.func52 rfl (by kernel_rfl) rfl) (fun w hM => form_any w x) rfl rfl rfl ?_
  refine gop (y_assign (v := .int _ _) rfl) rfl rfl rfl ?_
  refine gops_nil ?_
  refine hN3 _ _ ?_
  refine gfrom [(0, .pointer _), (3, .pointer _), (5, .int _ _)] ⟨rfl, rfl, rfl, trivial⟩ fun σ => ?_
  refine gseq fun N4 hN4 => ?_
  refine greg ?_
  refine gop (y_move (v := .int _ _) rfl) rfl rfl rfl ?_
  refine gop (y_neq rfl rfl) rfl rfl rfl ?_
  refine gops_nil ?_
  refine hN4 _ _ ?_
  refine gfrom [(0, .pointer _), (3, .pointer _), (5, .int _ _), (10, .bool _)] ⟨rfl, rfl, rfl, rfl, trivial⟩ fun σ => ?_
  refine gcond (b := _) rfl (fun hc10 => ?_) (fun hc10 => ?_)
  · -- slot 10 t
    replace hc10 := of_decide_eq_true hc10
    have hS : stepE (l, text) x.pl = (formC x.pl, (l, text)) := by rw [stepE, if_pos hc10]
    refine gseq fun N5 hN5 => ?_
    refine greg ?_
    refine gop (y_move (v := .int _ _) rfl) rfl rfl rfl ?_
    refine gop (y_assign (v := .int _ _) rfl) rfl rfl rfl ?_
    refine gops_nil ?_
    refine hN5 _ _ ?_
    refine gfrom [(4, .int _ _)] ⟨rfl, trivial⟩ fun σ => ?_
    refine gret fun w1 hM => ?_
    refine ⟨_, res1 rfl (rt (v := .int _ _) rfl), ?_⟩
    rw [hS]
    exact ⟨tA, tc, _, _, _, rfl, htb, .inl ⟨rfl, rfl⟩, hM⟩
  · -- slot 10 f
    replace hc10 := Decidable.not_not.1 (of_decide_eq_false hc10)
    refine g_fact (fun w hM => (fun h => by obtain ⟨g, c, hv, _⟩ := own_some (hM.own 1 rfl) h; simp only [Value.slice.injEq] at hv; exact ⟨_, hv.1⟩ : 0 < l.length → ∃ ad, hA = some ad)) ?_
    intro hsome
    refine gskip ?_
    refine hN2 _ _ ?_
    refine gfrom [(0, .pointer _), (3, .pointer _)] ⟨rfl, rfl, trivial⟩ fun σ => ?_
    refine gseq fun N6 hN6 => ?_
    refine greg ?_
    refine gop (y_move (v := .pointer _) rfl) rfl rfl rfl ?_
    refine gop (y_fieldAddr_box fa66_2 rfl) rfl rfl rfl ?_
    refine gop (y_load Try.isAgg3 rfl (cell_box 3 rfl rfl)) rfl rfl rfl ?_
    refine gop_pure (e_call (vs := [.pointer _, .int _ _]) Try.func53 rfl (by kernel_rfl) rfl) (fun w hM => thread_any w br _ _ _ _ (cell_box (w0 := w0) 0 (off := 1) rfl rfl w hM) hsome) rfl rfl rfl ?_
    refine gop (y_assign (v := .pointer _) rfl) rfl rfl rfl ?_
    refine gops_nil ?_
    refine hN6 _ _ ?_
    refine gfrom [(0, .pointer _), (3, .pointer _), (6, .pointer _)] ⟨rfl, rfl, rfl, trivial⟩ fun σ => ?_
    refine gseq fun N7 hN7 => ?_
    refine gseq fun N8 hN8 => ?_
    refine greg ?_
    refine gop (y_fieldAddr_box fa66_0 rfl) rfl rfl rfl ?_
    refine gop (y_load Try.isAgg3 rfl (cell_box 3 rfl rfl)) rfl rfl rfl ?_
    refine gops_nil ?_
    refine hN8 _ _ ?_
    refine gfrom [(0, .pointer _), (3, .pointer _), (6, .pointer _), (17, .int _ _)] ⟨rfl, rfl, rfl, rfl, trivial⟩ fun σ => ?_
    refine gblock ?_
    refine gseq fun N9 hN9 => ?_
    refine greg ?_
    refine gop (y_eql rfl rfl) rfl rfl rfl ?_
    refine gop (y_assign (v := .bool _) rfl) rfl rfl rfl ?_
    refine gops_nil ?_
    refine hN9 _ _ ?_
    refine gfrom [(0, .pointer _), (3, .pointer _), (6, .pointer _), (17, .int _ _), (18, .bool _)] ⟨rfl, rfl, rfl, rfl, rfl, trivial⟩ fun σ => ?_
    refine gcond (b := _) rfl (fun hc18 => ?_) (fun hc18 => ?_)
    · -- slot 18 t
      replace hc18 := of_decide_eq_true hc18
      refine gseq fun N10 hN10 => ?_
      refine gseq fun N11 hN11 => ?_
      refine greg_q (by kernel_rfl) (by kernel_rfl) ?_
      refine gq (y_fieldAddr_box fa66_3 rfl) rfl rfl rfl ?_
      refine gq (y_load Try.isAgg3 rfl (cell_box 3 rfl rfl)) rfl rfl rfl ?_
      refine gq (y_lss rfl rfl) rfl rfl rfl ?_
      refine gq (y_move (v := .bool _) rfl) rfl rfl rfl ?_
      refine gq_if (want := false) rfl rfl rfl rfl rfl rfl (fun hg23 => ?_) (fun hg23 => ?_)
      · -- guard 23 on
        have hg23d := of_decide_eq_false hg23
        refine gq (y_bare (y_fieldAddr_box fa66_3 rfl)) rfl rfl rfl ?_
        refine gq_on rfl rfl rfl rfl hg23 ?_
        refine gq (y_bare (y_load Try.isAgg3 rfl (cell_box 3 rfl rfl))) rfl rfl rfl ?_
        refine gq_on rfl rfl rfl rfl hg23 ?_
        refine gq (y_bare (y_move (v := .pointer _) rfl)) rfl rfl rfl ?_
        refine gq_on rfl rfl rfl rfl hg23 ?_
        refine gq (y_bare (y_nilCheck rfl)) rfl rfl rfl ?_
        refine gq_on rfl rfl rfl rfl hg23 ?_
        refine gq (y_bare (y_fieldAddr_box fa82_0 rfl)) rfl rfl rfl ?_
        refine gq_on rfl rfl rfl rfl hg23 ?_
        refine gq (y_bare (y_load Try.isAgg41 rfl (cell_box 0 rfl rfl))) rfl rfl rfl ?_
        refine gq_on rfl rfl rfl rfl hg23 ?_
        refine gq (y_bare (y_len Try.underlying41 rfl)) rfl rfl rfl ?_
        refine gq_on rfl rfl rfl rfl hg23 ?_
        refine gq (y_bare (y_geq rfl rfl)) rfl rfl rfl ?_
        refine gq (y_pick_f (v := .bool _) rfl hg23 rfl) rfl rfl rfl ?_
        refine gqs_nil ?_
        refine hN11 _ _ ?_
        refine gfrom [(0, .pointer _), (3, .pointer _), (32, .bool _)] ⟨rfl, rfl, rfl, trivial⟩ fun σ => ?_
        refine gcond (b := _) rfl (fun hc32 => ?_) (fun hc32 => ?_)
        · -- slot 32 t
          replace hc32 := of_decide_eq_true hc32
          have hS : stepE (l, text) x.pl = (3, (l, text)) := by rw [stepE_open (e := x.pl) hc10 hc18, if_pos (show x.pl.line < 0 ∨ (text.length : Int) ≤ x.pl.line from by show x.line < 0 ∨ _ ≤ x.line; omega)]
          refine gseq fun N12 hN12 => ?_
          refine greg ?_
          refine gop (y_assign (v := .int _ _) rfl) rfl rfl rfl ?_
          refine gops_nil ?_
          refine hN12 _ _ ?_
          refine gfrom [(4, .int _ _)] ⟨rfl, trivial⟩ fun σ => ?_
          refine gret fun w1 hM => ?_
          refine ⟨_, res1 rfl (rt (v := .int _ _) rfl), ?_⟩
          rw [hS]
          exact ⟨tA, tc, _, _, _, rfl, htb, .inl ⟨rfl, rfl⟩, hM⟩
        · -- slot 32 f
          replace hc32 := of_decide_eq_false hc32
          have hL : ¬ (x.pl.line < 0 ∨ (text.length : Int) ≤ x.pl.line) := by show ¬ (x.line < 0 ∨ _ ≤ x.line); omega
          refine gskip ?_
          refine hN10 _ _ ?_
          refine gfrom [(0, .pointer _), (3, .pointer _)] ⟨rfl, rfl, trivial⟩ fun σ => ?_
          refine gseq fun N13 hN13 => ?_
          refine gseq fun N14 hN14 => ?_
          refine greg ?_
          refine gop (y_move (v := .pointer _) rfl) rfl rfl rfl ?_
          refine gop (y_nilCheck rfl) rfl rfl rfl ?_
          refine gop (y_fieldAddr_box fa82_1 rfl) rfl rfl rfl ?_
          refine gop (y_load Try.isAgg55 rfl (cell_box 0 rfl rfl)) rfl rfl rfl ?_
          refine gop (y_len Try.underlying55 rfl) rfl rfl rfl ?_
          refine gop (y_geq rfl rfl) rfl rfl rfl ?_
          refine gops_nil ?_
          refine hN14 _ _ ?_
          refine gfrom [(0, .pointer _), (3, .pointer _), (38, .bool _)] ⟨rfl, rfl, rfl, trivial⟩ fun σ => ?_
          refine gcond (b := _) rfl (fun hc38 => ?_) (fun hc38 => ?_)
          · -- slot 38 t
            replace hc38 := of_decide_eq_true hc38
            have hS : stepE (l, text) x.pl = (14, (l, text)) := by rw [stepE_open (e := x.pl) hc10 hc18, if_neg hL, if_pos (show 12 ≤ l.length by omega)]
            refine gseq fun N15 hN15 => ?_
            refine greg ?_
            refine gop (y_assign (v := .int _ _) rfl) rfl rfl rfl ?_
            refine gops_nil ?_
            refine hN15 _ _ ?_
            refine gfrom [(4, .int _ _)] ⟨rfl, trivial⟩ fun σ => ?_
            refine gret fun w1 hM => ?_
            refine ⟨_, res1 rfl (rt (v := .int _ _) rfl), ?_⟩
            rw [hS]
            exact ⟨tA, tc, _, _, _, rfl, htb, .inl ⟨rfl, rfl⟩, hM⟩
          · -- slot 38 f
            replace hc38 := of_decide_eq_false hc38
            have hS : stepE (l, text) x.pl = (0, (l ++ [⟨x.user, x.line, 1, false, false⟩], text)) := by rw [stepE_open (e := x.pl) hc10 hc18, if_neg hL, if_neg (show ¬ 12 ≤ l.length by omega)]
            refine gskip ?_
            refine hN13 _ _ ?_
            refine gfrom [(0, .pointer _), (3, .pointer _)] ⟨rfl, rfl, trivial⟩ fun σ => ?_
            refine gseq fun N16 hN16 => ?_
            refine greg_e1 [14] [(1, emp)] (by kernel_rfl) ?_
            refine ge_take 0 (TK := [box br _, emp, fr, box b3 _]) rfl (by kernel_rfl) (by kernel_rfl) (by kernel_rfl) #[false, true, true, true, true, true, true, true, true, true, true, true, false, false, false] (by kernel_rfl) rfl (y_move (v := .pointer _) rfl) rfl rfl rfl (weak_emp 1 rfl) (listed' := #[true, false, false, false, false, false, false, false, false, false, false, false, false, false, false]) rfl ?_
            refine ge_take 1 (TK := [box br _, emp, fr, box b3 _]) rfl (by kernel_rfl) (by kernel_rfl) (by kernel_rfl) #[true, false, false, false, false, true, true, true, true, true, true, false, false, false, false] (by kernel_rfl) rfl (y_move (v := .pointer _) rfl) rfl rfl rfl (weak_emp 1 rfl) (listed' := #[true, true, false, false, false, false, false, false, false, false, false, false, false, false, false]) rfl ?_
            refine ge_take 2 (TK := [box br _, emp, fr, box b3 _]) rfl (by kernel_rfl) (by kernel_rfl) (by kernel_rfl) #[true, true, false, false, false, true, true, true, true, true, true, false, false, false, false] (by kernel_rfl) rfl (y_nilCheck rfl) rfl rfl rfl (weak_emp 1 rfl) (listed' := #[true, true, true, false, false, false, false, false, false, false, false, false, false, false, false]) rfl ?_
            refine ge_take 3 (TK := [box br _, emp, fr, box b3 _]) rfl (by kernel_rfl) (by kernel_rfl) (by kernel_rfl) #[true, true, true, false, false, true, true, true, true, true, true, false, false, false, false] (by kernel_rfl) rfl (y_fieldAddr_box fa82_1 rfl) rfl rfl rfl (weak_emp 1 rfl) (listed' := #[true, true, true, true, false, false, false, false, false, false, false, false, false, false, false]) rfl ?_
            refine ge_take 4 (TK := [box br _, emp, fr, box b3 _]) rfl (by kernel_rfl) (by kernel_rfl) (by kernel_rfl) #[true, true, true, true, false, true, true, true, true, true, true, false, false, false, false] (by kernel_rfl) rfl (y_load Try.isAgg55 rfl (cell_box 0 rfl rfl)) rfl rfl rfl (weak_emp 1 rfl) (listed' := #[true, true, true, true, true, false, false, false, false, false, false, false, false, false, false]) rfl ?_
            refine ge_take 5 (TK := [box br _, emp, fr, box b3 _]) rfl (by kernel_rfl) (by kernel_rfl) (by kernel_rfl) #[true, true, true, true, true, false, false, true, true, false, false, false, false, false, false] (by kernel_rfl) rfl (y_fieldAddr_box fa66_1 rfl) rfl rfl rfl (weak_emp 1 rfl) (listed' := #[true, true, true, true, true, true, false, false, false, false, false, false, false, false, false]) rfl ?_
            refine ge_take 6 (TK := [box br _, emp, fr, box b3 _]) rfl (by kernel_rfl) (by kernel_rfl) (by kernel_rfl) #[true, true, true, true, true, true, false, true, true, false, false, false, false, false, false] (by kernel_rfl) rfl (y_load Try.isAgg3 rfl (cell_box 3 rfl rfl)) rfl rfl rfl (weak_emp 1 rfl) (listed' := #[true, true, true, true, true, true, true, false, false, false, false, false, false, false, false]) rfl ?_
            refine ge_take 7 (TK := [box br _, emp, fr, box b3 _]) rfl (by kernel_rfl) (by kernel_rfl) (by kernel_rfl) #[true, true, true, true, true, true, true, false, false, false, false, false, false, false, false] (by kernel_rfl) rfl (y_fieldAddr_box fa66_3 rfl) rfl rfl rfl (weak_emp 1 rfl) (listed' := #[true, true, true, true, true, true, true, true, false, false, false, false, false, false, false]) rfl ?_
            refine ge_take 8 (TK := [box br _, emp, fr, box b3 _]) rfl (by kernel_rfl) (by kernel_rfl) (by kernel_rfl) #[true, true, true, true, true, true, true, true, false, false, false, false, false, false, false] (by kernel_rfl) rfl (y_load Try.isAgg3 rfl (cell_box 3 rfl rfl)) rfl rfl rfl (weak_emp 1 rfl) (listed' := #[true, true, true, true, true, true, true, true, true, false, false, false, false, false, false]) rfl ?_
            refine ge_take 9 (TK := [box br _, emp, fr, box b3 _]) rfl (by kernel_rfl) (by kernel_rfl) (by kernel_rfl) #[true, true, true, true, true, true, true, true, true, false, false, false, false, false, false] (by kernel_rfl) rfl (y_build (vs := [(0, .int _ _), (1, .int _ _), (2, _)]) (cells := #[_, _, _, .bool false, .bool false]) rfl (bd60_0_1_2 _ _ _)) rfl rfl rfl (weak_emp 1 rfl) (listed' := #[true, true, true, true, true, true, true, true, true, true, false, false, false, false, false]) rfl ?_
            refine ge_one 10 (k' := 0) (listed' := #[true, true, true, true, true, true, true, true, true, true, true, false, false, false, false]) (by kernel_rfl) rfl rfl rfl ?_
            refine gop_lit (vs := [.agg #[_, _, _, _, _]]) (cells := #[_, _, _, _, _]) Try.underlying55 Try.sizeOf60 Try.zeroValue60 rfl (by decide) (by decide) rfl rfl rfl rfl (fun b49 hb49 => ?_)
            refine gops_nil ?_
            refine ge_fin (TK := [box br _, emp, fr, box b3 _]) rfl (weak_trans (weak_take (T' := [box br _, rowl _ _ _ _ _ _, fr, box b3 _]) rfl) (weak_emp 1 rfl)) ?_
            refine ge_one 11 (k' := 0) (listed' := #[true, true, true, true, true, true, true, true, true, true, true, true, false, false, false]) (by kernel_rfl) rfl rfl rfl ?_
            refine gop_append 1 (f := thrCells) (l2 := [⟨x.user, x.line, 1, false, false⟩]) Try.underlying55 el60 wide_thr (v := .slice hA _ hc) rfl rfl rfl rfl (fun h => by cases h) (by simp [maxLen]; omega) (by simp; omega) (src_box 4 rfl rfl) rfl (fun v50 => ?_)
            refine gops_fact (fun w hM => own_form (hM.own 1 rfl)) ?_
            rintro ⟨A50, c50, rfl, hc50, hm50⟩
            refine gops_nil ?_
            refine ge_fin (TK := [box br _, emp, fr, box b3 _]) rfl (weak_trans (weak_take (T' := [box br _, rowl _ _ _ _ _ _, fr, box b3 _]) rfl) (weak_emp 1 rfl)) ?_
            refine ge_take 12 (TK := [box br _, emp, fr, box b3 _]) rfl (by kernel_rfl) (by kernel_rfl) (by kernel_rfl) #[true, true, true, true, true, true, true, true, true, true, true, true, false, false, false] (by kernel_rfl) rfl (y_nilCheck rfl) rfl rfl rfl (weak_trans (weak_take (T' := [box br _, rowl _ _ _ _ _ _, fr, box b3 _]) rfl) (weak_emp 1 rfl)) (listed' := #[true, true, true, true, true, true, true, true, true, true, true, true, true, false, false]) rfl ?_
            refine ge_take 13 (TK := [box br _, emp, fr, box b3 _]) rfl (by kernel_rfl) (by kernel_rfl) (by kernel_rfl) #[true, true, true, true, true, true, true, true, true, true, true, true, true, false, false] (by kernel_rfl) rfl (y_fieldAddr_box fa82_1 rfl) rfl rfl rfl (weak_trans (weak_take (T' := [box br _, rowl _ _ _ _ _ _, fr, box b3 _]) rfl) (weak_emp 1 rfl)) (listed' := #[true, true, true, true, true, true, true, true, true, true, true, true, true, true, false]) rfl ?_
            refine ge_one 14 (k' := 1) (listed' := #[true, true, true, true, true, true, true, true, true, true, true, true, true, true, true]) (by kernel_rfl) rfl rfl rfl ?_
            refine gop_store 0 (v := .slice A50 _ c50) (cs' := #[_, _]) rfl rfl Try.sizeOf55 rfl rfl rfl rfl (Nat.le_of_ble_eq_true rfl) rfl rfl ?_
            refine gops_nil ?_
            refine ge_fin (TK := []) rfl (weak_nil) ?_
            refine ge_done (by kernel_rfl) ?_
            refine hN16 _ _ ?_
            refine gT [box br _, rowl _ _ _ _ _ _, fr, box b3 _, box b49 _] rfl ?_
            refine gfrom [] trivial fun σ => ?_
            refine gseq fun N17 hN17 => ?_
            refine greg ?_
            refine gop (y_assign (v := .int _ _) rfl) rfl rfl rfl ?_
            refine gops_nil ?_
            refine hN17 _ _ ?_
            refine gfrom [(4, .int _ _)] ⟨rfl, trivial⟩ fun σ => ?_
            refine gret fun w1 hM => ?_
            refine ⟨_, res1 rfl (rt (v := .int _ _) rfl), ?_⟩
            rw [hS]
            exact ⟨tA, tc, A50, c50, _, rfl, htb, .inl ⟨rfl, rfl⟩, hM⟩
      · -- guard 23 off
        have hg23d := of_decide_eq_true hg23
        refine gq_off rfl rfl rfl rfl hg23 rfl rfl ?_
        refine gq_off rfl rfl rfl rfl hg23 rfl rfl ?_
        refine gq_off rfl rfl rfl rfl hg23 rfl rfl ?_
        refine gq_off rfl rfl rfl rfl hg23 rfl rfl ?_
        refine gq_off rfl rfl rfl rfl hg23 rfl rfl ?_
        refine gq_off rfl rfl rfl rfl hg23 rfl rfl ?_
        refine gq_off rfl rfl rfl rfl hg23 rfl rfl ?_
        refine gq (y_pick_t (v := .bool _) rfl hg23 rfl) rfl rfl rfl ?_
        refine gqs_nil ?_
        refine hN11 _ _ ?_
        refine gfrom [(0, .pointer _), (3, .pointer _), (32, .bool _)] ⟨rfl, rfl, rfl, trivial⟩ fun σ => ?_
        refine gcond (b := _) rfl (fun hc32 => ?_) (fun hc32 => ?_)
        · -- slot 32 t
          have hS : stepE (l, text) x.pl = (3, (l, text)) := by rw [stepE_open (e := x.pl) hc10 hc18, if_pos (show x.pl.line < 0 ∨ (text.length : Int) ≤ x.pl.line from by show x.line < 0 ∨ _ ≤ x.line; omega)]
          refine gseq fun N18 hN18 => ?_
          refine greg ?_
          refine gop (y_assign (v := .int _ _) rfl) rfl rfl rfl ?_
          refine gops_nil ?_
          refine hN18 _ _ ?_
          refine gfrom [(4, .int _ _)] ⟨rfl, trivial⟩ fun σ => ?_
          refine gret fun w1 hM => ?_
          refine ⟨_, res1 rfl (rt (v := .int _ _) rfl), ?_⟩
          rw [hS]
          exact ⟨tA, tc, _, _, _, rfl, htb, .inl ⟨rfl, rfl⟩, hM⟩
        · -- slot 32 f
          cases hc32
    · -- slot 18 f
      replace hc18 := of_decide_eq_false hc18
      refine gseq fun N19 hN19 => ?_
      refine greg ?_
      refine gop (y_eql rfl rfl) rfl rfl rfl ?_
      refine gop (y_assign (v := .bool _) rfl) rfl rfl rfl ?_
      refine gops_nil ?_
      refine hN19 _ _ ?_
      refine gfrom [(0, .pointer _), (3, .pointer _), (6, .pointer _), (53, .bool _)] ⟨rfl, rfl, rfl, rfl, trivial⟩ fun σ => ?_
      refine gcond (b := _) rfl (fun hc53 => ?_) (fun hc53 => ?_)
      · -- slot 53 t
        replace hc53 := of_decide_eq_true hc53
        have hS : stepE (l, text) x.pl = patchT (l, text) (pls x.hs) := stepE_patch (e := x.pl) hc10 hc53
        refine gseq fun N20 hN20 => ?_
        refine greg ?_
        refine gop (y_move (v := .pointer _) rfl) rfl rfl rfl ?_
        refine gop (y_fieldAddr_box fa66_5 rfl) rfl rfl rfl ?_
        refine gop (y_loads (cs := [_]) Try.isAgg25 Try.sizeOf25 rfl rfl (cells_of1 (cell_box 3 rfl rfl))) rfl rfl rfl ?_
        refine gop_does2 0 1 (fun v r s G => ∃ tA' tc' hA' hc', v = .int .i64 (patchT (l, text) (pls x.hs)).1 ∧ r = box br (.cells #[.slice tA' ((patchT (l, text) (pls x.hs)).2.2).length tc', .slice hA' ((patchT (l, text) (pls x.hs)).2.1).length hc'] 82) ∧ s = rowl thrCells w0.heap.size 60 5 (.slice hA' (patchT (l, text) (pls x.hs)).2.1.length hc') ((patchT (l, text) (pls x.hs)).2.1) ∧ SB tA' (patchT (l, text) (pls x.hs)).2.2.length tc' 16 ∧ ((tA' = tA ∧ (patchT (l, text) (pls x.hs)).2.2 = text) ∨ ∀ w1, (∀ r ∈ G, r.ok w1) → Rdl w1 w0.heap.size 1 strCells tA' (patchT (l, text) (pls x.hs)).2.2)) (e_call (vs := [.pointer _, .agg #[_]]) Try.func54 rfl (by kernel_rfl) rfl) rfl rfl rfl (fun w fr1 hfr hM => (patch_any w0 w br tc hc tA hA text l fr1 hM (fun w1 h => htx w1 (hfr 2 fr rfl (by decide) (by decide) w1 h)) htb x.A x.c x.hs hx.pat hi).mono fun _ _ ⟨tA', tc', hA', hc', G, h1, h2, h3, h4⟩ => ⟨_, _, _, G, h1, ⟨tA', tc', hA', hc', rfl, rfl, rfl, h2, h3⟩, h4⟩) rfl rfl rfl ?_
        rintro _ _ _ G ⟨tA2, tc2, hA2, hc2, rfl, rfl, rfl, hsb2, hdj⟩
        refine gop (y_assign (v := .int _ _) rfl) rfl rfl rfl ?_
        refine gops_nil ?_
        refine hN20 _ _ ?_
        refine gfrom [(4, .int _ _)] ⟨rfl, trivial⟩ fun σ => ?_
        refine gret fun w1 hM => ?_
        refine ⟨_, res1 rfl (rt (v := .int _ _) rfl), ?_⟩
        rw [hS]
        exact ⟨tA2, tc2, hA2, hc2, _, rfl, hsb2, hdj.imp_right (fun h w1 h1 => h w1 (fun r hr => h1 r (List.mem_cons_of_mem _ hr))), hM⟩
      · -- slot 53 f
        replace hc53 := of_decide_eq_false hc53
        refine gskip ?_
        refine hN7 _ _ ?_
        refine gfrom [(3, .pointer _), (6, .pointer _)] ⟨rfl, rfl, trivial⟩ fun σ => ?_
        refine gseq fun N21 hN21 => ?_
        refine gseq fun N22 hN22 => ?_
        refine greg ?_
        refine gop (y_move (v := .pointer _) rfl) rfl rfl rfl ?_
        refine gop (y_eqlptr Try.underlying93 rfl rfl) rfl rfl rfl ?_
        refine gops_nil ?_
        refine hN22 _ _ ?_
        refine gfrom [(3, .pointer _), (6, .pointer _), (60, .bool _)] ⟨rfl, rfl, rfl, trivial⟩ fun σ => ?_
        refine gcond (b := _) rfl (fun hc60 => ?_) (fun hc60 => ?_)
        · -- slot 60 t
          have hS : stepE (l, text) x.pl = (6, (l, text)) := stepE_miss (e := x.pl) hc10 hc18 hc53 (thrP_none hsome hc60)
          refine gseq fun N23 hN23 => ?_
          refine greg ?_
          refine gop (y_assign (v := .int _ _) rfl) rfl rfl rfl ?_
          refine gops_nil ?_
          refine hN23 _ _ ?_
          refine gfrom [(4, .int _ _)] ⟨rfl, trivial⟩ fun σ => ?_
          refine gret fun w1 hM => ?_
          refine ⟨_, res1 rfl (rt (v := .int _ _) rfl), ?_⟩
          rw [hS]
          exact ⟨tA, tc, _, _, _, rfl, htb, .inl ⟨rfl, rfl⟩, hM⟩
        · -- slot 60 f
          have hr := thrP_some hc60
          obtain ⟨t, ht⟩ : ∃ t, l[x.thread.toNat]? = some t := ⟨_, List.getElem?_eq_getElem (by omega)⟩
          have hS0 := stepE_hit (s := (l, text)) (e := x.pl) hc10 hc18 hc53 hr.1 ht
          have htm : t ∈ l := List.mem_of_getElem? ht
          have hc1 := hi.clo t htm
          have hc2 := hi.chi t htm
          refine g_fact (fun w hM => own_some (hM.own 1 rfl) (by omega)) ?_
          rintro ⟨rg, cg, hvg, -, -⟩
          simp only [Value.slice.injEq] at hvg
          obtain ⟨rfl, -, rfl⟩ := hvg
          have hthr : thrP (some ⟨rg, 0, none⟩) l.length x.thread = some ((⟨rg, 0, none⟩ : Addr).add (x.thread.toNat * 5)) := by rw [thrP, if_pos hr]; rfl
          rw [hthr]
          refine gskip ?_
          refine hN21 _ _ ?_
          refine gfrom [(3, .pointer _), (6, .pointer _)] ⟨rfl, rfl, trivial⟩ fun σ => ?_
          refine gseq fun N24 hN24 => ?_
          refine gseq fun N25 hN25 => ?_
          refine greg ?_
          refine gop (y_fieldAddr_box fa66_0 rfl) rfl rfl rfl ?_
          refine gop (y_load Try.isAgg3 rfl (cell_box 3 rfl rfl)) rfl rfl rfl ?_
          refine gop (y_eql rfl rfl) rfl rfl rfl ?_
          refine gops_nil ?_
          refine hN25 _ _ ?_
          refine gfrom [(3, .pointer _), (6, .pointer _), (63, .bool _)] ⟨rfl, rfl, rfl, trivial⟩ fun σ => ?_
          refine gcond (b := _) rfl (fun hc63 => ?_) (fun hc63 => ?_)
          · -- slot 63 t
            replace hc63 := of_decide_eq_true hc63
            have hS : stepE (l, text) x.pl = (0, (l.set x.thread.toNat { t with comments := t.comments + 1, resolved := false }, text)) := by rw [hS0, if_pos (show x.pl.kind = 2 from hc63)]
            refine gseq fun N26 hN26 => ?_
            refine greg ?_
            refine gop (y_move (v := .pointer _) rfl) rfl rfl rfl ?_
            refine gop (y_nilCheck rfl) rfl rfl rfl ?_
            refine gop (y_fieldAddr_add fa60_2 rfl) rfl rfl rfl ?_
            refine gop (y_load Try.isAgg3 rfl (cells_rowl 1 (f := thrCells) (l := l) rfl rfl (fun _ => rfl) ht 2 _ rfl)) rfl rfl rfl ?_
            refine gop (y_add rfl rfl ⟨by omega, by omega⟩) rfl rfl rfl ?_
            refine gop (y_nilCheck rfl) rfl rfl rfl ?_
            refine gop (y_fieldAddr_add fa60_2 rfl) rfl rfl rfl ?_
            refine gop_store_row 1 (f := thrCells) (l := l) (k := x.thread.toNat) (o := 2) (v := .int _ _) (a := t) (a' := { t with comments := t.comments + 1 }) (fun _ => rfl) rfl rfl rfl Try.sizeOf3 rfl rfl rfl rfl rfl ht (Nat.le_of_ble_eq_true rfl) rfl rfl ?_
            refine gops_nil ?_
            refine hN26 _ _ ?_
            refine gT [box br _, rowl _ _ _ _ _ _, fr, box b3 _] rfl ?_
            refine gfrom [(6, .pointer _)] ⟨rfl, trivial⟩ fun σ => ?_
            refine gseq fun N27 hN27 => ?_
            refine greg ?_
            refine gop (y_move (v := .pointer _) rfl) rfl rfl rfl ?_
            refine gop (y_nilCheck rfl) rfl rfl rfl ?_
            refine gop (y_fieldAddr_add fa60_4 rfl) rfl rfl rfl ?_
            refine gop_store_row 1 (f := thrCells) (l := l.set x.thread.toNat { t with comments := t.comments + 1 }) (k := x.thread.toNat) (o := 4) (v := .bool _) (a := { t with comments := t.comments + 1 }) (a' := { t with comments := t.comments + 1, resolved := false }) (fun _ => rfl) rfl rfl rfl Try.sizeOf4 rfl rfl rfl rfl (by simp) (by rw [List.getElem?_set_self (List.getElem?_eq_some_iff.1 ht).1]) (Nat.le_of_ble_eq_true rfl) rfl rfl ?_
            refine gops_nil ?_
            refine hN27 _ _ ?_
            refine gT [box br _, rowl _ _ _ _ _ _, fr, box b3 _] rfl ?_
            refine gfrom [] trivial fun σ => ?_
            refine gseq fun N28 hN28 => ?_
            refine greg ?_
            refine gop (y_assign (v := .int _ _) rfl) rfl rfl rfl ?_
            refine gops_nil ?_
            refine hN28 _ _ ?_
            refine gfrom [(4, .int _ _)] ⟨rfl, trivial⟩ fun σ => ?_
            refine gret fun w1 hM => ?_
            refine ⟨_, res1 rfl (rt (v := .int _ _) rfl), ?_⟩
            rw [hS]
            rw [List.set_set] at hM
            have e1 : l.length = (l.set x.thread.toNat { t with comments := t.comments + 1, resolved := false }).length := by simp
            rw [e1] at hM
            exact ⟨tA, tc, _, _, _, rfl, htb, .inl ⟨rfl, rfl⟩, hM⟩
          · -- slot 63 f
            replace hc63 := of_decide_eq_false hc63
            rw [if_neg (show ¬ x.pl.kind = 2 from hc63)] at hS0
            refine gskip ?_
            refine hN24 _ _ ?_
            refine gfrom [(3, .pointer _), (6, .pointer _)] ⟨rfl, rfl, trivial⟩ fun σ => ?_
            refine gseq fun N29 hN29 => ?_
            refine gseq fun N30 hN30 => ?_
            refine greg ?_
            refine gop (y_move (v := .pointer _) rfl) rfl rfl rfl ?_
            refine gop (y_nilCheck rfl) rfl rfl rfl ?_
            refine gop (y_fieldAddr_add fa60_4 rfl) rfl rfl rfl ?_
            refine gop (y_load Try.isAgg4 rfl (cells_rowl 1 (f := thrCells) (l := l) rfl rfl (fun _ => rfl) ht 4 _ rfl)) rfl rfl rfl ?_
            refine gops_nil ?_
            refine hN30 _ _ ?_
            refine gfrom [(3, .pointer _), (6, .pointer _), (77, .bool _)] ⟨rfl, rfl, rfl, trivial⟩ fun σ => ?_
            refine gcond (b := _) rfl (fun hc77 => ?_) (fun hc77 => ?_)
            · -- slot 77 t
              have hS : stepE (l, text) x.pl = (11, (l, text)) := by rw [hS0, if_pos hc77]
              refine gseq fun N31 hN31 => ?_
              refine greg ?_
              refine gop (y_assign (v := .int _ _) rfl) rfl rfl rfl ?_
              refine gops_nil ?_
              refine hN31 _ _ ?_
              refine gfrom [(4, .int _ _)] ⟨rfl, trivial⟩ fun σ => ?_
              refine gret fun w1 hM => ?_
              refine ⟨_, res1 rfl (rt (v := .int _ _) rfl), ?_⟩
              rw [hS]
              exact ⟨tA, tc, _, _, _, rfl, htb, .inl ⟨rfl, rfl⟩, hM⟩
            · -- slot 77 f
              rw [if_neg (by simp [hc77])] at hS0
              refine gskip ?_
              refine hN29 _ _ ?_
              refine gfrom [(3, .pointer _), (6, .pointer _)] ⟨rfl, rfl, trivial⟩ fun σ => ?_
              refine gseq fun N32 hN32 => ?_
              refine gseq fun N33 hN33 => ?_
              refine greg_q (by kernel_rfl) (by kernel_rfl) ?_
              refine gq (y_move (v := .pointer _) rfl) rfl rfl rfl ?_
              refine gq (y_nilCheck rfl) rfl rfl rfl ?_
              refine gq (y_fieldAddr_add fa60_0 rfl) rfl rfl rfl ?_
              refine gq (y_load Try.isAgg3 rfl (cells_rowl 1 (f := thrCells) (l := l) rfl rfl (fun _ => rfl) ht 0 _ rfl)) rfl rfl rfl ?_
              refine gq (y_fieldAddr_box fa66_1 rfl) rfl rfl rfl ?_
              refine gq (y_load Try.isAgg3 rfl (cell_box 3 rfl rfl)) rfl rfl rfl ?_
              refine gq (y_neq rfl rfl) rfl rfl rfl ?_
              refine gqs_nil ?_
              refine hN33 _ _ ?_
              refine gfrom [(6, .pointer _), (84, .bool _)] ⟨rfl, rfl, trivial⟩ fun σ => ?_
              refine gcond (b := _) rfl (fun hc84 => ?_) (fun hc84 => ?_)
              · -- slot 84 t
                replace hc84 := of_decide_eq_true hc84
                have hS : stepE (l, text) x.pl = (13, (l, text)) := by rw [hS0, if_pos (show t.user ≠ x.pl.user from hc84)]
                refine gseq fun N34 hN34 => ?_
                refine greg ?_
                refine gop (y_assign (v := .int _ _) rfl) rfl rfl rfl ?_
                refine gops_nil ?_
                refine hN34 _ _ ?_
                refine gfrom [(4, .int _ _)] ⟨rfl, trivial⟩ fun σ => ?_
                refine gret fun w1 hM => ?_
                refine ⟨_, res1 rfl (rt (v := .int _ _) rfl), ?_⟩
                rw [hS]
                exact ⟨tA, tc, _, _, _, rfl, htb, .inl ⟨rfl, rfl⟩, hM⟩
              · -- slot 84 f
                replace hc84 := Decidable.not_not.1 (of_decide_eq_false hc84)
                have hS : stepE (l, text) x.pl = (0, (l.set x.thread.toNat { t with resolved := true }, text)) := by rw [hS0, if_neg (show ¬ t.user ≠ x.pl.user from fun h => h hc84)]
                refine gskip ?_
                refine hN32 _ _ ?_
                refine gfrom [(6, .pointer _)] ⟨rfl, trivial⟩ fun σ => ?_
                refine gseq fun N35 hN35 => ?_
                refine greg ?_
                refine gop (y_move (v := .pointer _) rfl) rfl rfl rfl ?_
                refine gop (y_nilCheck rfl) rfl rfl rfl ?_
                refine gop (y_fieldAddr_add fa60_4 rfl) rfl rfl rfl ?_
                refine gop_store_row 1 (f := thrCells) (l := l) (k := x.thread.toNat) (o := 4) (v := .bool _) (a := t) (a' := { t with resolved := true }) (fun _ => rfl) rfl rfl rfl Try.sizeOf4 rfl rfl rfl rfl rfl ht (Nat.le_of_ble_eq_true rfl) rfl rfl ?_
                refine gops_nil ?_
                refine hN35 _ _ ?_
                refine gT [box br _, rowl _ _ _ _ _ _, fr, box b3 _] rfl ?_
                refine gfrom [] trivial fun σ => ?_
                refine gseq fun N36 hN36 => ?_
                refine greg ?_
                refine gop (y_assign (v := .int _ _) rfl) rfl rfl rfl ?_
                refine gops_nil ?_
                refine hN36 _ _ ?_
                refine gfrom [(4, .int _ _)] ⟨rfl, trivial⟩ fun σ => ?_
                refine gret fun w1 hM => ?_
                refine ⟨_, res1 rfl (rt (v := .int _ _) rfl), ?_⟩
                rw [hS]
                have e1 : l.length = (l.set x.thread.toNat { t with resolved := true }).length := by simp
                rw [e1] at hM
                exact ⟨tA, tc, _, _, _, rfl, htb, .inl ⟨rfl, rfl⟩, hM⟩
end Go.Proofs.Ytbaojdiccikbiaa
