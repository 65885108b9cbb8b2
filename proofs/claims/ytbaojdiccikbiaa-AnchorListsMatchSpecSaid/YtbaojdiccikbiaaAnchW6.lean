/- walks, printed by program -/
import Derived.Test.YtbaojdiccikbiaaPatchE
namespace Go.Proofs.Ytbaojdiccikbiaa
open Go.RowKit Go.Cf
set_option maxRecDepth 10000

theorem fd27_0 (x0 x1 : Value) (w : World) : (Instr.field 27 (.agg #[x0, x1]) 0).run Try.prog w = .ok x0 w := by kernel_rfl
theorem eq27 (a0 b0 : Int) (a1 b1 : Int) (w : World) : (binOp .eql 27 (.agg #[.int .i64 a0, .int .i64 a1]) (.agg #[.int .i64 b0, .int .i64 b1])).run Try.prog w = .ok (.bool ((decide (a0 = b0) && decide (a1 = b1)))) w := by
  simp [run_eql_struct, run_equalIn_agg, Try.underlying27, Try.stoodInHeld27, Program.fieldsOf, go_sem]
  (repeat' split) <;> simp_all

set_option maxHeartbeats 8000000 in
theorem law6_any (w : World) (A : Option Addr) (c : Nat) (ps : List PatC) (hp : PatsR w 0 A ps) (hm : ps.length ≤ maxLen) (B : Option Addr) (d : Nat) (hs : List HunkC) (hq : PatR w 0 B d hs) (line n : Int) :
    Calls Try.prog 3 #[.slice A ps.length c, .agg #[.slice B hs.length d], .int .i64 line, .int .i64 n] w fun e w' => e = .returned (.bool true) ∧ Below w.heap.size w w' := by
  have hmx : maxLen = 9223372036854775807 := rfl
  have hhl := Nat.le_trans hq.sb.len hq.sb.max
  refine gcalls Try.func3 rfl Try.ntmps3 (Nat.le_of_ble_eq_true rfl) ?_
  refine gfrom [(0, .slice _ _ _), (1, .agg #[_]), (2, .int _ _), (3, .int _ _)] ⟨rfl, rfl, rfl, rfl, trivial⟩ fun σ => ?_
  refine gseq fun N1 hN1 => ?_
  refine greg ?_
  refine gop_box (v := .agg #[_]) (cs := #[_]) rfl rfl rfl (fun b5 hb5 => ?_)
  refine gop (y_assign (v := .bool _) rfl) rfl rfl rfl ?_
  refine gops_nil ?_
  refine hN1 _ _ ?_
  refine gT [box b5 _] rfl ?_
  refine gfrom [(0, .slice _ _ _), (2, .int _ _), (3, .int _ _), (5, .pointer _)] ⟨rfl, rfl, rfl, rfl, trivial⟩ fun σ => ?_
  refine gseq fun N2 hN2 => ?_
  refine greg ?_
  refine gop (y_move (v := .slice _ _ _) rfl) rfl rfl rfl ?_
  refine gop (y_move (v := .int _ _) rfl) rfl rfl rfl ?_
  refine gop_pure (e_call (vs := [.slice _ _ _, .int _ _]) Try.func13 rfl (by kernel_rfl) rfl) (fun w hM => through_any w _ _ ps (PatsR.lasts.base hp hM) hm line) rfl rfl rfl ?_
  refine gop (y_move (v := .tuple #[.int _ _, .int _ _, .agg #[_, _]]) rfl) rfl rfl rfl ?_
  refine gop (y_extract (v := .int _ _) rfl rfl) rfl rfl rfl ?_
  refine gop (y_extract (v := .int _ _) rfl rfl) rfl rfl rfl ?_
  refine gop (y_extract (v := .agg #[_, _]) rfl rfl) rfl rfl rfl ?_
  refine gop_alloc (cs := #[.int .i64 0, .int .i64 0]) Try.zeroValue27 rfl rfl (fun b11 hb11 => ?_)
  refine gop (y_assign (v := .int _ _) rfl) rfl rfl rfl ?_
  refine gop (y_assign (v := .int _ _) rfl) rfl rfl rfl ?_
  refine gop_store 1 (v := .agg #[_, _]) (cs' := #[_, _]) rfl rfl Try.sizeOf27 rfl rfl rfl rfl (Nat.le_of_ble_eq_true rfl) rfl rfl ?_
  refine gops_nil ?_
  refine hN2 _ _ ?_
  refine gT [box b5 _, box b11 _] rfl ?_
  refine gfrom [(0, .slice _ _ _), (2, .int _ _), (3, .int _ _), (5, .pointer _), (9, .int _ _), (10, .int _ _), (11, .pointer _)] ⟨rfl, rfl, rfl, rfl, rfl, rfl, rfl, trivial⟩ fun σ => ?_
  refine gseq fun N3 hN3 => ?_
  refine greg ?_
  refine gop (y_loads (cs := [_]) Try.isAgg25 Try.sizeOf25 rfl rfl (cells_box 0 rfl)) rfl rfl rfl ?_
  refine gop (y_move (v := .int _ _) rfl) rfl rfl rfl ?_
  refine gop_new (fun lo ws v => ∃ v1, v = .tuple #[v1, fv (keptF (pls hs) n)] ∧ NewL 1 intCells (keptR (pls hs) n) lo ws v1) (e_call (vs := [.agg #[_], .int _ _]) Try.func14 rfl (by kernel_rfl) rfl) (fun w hM => by have hc := kept_any w B d hs (PatR.lasts.base hq hM) n; exact hc.mono fun _ _ ⟨v, h1, h2, h3⟩ => ⟨_, h1, h2, v, rfl, h3⟩) rfl rfl rfl ?_
  rintro _ lo35 ws35 hlo35 ⟨_, rfl, A35, c35, rfl, hcc35, hcm35, hr35⟩
  refine gop (y_move (v := .tuple #[.slice _ _ _, .agg #[_, _]]) rfl) rfl rfl rfl ?_
  refine gop (y_extract (v := .slice _ _ _) rfl rfl) rfl rfl rfl ?_
  refine gop (y_extract (v := .agg #[_, _]) rfl rfl) rfl rfl rfl ?_
  refine gop_alloc (cs := #[.int .i64 0, .int .i64 0]) Try.zeroValue27 rfl rfl (fun b13 hb13 => ?_)
  refine gop (y_assign (v := .slice _ _ _) rfl) rfl rfl rfl ?_
  refine gop_store 3 (v := .agg #[_, _]) (cs' := #[_, _]) rfl rfl Try.sizeOf27 rfl rfl rfl rfl (Nat.le_of_ble_eq_true rfl) rfl rfl ?_
  refine gops_nil ?_
  refine hN3 _ _ ?_
  refine gT [box b5 _, box b11 _, seal_ _ _, box b13 _] rfl ?_
  refine gfrom [(0, .slice _ _ _), (2, .int _ _), (3, .int _ _), (5, .pointer _), (9, .int _ _), (10, .int _ _), (11, .pointer _), (12, .slice _ _ _), (13, .pointer _)] ⟨rfl, rfl, rfl, rfl, rfl, rfl, rfl, rfl, rfl, trivial⟩ fun σ => ?_
  refine gseq fun N4 hN4 => ?_
  refine gseq fun N5 hN5 => ?_
  refine greg ?_
  refine gop_pure (e_call (vs := []) Try.func15 rfl (by kernel_rfl) rfl) (fun w hM => anchorExample_any w) rfl rfl rfl ?_
  refine gop (y_not rfl) rfl rfl rfl ?_
  refine gops_nil ?_
  refine hN5 _ _ ?_
  refine gfrom [(0, .slice _ _ _), (2, .int _ _), (3, .int _ _), (5, .pointer _), (9, .int _ _), (10, .int _ _), (11, .pointer _), (12, .slice _ _ _), (13, .pointer _), (39, .bool _)] ⟨rfl, rfl, rfl, rfl, rfl, rfl, rfl, rfl, rfl, rfl, trivial⟩ fun σ => ?_
  refine gcond (b := _) rfl (fun hc39 => ?_) (fun hc39 => ?_)
  · -- slot 39 t
    simp at hc39
  · -- slot 39 f
    replace hc39 := not_f hc39
    refine gskip ?_
    refine hN4 _ _ ?_
    refine gfrom [(0, .slice _ _ _), (2, .int _ _), (3, .int _ _), (5, .pointer _), (9, .int _ _), (10, .int _ _), (11, .pointer _), (12, .slice _ _ _), (13, .pointer _)] ⟨rfl, rfl, rfl, rfl, rfl, rfl, rfl, rfl, rfl, trivial⟩ fun σ => ?_
    refine gseq fun N6 hN6 => ?_
    refine greg ?_
    refine gop (y_build (vs := []) (cells := #[.int .i64 0, .int .i64 0]) rfl bd27_) rfl rfl rfl ?_
    refine gop_alloc (cs := #[.int .i64 0, .int .i64 0]) Try.zeroValue27 rfl rfl (fun b14 hb14 => ?_)
    refine gop_store 4 (v := .agg #[_, _]) (cs' := #[_, _]) rfl rfl Try.sizeOf27 rfl rfl rfl rfl (Nat.le_of_ble_eq_true rfl) rfl rfl ?_
    refine gops_nil ?_
    refine hN6 _ _ ?_
    refine gT [box b5 _, box b11 _, seal_ _ _, box b13 _, box b14 _] rfl ?_
    refine gfrom [(0, .slice _ _ _), (2, .int _ _), (3, .int _ _), (5, .pointer _), (9, .int _ _), (10, .int _ _), (11, .pointer _), (12, .slice _ _ _), (13, .pointer _), (14, .pointer _)] ⟨rfl, rfl, rfl, rfl, rfl, rfl, rfl, rfl, rfl, rfl, trivial⟩ fun σ => ?_
    refine gseq fun N7 hN7 => ?_
    refine gfrom [(0, .slice _ _ _), (2, .int _ _), (3, .int _ _), (5, .pointer _), (9, .int _ _), (10, .int _ _), (11, .pointer _), (12, .slice _ _ _), (13, .pointer _), (14, .pointer _)] ⟨rfl, rfl, rfl, rfl, rfl, rfl, rfl, rfl, rfl, rfl, trivial⟩ fun σ => ?_
    refine gcut3 (Lf := [(0, .slice _ _ _), (2, .int _ _), (3, .int _ _), (5, .pointer _), (9, .int _ _), (10, .int _ _), (11, .pointer _), (12, .slice _ _ _), (13, .pointer _), (14, .pointer _)]) (G := Unit) (fun g => True) (fun g => []) (fun g => [(4, box b14 (.cells #[.int .i64 (baseF ps.length line).code, .int .i64 (baseF ps.length line).index] 27))]) ⟨rfl, rfl, rfl, rfl, rfl, rfl, rfl, rfl, rfl, rfl, trivial⟩ ?_ ?_
    ·
      refine gseq fun N8 hN8 => ?_
      refine greg ?_
      refine gop (y_move (v := .slice _ _ _) rfl) rfl rfl rfl ?_
      refine gop (y_len Try.underlying22 rfl) rfl rfl rfl ?_
      refine gop (y_gtr rfl rfl) rfl rfl rfl ?_
      refine gops_nil ?_
      refine hN8 _ _ ?_
      refine gfrom [(0, .slice _ _ _), (2, .int _ _), (3, .int _ _), (5, .pointer _), (9, .int _ _), (10, .int _ _), (11, .pointer _), (12, .slice _ _ _), (13, .pointer _), (14, .pointer _), (43, .bool _)] ⟨rfl, rfl, rfl, rfl, rfl, rfl, rfl, rfl, rfl, rfl, rfl, trivial⟩ fun σ => ?_
      refine gcond (b := _) rfl (fun hc43 => ?_) (fun hc43 => ?_)
      · -- slot 43 t
        replace hc43 := of_decide_eq_true hc43
        have hF : baseF ps.length line = ⟨2, -1⟩ := by rw [baseF, if_pos (by omega)]
        refine greg ?_
        refine gop_pure (e_call (vs := [_, _]) Try.func16 rfl (by kernel_rfl) rfl) (fun w hM => fault_any w _ _) rfl rfl rfl ?_
        refine gop_store 4 (v := .agg #[_, _]) (cs' := #[_, _]) rfl rfl Try.sizeOf27 rfl rfl rfl rfl (Nat.le_of_ble_eq_true rfl) rfl rfl ?_
        refine gops_nil ?_
        rw [hF]
        refine gcut3_end (()) (trivial) trivial ⟨rfl, rfl, rfl, rfl, rfl, rfl, rfl, rfl, rfl, rfl, trivial⟩ ⟨_, rfl⟩
      · -- slot 43 f
        replace hc43 := of_decide_eq_false hc43
        have hF : baseF ps.length line = rangeF line := by rw [baseF, if_neg (by omega)]
        refine greg ?_
        refine gop (y_move (v := .int _ _) rfl) rfl rfl rfl ?_
        refine gop_pure (e_call (vs := [.int _ _]) Try.func17 rfl (by kernel_rfl) rfl) (fun w hM => rangeFault_any w _) rfl rfl rfl ?_
        refine gop_store 4 (v := .agg #[_, _]) (cs' := #[_, _]) rfl rfl Try.sizeOf27 rfl rfl rfl rfl (Nat.le_of_ble_eq_true rfl) rfl rfl ?_
        refine gops_nil ?_
        rw [hF]
        refine gcut3_end (()) (trivial) trivial ⟨rfl, rfl, rfl, rfl, rfl, rfl, rfl, rfl, rfl, rfl, trivial⟩ ⟨_, rfl⟩
    ·
      intro g hcut σ
      refine hN7 _ _ ?_
      refine gseq fun N9 hN9 => ?_
      refine gT [box b5 _, box b11 _, seal_ _ _, box b13 _, box b14 _] rfl ?_
      refine gfrom [(0, .slice _ _ _), (2, .int _ _), (3, .int _ _), (5, .pointer _), (9, .int _ _), (10, .int _ _), (11, .pointer _), (12, .slice _ _ _), (13, .pointer _), (14, .pointer _)] ⟨rfl, rfl, rfl, rfl, rfl, rfl, rfl, rfl, rfl, rfl, trivial⟩ fun σ => ?_
      refine gcut3 (Lf := [(0, .slice _ _ _), (2, .int _ _), (3, .int _ _), (5, .pointer _), (9, .int _ _), (10, .int _ _), (11, .pointer _), (12, .slice _ _ _), (13, .pointer _), (14, .pointer _)]) (G := Unit) (fun g => True) (fun g => []) (fun g => [(4, box b14 (.cells #[.int .i64 (throughF (ps.map PatC.pl) line).code, .int .i64 (throughF (ps.map PatC.pl) line).index] 27))]) ⟨rfl, rfl, rfl, rfl, rfl, rfl, rfl, rfl, rfl, rfl, trivial⟩ ?_ ?_
      ·
        refine gseq fun N10 hN10 => ?_
        refine greg ?_
        refine gop (y_assign (v := .int _ _) rfl) rfl rfl rfl ?_
        refine gops_nil ?_
        refine hN10 _ _ ?_
        refine gfrom [(0, .slice _ _ _), (2, .int _ _), (3, .int _ _), (5, .pointer _), (9, .int _ _), (10, .int _ _), (11, .pointer _), (12, .slice _ _ _), (13, .pointer _), (14, .pointer _), (15, .int _ _)] ⟨rfl, rfl, rfl, rfl, rfl, rfl, rfl, rfl, rfl, rfl, rfl, trivial⟩ fun σ => ?_
        refine gblock ?_
        refine gfrom2 [(15, .int _ _)] [(0, .slice _ _ _), (2, .int _ _), (3, .int _ _), (5, .pointer _), (9, .int _ _), (10, .int _ _), (11, .pointer _), (12, .slice _ _ _), (13, .pointer _), (14, .pointer _)] ⟨rfl, trivial⟩ ⟨rfl, rfl, rfl, rfl, rfl, rfl, rfl, rfl, rfl, rfl, trivial⟩ fun σ => ?_
        refine gloop2 (G := Nat × Fault) (fun (k, f) => k ≤ ps.length ∧ (f.code = 0 → ps.length ≤ 12 ∧ isLine line = true ∧ f = ⟨0, 0⟩ ∧ ∀ j (h : j < (ps.map PatC.pl).length), j < k → (patchF (ps.map PatC.pl)[j]).code = 0) ∧ (f.code ≠ 0 → throughF (ps.map PatC.pl) line = f)) (fun (k, f) => ps.length - k) (fun (k, f) => [(15, .int .i64 (k : Int))]) (fun (k, f) => [(4, box b14 (.cells #[.int .i64 (f).code, .int .i64 (f).index] 27))]) ((0, baseF ps.length line)) ?h0 ⟨rfl, trivial⟩ ⟨rfl, rfl, rfl, rfl, rfl, rfl, rfl, rfl, rfl, rfl, trivial⟩ rfl ?round
        case h0 => exact ⟨Nat.zero_le _, fun h => ⟨(baseF_zero h).1, (baseF_zero h).2.1, (baseF_zero h).2.2, fun _ _ h => absurd h (Nat.not_lt_zero _)⟩, fun h => baseF_ne2 h⟩
        case round =>
          rintro ⟨k, f⟩ hφ σ
          obtain ⟨hk, hok, hne⟩ := hφ
          refine gT [box b5 _, box b11 _, seal_ _ _, box b13 _, box _ _] rfl ?_
          refine gseq fun N11 hN11 => ?_
          refine gseq fun N12 hN12 => ?_
          refine greg ?_
          refine gop (y_move (v := .int _ _) rfl) rfl rfl rfl ?_
          refine gop (y_move (v := .slice _ _ _) rfl) rfl rfl rfl ?_
          refine gop (y_len Try.underlying22 rfl) rfl rfl rfl ?_
          refine gop (y_lss rfl rfl) rfl rfl rfl ?_
          refine gop (y_move (v := .bool _) rfl) rfl rfl rfl ?_
          refine gop_if (want := true) rfl rfl rfl rfl rfl rfl (fun hg51 => ?_) (fun hg51 => ?_)
          · -- guard 51 on
            have hg51d := of_decide_eq_true hg51
            refine gop (y_bare (y_fieldAddr_box fa27_0 rfl)) rfl rfl rfl ?_
            refine gop_on rfl rfl rfl rfl hg51 ?_
            refine gop (y_bare (y_load Try.isAgg3 rfl (cell_box 4 rfl rfl))) rfl rfl rfl ?_
            refine gop_on rfl rfl rfl rfl hg51 ?_
            refine gop (y_bare (y_eql rfl rfl)) rfl rfl rfl ?_
            refine gop (y_pick_t (v := .bool _) rfl hg51 rfl) rfl rfl rfl ?_
            refine gops_nil ?_
            refine hN12 _ _ ?_
            refine gfrom [(0, .slice _ _ _), (2, .int _ _), (3, .int _ _), (5, .pointer _), (9, .int _ _), (10, .int _ _), (11, .pointer _), (12, .slice _ _ _), (13, .pointer _), (14, .pointer _), (15, .int _ _), (55, .bool _)] ⟨rfl, rfl, rfl, rfl, rfl, rfl, rfl, rfl, rfl, rfl, rfl, rfl, trivial⟩ fun σ => ?_
            refine gcond (b := _) rfl (fun hc55 => ?_) (fun hc55 => ?_)
            · -- slot 55 t
              replace hc55 := of_decide_eq_true hc55
              obtain ⟨h12, hil, hf0, hz⟩ := hok hc55
              have hk1 : k < ps.length := by omega
              have hk2 : k < (ps.map PatC.pl).length := by simpa using hk1
              obtain ⟨ad, rfl, -, hcv⟩ := hp.rd.at_ hk1
              have hpk := hp.each _ (List.getElem_mem hk1)
              refine gskip ?_
              refine hN11 _ _ ?_
              refine gfrom [(0, .slice _ _ _), (2, .int _ _), (3, .int _ _), (5, .pointer _), (9, .int _ _), (10, .int _ _), (11, .pointer _), (12, .slice _ _ _), (13, .pointer _), (14, .pointer _), (15, .int _ _)] ⟨rfl, rfl, rfl, rfl, rfl, rfl, rfl, rfl, rfl, rfl, rfl, trivial⟩ fun σ => ?_
              refine gseq fun N13 hN13 => ?_
              refine gblock ?_
              refine gseq fun N14 hN14 => ?_
              refine greg ?_
              refine gop (y_move (v := .slice _ _ _) rfl) rfl rfl rfl ?_
              refine gop (y_move (v := .int _ _) rfl) rfl rfl rfl ?_
              refine gop (y_indexAddr Try.underlying22 Try.sizeOf25 rfl rfl rfl (by omega) (by omega)) rfl rfl rfl ?_
              refine gop (y_loads (cs := [_]) Try.isAgg25 Try.sizeOf25 rfl rfl (cells_base hcv)) rfl rfl rfl ?_
              refine gop_pure (e_call (vs := [.agg #[_]]) Try.func18 rfl (by kernel_rfl) rfl) (fun w hM => patchValidate_any w _ _ ps[k].hs (PatR.lasts.base hpk hM)) rfl rfl rfl ?_
              refine gop (y_field (cs := #[_, _]) rfl (fd27_0 _ _)) rfl rfl rfl ?_
              refine gop (y_neq rfl rfl) rfl rfl rfl ?_
              refine gops_nil ?_
              refine hN14 _ _ ?_
              refine gfrom [(0, .slice _ _ _), (2, .int _ _), (3, .int _ _), (5, .pointer _), (9, .int _ _), (10, .int _ _), (11, .pointer _), (12, .slice _ _ _), (13, .pointer _), (14, .pointer _), (15, .int _ _), (64, .bool _)] ⟨rfl, rfl, rfl, rfl, rfl, rfl, rfl, rfl, rfl, rfl, rfl, rfl, trivial⟩ fun σ => ?_
              refine gcond (b := _) rfl (fun hc64 => ?_) (fun hc64 => ?_)
              · -- slot 64 t
                replace hc64 := of_decide_eq_true hc64
                refine greg ?_
                refine gop (y_move (v := .slice _ _ _) rfl) rfl rfl rfl ?_
                refine gop (y_move (v := .int _ _) rfl) rfl rfl rfl ?_
                refine gop (y_indexAddr Try.underlying22 Try.sizeOf25 rfl rfl rfl (by omega) (by omega)) rfl rfl rfl ?_
                refine gop (y_loads (cs := [_]) Try.isAgg25 Try.sizeOf25 rfl rfl (cells_base hcv)) rfl rfl rfl ?_
                refine gop_pure (e_call (vs := [.agg #[_]]) Try.func18 rfl (by kernel_rfl) rfl) (fun w hM => patchValidate_any w _ _ ps[k].hs (PatR.lasts.base hpk hM)) rfl rfl rfl ?_
                refine gop (y_field (cs := #[_, _]) rfl (fd27_0 _ _)) rfl rfl rfl ?_
                refine gop (y_move (v := .int _ _) rfl) rfl rfl rfl ?_
                refine gop_pure (e_call (vs := [.int _ _, .int _ _]) Try.func16 rfl (by kernel_rfl) rfl) (fun w hM => fault_any w _ _) rfl rfl rfl ?_
                refine gop_store 4 (v := .agg #[_, _]) (cs' := #[_, _]) rfl rfl Try.sizeOf27 rfl rfl rfl rfl (Nat.le_of_ble_eq_true rfl) rfl rfl ?_
                refine gops_nil ?_
                refine hN13 _ _ ?_
                refine gT [box b5 _, box b11 _, seal_ _ _, box b13 _, box _ _] rfl ?_
                refine gfrom [(0, .slice _ _ _), (2, .int _ _), (3, .int _ _), (5, .pointer _), (9, .int _ _), (10, .int _ _), (11, .pointer _), (12, .slice _ _ _), (13, .pointer _), (14, .pointer _), (15, .int _ _)] ⟨rfl, rfl, rfl, rfl, rfl, rfl, rfl, rfl, rfl, rfl, rfl, trivial⟩ fun σ => ?_
                refine greg ?_
                refine gop (y_move (v := .int _ _) rfl) rfl rfl rfl ?_
                refine gop (y_add rfl rfl ⟨by omega, by omega⟩) rfl rfl rfl ?_
                refine gop (y_assign (v := .int _ _) rfl) rfl rfl rfl ?_
                refine gops_nil ?_
                refine gnext2 ((k + 1, ⟨(patchF ps[k].pl).code, k⟩)) (by show ps.length - (k + 1) < ps.length - k; omega) (⟨show k + 1 ≤ _ by omega, fun h => absurd h hc64, fun _ => by rw [throughF_scan (by simpa using h12) hil, scan_at hk2 hz (by simpa using hc64)]; simp⟩) ⟨rfl, trivial⟩ ⟨rfl, rfl, rfl, rfl, rfl, rfl, rfl, rfl, rfl, rfl, trivial⟩ ⟨_, rfl⟩
              · -- slot 64 f
                replace hc64 := Decidable.not_not.1 (of_decide_eq_false hc64)
                refine gskip ?_
                refine hN13 _ _ ?_
                refine gfrom [(0, .slice _ _ _), (2, .int _ _), (3, .int _ _), (5, .pointer _), (9, .int _ _), (10, .int _ _), (11, .pointer _), (12, .slice _ _ _), (13, .pointer _), (14, .pointer _), (15, .int _ _)] ⟨rfl, rfl, rfl, rfl, rfl, rfl, rfl, rfl, rfl, rfl, rfl, trivial⟩ fun σ => ?_
                refine greg ?_
                refine gop (y_move (v := .int _ _) rfl) rfl rfl rfl ?_
                refine gop (y_add rfl rfl ⟨by omega, by omega⟩) rfl rfl rfl ?_
                refine gop (y_assign (v := .int _ _) rfl) rfl rfl rfl ?_
                refine gops_nil ?_
                refine gnext2 ((k + 1, f)) (by show ps.length - (k + 1) < ps.length - k; omega) (⟨show k + 1 ≤ _ by omega, fun _ => ⟨h12, hil, hf0, fun j h hj => by rcases Nat.lt_succ_iff_lt_or_eq.1 hj with h1 | rfl; exact hz j h h1; rw [List.getElem_map]; exact hc64⟩, hne⟩) ⟨rfl, trivial⟩ ⟨rfl, rfl, rfl, rfl, rfl, rfl, rfl, rfl, rfl, rfl, trivial⟩ ⟨_, rfl⟩
            · -- slot 55 f
              replace hc55 := of_decide_eq_false hc55
              refine gexit ?_
              rw [hne hc55]
              refine gcut3_end (()) (trivial) trivial ⟨rfl, rfl, rfl, rfl, rfl, rfl, rfl, rfl, rfl, rfl, trivial⟩ ⟨_, rfl⟩
          · -- guard 51 off
            have hg51d := of_decide_eq_false hg51
            have hE : throughF (ps.map PatC.pl) line = f := by
              by_cases h0 : f.code = 0
              · obtain ⟨h12, hil, hf0, hz⟩ := hok h0
                rw [throughF_scan (by simpa using h12) hil, hf0]
                exact scan_ok fun j hj => hz j hj (by simp at hj; omega)
              · exact hne h0
            refine gop_off rfl rfl rfl rfl hg51 rfl rfl ?_
            refine gop_off rfl rfl rfl rfl hg51 rfl rfl ?_
            refine gop (y_pick_f (v := .bool _) rfl hg51 rfl) rfl rfl rfl ?_
            refine gops_nil ?_
            refine hN12 _ _ ?_
            refine gfrom [(0, .slice _ _ _), (2, .int _ _), (3, .int _ _), (5, .pointer _), (9, .int _ _), (10, .int _ _), (11, .pointer _), (12, .slice _ _ _), (13, .pointer _), (14, .pointer _), (15, .int _ _), (55, .bool _)] ⟨rfl, rfl, rfl, rfl, rfl, rfl, rfl, rfl, rfl, rfl, rfl, rfl, trivial⟩ fun σ => ?_
            refine gcond (b := _) rfl (fun hc55 => ?_) (fun hc55 => ?_)
            · -- slot 55 t
              cases hc55
            · -- slot 55 f
              refine gexit ?_
              rw [hE]
              refine gcut3_end (()) (trivial) trivial ⟨rfl, rfl, rfl, rfl, rfl, rfl, rfl, rfl, rfl, rfl, trivial⟩ ⟨_, rfl⟩
      ·
        intro g hcut σ
        refine hN9 _ _ ?_
        refine gseq fun N15 hN15 => ?_
        refine greg ?_
        refine gop (y_move (v := .int _ _) rfl) rfl rfl rfl ?_
        refine gop (y_assign (v := .int _ _) rfl) rfl rfl rfl ?_
        refine gops_nil ?_
        refine hN15 _ _ ?_
        refine gT [box b5 _, box b11 _, seal_ _ _, box b13 _, box b14 _] rfl ?_
        refine gfrom [(0, .slice _ _ _), (3, .int _ _), (5, .pointer _), (9, .int _ _), (10, .int _ _), (11, .pointer _), (12, .slice _ _ _), (13, .pointer _), (14, .pointer _), (16, .int _ _)] ⟨rfl, rfl, rfl, rfl, rfl, rfl, rfl, rfl, rfl, rfl, trivial⟩ fun σ => ?_
        refine gseq fun N16 hN16 => ?_
        refine greg ?_
        refine gop (y_assign (v := .int _ _) rfl) rfl rfl rfl ?_
        refine gops_nil ?_
        refine hN16 _ _ ?_
        refine gfrom [(0, .slice _ _ _), (3, .int _ _), (5, .pointer _), (9, .int _ _), (10, .int _ _), (11, .pointer _), (12, .slice _ _ _), (13, .pointer _), (14, .pointer _), (16, .int _ _), (17, .int _ _)] ⟨rfl, rfl, rfl, rfl, rfl, rfl, rfl, rfl, rfl, rfl, rfl, trivial⟩ fun σ => ?_
        refine gseq fun N17 hN17 => ?_
        refine gfrom [(0, .slice _ _ _), (3, .int _ _), (5, .pointer _), (9, .int _ _), (10, .int _ _), (11, .pointer _), (12, .slice _ _ _), (13, .pointer _), (14, .pointer _), (16, .int _ _), (17, .int _ _)] ⟨rfl, rfl, rfl, rfl, rfl, rfl, rfl, rfl, rfl, rfl, rfl, trivial⟩ fun σ => ?_
        refine gcut3 (Lf := [(3, .int _ _), (5, .pointer _), (9, .int _ _), (10, .int _ _), (11, .pointer _), (12, .slice _ _ _), (13, .pointer _), (14, .pointer _)]) (G := Int × Nat) (fun (wn, m) => (throughF (ps.map PatC.pl) line).code = 0 → wn < 120 → throughV (ps.map PatC.pl) line = (wn, m)) (fun (wn, m) => [(16, .int .i64 wn), (17, .int .i64 (m : Int))]) (fun (wn, m) => []) ⟨rfl, rfl, rfl, rfl, rfl, rfl, rfl, rfl, trivial⟩ ?_ ?_
        ·
          refine gblock ?_
          refine gfrom2 [(16, .int _ _), (17, .int _ _)] [(0, .slice _ _ _), (3, .int _ _), (5, .pointer _), (9, .int _ _), (10, .int _ _), (11, .pointer _), (12, .slice _ _ _), (13, .pointer _), (14, .pointer _)] ⟨rfl, rfl, trivial⟩ ⟨rfl, rfl, rfl, rfl, rfl, rfl, rfl, rfl, rfl, trivial⟩ fun σ => ?_
          refine gloop2 (G := Int × Nat) (fun (wn, k) => k ≤ ps.length ∧ ((throughF (ps.map PatC.pl) line).code = 0 → 0 ≤ wn ∧ through (ps.map PatC.pl) line = ((through ((ps.map PatC.pl).drop k) wn).1, (through ((ps.map PatC.pl).drop k) wn).2 + k))) (fun (wn, k) => ps.length - k) (fun (wn, k) => [(16, .int .i64 wn), (17, .int .i64 (k : Int))]) (fun (wn, k) => []) ((line, 0)) ?h0 ⟨rfl, rfl, trivial⟩ ⟨rfl, rfl, rfl, rfl, rfl, rfl, rfl, rfl, rfl, trivial⟩ rfl ?round
          case h0 => exact ⟨Nat.zero_le _, fun h => ⟨(isLine_t (throughF_all h).2.1).1, rfl⟩⟩
          case round =>
            rintro ⟨wn, k⟩ hφ σ
            obtain ⟨hk, hok⟩ := hφ
            refine gseq fun N18 hN18 => ?_
            refine gseq fun N19 hN19 => ?_
            refine greg ?_
            refine gop (y_fieldAddr_box fa27_0 rfl) rfl rfl rfl ?_
            refine gop (y_load Try.isAgg3 rfl (cell_box 4 rfl rfl)) rfl rfl rfl ?_
            refine gop (y_eql rfl rfl) rfl rfl rfl ?_
            refine gop (y_move (v := .bool _) rfl) rfl rfl rfl ?_
            refine gop_if (want := true) rfl rfl rfl rfl rfl rfl (fun hg77 => ?_) (fun hg77 => ?_)
            · -- guard 77 on
              have hg77d := of_decide_eq_true hg77
              refine gop (y_bare (y_move (v := .int _ _) rfl)) rfl rfl rfl ?_
              refine gop_on rfl rfl rfl rfl hg77 ?_
              refine gop (y_bare (y_move (v := .slice _ _ _) rfl)) rfl rfl rfl ?_
              refine gop_on rfl rfl rfl rfl hg77 ?_
              refine gop (y_bare (y_len Try.underlying22 rfl)) rfl rfl rfl ?_
              refine gop_on rfl rfl rfl rfl hg77 ?_
              refine gop (y_bare (y_lss rfl rfl)) rfl rfl rfl ?_
              refine gop (y_pick_t (v := .bool _) rfl hg77 rfl) rfl rfl rfl ?_
              refine gop (y_move (v := .bool _) rfl) rfl rfl rfl ?_
              refine gop_if (want := true) rfl rfl rfl rfl rfl rfl (fun hg83 => ?_) (fun hg83 => ?_)
              · -- guard 83 on
                have hg83d := of_decide_eq_true hg83
                refine gop (y_bare (y_move (v := .int _ _) rfl)) rfl rfl rfl ?_
                refine gop_on rfl rfl rfl rfl hg83 ?_
                refine gop (y_bare (y_lss rfl rfl)) rfl rfl rfl ?_
                refine gop (y_pick_t (v := .bool _) rfl hg83 rfl) rfl rfl rfl ?_
                refine gops_nil ?_
                refine hN19 _ _ ?_
                refine gfrom [(0, .slice _ _ _), (3, .int _ _), (5, .pointer _), (9, .int _ _), (10, .int _ _), (11, .pointer _), (12, .slice _ _ _), (13, .pointer _), (14, .pointer _), (16, .int _ _), (17, .int _ _), (86, .bool _)] ⟨rfl, rfl, rfl, rfl, rfl, rfl, rfl, rfl, rfl, rfl, rfl, rfl, trivial⟩ fun σ => ?_
                refine gcond (b := _) rfl (fun hc86 => ?_) (fun hc86 => ?_)
                · -- slot 86 t
                  replace hc86 := of_decide_eq_true hc86
                  obtain ⟨hw0, hT⟩ := hok hg77d
                  obtain ⟨u, rfl⟩ := Int.eq_ofNat_of_zero_le hw0
                  have hk1 : k < ps.length := by omega
                  have hk2 : k < (ps.map PatC.pl).length := by simpa using hk1
                  obtain ⟨ad, rfl, -, hcv⟩ := hp.rd.at_ hk1
                  have hpk := hp.each _ (List.getElem_mem hk1)
                  have hv := (throughF_all hg77d).2.2.2 k hk2
                  rw [List.getElem_map] at hv
                  have hD := through_drop hk2 (u : Int)
                  rw [List.getElem_map] at hD
                  refine gskip ?_
                  refine hN18 _ _ ?_
                  refine gfrom [(0, .slice _ _ _), (3, .int _ _), (5, .pointer _), (9, .int _ _), (10, .int _ _), (11, .pointer _), (12, .slice _ _ _), (13, .pointer _), (14, .pointer _), (16, .int _ _), (17, .int _ _)] ⟨rfl, rfl, rfl, rfl, rfl, rfl, rfl, rfl, rfl, rfl, rfl, trivial⟩ fun σ => ?_
                  refine gblock ?_
                  refine gseq fun N20 hN20 => ?_
                  refine greg ?_
                  refine gop (y_move (v := .slice _ _ _) rfl) rfl rfl rfl ?_
                  refine gop (y_move (v := .int _ _) rfl) rfl rfl rfl ?_
                  refine gop (y_indexAddr Try.underlying22 Try.sizeOf25 rfl rfl rfl (by omega) (by omega)) rfl rfl rfl ?_
                  refine gop (y_loads (cs := [_]) Try.isAgg25 Try.sizeOf25 rfl rfl (cells_base hcv)) rfl rfl rfl ?_
                  refine gop_pure (e_call (vs := [.agg #[_]]) Try.func19 rfl (by kernel_rfl) rfl) (fun w hM => trace_any w _ _ ps[k].hs (PatR.lasts.base hpk hM) hv) rfl rfl rfl ?_
                  refine gop (y_move (v := .tuple #[.agg _, .agg _]) rfl) rfl rfl rfl ?_
                  refine gop (y_extract (v := .agg _) rfl rfl) rfl rfl rfl ?_
                  refine gop (y_extract (v := .agg _) rfl rfl) rfl rfl rfl ?_
                  refine gop_alloc (cs := ((List.replicate 130 (0 : Int)).flatMap intCells).toArray) zvInts rfl rfl (fun b18 hb18 => ?_)
                  refine gop_alloc (cs := ((List.replicate 130 false).flatMap boolCells).toArray) zvBools rfl rfl (fun b19 hb19 => ?_)
                  refine gop_store_flat 5 (f := intCells) wide_int rfl rfl szInts (by rw [traceP_len]) rfl (by rw [traceP_len]; rfl) rfl ?_
                  refine gop_store_flat 6 (f := boolCells) wide_bool rfl rfl szBools (by rw [traceK_len]) rfl (by rw [traceK_len]; rfl) rfl ?_
                  refine gops_nil ?_
                  refine hN20 _ _ ?_
                  refine gT [box b5 _, box b11 _, seal_ _ _, box b13 _, box b14 _, box b18 _, box b19 _] rfl ?_
                  refine gfrom [(0, .slice _ _ _), (3, .int _ _), (5, .pointer _), (9, .int _ _), (10, .int _ _), (11, .pointer _), (12, .slice _ _ _), (13, .pointer _), (14, .pointer _), (16, .int _ _), (17, .int _ _), (18, .pointer _), (19, .pointer _)] ⟨rfl, rfl, rfl, rfl, rfl, rfl, rfl, rfl, rfl, rfl, rfl, rfl, rfl, trivial⟩ fun σ => ?_
                  refine gseq fun N21 hN21 => ?_
                  refine gseq fun N22 hN22 => ?_
                  refine greg ?_
                  refine gop (y_move (v := .int _ _) rfl) rfl rfl rfl ?_
                  refine gop (y_indexAddr_arr (m := u) Try.underlying38 Try.sizeOf4 rfl rfl rfl (by omega) (by omega)) rfl rfl rfl ?_
                  refine gop (y_load Try.isAgg4 rfl (cell_box 6 rfl (traceK_cell (by omega)))) rfl rfl rfl ?_
                  refine gop (y_not rfl) rfl rfl rfl ?_
                  refine gops_nil ?_
                  refine hN22 _ _ ?_
                  refine gfrom [(0, .slice _ _ _), (3, .int _ _), (5, .pointer _), (9, .int _ _), (10, .int _ _), (11, .pointer _), (12, .slice _ _ _), (13, .pointer _), (14, .pointer _), (16, .int _ _), (17, .int _ _), (18, .pointer _), (98, .bool _)] ⟨rfl, rfl, rfl, rfl, rfl, rfl, rfl, rfl, rfl, rfl, rfl, rfl, rfl, trivial⟩ fun σ => ?_
                  refine gcond (b := _) rfl (fun hc98 => ?_) (fun hc98 => ?_)
                  · -- slot 98 t
                    replace hc98 := not_t hc98
                    refine gexit ?_
                    refine gcut3_end (((u : Int), k)) (fun _ _ => by rw [throughV_ok hg77d, hT, hD, if_neg (by simp [hc98])]; simp) ⟨rfl, rfl, trivial⟩ ⟨rfl, rfl, rfl, rfl, rfl, rfl, rfl, rfl, trivial⟩ ⟨_, rfl⟩
                  · -- slot 98 f
                    replace hc98 := not_f hc98
                    refine gskip ?_
                    refine hN21 _ _ ?_
                    refine gfrom [(0, .slice _ _ _), (3, .int _ _), (5, .pointer _), (9, .int _ _), (10, .int _ _), (11, .pointer _), (12, .slice _ _ _), (13, .pointer _), (14, .pointer _), (16, .int _ _), (17, .int _ _), (18, .pointer _)] ⟨rfl, rfl, rfl, rfl, rfl, rfl, rfl, rfl, rfl, rfl, rfl, rfl, trivial⟩ fun σ => ?_
                    refine gseq fun N23 hN23 => ?_
                    refine greg ?_
                    refine gop (y_move (v := .int _ _) rfl) rfl rfl rfl ?_
                    refine gop (y_indexAddr_arr (m := u) Try.underlying37 Try.sizeOf3 rfl rfl rfl (by omega) (by omega)) rfl rfl rfl ?_
                    refine gop (y_load Try.isAgg3 rfl (cell_box 5 rfl (traceP_cell (by omega)))) rfl rfl rfl ?_
                    refine gop (y_assign (v := .int _ _) rfl) rfl rfl rfl ?_
                    refine gops_nil ?_
                    refine hN23 _ _ ?_
                    refine gfrom [(0, .slice _ _ _), (3, .int _ _), (5, .pointer _), (9, .int _ _), (10, .int _ _), (11, .pointer _), (12, .slice _ _ _), (13, .pointer _), (14, .pointer _), (16, .int _ _), (17, .int _ _)] ⟨rfl, rfl, rfl, rfl, rfl, rfl, rfl, rfl, rfl, rfl, rfl, trivial⟩ fun σ => ?_
                    refine greg ?_
                    refine gop (y_move (v := .int _ _) rfl) rfl rfl rfl ?_
                    refine gop (y_add rfl rfl ⟨by omega, by omega⟩) rfl rfl rfl ?_
                    refine gop (y_assign (v := .int _ _) rfl) rfl rfl rfl ?_
                    refine gops_nil ?_
                    refine gnext2 (((place ps[k].pl (u : Int) 0).1, k + 1)) (by show ps.length - (k + 1) < ps.length - k; omega) (⟨show k + 1 ≤ _ by omega, fun _ => ⟨place_nn ps[k].pl u 0 0 hv.chain (by decide) (by omega), by rw [hT, hD, if_pos hc98]; simp only [Nat.add_assoc, Nat.add_comm 1 k]⟩⟩) ⟨rfl, rfl, trivial⟩ ⟨rfl, rfl, rfl, rfl, rfl, rfl, rfl, rfl, rfl, trivial⟩ ⟨_, rfl⟩
                · -- slot 86 f
                  replace hc86 := of_decide_eq_false hc86
                  refine gexit ?_
                  refine gcut3_end ((wn, k)) (fun _ h => absurd h hc86) ⟨rfl, rfl, trivial⟩ ⟨rfl, rfl, rfl, rfl, rfl, rfl, rfl, rfl, trivial⟩ ⟨_, rfl⟩
              · -- guard 83 off
                have hg83d := of_decide_eq_false hg83
                refine gop_off rfl rfl rfl rfl hg83 rfl rfl ?_
                refine gop (y_pick_f (v := .bool _) rfl hg83 rfl) rfl rfl rfl ?_
                refine gops_nil ?_
                refine hN19 _ _ ?_
                refine gfrom [(0, .slice _ _ _), (3, .int _ _), (5, .pointer _), (9, .int _ _), (10, .int _ _), (11, .pointer _), (12, .slice _ _ _), (13, .pointer _), (14, .pointer _), (16, .int _ _), (17, .int _ _), (86, .bool _)] ⟨rfl, rfl, rfl, rfl, rfl, rfl, rfl, rfl, rfl, rfl, rfl, rfl, trivial⟩ fun σ => ?_
                refine gcond (b := _) rfl (fun hc86 => ?_) (fun hc86 => ?_)
                · -- slot 86 t
                  cases hc86
                · -- slot 86 f
                  refine gexit ?_
                  refine gcut3_end ((wn, k)) (fun _ _ => by rw [throughV_ok hg77d, (hok hg77d).2, List.drop_eq_nil_of_le (by simp; omega), through]; simp) ⟨rfl, rfl, trivial⟩ ⟨rfl, rfl, rfl, rfl, rfl, rfl, rfl, rfl, trivial⟩ ⟨_, rfl⟩
            · -- guard 77 off
              have hg77d := of_decide_eq_false hg77
              refine gop_off rfl rfl rfl rfl hg77 rfl rfl ?_
              refine gop_off rfl rfl rfl rfl hg77 rfl rfl ?_
              refine gop_off rfl rfl rfl rfl hg77 rfl rfl ?_
              refine gop (y_pick_f (v := .bool _) rfl hg77 rfl) rfl rfl rfl ?_
              refine gop (y_move (v := .bool _) rfl) rfl rfl rfl ?_
              refine gop_off rfl rfl rfl rfl rfl rfl rfl ?_
              refine gop_off rfl rfl rfl rfl rfl rfl rfl ?_
              refine gop (y_pick_f (v := .bool _) rfl rfl rfl) rfl rfl rfl ?_
              refine gops_nil ?_
              refine hN19 _ _ ?_
              refine gfrom [(0, .slice _ _ _), (3, .int _ _), (5, .pointer _), (9, .int _ _), (10, .int _ _), (11, .pointer _), (12, .slice _ _ _), (13, .pointer _), (14, .pointer _), (16, .int _ _), (17, .int _ _), (86, .bool _)] ⟨rfl, rfl, rfl, rfl, rfl, rfl, rfl, rfl, rfl, rfl, rfl, rfl, trivial⟩ fun σ => ?_
              refine gcond (b := _) rfl (fun hc86 => ?_) (fun hc86 => ?_)
              · -- slot 86 t
                cases hc86
              · -- slot 86 f
                refine gexit ?_
                refine gcut3_end ((wn, k)) (fun h => absurd h hg77d) ⟨rfl, rfl, trivial⟩ ⟨rfl, rfl, rfl, rfl, rfl, rfl, rfl, rfl, trivial⟩ ⟨_, rfl⟩
        ·
          rintro ⟨wn, m⟩ hcut σ
          refine hN17 _ _ ?_
          refine gseq fun N24 hN24 => ?_
          refine gT [box b5 _, box b11 _, seal_ _ _, box b13 _, box b14 _] rfl ?_
          refine gfrom [(3, .int _ _), (5, .pointer _), (9, .int _ _), (10, .int _ _), (11, .pointer _), (12, .slice _ _ _), (13, .pointer _), (14, .pointer _), (16, .int _ _), (17, .int _ _)] ⟨rfl, rfl, rfl, rfl, rfl, rfl, rfl, rfl, rfl, rfl, trivial⟩ fun σ => ?_
          refine gcut3 (Lf := [(3, .int _ _), (5, .pointer _), (12, .slice _ _ _), (13, .pointer _)]) (G := Unit) (fun g => True) (fun g => []) (fun g => []) ⟨rfl, rfl, rfl, rfl, trivial⟩ ?_ ?_
          ·
            refine gseq fun N25 hN25 => ?_
            refine greg ?_
            refine gop (y_fieldAddr_box fa27_0 rfl) rfl rfl rfl ?_
            refine gop (y_load Try.isAgg3 rfl (cell_box 4 rfl rfl)) rfl rfl rfl ?_
            refine gop (y_neq rfl rfl) rfl rfl rfl ?_
            refine gops_nil ?_
            refine hN25 _ _ ?_
            refine gfrom [(3, .int _ _), (5, .pointer _), (9, .int _ _), (10, .int _ _), (11, .pointer _), (12, .slice _ _ _), (13, .pointer _), (14, .pointer _), (16, .int _ _), (17, .int _ _), (106, .bool _)] ⟨rfl, rfl, rfl, rfl, rfl, rfl, rfl, rfl, rfl, rfl, rfl, trivial⟩ fun σ => ?_
            refine gcond (b := _) rfl (fun hc106 => ?_) (fun hc106 => ?_)
            · -- slot 106 t
              replace hc106 := of_decide_eq_true hc106
              have hV0 := throughV_ne hc106
              refine gseq fun N26 hN26 => ?_
              refine greg ?_
              refine gop (y_loads (cs := [_, _]) Try.isAgg27 Try.sizeOf27 rfl rfl (cells_box 1 rfl)) rfl rfl rfl ?_
              refine gop (y_loads (cs := [_, _]) Try.isAgg27 Try.sizeOf27 rfl rfl (cells_box 4 rfl)) rfl rfl rfl ?_
              refine gop (y_bin (vx := .agg #[_, _]) (vy := .agg #[_, _]) rfl rfl (fun w => eg27 _ _ _ _ _ w) (fun w => ne27 _ _ _ _ w)) rfl rfl rfl ?_
              refine gop (y_move (v := .bool _) rfl) rfl rfl rfl ?_
              refine gop_if (want := false) rfl rfl rfl rfl rfl rfl (fun hg110 => ?_) (fun hg110 => ?_)
              · -- guard 110 on
                have hg110d := hg110
                refine gop (y_bare (y_move (v := .int _ _) rfl)) rfl rfl rfl ?_
                refine gop_on rfl rfl rfl rfl hg110 ?_
                refine gop (y_bare (y_neq rfl rfl)) rfl rfl rfl ?_
                refine gop (y_pick_f (v := .bool _) rfl hg110 rfl) rfl rfl rfl ?_
                refine gop (y_move (v := .bool _) rfl) rfl rfl rfl ?_
                refine gop_if (want := false) rfl rfl rfl rfl rfl rfl (fun hg114 => ?_) (fun hg114 => ?_)
                · -- guard 114 on
                  have hg114d := Decidable.not_not.1 (of_decide_eq_false hg114)
                  refine gop (y_bare (y_move (v := .int _ _) rfl)) rfl rfl rfl ?_
                  refine gop_on rfl rfl rfl rfl hg114 ?_
                  refine gop (y_bare (y_neq rfl rfl)) rfl rfl rfl ?_
                  refine gop (y_pick_f (v := .bool _) rfl hg114 rfl) rfl rfl rfl ?_
                  refine gops_nil ?_
                  refine hN26 _ _ ?_
                  refine gfrom [(3, .int _ _), (5, .pointer _), (12, .slice _ _ _), (13, .pointer _), (117, .bool _)] ⟨rfl, rfl, rfl, rfl, rfl, trivial⟩ fun σ => ?_
                  refine gcond (b := _) rfl (fun hc117 => ?_) (fun hc117 => ?_)
                  · -- slot 117 t
                    simp [hV0] at hc117
                  · -- slot 117 f
                    replace hc117 := Decidable.not_not.1 (of_decide_eq_false hc117)
                    refine gskip ?_
                    refine gcut3_end (()) (trivial) trivial ⟨rfl, rfl, rfl, rfl, trivial⟩ ⟨_, rfl⟩
                · -- guard 114 off
                  simp [hV0] at hg114
              · -- guard 110 off
                simp at hg110
            · -- slot 106 f
              replace hc106 := Decidable.not_not.1 (of_decide_eq_false hc106)
              refine gseq fun N27 hN27 => ?_
              refine greg ?_
              refine gop (y_fieldAddr_box fa27_0 rfl) rfl rfl rfl ?_
              refine gop (y_load Try.isAgg3 rfl (cell_box 1 rfl rfl)) rfl rfl rfl ?_
              refine gop (y_neq rfl rfl) rfl rfl rfl ?_
              refine gop (y_move (v := .bool _) rfl) rfl rfl rfl ?_
              refine gop_if (want := false) rfl rfl rfl rfl rfl rfl (fun hg121 => ?_) (fun hg121 => ?_)
              · -- guard 121 on
                have hg121d := Decidable.not_not.1 (of_decide_eq_false hg121)
                refine gop (y_bare (y_move (v := .int _ _) rfl)) rfl rfl rfl ?_
                refine gop_on rfl rfl rfl rfl hg121 ?_
                refine gop (y_bare (y_lss rfl rfl)) rfl rfl rfl ?_
                refine gop_on rfl rfl rfl rfl hg121 ?_
                refine gop (y_bare (y_move (v := .bool _) rfl)) rfl rfl rfl ?_
                refine gop_if (want := true) rfl rfl rfl rfl rfl rfl (fun hg124 => ?_) (fun hg124 => ?_)
                · -- guard 124 on
                  have hg124d := of_decide_eq_true hg124
                  have hEq := hcut hc106 hg124d
                  refine gop (y_bare (y_move (v := .int _ _) rfl)) rfl rfl rfl ?_
                  refine gop_on rfl rfl rfl rfl hg124 ?_
                  refine gop (y_bare (y_move (v := .int _ _) rfl)) rfl rfl rfl ?_
                  refine gop_on rfl rfl rfl rfl hg124 ?_
                  refine gop (y_bare (y_neq rfl rfl)) rfl rfl rfl ?_
                  refine gop_on rfl rfl rfl rfl hg124 ?_
                  refine gop (y_bare (y_move (v := .bool _) rfl)) rfl rfl rfl ?_
                  refine gop_if (want := false) rfl rfl rfl rfl rfl rfl (fun hg128 => ?_) (fun hg128 => ?_)
                  · -- guard 128 on
                    have hg128d := Decidable.not_not.1 (of_decide_eq_false hg128)
                    refine gop (y_bare (y_move (v := .int _ _) rfl)) rfl rfl rfl ?_
                    refine gop_on rfl rfl rfl rfl hg128 ?_
                    refine gop (y_bare (y_move (v := .int _ _) rfl)) rfl rfl rfl ?_
                    refine gop_on rfl rfl rfl rfl hg128 ?_
                    refine gop (y_bare (y_neq rfl rfl)) rfl rfl rfl ?_
                    refine gop_on rfl rfl rfl rfl hg124 ?_
                    refine gop (y_bare (y_pick_f (v := .bool _) rfl hg128 rfl)) rfl rfl rfl ?_
                    refine gop_on rfl rfl rfl rfl hg121 ?_
                    refine gop (y_bare (y_pick_t (v := .bool _) rfl hg124 rfl)) rfl rfl rfl ?_
                    refine gop (y_pick_f (v := .bool _) rfl hg121 rfl) rfl rfl rfl ?_
                    refine gops_nil ?_
                    refine hN27 _ _ ?_
                    refine gfrom [(3, .int _ _), (5, .pointer _), (12, .slice _ _ _), (13, .pointer _), (134, .bool _)] ⟨rfl, rfl, rfl, rfl, rfl, trivial⟩ fun σ => ?_
                    refine gcond (b := _) rfl (fun hc134 => ?_) (fun hc134 => ?_)
                    · -- slot 134 t
                      simp [hEq] at hc134
                    · -- slot 134 f
                      replace hc134 := Decidable.not_not.1 (of_decide_eq_false hc134)
                      refine gskip ?_
                      refine gcut3_end (()) (trivial) trivial ⟨rfl, rfl, rfl, rfl, trivial⟩ ⟨_, rfl⟩
                  · -- guard 128 off
                    simp [hEq] at hg128
                · -- guard 124 off
                  have hg124d := of_decide_eq_false hg124
                  refine gop_off rfl rfl rfl rfl hg124 rfl rfl ?_
                  refine gop_off rfl rfl rfl rfl hg124 rfl rfl ?_
                  refine gop_off rfl rfl rfl rfl hg124 rfl rfl ?_
                  refine gop_offu rfl rfl rfl rfl rfl rfl ?_
                  refine gop_offu rfl rfl rfl rfl rfl rfl ?_
                  refine gop_offu rfl rfl rfl rfl rfl rfl ?_
                  refine gop_off rfl rfl rfl rfl hg124 rfl rfl ?_
                  refine gop_on rfl rfl rfl rfl hg121 ?_
                  refine gop (y_bare (y_pick_f (v := .bool _) rfl hg124 rfl)) rfl rfl rfl ?_
                  refine gop (y_pick_f (v := .bool _) rfl hg121 rfl) rfl rfl rfl ?_
                  refine gops_nil ?_
                  refine hN27 _ _ ?_
                  refine gfrom [(3, .int _ _), (5, .pointer _), (12, .slice _ _ _), (13, .pointer _), (134, .bool _)] ⟨rfl, rfl, rfl, rfl, rfl, trivial⟩ fun σ => ?_
                  refine gcond (b := _) rfl (fun hc134 => ?_) (fun hc134 => ?_)
                  · -- slot 134 t
                    cases hc134
                  · -- slot 134 f
                    refine gskip ?_
                    refine gcut3_end (()) (trivial) trivial ⟨rfl, rfl, rfl, rfl, trivial⟩ ⟨_, rfl⟩
              · -- guard 121 off
                simp [hc106] at hg121
          ·
            intro g hcut σ
            refine hN24 _ _ ?_
            refine gseq fun N28 hN28 => ?_
            refine greg ?_
            refine gop (y_loads (cs := [_]) Try.isAgg25 Try.sizeOf25 rfl rfl (cells_box 0 rfl)) rfl rfl rfl ?_
            refine gop_pure (e_call (vs := [.agg #[_]]) Try.func18 rfl (by kernel_rfl) rfl) (fun w hM => patchValidate_any w _ _ hs (PatR.lasts.base hq hM)) rfl rfl rfl ?_
            refine gop_alloc (cs := #[.int .i64 0, .int .i64 0]) Try.zeroValue27 rfl rfl (fun b20 hb20 => ?_)
            refine gop_store 5 (v := .agg #[_, _]) (cs' := #[_, _]) rfl rfl Try.sizeOf27 rfl rfl rfl rfl (Nat.le_of_ble_eq_true rfl) rfl rfl ?_
            refine gops_nil ?_
            refine hN28 _ _ ?_
            refine gT [box b5 _, box b11 _, seal_ _ _, box b13 _, box b14 _, box b20 _] rfl ?_
            refine gfrom [(3, .int _ _), (5, .pointer _), (12, .slice _ _ _), (13, .pointer _), (20, .pointer _)] ⟨rfl, rfl, rfl, rfl, rfl, trivial⟩ fun σ => ?_
            refine gseq fun N29 hN29 => ?_
            refine gfrom [(3, .int _ _), (5, .pointer _), (12, .slice _ _ _), (13, .pointer _), (20, .pointer _)] ⟨rfl, rfl, rfl, rfl, rfl, trivial⟩ fun σ => ?_
            refine gcut3 (Lf := [(3, .int _ _), (5, .pointer _), (12, .slice _ _ _), (13, .pointer _), (20, .pointer _)]) (G := Unit) (fun g => True) (fun g => []) (fun g => [(5, box b20 (.cells #[.int .i64 (kbF (pls hs) n).code, .int .i64 (kbF (pls hs) n).index] 27))]) ⟨rfl, rfl, rfl, rfl, rfl, trivial⟩ ?_ ?_
            ·
              refine gseq fun N30 hN30 => ?_
              refine greg ?_
              refine gop (y_fieldAddr_box fa27_0 rfl) rfl rfl rfl ?_
              refine gop (y_load Try.isAgg3 rfl (cell_box 5 rfl rfl)) rfl rfl rfl ?_
              refine gop (y_eql rfl rfl) rfl rfl rfl ?_
              refine gop (y_move (v := .bool _) rfl) rfl rfl rfl ?_
              refine gop_if (want := true) rfl rfl rfl rfl rfl rfl (fun hg140 => ?_) (fun hg140 => ?_)
              · -- guard 140 on
                have hg140d := of_decide_eq_true hg140
                have hP0 := patchF_code hg140d
                refine gop (y_bare (y_move (v := .int _ _) rfl)) rfl rfl rfl ?_
                refine gop_on rfl rfl rfl rfl hg140 ?_
                refine gop (y_bare (y_lss rfl rfl)) rfl rfl rfl ?_
                refine gop_on rfl rfl rfl rfl hg140 ?_
                refine gop (y_bare (y_move (v := .bool _) rfl)) rfl rfl rfl ?_
                refine gop_if (want := false) rfl rfl rfl rfl rfl rfl (fun hg143 => ?_) (fun hg143 => ?_)
                · -- guard 143 on
                  have hg143d := of_decide_eq_false hg143
                  refine gop (y_bare (y_move (v := .int _ _) rfl)) rfl rfl rfl ?_
                  refine gop_on rfl rfl rfl rfl hg143 ?_
                  refine gop (y_bare (y_gtr rfl rfl)) rfl rfl rfl ?_
                  refine gop_on rfl rfl rfl rfl hg140 ?_
                  refine gop (y_bare (y_pick_f (v := .bool _) rfl hg143 rfl)) rfl rfl rfl ?_
                  refine gop (y_pick_t (v := .bool _) rfl hg140 rfl) rfl rfl rfl ?_
                  refine gops_nil ?_
                  refine hN30 _ _ ?_
                  refine gfrom [(3, .int _ _), (5, .pointer _), (12, .slice _ _ _), (13, .pointer _), (20, .pointer _), (147, .bool _)] ⟨rfl, rfl, rfl, rfl, rfl, rfl, trivial⟩ fun σ => ?_
                  refine gcond (b := _) rfl (fun hc147 => ?_) (fun hc147 => ?_)
                  · -- slot 147 t
                    replace hc147 := of_decide_eq_true hc147
                    refine greg ?_
                    refine gop_pure (e_call (vs := [_, _]) Try.func16 rfl (by kernel_rfl) rfl) (fun w hM => fault_any w _ _) rfl rfl rfl ?_
                    refine gop_store 5 (v := .agg #[_, _]) (cs' := #[_, _]) rfl rfl Try.sizeOf27 rfl rfl rfl rfl (Nat.le_of_ble_eq_true rfl) rfl rfl ?_
                    refine gops_nil ?_
                    rw [show kbF (pls hs) n = ⟨3, -2⟩ from by rw [kbF, if_neg (by simp [hP0]), if_pos (by omega)]]
                    refine gcut3_end (()) (trivial) trivial ⟨rfl, rfl, rfl, rfl, rfl, trivial⟩ ⟨_, rfl⟩
                  · -- slot 147 f
                    replace hc147 := of_decide_eq_false hc147
                    refine gskip ?_
                    rw [show kbF (pls hs) n = patchF (pls hs) from by rw [kbF, if_neg (by simp [hP0]), if_neg (by omega), hP0]]
                    refine gcut3_end (()) (trivial) trivial ⟨rfl, rfl, rfl, rfl, rfl, trivial⟩ ⟨_, rfl⟩
                · -- guard 143 off
                  have hg143d := of_decide_eq_true hg143
                  refine gop_off rfl rfl rfl rfl hg143 rfl rfl ?_
                  refine gop_on rfl rfl rfl rfl hg140 ?_
                  refine gop (y_bare (y_pick_t (v := .bool _) rfl hg143 rfl)) rfl rfl rfl ?_
                  refine gop (y_pick_t (v := .bool _) rfl hg140 rfl) rfl rfl rfl ?_
                  refine gops_nil ?_
                  refine hN30 _ _ ?_
                  refine gfrom [(3, .int _ _), (5, .pointer _), (12, .slice _ _ _), (13, .pointer _), (20, .pointer _), (147, .bool _)] ⟨rfl, rfl, rfl, rfl, rfl, rfl, trivial⟩ fun σ => ?_
                  refine gcond (b := _) rfl (fun hc147 => ?_) (fun hc147 => ?_)
                  · -- slot 147 t
                    refine greg ?_
                    refine gop_pure (e_call (vs := [_, _]) Try.func16 rfl (by kernel_rfl) rfl) (fun w hM => fault_any w _ _) rfl rfl rfl ?_
                    refine gop_store 5 (v := .agg #[_, _]) (cs' := #[_, _]) rfl rfl Try.sizeOf27 rfl rfl rfl rfl (Nat.le_of_ble_eq_true rfl) rfl rfl ?_
                    refine gops_nil ?_
                    rw [show kbF (pls hs) n = ⟨3, -2⟩ from by rw [kbF, if_neg (by simp [hP0]), if_pos (by omega)]]
                    refine gcut3_end (()) (trivial) trivial ⟨rfl, rfl, rfl, rfl, rfl, trivial⟩ ⟨_, rfl⟩
                  · -- slot 147 f
                    cases hc147
              · -- guard 140 off
                have hg140d := of_decide_eq_false hg140
                refine gop_off rfl rfl rfl rfl hg140 rfl rfl ?_
                refine gop_off rfl rfl rfl rfl hg140 rfl rfl ?_
                refine gop_offu rfl rfl rfl rfl rfl rfl ?_
                refine gop_offu rfl rfl rfl rfl rfl rfl ?_
                refine gop_off rfl rfl rfl rfl hg140 rfl rfl ?_
                refine gop (y_pick_f (v := .bool _) rfl hg140 rfl) rfl rfl rfl ?_
                refine gops_nil ?_
                refine hN30 _ _ ?_
                refine gfrom [(3, .int _ _), (5, .pointer _), (12, .slice _ _ _), (13, .pointer _), (20, .pointer _), (147, .bool _)] ⟨rfl, rfl, rfl, rfl, rfl, rfl, trivial⟩ fun σ => ?_
                refine gcond (b := _) rfl (fun hc147 => ?_) (fun hc147 => ?_)
                · -- slot 147 t
                  cases hc147
                · -- slot 147 f
                  refine gskip ?_
                  rw [show kbF (pls hs) n = patchF (pls hs) from by rw [kbF, if_pos (fun h => hg140d (by rw [h]))]]
                  refine gcut3_end (()) (trivial) trivial ⟨rfl, rfl, rfl, rfl, rfl, trivial⟩ ⟨_, rfl⟩
            ·
              intro g hcut σ
              refine hN29 _ _ ?_
              refine gseq fun N31 hN31 => ?_
              refine gT [box b5 _, box b11 _, seal_ _ _, box b13 _, box b14 _, box b20 _] rfl ?_
              refine gfrom [(3, .int _ _), (5, .pointer _), (12, .slice _ _ _), (13, .pointer _), (20, .pointer _)] ⟨rfl, rfl, rfl, rfl, rfl, trivial⟩ fun σ => ?_
              refine gcut3 (Lf := [(3, .int _ _), (5, .pointer _), (12, .slice _ _ _), (13, .pointer _), (20, .pointer _)]) (G := Unit) (fun g => True) (fun g => []) (fun g => [(5, box b20 (.cells #[.int .i64 (keptF (pls hs) n).code, .int .i64 (keptF (pls hs) n).index] 27))]) ⟨rfl, rfl, rfl, rfl, rfl, trivial⟩ ?_ ?_
              ·
                refine gseq fun N32 hN32 => ?_
                refine greg ?_
                refine gop (y_assign (v := .int _ _) rfl) rfl rfl rfl ?_
                refine gops_nil ?_
                refine hN32 _ _ ?_
                refine gfrom [(3, .int _ _), (5, .pointer _), (12, .slice _ _ _), (13, .pointer _), (20, .pointer _), (21, .int _ _)] ⟨rfl, rfl, rfl, rfl, rfl, rfl, trivial⟩ fun σ => ?_
                refine gblock ?_
                refine gfrom2 [(21, .int _ _)] [(3, .int _ _), (5, .pointer _), (12, .slice _ _ _), (13, .pointer _), (20, .pointer _)] ⟨rfl, trivial⟩ ⟨rfl, rfl, rfl, rfl, rfl, trivial⟩ fun σ => ?_
                refine gloop2 (G := Nat × Fault) (fun (k, f) => k ≤ hs.length ∧ (f.code = 0 → f = ⟨0, 0⟩ ∧ PV (pls hs) ∧ 0 ≤ n ∧ n ≤ 120 ∧ ∀ j (h : j < (pls hs).length), j < k → (if n < (pls hs)[j].end_ then (19 : Int) else 0) = 0) ∧ (f.code ≠ 0 → keptF (pls hs) n = f)) (fun (k, f) => hs.length - k) (fun (k, f) => [(21, .int .i64 (k : Int))]) (fun (k, f) => [(5, box b20 (.cells #[.int .i64 (f).code, .int .i64 (f).index] 27))]) ((0, kbF (pls hs) n)) ?h0 ⟨rfl, trivial⟩ ⟨rfl, rfl, rfl, rfl, rfl, trivial⟩ rfl ?round
                case h0 => exact ⟨Nat.zero_le _, fun h => ⟨(kbF_zero h).1, (kbF_zero h).2.1, (kbF_zero h).2.2.1, (kbF_zero h).2.2.2, fun _ _ h => absurd h (Nat.not_lt_zero _)⟩, fun h => kbF_ne h⟩
                case round =>
                  rintro ⟨k, f⟩ hφ σ
                  obtain ⟨hk, hok, hne⟩ := hφ
                  refine gT [box b5 _, box b11 _, seal_ _ _, box b13 _, box b14 _, box _ _] rfl ?_
                  refine gseq fun N33 hN33 => ?_
                  refine gseq fun N34 hN34 => ?_
                  refine greg ?_
                  refine gop (y_move (v := .int _ _) rfl) rfl rfl rfl ?_
                  refine gop (y_fieldAddr_box fa25_0 rfl) rfl rfl rfl ?_
                  refine gop (y_load Try.isAgg23 rfl (cell_box 0 rfl rfl)) rfl rfl rfl ?_
                  refine gop (y_len Try.underlying23 rfl) rfl rfl rfl ?_
                  refine gop (y_lss rfl rfl) rfl rfl rfl ?_
                  refine gop (y_move (v := .bool _) rfl) rfl rfl rfl ?_
                  refine gop_if (want := true) rfl rfl rfl rfl rfl rfl (fun hg154 => ?_) (fun hg154 => ?_)
                  · -- guard 154 on
                    have hg154d := of_decide_eq_true hg154
                    refine gop (y_bare (y_fieldAddr_box fa27_0 rfl)) rfl rfl rfl ?_
                    refine gop_on rfl rfl rfl rfl hg154 ?_
                    refine gop (y_bare (y_load Try.isAgg3 rfl (cell_box 5 rfl rfl))) rfl rfl rfl ?_
                    refine gop_on rfl rfl rfl rfl hg154 ?_
                    refine gop (y_bare (y_eql rfl rfl)) rfl rfl rfl ?_
                    refine gop (y_pick_t (v := .bool _) rfl hg154 rfl) rfl rfl rfl ?_
                    refine gops_nil ?_
                    refine hN34 _ _ ?_
                    refine gfrom [(3, .int _ _), (5, .pointer _), (12, .slice _ _ _), (13, .pointer _), (20, .pointer _), (21, .int _ _), (158, .bool _)] ⟨rfl, rfl, rfl, rfl, rfl, rfl, rfl, trivial⟩ fun σ => ?_
                    refine gcond (b := _) rfl (fun hc158 => ?_) (fun hc158 => ?_)
                    · -- slot 158 t
                      replace hc158 := of_decide_eq_true hc158
                      obtain ⟨hf0, hv, hn0, hn1, hz⟩ := hok hc158
                      have hk1 : k < hs.length := by omega
                      have hk2 : k < (pls hs).length := by simpa using hk1
                      obtain ⟨ad, rfl, -, hcv⟩ := hq.rd.at_ hk1
                      have hB : HB hs[k].pl := hv.each _ (List.mem_map_of_mem (List.getElem_mem hk1))
                      have hB1 := hB.lo
                      have hB2 := hB.hi
                      have hB3 := hB.old
                      refine gskip ?_
                      refine hN33 _ _ ?_
                      refine gfrom [(3, .int _ _), (5, .pointer _), (12, .slice _ _ _), (13, .pointer _), (20, .pointer _), (21, .int _ _)] ⟨rfl, rfl, rfl, rfl, rfl, rfl, trivial⟩ fun σ => ?_
                      refine gseq fun N35 hN35 => ?_
                      refine gblock ?_
                      refine gseq fun N36 hN36 => ?_
                      refine greg_q (by kernel_rfl) (by kernel_rfl) ?_
                      refine gq (y_fieldAddr_box fa25_0 rfl) rfl rfl rfl ?_
                      refine gq (y_load Try.isAgg23 rfl (cell_box 0 rfl rfl)) rfl rfl rfl ?_
                      refine gq (y_move (v := .int _ _) rfl) rfl rfl rfl ?_
                      refine gq (y_indexAddr Try.underlying23 Try.sizeOf43 rfl rfl rfl (by omega) (by omega)) rfl rfl rfl ?_
                      refine gq (y_fieldAddr_add fa43_0 rfl) rfl rfl rfl ?_
                      refine gq (y_load Try.isAgg3 rfl (cell_base (hcv 0 _ rfl))) rfl rfl rfl ?_
                      refine gq (y_fieldAddr_box fa25_0 rfl) rfl rfl rfl ?_
                      refine gq (y_load Try.isAgg23 rfl (cell_box 0 rfl rfl)) rfl rfl rfl ?_
                      refine gq (y_move (v := .int _ _) rfl) rfl rfl rfl ?_
                      refine gq (y_indexAddr Try.underlying23 Try.sizeOf43 rfl rfl rfl (by omega) (by omega)) rfl rfl rfl ?_
                      refine gq (y_fieldAddr_add fa43_1 rfl) rfl rfl rfl ?_
                      refine gq (y_load Try.isAgg41 rfl (cell_base (hcv 1 _ rfl))) rfl rfl rfl ?_
                      refine gq (y_len Try.underlying41 rfl) rfl rfl rfl ?_
                      refine gq (y_add rfl rfl ⟨by omega, by omega⟩) rfl rfl rfl ?_
                      refine gq (y_move (v := .int _ _) rfl) rfl rfl rfl ?_
                      refine gq (y_gtr rfl rfl) rfl rfl rfl ?_
                      refine gqs_nil ?_
                      refine hN36 _ _ ?_
                      refine gfrom [(3, .int _ _), (5, .pointer _), (12, .slice _ _ _), (13, .pointer _), (20, .pointer _), (21, .int _ _), (176, .bool _)] ⟨rfl, rfl, rfl, rfl, rfl, rfl, rfl, trivial⟩ fun σ => ?_
                      refine gcond (b := _) rfl (fun hc176 => ?_) (fun hc176 => ?_)
                      · -- slot 176 t
                        replace hc176 := of_decide_eq_true hc176
                        refine greg ?_
                        refine gop (y_move (v := .int _ _) rfl) rfl rfl rfl ?_
                        refine gop_pure (e_call (vs := [_, .int _ _]) Try.func16 rfl (by kernel_rfl) rfl) (fun w hM => fault_any w _ _) rfl rfl rfl ?_
                        refine gop_store 5 (v := .agg #[_, _]) (cs' := #[_, _]) rfl rfl Try.sizeOf27 rfl rfl rfl rfl (Nat.le_of_ble_eq_true rfl) rfl rfl ?_
                        refine gops_nil ?_
                        refine hN35 _ _ ?_
                        refine gT [box b5 _, box b11 _, seal_ _ _, box b13 _, box b14 _, box _ _] rfl ?_
                        refine gfrom [(3, .int _ _), (5, .pointer _), (12, .slice _ _ _), (13, .pointer _), (20, .pointer _), (21, .int _ _)] ⟨rfl, rfl, rfl, rfl, rfl, rfl, trivial⟩ fun σ => ?_
                        refine greg ?_
                        refine gop (y_move (v := .int _ _) rfl) rfl rfl rfl ?_
                        refine gop (y_add rfl rfl ⟨by omega, by omega⟩) rfl rfl rfl ?_
                        refine gop (y_assign (v := .int _ _) rfl) rfl rfl rfl ?_
                        refine gops_nil ?_
                        refine gnext2 ((k + 1, ⟨19, k⟩)) (by show hs.length - (k + 1) < hs.length - k; omega) (⟨show k + 1 ≤ _ by omega, fun h => absurd h (by show ¬ (19 : Int) = 0; decide), fun _ => by rw [keptF_scan hv hn0 hn1, scan_at hk2 hz (by rw [if_pos (by rw [List.getElem_map]; exact hc176)]; decide), if_pos (by rw [List.getElem_map]; exact hc176)]⟩) ⟨rfl, trivial⟩ ⟨rfl, rfl, rfl, rfl, rfl, trivial⟩ ⟨_, rfl⟩
                      · -- slot 176 f
                        replace hc176 := of_decide_eq_false hc176
                        refine gskip ?_
                        refine hN35 _ _ ?_
                        refine gfrom [(3, .int _ _), (5, .pointer _), (12, .slice _ _ _), (13, .pointer _), (20, .pointer _), (21, .int _ _)] ⟨rfl, rfl, rfl, rfl, rfl, rfl, trivial⟩ fun σ => ?_
                        refine greg ?_
                        refine gop (y_move (v := .int _ _) rfl) rfl rfl rfl ?_
                        refine gop (y_add rfl rfl ⟨by omega, by omega⟩) rfl rfl rfl ?_
                        refine gop (y_assign (v := .int _ _) rfl) rfl rfl rfl ?_
                        refine gops_nil ?_
                        refine gnext2 ((k + 1, f)) (by show hs.length - (k + 1) < hs.length - k; omega) (⟨show k + 1 ≤ _ by omega, fun _ => ⟨hf0, hv, hn0, hn1, fun j h hj => by rcases Nat.lt_succ_iff_lt_or_eq.1 hj with h1 | rfl; exact hz j h h1; rw [List.getElem_map, if_neg (show ¬ n < hs[j].pl.end_ from hc176)]⟩, hne⟩) ⟨rfl, trivial⟩ ⟨rfl, rfl, rfl, rfl, rfl, trivial⟩ ⟨_, rfl⟩
                    · -- slot 158 f
                      replace hc158 := of_decide_eq_false hc158
                      refine gexit ?_
                      rw [hne hc158]
                      refine gcut3_end (()) (trivial) trivial ⟨rfl, rfl, rfl, rfl, rfl, trivial⟩ ⟨_, rfl⟩
                  · -- guard 154 off
                    have hg154d := of_decide_eq_false hg154
                    have hE : keptF (pls hs) n = f := by
                      by_cases h0 : f.code = 0
                      · obtain ⟨hf0, hv, hn0, hn1, hz⟩ := hok h0
                        rw [keptF_scan hv hn0 hn1, hf0]
                        exact scan_ok fun j hj => hz j hj (by simp at hj; omega)
                      · exact hne h0
                    refine gop_off rfl rfl rfl rfl hg154 rfl rfl ?_
                    refine gop_off rfl rfl rfl rfl hg154 rfl rfl ?_
                    refine gop (y_pick_f (v := .bool _) rfl hg154 rfl) rfl rfl rfl ?_
                    refine gops_nil ?_
                    refine hN34 _ _ ?_
                    refine gfrom [(3, .int _ _), (5, .pointer _), (12, .slice _ _ _), (13, .pointer _), (20, .pointer _), (21, .int _ _), (158, .bool _)] ⟨rfl, rfl, rfl, rfl, rfl, rfl, rfl, trivial⟩ fun σ => ?_
                    refine gcond (b := _) rfl (fun hc158 => ?_) (fun hc158 => ?_)
                    · -- slot 158 t
                      cases hc158
                    · -- slot 158 f
                      refine gexit ?_
                      rw [hE]
                      refine gcut3_end (()) (trivial) trivial ⟨rfl, rfl, rfl, rfl, rfl, trivial⟩ ⟨_, rfl⟩
              ·
                intro g hcut σ
                refine hN31 _ _ ?_
                refine gseq fun N37 hN37 => ?_
                refine gseq fun N38 hN38 => ?_
                refine greg ?_
                refine gop (y_fieldAddr_box fa27_0 rfl) rfl rfl rfl ?_
                refine gop (y_load Try.isAgg3 rfl (cell_box 5 rfl rfl)) rfl rfl rfl ?_
                refine gop (y_neq rfl rfl) rfl rfl rfl ?_
                refine gops_nil ?_
                refine hN38 _ _ ?_
                refine gT [box b5 _, box b11 _, seal_ _ _, box b13 _, box b14 _, box b20 _] rfl ?_
                refine gfrom [(3, .int _ _), (5, .pointer _), (12, .slice _ _ _), (13, .pointer _), (20, .pointer _), (181, .bool _)] ⟨rfl, rfl, rfl, rfl, rfl, rfl, trivial⟩ fun σ => ?_
                refine gcond (b := _) rfl (fun hc181 => ?_) (fun hc181 => ?_)
                · -- slot 181 t
                  replace hc181 := of_decide_eq_true hc181
                  have hR0 := keptR_ne hc181
                  refine gseq fun N39 hN39 => ?_
                  refine greg ?_
                  refine gop (y_loads (cs := [_, _]) Try.isAgg27 Try.sizeOf27 rfl rfl (cells_box 3 rfl)) rfl rfl rfl ?_
                  refine gop (y_loads (cs := [_, _]) Try.isAgg27 Try.sizeOf27 rfl rfl (cells_box 5 rfl)) rfl rfl rfl ?_
                  refine gop (y_bin (vx := .agg #[_, _]) (vy := .agg #[_, _]) rfl rfl (fun w => eg27 _ _ _ _ _ w) (fun w => eq27 _ _ _ _ w)) rfl rfl rfl ?_
                  refine gop (y_move (v := .bool _) rfl) rfl rfl rfl ?_
                  refine gop_if (want := true) rfl rfl rfl rfl rfl rfl (fun hg185 => ?_) (fun hg185 => ?_)
                  · -- guard 185 on
                    have hg185d := hg185
                    refine gop (y_bare (y_move (v := .slice _ _ _) rfl)) rfl rfl rfl ?_
                    refine gop_on rfl rfl rfl rfl hg185 ?_
                    refine gop (y_bare (y_len Try.underlying30 rfl)) rfl rfl rfl ?_
                    refine gop_on rfl rfl rfl rfl hg185 ?_
                    refine gop (y_bare (y_eql rfl rfl)) rfl rfl rfl ?_
                    refine gop (y_pick_t (v := .bool _) rfl hg185 rfl) rfl rfl rfl ?_
                    refine gop (y_assign (v := .bool _) rfl) rfl rfl rfl ?_
                    refine gops_nil ?_
                    refine hN39 _ _ ?_
                    refine gfrom [(8, .bool _)] ⟨rfl, trivial⟩ fun σ => ?_
                    refine gret fun w1 hM => ?_
                    refine ⟨_, res1 rfl (rt (v := .bool _) rfl), ?_⟩
                    exact ⟨by simp [hR0], hM.low⟩
                  · -- guard 185 off
                    simp at hg185
                · -- slot 181 f
                  replace hc181 := Decidable.not_not.1 (of_decide_eq_false hc181)
                  obtain ⟨hv, hn0, hn1, hkf, hR1⟩ := keptF_all hc181
                  obtain ⟨q, rfl⟩ := Int.eq_ofNat_of_zero_le hn0
                  have hRl : (keptR (pls hs) (q : Int)).length = q := by rw [hR1, keptL]; simp
                  refine gskip ?_
                  refine hN37 _ _ ?_
                  refine gfrom [(3, .int _ _), (5, .pointer _), (12, .slice _ _ _), (13, .pointer _)] ⟨rfl, rfl, rfl, rfl, trivial⟩ fun σ => ?_
                  refine gseq fun N40 hN40 => ?_
                  refine gseq fun N41 hN41 => ?_
                  refine greg ?_
                  refine gop (y_fieldAddr_box fa27_0 rfl) rfl rfl rfl ?_
                  refine gop (y_load Try.isAgg3 rfl (cell_box 3 rfl rfl)) rfl rfl rfl ?_
                  refine gop (y_neq rfl rfl) rfl rfl rfl ?_
                  refine gop (y_move (v := .bool _) rfl) rfl rfl rfl ?_
                  refine gop_if (want := false) rfl rfl rfl rfl rfl rfl (fun hg193 => ?_) (fun hg193 => ?_)
                  · -- guard 193 on
                    have hg193d := Decidable.not_not.1 (of_decide_eq_false hg193)
                    refine gop (y_bare (y_move (v := .slice _ _ _) rfl)) rfl rfl rfl ?_
                    refine gop_on rfl rfl rfl rfl hg193 ?_
                    refine gop (y_bare (y_len Try.underlying30 rfl)) rfl rfl rfl ?_
                    refine gop_on rfl rfl rfl rfl hg193 ?_
                    refine gop (y_bare (y_move (v := .int _ _) rfl)) rfl rfl rfl ?_
                    refine gop_on rfl rfl rfl rfl hg193 ?_
                    refine gop (y_bare (y_neq rfl rfl)) rfl rfl rfl ?_
                    refine gop (y_pick_f (v := .bool _) rfl hg193 rfl) rfl rfl rfl ?_
                    refine gops_nil ?_
                    refine hN41 _ _ ?_
                    refine gfrom [(3, .int _ _), (5, .pointer _), (12, .slice _ _ _), (198, .bool _)] ⟨rfl, rfl, rfl, rfl, trivial⟩ fun σ => ?_
                    refine gcond (b := _) rfl (fun hc198 => ?_) (fun hc198 => ?_)
                    · -- slot 198 t
                      simp [hRl] at hc198
                    · -- slot 198 f
                      replace hc198 := Decidable.not_not.1 (of_decide_eq_false hc198)
                      refine gskip ?_
                      refine hN40 _ _ ?_
                      refine gfrom [(3, .int _ _), (5, .pointer _), (12, .slice _ _ _)] ⟨rfl, rfl, rfl, trivial⟩ fun σ => ?_
                      refine gseq fun N42 hN42 => ?_
                      refine greg ?_
                      refine gop (y_loads (cs := [_]) Try.isAgg25 Try.sizeOf25 rfl rfl (cells_box 0 rfl)) rfl rfl rfl ?_
                      refine gop_pure (e_call (vs := [.agg #[_]]) Try.func19 rfl (by kernel_rfl) rfl) (fun w hM => trace_any w _ _ hs (PatR.lasts.base hq hM) hv) rfl rfl rfl ?_
                      refine gop (y_move (v := .tuple #[.agg _, .agg _]) rfl) rfl rfl rfl ?_
                      refine gop (y_extract (v := .agg _) rfl rfl) rfl rfl rfl ?_
                      refine gop (y_extract (v := .agg _) rfl rfl) rfl rfl rfl ?_
                      refine gop_alloc (cs := ((List.replicate 130 (0 : Int)).flatMap intCells).toArray) zvInts rfl rfl (fun b22 hb22 => ?_)
                      refine gop_alloc (cs := ((List.replicate 130 false).flatMap boolCells).toArray) zvBools rfl rfl (fun b23 hb23 => ?_)
                      refine gop_store_flat 6 (f := intCells) wide_int rfl rfl szInts (by rw [traceP_len]) rfl (by rw [traceP_len]; rfl) rfl ?_
                      refine gop_store_flat 7 (f := boolCells) wide_bool rfl rfl szBools (by rw [traceK_len]) rfl (by rw [traceK_len]; rfl) rfl ?_
                      refine gops_nil ?_
                      refine hN42 _ _ ?_
                      refine gT [box b5 _, box b11 _, seal_ _ _, box b13 _, box b14 _, box b20 _, box b22 _, box b23 _] rfl ?_
                      refine gfrom [(3, .int _ _), (12, .slice _ _ _), (22, .pointer _), (23, .pointer _)] ⟨rfl, rfl, rfl, rfl, trivial⟩ fun σ => ?_
                      refine gseq fun N43 hN43 => ?_
                      refine gseq fun N44 hN44 => ?_
                      refine greg ?_
                      refine gop (y_assign (v := .int _ _) rfl) rfl rfl rfl ?_
                      refine gops_nil ?_
                      refine hN44 _ _ ?_
                      refine gfrom [(3, .int _ _), (12, .slice _ _ _), (22, .pointer _), (23, .pointer _), (24, .int _ _)] ⟨rfl, rfl, rfl, rfl, rfl, trivial⟩ fun σ => ?_
                      refine gblock ?_
                      refine gfrom2 [(24, .int _ _)] [(3, .int _ _), (12, .slice _ _ _), (22, .pointer _), (23, .pointer _)] ⟨rfl, trivial⟩ ⟨rfl, rfl, rfl, rfl, trivial⟩ fun σ => ?_
                      refine gloop2 (G := Nat) (fun k => k ≤ q) (fun k => q - k) (fun k => [(24, .int .i64 (k : Int))]) (fun k => []) (0) ?h0 ⟨rfl, trivial⟩ ⟨rfl, rfl, rfl, rfl, trivial⟩ rfl ?round
                      case h0 => exact Nat.zero_le _
                      case round =>
                        intro k hφ σ
                        have hk := hφ
                        refine gseq fun N45 hN45 => ?_
                        refine gseq fun N46 hN46 => ?_
                        refine greg ?_
                        refine gop (y_move (v := .int _ _) rfl) rfl rfl rfl ?_
                        refine gop (y_move (v := .int _ _) rfl) rfl rfl rfl ?_
                        refine gop (y_lss rfl rfl) rfl rfl rfl ?_
                        refine gops_nil ?_
                        refine hN46 _ _ ?_
                        refine gfrom [(3, .int _ _), (12, .slice _ _ _), (22, .pointer _), (23, .pointer _), (24, .int _ _), (206, .bool _)] ⟨rfl, rfl, rfl, rfl, rfl, rfl, trivial⟩ fun σ => ?_
                        refine gcond (b := _) rfl (fun hc206 => ?_) (fun hc206 => ?_)
                        · -- slot 206 t
                          replace hc206 := of_decide_eq_true hc206
                          have hk1 : k < (keptR (pls hs) (q : Int)).length := by omega
                          obtain ⟨ad, rfl, hlo2, hcl⟩ := hr35.at_ hk1
                          have hkl : (keptR (pls hs) (q : Int))[k] = keptAt (pls hs) k := by simp only [hR1]; exact keptL_at _
                          refine gskip ?_
                          refine hN45 _ _ ?_
                          refine gfrom [(3, .int _ _), (12, .slice _ _ _), (22, .pointer _), (23, .pointer _), (24, .int _ _)] ⟨rfl, rfl, rfl, rfl, rfl, trivial⟩ fun σ => ?_
                          refine gseq fun N47 hN47 => ?_
                          refine gblock ?_
                          refine gseq fun N48 hN48 => ?_
                          refine greg_q (by kernel_rfl) (by kernel_rfl) ?_
                          refine gq (y_move (v := .int _ _) rfl) rfl rfl rfl ?_
                          refine gq (y_indexAddr_arr (m := k) Try.underlying38 Try.sizeOf4 rfl rfl rfl (by omega) (by omega)) rfl rfl rfl ?_
                          refine gq (y_load Try.isAgg4 rfl (cell_box 7 rfl (traceK_cell (by omega)))) rfl rfl rfl ?_
                          refine gq (y_move (v := .bool _) rfl) rfl rfl rfl ?_
                          refine gq_if (want := true) rfl rfl rfl rfl rfl rfl (fun hg212 => ?_) (fun hg212 => ?_)
                          · -- guard 212 on
                            have hg212d := hg212
                            refine gq (y_bare (y_move (v := .slice _ _ _) rfl)) rfl rfl rfl ?_
                            refine gq_on rfl rfl rfl rfl hg212 ?_
                            refine gq (y_bare (y_move (v := .int _ _) rfl)) rfl rfl rfl ?_
                            refine gq_on rfl rfl rfl rfl hg212 ?_
                            refine gq (y_bare (y_indexAddr Try.underlying30 Try.sizeOf3 rfl rfl rfl (by omega) (by omega))) rfl rfl rfl ?_
                            refine gq_on rfl rfl rfl rfl hg212 ?_
                            refine gq (y_bare (y_load Try.isAgg3 rfl (cell_seal 2 rfl (by rw [block_add]; exact hlo2) (hcl 0 _ rfl)))) rfl rfl rfl ?_
                            refine gq_on rfl rfl rfl rfl hg212 ?_
                            refine gq (y_bare (y_move (v := .int _ _) rfl)) rfl rfl rfl ?_
                            refine gq_on rfl rfl rfl rfl hg212 ?_
                            refine gq (y_bare (y_indexAddr_arr (m := k) Try.underlying37 Try.sizeOf3 rfl rfl rfl (by omega) (by omega))) rfl rfl rfl ?_
                            refine gq_on rfl rfl rfl rfl hg212 ?_
                            refine gq (y_bare (y_load Try.isAgg3 rfl (cell_box 6 rfl (traceP_cell (by omega))))) rfl rfl rfl ?_
                            refine gq_on rfl rfl rfl rfl hg212 ?_
                            refine gq (y_bare (y_neq rfl rfl)) rfl rfl rfl ?_
                            refine gq (y_pick_t (v := .bool _) rfl hg212 rfl) rfl rfl rfl ?_
                            refine gq (y_move (v := .bool _) rfl) rfl rfl rfl ?_
                            refine gq_if (want := false) rfl rfl rfl rfl rfl rfl (fun hg222 => ?_) (fun hg222 => ?_)
                            · -- guard 222 on
                              have hg222d := Decidable.not_not.1 (of_decide_eq_false hg222)
                              refine gq (y_bare (y_move (v := .int _ _) rfl)) rfl rfl rfl ?_
                              refine gq_on rfl rfl rfl rfl hg222 ?_
                              refine gq (y_bare (y_indexAddr_arr (m := k) Try.underlying38 Try.sizeOf4 rfl rfl rfl (by omega) (by omega))) rfl rfl rfl ?_
                              refine gq_on rfl rfl rfl rfl hg222 ?_
                              refine gq (y_bare (y_load Try.isAgg4 rfl (cell_box 7 rfl (traceK_cell (by omega))))) rfl rfl rfl ?_
                              refine gq_on rfl rfl rfl rfl hg222 ?_
                              refine gq (y_bare (y_not rfl)) rfl rfl rfl ?_
                              refine gq_on rfl rfl rfl rfl hg222 ?_
                              refine gq (y_bare (y_move (v := .bool _) rfl)) rfl rfl rfl ?_
                              refine gq_if (want := true) rfl rfl rfl rfl rfl rfl (fun hg227 => ?_) (fun hg227 => ?_)
                              · -- guard 227 on
                                have hg227d := not_t hg227
                                refine gq (y_bare (y_move (v := .slice _ _ _) rfl)) rfl rfl rfl ?_
                                refine gq_on rfl rfl rfl rfl hg227 ?_
                                refine gq (y_bare (y_move (v := .int _ _) rfl)) rfl rfl rfl ?_
                                refine gq_on rfl rfl rfl rfl hg227 ?_
                                refine gq (y_bare (y_indexAddr Try.underlying30 Try.sizeOf3 rfl rfl rfl (by omega) (by omega))) rfl rfl rfl ?_
                                refine gq_on rfl rfl rfl rfl hg227 ?_
                                refine gq (y_bare (y_load Try.isAgg3 rfl (cell_seal 2 rfl (by rw [block_add]; exact hlo2) (hcl 0 _ rfl)))) rfl rfl rfl ?_
                                refine gq_on rfl rfl rfl rfl hg227 ?_
                                refine gq (y_bare (y_neq rfl rfl)) rfl rfl rfl ?_
                                refine gq_on rfl rfl rfl rfl hg222 ?_
                                refine gq (y_bare (y_pick_t (v := .bool _) rfl hg227 rfl)) rfl rfl rfl ?_
                                refine gq (y_pick_f (v := .bool _) rfl hg222 rfl) rfl rfl rfl ?_
                                refine gqs_nil ?_
                                refine hN48 _ _ ?_
                                refine gfrom [(3, .int _ _), (12, .slice _ _ _), (22, .pointer _), (23, .pointer _), (24, .int _ _), (234, .bool _)] ⟨rfl, rfl, rfl, rfl, rfl, rfl, trivial⟩ fun σ => ?_
                                refine gcond (b := _) rfl (fun hc234 => ?_) (fun hc234 => ?_)
                                · -- slot 234 t
                                  first | (exfalso; simp [hg212] at hg227; done) | exact (of_decide_eq_true hc234 (by rw [hkl, keptAt, if_neg (by simp [hg212])])).elim
                                · -- slot 234 f
                                  replace hc234 := Decidable.not_not.1 (of_decide_eq_false hc234)
                                  refine gskip ?_
                                  refine hN47 _ _ ?_
                                  refine gfrom [(3, .int _ _), (12, .slice _ _ _), (22, .pointer _), (23, .pointer _), (24, .int _ _)] ⟨rfl, rfl, rfl, rfl, rfl, trivial⟩ fun σ => ?_
                                  refine greg ?_
                                  refine gop (y_move (v := .int _ _) rfl) rfl rfl rfl ?_
                                  refine gop (y_add rfl rfl ⟨by omega, by omega⟩) rfl rfl rfl ?_
                                  refine gop (y_assign (v := .int _ _) rfl) rfl rfl rfl ?_
                                  refine gops_nil ?_
                                  refine gnext2 (k + 1) (by omega) (show k + 1 ≤ q by omega) ⟨rfl, trivial⟩ ⟨rfl, rfl, rfl, rfl, trivial⟩ ⟨_, rfl⟩
                              · -- guard 227 off
                                have hg227d := not_f hg227
                                refine gq_off rfl rfl rfl rfl hg227 rfl rfl ?_
                                refine gq_off rfl rfl rfl rfl hg227 rfl rfl ?_
                                refine gq_off rfl rfl rfl rfl hg227 rfl rfl ?_
                                refine gq_off rfl rfl rfl rfl hg227 rfl rfl ?_
                                refine gq_on rfl rfl rfl rfl hg222 ?_
                                refine gq (y_bare (y_pick_f (v := .bool _) rfl hg227 rfl)) rfl rfl rfl ?_
                                refine gq (y_pick_f (v := .bool _) rfl hg222 rfl) rfl rfl rfl ?_
                                refine gqs_nil ?_
                                refine hN48 _ _ ?_
                                refine gfrom [(3, .int _ _), (12, .slice _ _ _), (22, .pointer _), (23, .pointer _), (24, .int _ _), (234, .bool _)] ⟨rfl, rfl, rfl, rfl, rfl, rfl, trivial⟩ fun σ => ?_
                                refine gcond (b := _) rfl (fun hc234 => ?_) (fun hc234 => ?_)
                                · -- slot 234 t
                                  cases hc234
                                · -- slot 234 f
                                  refine gskip ?_
                                  refine hN47 _ _ ?_
                                  refine gfrom [(3, .int _ _), (12, .slice _ _ _), (22, .pointer _), (23, .pointer _), (24, .int _ _)] ⟨rfl, rfl, rfl, rfl, rfl, trivial⟩ fun σ => ?_
                                  refine greg ?_
                                  refine gop (y_move (v := .int _ _) rfl) rfl rfl rfl ?_
                                  refine gop (y_add rfl rfl ⟨by omega, by omega⟩) rfl rfl rfl ?_
                                  refine gop (y_assign (v := .int _ _) rfl) rfl rfl rfl ?_
                                  refine gops_nil ?_
                                  refine gnext2 (k + 1) (by omega) (show k + 1 ≤ q by omega) ⟨rfl, trivial⟩ ⟨rfl, rfl, rfl, rfl, trivial⟩ ⟨_, rfl⟩
                            · -- guard 222 off
                              exact (of_decide_eq_true hg222 (by rw [hkl, keptAt, if_pos hg212])).elim
                          · -- guard 212 off
                            have hg212d := hg212
                            refine gq_off rfl rfl rfl rfl hg212 rfl rfl ?_
                            refine gq_off rfl rfl rfl rfl hg212 rfl rfl ?_
                            refine gq_off rfl rfl rfl rfl hg212 rfl rfl ?_
                            refine gq_off rfl rfl rfl rfl hg212 rfl rfl ?_
                            refine gq_off rfl rfl rfl rfl hg212 rfl rfl ?_
                            refine gq_off rfl rfl rfl rfl hg212 rfl rfl ?_
                            refine gq_off rfl rfl rfl rfl hg212 rfl rfl ?_
                            refine gq (y_pick_f (v := .bool _) rfl hg212 rfl) rfl rfl rfl ?_
                            refine gq (y_move (v := .bool _) rfl) rfl rfl rfl ?_
                            refine gq_on rfl rfl rfl rfl rfl ?_
                            refine gq (y_bare (y_move (v := .int _ _) rfl)) rfl rfl rfl ?_
                            refine gq_on rfl rfl rfl rfl rfl ?_
                            refine gq (y_bare (y_indexAddr_arr (m := k) Try.underlying38 Try.sizeOf4 rfl rfl rfl (by omega) (by omega))) rfl rfl rfl ?_
                            refine gq_on rfl rfl rfl rfl rfl ?_
                            refine gq (y_bare (y_load Try.isAgg4 rfl (cell_box 7 rfl (traceK_cell (by omega))))) rfl rfl rfl ?_
                            refine gq_on rfl rfl rfl rfl rfl ?_
                            refine gq (y_bare (y_not rfl)) rfl rfl rfl ?_
                            refine gq_on rfl rfl rfl rfl rfl ?_
                            refine gq (y_bare (y_move (v := .bool _) rfl)) rfl rfl rfl ?_
                            refine gq_if (want := true) rfl rfl rfl rfl rfl rfl (fun hg227 => ?_) (fun hg227 => ?_)
                            · -- guard 227 on
                              have hg227d := not_t hg227
                              refine gq (y_bare (y_move (v := .slice _ _ _) rfl)) rfl rfl rfl ?_
                              refine gq_on rfl rfl rfl rfl hg227 ?_
                              refine gq (y_bare (y_move (v := .int _ _) rfl)) rfl rfl rfl ?_
                              refine gq_on rfl rfl rfl rfl hg227 ?_
                              refine gq (y_bare (y_indexAddr Try.underlying30 Try.sizeOf3 rfl rfl rfl (by omega) (by omega))) rfl rfl rfl ?_
                              refine gq_on rfl rfl rfl rfl hg227 ?_
                              refine gq (y_bare (y_load Try.isAgg3 rfl (cell_seal 2 rfl (by rw [block_add]; exact hlo2) (hcl 0 _ rfl)))) rfl rfl rfl ?_
                              refine gq_on rfl rfl rfl rfl hg227 ?_
                              refine gq (y_bare (y_neq rfl rfl)) rfl rfl rfl ?_
                              refine gq_on rfl rfl rfl rfl rfl ?_
                              refine gq (y_bare (y_pick_t (v := .bool _) rfl hg227 rfl)) rfl rfl rfl ?_
                              refine gq (y_pick_f (v := .bool _) rfl rfl rfl) rfl rfl rfl ?_
                              refine gqs_nil ?_
                              refine hN48 _ _ ?_
                              refine gfrom [(3, .int _ _), (12, .slice _ _ _), (22, .pointer _), (23, .pointer _), (24, .int _ _), (234, .bool _)] ⟨rfl, rfl, rfl, rfl, rfl, rfl, trivial⟩ fun σ => ?_
                              refine gcond (b := _) rfl (fun hc234 => ?_) (fun hc234 => ?_)
                              · -- slot 234 t
                                first | (exfalso; simp [hg212] at hg227; done) | exact (of_decide_eq_true hc234 (by rw [hkl, keptAt, if_neg (by simp [hg212])])).elim
                              · -- slot 234 f
                                replace hc234 := Decidable.not_not.1 (of_decide_eq_false hc234)
                                refine gskip ?_
                                refine hN47 _ _ ?_
                                refine gfrom [(3, .int _ _), (12, .slice _ _ _), (22, .pointer _), (23, .pointer _), (24, .int _ _)] ⟨rfl, rfl, rfl, rfl, rfl, trivial⟩ fun σ => ?_
                                refine greg ?_
                                refine gop (y_move (v := .int _ _) rfl) rfl rfl rfl ?_
                                refine gop (y_add rfl rfl ⟨by omega, by omega⟩) rfl rfl rfl ?_
                                refine gop (y_assign (v := .int _ _) rfl) rfl rfl rfl ?_
                                refine gops_nil ?_
                                refine gnext2 (k + 1) (by omega) (show k + 1 ≤ q by omega) ⟨rfl, trivial⟩ ⟨rfl, rfl, rfl, rfl, trivial⟩ ⟨_, rfl⟩
                            · -- guard 227 off
                              have hg227d := not_f hg227
                              refine gq_off rfl rfl rfl rfl hg227 rfl rfl ?_
                              refine gq_off rfl rfl rfl rfl hg227 rfl rfl ?_
                              refine gq_off rfl rfl rfl rfl hg227 rfl rfl ?_
                              refine gq_off rfl rfl rfl rfl hg227 rfl rfl ?_
                              refine gq_on rfl rfl rfl rfl rfl ?_
                              refine gq (y_bare (y_pick_f (v := .bool _) rfl hg227 rfl)) rfl rfl rfl ?_
                              refine gq (y_pick_f (v := .bool _) rfl rfl rfl) rfl rfl rfl ?_
                              refine gqs_nil ?_
                              refine hN48 _ _ ?_
                              refine gfrom [(3, .int _ _), (12, .slice _ _ _), (22, .pointer _), (23, .pointer _), (24, .int _ _), (234, .bool _)] ⟨rfl, rfl, rfl, rfl, rfl, rfl, trivial⟩ fun σ => ?_
                              refine gcond (b := _) rfl (fun hc234 => ?_) (fun hc234 => ?_)
                              · -- slot 234 t
                                cases hc234
                              · -- slot 234 f
                                refine gskip ?_
                                refine hN47 _ _ ?_
                                refine gfrom [(3, .int _ _), (12, .slice _ _ _), (22, .pointer _), (23, .pointer _), (24, .int _ _)] ⟨rfl, rfl, rfl, rfl, rfl, trivial⟩ fun σ => ?_
                                refine greg ?_
                                refine gop (y_move (v := .int _ _) rfl) rfl rfl rfl ?_
                                refine gop (y_add rfl rfl ⟨by omega, by omega⟩) rfl rfl rfl ?_
                                refine gop (y_assign (v := .int _ _) rfl) rfl rfl rfl ?_
                                refine gops_nil ?_
                                refine gnext2 (k + 1) (by omega) (show k + 1 ≤ q by omega) ⟨rfl, trivial⟩ ⟨rfl, rfl, rfl, rfl, trivial⟩ ⟨_, rfl⟩
                        · -- slot 206 f
                          replace hc206 := of_decide_eq_false hc206
                          refine gexit ?_
                          refine hN43 _ _ ?_
                          refine gfrom [] trivial fun σ => ?_
                          refine gseq fun N49 hN49 => ?_
                          refine greg ?_
                          refine gop (y_assign (v := .bool _) rfl) rfl rfl rfl ?_
                          refine gops_nil ?_
                          refine hN49 _ _ ?_
                          refine gfrom [(8, .bool _)] ⟨rfl, trivial⟩ fun σ => ?_
                          refine gret fun w1 hM => ?_
                          refine ⟨_, res1 rfl (rt (v := .bool _) rfl), ?_⟩
                          exact ⟨rfl, hM.low⟩
                  · -- guard 193 off
                    simp [hkf] at hg193
end Go.Proofs.Ytbaojdiccikbiaa
