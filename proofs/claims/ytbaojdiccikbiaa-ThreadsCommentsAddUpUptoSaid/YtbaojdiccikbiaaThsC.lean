/- walks, printed by program -/
import Derived.Test.YtbaojdiccikbiaaThsB
namespace Go.Proofs.Ytbaojdiccikbiaa
open Go.RowKit Go.Cf
set_option maxRecDepth 10000



set_option maxHeartbeats 2000000 in
theorem follow_any (w : World) (H : Option Addr) (hc : Nat) (l : List Thr) (hl : Rdl w 0 5 thrCells H l) (hl12 : l.length ≤ 12) (hlo : ∀ t ∈ l, 0 ≤ t.line) (hhi : ∀ t ∈ l, t.line ≤ 120) (A : Option Addr) (c : Nat) (hs : List HunkC) (hp : PatR w 0 A c hs) (v : PV (pls hs)) :
    Calls Try.prog 45 #[.slice H l.length hc, .agg #[.slice A hs.length c]] w fun e w' => ∃ v' T', e = .returned v' ∧ T' = [rowl thrCells w.heap.size 60 5 v' (l.map (followT (pls hs)))] ∧ Mem w T' w' := by
  refine gcalls Try.func45 rfl Try.ntmps45 (Nat.le_of_ble_eq_true rfl) ?_
  refine gfrom [(0, .slice _ _ _), (1, .agg #[_])] ⟨rfl, rfl, trivial⟩ fun σ => ?_
  refine gseq fun N1 hN1 => ?_
  refine greg ?_
  refine gop_box (v := .agg #[_]) (cs := #[_]) rfl rfl rfl (fun b3 hb3 => ?_)
  refine gop (y_assign (v := .slice _ _ _) rfl) rfl rfl rfl ?_
  refine gops_nil ?_
  refine hN1 _ _ ?_
  refine gT [box b3 _] rfl ?_
  refine gfrom [(0, .slice _ _ _), (3, .pointer _)] ⟨rfl, rfl, trivial⟩ fun σ => ?_
  refine gseq fun N2 hN2 => ?_
  refine greg ?_
  refine gop (y_loads (cs := [_]) Try.isAgg25 Try.sizeOf25 rfl rfl (cells_box 0 rfl)) rfl rfl rfl ?_
  refine gop_pure (e_call (vs := [.agg #[_]]) Try.func19 rfl (by kernel_rfl) rfl) (fun w hM => trace_any w _ _ hs (PatR.lasts.base hp hM) v) rfl rfl rfl ?_
  refine gop (y_move (v := .tuple #[.agg _, .agg _]) rfl) rfl rfl rfl ?_
  refine gop (y_extract (v := .agg _) rfl rfl) rfl rfl rfl ?_
  refine gop (y_extract (v := .agg _) rfl rfl) rfl rfl rfl ?_
  refine gop_alloc (cs := ((List.replicate 130 (0 : Int)).flatMap intCells).toArray) zvInts rfl rfl (fun b5 hb5 => ?_)
  refine gop_alloc (cs := ((List.replicate 130 false).flatMap boolCells).toArray) zvBools rfl rfl (fun b6 hb6 => ?_)
  refine gop_store_flat 1 (f := intCells) wide_int rfl rfl szInts (by rw [traceP_len]) rfl (by rw [traceP_len]; rfl) rfl ?_
  refine gop_store_flat 2 (f := boolCells) wide_bool rfl rfl szBools (by rw [traceK_len]) rfl (by rw [traceK_len]; rfl) rfl ?_
  refine gops_nil ?_
  refine hN2 _ _ ?_
  refine gT [box b3 _, box b5 _, box b6 _] rfl ?_
  refine gfrom [(0, .slice _ _ _), (5, .pointer _), (6, .pointer _)] ⟨rfl, rfl, rfl, trivial⟩ fun σ => ?_
  refine gseq fun N3 hN3 => ?_
  refine greg ?_
  refine gop (y_assign (v := .slice _ _ _) rfl) rfl rfl rfl ?_
  refine gops_nil ?_
  refine hN3 _ _ ?_
  refine gfrom [(0, .slice _ _ _), (5, .pointer _), (6, .pointer _), (7, .slice _ _ _)] ⟨rfl, rfl, rfl, rfl, trivial⟩ fun σ => ?_
  refine gseq fun N4 hN4 => ?_
  refine gseq fun N5 hN5 => ?_
  refine greg ?_
  refine gop (y_assign (v := .int _ _) rfl) rfl rfl rfl ?_
  refine gops_nil ?_
  refine hN5 _ _ ?_
  refine gfrom [(0, .slice _ _ _), (5, .pointer _), (6, .pointer _), (7, .slice _ _ _), (8, .int _ _)] ⟨rfl, rfl, rfl, rfl, rfl, trivial⟩ fun σ => ?_
  refine gblock ?_
  refine gnilrow thrCells 60 5 ?_
  refine gfrom2 [(7, .slice _ _ _), (8, .int _ _)] [(0, .slice _ _ _), (5, .pointer _), (6, .pointer _)] ⟨rfl, rfl, trivial⟩ ⟨rfl, rfl, rfl, trivial⟩ fun σ => ?_
  refine gloop2 (G := Nat × Option Addr × Nat) (fun (k, Av, cv) => k ≤ l.length) (fun (k, Av, cv) => l.length - k) (fun (k, Av, cv) => [(7, .slice Av ((l.take k).map (followT (pls hs))).length cv), (8, .int .i64 (k : Int))]) (fun (k, Av, cv) => [(3, rowl thrCells w.heap.size 60 5 (.slice Av ((l.take k).map (followT (pls hs))).length cv) (((l.take k).map (followT (pls hs)))))]) ((0, none, 0)) ?h0 ⟨rfl, rfl, trivial⟩ ⟨rfl, rfl, rfl, trivial⟩ rfl ?round
  case h0 => exact Nat.zero_le _
  case round =>
    rintro ⟨k, Av, cv⟩ hφ σ
    have hk : k ≤ l.length := hφ
    refine gT [box b3 _, box b5 _, box b6 _, rowl _ _ _ _ _ _] rfl ?_
    refine gseq fun N6 hN6 => ?_
    refine gseq fun N7 hN7 => ?_
    refine greg ?_
    refine gop (y_move (v := .int _ _) rfl) rfl rfl rfl ?_
    refine gop (y_move (v := .slice _ _ _) rfl) rfl rfl rfl ?_
    refine gop (y_len Try.underlying55 rfl) rfl rfl rfl ?_
    refine gop (y_lss rfl rfl) rfl rfl rfl ?_
    refine gops_nil ?_
    refine hN7 _ _ ?_
    refine gfrom [(0, .slice _ _ _), (5, .pointer _), (6, .pointer _), (7, .slice Av _ cv), (8, .int _ _), (18, .bool _)] ⟨rfl, rfl, rfl, rfl, rfl, rfl, trivial⟩ fun σ => ?_
    refine gcond (b := _) rfl (fun hc18 => ?_) (fun hc18 => ?_)
    · -- slot 18 t
      replace hc18 := of_decide_eq_true hc18
      have hk1 : k < l.length := by omega
      obtain ⟨ad, rfl, -, hct⟩ := hl.at_ hk1
      have hln0 := hlo _ (List.getElem_mem hk1)
      have hln1 := hhi _ (List.getElem_mem hk1)
      have htn : ((l[k].line.toNat : Nat) : Int) = l[k].line := by omega
      have hts : ((l.take k).map (followT (pls hs))) ++ [followT (pls hs) l[k]] = (l.take (k + 1)).map (followT (pls hs)) := by rw [List.take_succ_eq_append_getElem hk1, List.map_append]; rfl
      refine gskip ?_
      refine hN6 _ _ ?_
      refine gfrom [(0, .slice _ _ _), (5, .pointer _), (6, .pointer _), (7, .slice Av _ cv), (8, .int _ _)] ⟨rfl, rfl, rfl, rfl, rfl, trivial⟩ fun σ => ?_
      refine gseq fun N8 hN8 => ?_
      refine gblock ?_
      refine gseq fun N9 hN9 => ?_
      refine greg ?_
      refine gop (y_move (v := .slice _ _ _) rfl) rfl rfl rfl ?_
      refine gop (y_move (v := .int _ _) rfl) rfl rfl rfl ?_
      refine gop (y_indexAddr Try.underlying55 Try.sizeOf60 rfl rfl rfl (by omega) (by omega)) rfl rfl rfl ?_
      refine gop (y_loads (cs := [_, _, _, _, _]) Try.isAgg60 Try.sizeOf60 rfl rfl (cells_base hct)) rfl rfl rfl ?_
      refine gop_alloc (cs := #[.int .i64 0, .int .i64 0, .int .i64 0, .bool false, .bool false]) Try.zeroValue60 rfl rfl (fun b9 hb9 => ?_)
      refine gop_store 4 (v := .agg #[_, _, _, _, _]) (cs' := #[_, _, _, _, _]) rfl rfl Try.sizeOf60 rfl rfl rfl rfl (Nat.le_of_ble_eq_true rfl) rfl rfl ?_
      refine gops_nil ?_
      refine hN9 _ _ ?_
      refine gT [box b3 _, box b5 _, box b6 _, rowl _ _ _ _ _ _, box b9 _] rfl ?_
      refine gfrom [(0, .slice _ _ _), (5, .pointer _), (6, .pointer _), (7, .slice Av _ cv), (8, .int _ _), (9, .pointer _)] ⟨rfl, rfl, rfl, rfl, rfl, rfl, trivial⟩ fun σ => ?_
      refine gseq fun N10 hN10 => ?_
      refine gfrom [(0, .slice _ _ _), (5, .pointer _), (6, .pointer _), (7, .slice Av _ cv), (8, .int _ _), (9, .pointer _)] ⟨rfl, rfl, rfl, rfl, rfl, rfl, trivial⟩ fun σ => ?_
      refine gcut3 (Lf := [(0, .slice _ _ _), (5, .pointer _), (6, .pointer _), (7, .slice Av _ cv), (8, .int _ _), (9, .pointer _)]) (G := Unit) (fun g => True) (fun g => []) (fun g => [(4, box b9 (.cells #[.int .i64 (followT (pls hs) l[k]).user, .int .i64 (followT (pls hs) l[k]).line, .int .i64 (followT (pls hs) l[k]).comments, .bool (followT (pls hs) l[k]).outdated, .bool (followT (pls hs) l[k]).resolved] 60))]) ⟨rfl, rfl, rfl, rfl, rfl, rfl, trivial⟩ ?_ ?_
      ·
        refine gseq fun N11 hN11 => ?_
        refine greg ?_
        refine gop (y_fieldAddr_box fa60_3 rfl) rfl rfl rfl ?_
        refine gop (y_load Try.isAgg4 rfl (cell_box 4 rfl rfl)) rfl rfl rfl ?_
        refine gop (y_not rfl) rfl rfl rfl ?_
        refine gop (y_move (v := .bool _) rfl) rfl rfl rfl ?_
        refine gop_if (want := true) rfl rfl rfl rfl rfl rfl (fun hg28 => ?_) (fun hg28 => ?_)
        · -- guard 28 on
          have hg28d := not_t hg28
          refine gop (y_bare (y_fieldAddr_box fa60_1 rfl)) rfl rfl rfl ?_
          refine gop_on rfl rfl rfl rfl hg28 ?_
          refine gop (y_bare (y_load Try.isAgg3 rfl (cell_box 4 rfl rfl))) rfl rfl rfl ?_
          refine gop_on rfl rfl rfl rfl hg28 ?_
          refine gop (y_bare (y_indexAddr_arr (m := l[k].line.toNat) Try.underlying38 Try.sizeOf4 rfl rfl rfl (by omega) (by omega))) rfl rfl rfl ?_
          refine gop_on rfl rfl rfl rfl hg28 ?_
          refine gop (y_bare (y_load Try.isAgg4 rfl (cell_box 2 rfl (traceK_cell (by omega))))) rfl rfl rfl ?_
          refine gop (y_pick_t (v := .bool _) rfl hg28 rfl) rfl rfl rfl ?_
          refine gops_nil ?_
          refine hN11 _ _ ?_
          refine gfrom [(0, .slice _ _ _), (5, .pointer _), (6, .pointer _), (7, .slice Av _ cv), (8, .int _ _), (9, .pointer _), (33, .bool _)] ⟨rfl, rfl, rfl, rfl, rfl, rfl, rfl, trivial⟩ fun σ => ?_
          refine gcond (b := _) rfl (fun hc33 => ?_) (fun hc33 => ?_)
          · -- slot 33 t
            have hft : followT (pls hs) l[k] = { l[k] with line := (place (pls hs) ((l[k].line.toNat : Nat) : Int) 0).1 } := by rw [followT_upd, if_pos ⟨hg28d, by rw [← htn]; exact hc33⟩, htn]
            refine greg ?_
            refine gop (y_fieldAddr_box fa60_1 rfl) rfl rfl rfl ?_
            refine gop (y_load Try.isAgg3 rfl (cell_box 4 rfl rfl)) rfl rfl rfl ?_
            refine gop (y_indexAddr_arr (m := l[k].line.toNat) Try.underlying37 Try.sizeOf3 rfl rfl rfl (by omega) (by omega)) rfl rfl rfl ?_
            refine gop (y_load Try.isAgg3 rfl (cell_box 1 rfl (traceP_cell (by omega)))) rfl rfl rfl ?_
            refine gop (y_fieldAddr_box fa60_1 rfl) rfl rfl rfl ?_
            refine gop_store 4 (v := .int _ _) (cs' := #[_, _, _, _, _]) rfl rfl Try.sizeOf3 rfl rfl rfl rfl (Nat.le_of_ble_eq_true rfl) rfl rfl ?_
            refine gops_nil ?_
            rw [hft]
            refine gcut3_end (()) (trivial) trivial ⟨rfl, rfl, rfl, rfl, rfl, rfl, trivial⟩ ⟨_, rfl⟩
          · -- slot 33 f
            have hft : followT (pls hs) l[k] = { l[k] with outdated := true } := by rw [followT_upd, if_neg (by rw [← htn]; intro h2; simp_all)]
            refine greg ?_
            refine gop (y_fieldAddr_box fa60_3 rfl) rfl rfl rfl ?_
            refine gop_store 4 (v := .bool _) (cs' := #[_, _, _, _, _]) rfl rfl Try.sizeOf4 rfl rfl rfl rfl (Nat.le_of_ble_eq_true rfl) rfl rfl ?_
            refine gops_nil ?_
            rw [hft]
            refine gcut3_end (()) (trivial) trivial ⟨rfl, rfl, rfl, rfl, rfl, rfl, trivial⟩ ⟨_, rfl⟩
        · -- guard 28 off
          have hg28d := not_f hg28
          refine gop_off rfl rfl rfl rfl hg28 rfl rfl ?_
          refine gop_off rfl rfl rfl rfl hg28 rfl rfl ?_
          refine gop_off rfl rfl rfl rfl hg28 rfl rfl ?_
          refine gop (y_pick_f (v := .bool _) rfl hg28 rfl) rfl rfl rfl ?_
          refine gops_nil ?_
          refine hN11 _ _ ?_
          refine gfrom [(0, .slice _ _ _), (5, .pointer _), (6, .pointer _), (7, .slice Av _ cv), (8, .int _ _), (9, .pointer _), (33, .bool _)] ⟨rfl, rfl, rfl, rfl, rfl, rfl, rfl, trivial⟩ fun σ => ?_
          refine gcond (b := _) rfl (fun hc33 => ?_) (fun hc33 => ?_)
          · -- slot 33 t
            cases hc33
          · -- slot 33 f
            have hft : followT (pls hs) l[k] = { l[k] with outdated := true } := by rw [followT_upd, if_neg (by rw [← htn]; intro h2; simp_all)]
            refine greg ?_
            refine gop (y_fieldAddr_box fa60_3 rfl) rfl rfl rfl ?_
            refine gop_store 4 (v := .bool _) (cs' := #[_, _, _, _, _]) rfl rfl Try.sizeOf4 rfl rfl rfl rfl (Nat.le_of_ble_eq_true rfl) rfl rfl ?_
            refine gops_nil ?_
            rw [hft]
            refine gcut3_end (()) (trivial) trivial ⟨rfl, rfl, rfl, rfl, rfl, rfl, trivial⟩ ⟨_, rfl⟩
      ·
        intro g hcut σ
        refine hN10 _ _ ?_
        refine greg ?_
        refine gop (y_move (v := .slice Av _ cv) rfl) rfl rfl rfl ?_
        refine gop (y_loads (cs := [_, _, _, _, _]) Try.isAgg60 Try.sizeOf60 rfl rfl (cells_box 4 rfl)) rfl rfl rfl ?_
        refine gop_lit (vs := [.agg #[_, _, _, _, _]]) (cells := #[_, _, _, _, _]) Try.underlying55 Try.sizeOf60 Try.zeroValue60 rfl (by decide) (by decide) rfl rfl rfl rfl (fun b42 hb42 => ?_)
        refine gop_append 3 (f := thrCells) (l2 := [followT (pls hs) l[k]]) Try.underlying55 el60 wide_thr (v := .slice Av _ cv) rfl rfl rfl rfl (fun h => by cases h) (by simp [maxLen]; omega) (by simp; omega) (src_box 5 rfl rfl) rfl (fun v43 => ?_)
        refine gops_fact (fun w hM => own_form (hM.own 3 rfl)) ?_
        rintro ⟨A43, c43, rfl, hc43, hm43⟩
        refine gop (y_assign (v := .slice A43 _ c43) rfl) rfl rfl rfl ?_
        refine gops_nil ?_
        refine hN8 _ _ ?_
        refine gT [box b3 _, box b5 _, box b6 _, rowl _ _ _ _ _ _, box b9 _, box b42 _] rfl ?_
        refine gfrom [(0, .slice _ _ _), (5, .pointer _), (6, .pointer _), (7, .slice A43 _ c43), (8, .int _ _)] ⟨rfl, rfl, rfl, rfl, rfl, trivial⟩ fun σ => ?_
        refine greg ?_
        refine gop (y_move (v := .int _ _) rfl) rfl rfl rfl ?_
        refine gop (y_add rfl rfl ⟨by omega, by omega⟩) rfl rfl rfl ?_
        refine gop (y_assign (v := .int _ _) rfl) rfl rfl rfl ?_
        refine gops_nil ?_
        rw [hts]
        refine gnext2 ((k + 1, A43, c43)) (by show l.length - (k + 1) < l.length - k; omega) (show k + 1 ≤ _ by omega) ⟨(by first | rfl | (rw [← hts]; rfl)), rfl, trivial⟩ ⟨rfl, rfl, rfl, trivial⟩ ⟨_, rfl⟩
    · -- slot 18 f
      replace hc18 := of_decide_eq_false hc18
      have hfin : ((l.take k).map (followT (pls hs))) = l.map (followT (pls hs)) := by rw [List.take_of_length_le (by omega)]
      refine gexit ?_
      refine hN4 _ _ ?_
      refine gfrom [(7, .slice Av _ cv)] ⟨rfl, trivial⟩ fun σ => ?_
      refine gseq fun N12 hN12 => ?_
      refine greg ?_
      refine gop (y_move (v := .slice Av _ cv) rfl) rfl rfl rfl ?_
      refine gop (y_assign (v := .slice Av _ cv) rfl) rfl rfl rfl ?_
      refine gops_nil ?_
      refine hN12 _ _ ?_
      refine gfrom [(4, .slice Av _ cv)] ⟨rfl, trivial⟩ fun σ => ?_
      refine gret fun w1 hM => ?_
      refine ⟨_, res1 rfl (rt (v := .slice Av _ cv) rfl), ?_⟩
      rw [hfin] at hM
      exact ⟨_, _, by rw [hfin], rfl, hM.dropTo 3 rfl⟩

set_option maxHeartbeats 4000000 in
theorem comment_any (w : World) (H : Option Addr) (hc : Nat) (l : List Thr) (hl : Rdl w 0 5 thrCells H l) (hlc : l.length ≤ hc) (hcm : hc ≤ maxLen) (hH : H = none → hc = 0) (text : List ByteArray) (x : EvC) (hi : RI (l, text) 100) (hf : formC x.pl = 0) (h4 : x.kind ≠ 4) :
    Calls Try.prog 46 #[.slice H l.length hc, evV x, .int .i64 text.length] w fun e w' => ∃ A' c' T', e = .returned (.tuple #[.slice A' (stepE (l, text) x.pl).2.1.length c', .int .i64 (stepE (l, text) x.pl).1]) ∧ (stepE (l, text) x.pl).2.1.length ≤ c' ∧ c' ≤ maxLen ∧ (A' = none → c' = 0) ∧ ((A' = H ∧ (stepE (l, text) x.pl).2.1 = l) ∨ ∀ w1, (∀ r ∈ T', r.ok w1) → Rdl w1 w.heap.size 5 thrCells A' (stepE (l, text) x.pl).2.1) ∧ Mem w T' w' := by
  have hi3 := hi.few
  simp only at hi3
  refine gcalls Try.func46 rfl Try.ntmps46 (Nat.le_of_ble_eq_true rfl) ?_
  refine gfrom [(0, .slice _ _ _), (1, .agg #[_, _, _, _, _, _]), (2, .int _ _)] ⟨rfl, rfl, rfl, trivial⟩ fun σ => ?_
  refine gseq fun N1 hN1 => ?_
  refine greg ?_
  refine gop_box (v := .agg #[_, _, _, _, _, _]) (cs := #[_, _, _, _, _, _]) rfl rfl rfl (fun b4 hb4 => ?_)
  refine gop (y_assign (v := .slice _ _ _) rfl) rfl rfl rfl ?_
  refine gop (y_assign (v := .int _ _) rfl) rfl rfl rfl ?_
  refine gops_nil ?_
  refine hN1 _ _ ?_
  refine gT [box b4 _] rfl ?_
  refine gfrom [(0, .slice _ _ _), (2, .int _ _), (4, .pointer _)] ⟨rfl, rfl, rfl, trivial⟩ fun σ => ?_
  refine gseq fun N2 hN2 => ?_
  refine greg ?_
  refine gop (y_move (v := .slice _ _ _) rfl) rfl rfl rfl ?_
  refine gops_nilrow thrCells 60 5 ?_
  refine gop_append 1 (f := thrCells) (l2 := l) Try.underlying55 el60 wide_thr (v := .slice none 0 0) rfl rfl rfl rfl hH (by simp [maxLen]; omega) (by simp; omega) (fun w hM => (hl.base hM).src (fun _ => rfl)) rfl (fun v10 => ?_)
  refine gops_fact (fun w hM => own_form (hM.own 1 rfl)) ?_
  rintro ⟨A10, c10, rfl, hc10, hm10⟩
  refine gop (y_assign (v := .slice A10 _ c10) rfl) rfl rfl rfl ?_
  refine gops_nil ?_
  refine hN2 _ _ ?_
  refine gT [box b4 _, rowl _ _ _ _ _ _] rfl ?_
  refine gfrom [(0, .slice _ _ _), (2, .int _ _), (4, .pointer _), (8, .slice A10 _ c10)] ⟨rfl, rfl, rfl, rfl, trivial⟩ fun σ => ?_
  refine gseq fun N3 hN3 => ?_
  refine gseq fun N4 hN4 => ?_
  refine greg ?_
  refine gop (y_fieldAddr_box fa66_0 rfl) rfl rfl rfl ?_
  refine gop (y_load Try.isAgg3 rfl (cell_box 0 rfl rfl)) rfl rfl rfl ?_
  refine gop (y_eql rfl rfl) rfl rfl rfl ?_
  refine gops_nil ?_
  refine hN4 _ _ ?_
  refine gfrom [(0, .slice _ _ _), (2, .int _ _), (4, .pointer _), (8, .slice A10 _ c10), (13, .bool _)] ⟨rfl, rfl, rfl, rfl, rfl, trivial⟩ fun σ => ?_
  refine gcond (b := _) rfl (fun hc13 => ?_) (fun hc13 => ?_)
  · -- slot 13 t
    replace hc13 := of_decide_eq_true hc13
    refine gseq fun N5 hN5 => ?_
    refine gseq fun N6 hN6 => ?_
    refine greg ?_
    refine gop (y_fieldAddr_box fa66_3 rfl) rfl rfl rfl ?_
    refine gop (y_load Try.isAgg3 rfl (cell_box 0 rfl rfl)) rfl rfl rfl ?_
    refine gop (y_lss rfl rfl) rfl rfl rfl ?_
    refine gop (y_move (v := .bool _) rfl) rfl rfl rfl ?_
    refine gop_if (want := false) rfl rfl rfl rfl rfl rfl (fun hg17 => ?_) (fun hg17 => ?_)
    · -- guard 17 on
      have hg17d := of_decide_eq_false hg17
      refine gop (y_bare (y_fieldAddr_box fa66_3 rfl)) rfl rfl rfl ?_
      refine gop_on rfl rfl rfl rfl hg17 ?_
      refine gop (y_bare (y_load Try.isAgg3 rfl (cell_box 0 rfl rfl))) rfl rfl rfl ?_
      refine gop_on rfl rfl rfl rfl hg17 ?_
      refine gop (y_bare (y_move (v := .int _ _) rfl)) rfl rfl rfl ?_
      refine gop_on rfl rfl rfl rfl hg17 ?_
      refine gop (y_bare (y_geq rfl rfl)) rfl rfl rfl ?_
      refine gop (y_pick_f (v := .bool _) rfl hg17 rfl) rfl rfl rfl ?_
      refine gops_nil ?_
      refine hN6 _ _ ?_
      refine gfrom [(0, .slice _ _ _), (4, .pointer _), (8, .slice A10 _ c10), (22, .bool _)] ⟨rfl, rfl, rfl, rfl, trivial⟩ fun σ => ?_
      refine gcond (b := _) rfl (fun hc22 => ?_) (fun hc22 => ?_)
      · -- slot 22 t
        replace hc22 := of_decide_eq_true hc22
        have hS : stepE (l, text) x.pl = (3, (l, text)) := by rw [stepE_open (e := x.pl) hf hc13, if_pos (show x.pl.line < 0 ∨ (text.length : Int) ≤ x.pl.line from by show x.line < 0 ∨ _ ≤ x.line; omega)]
        refine gseq fun N7 hN7 => ?_
        refine greg ?_
        refine gop (y_move (v := .slice _ _ _) rfl) rfl rfl rfl ?_
        refine gop (y_assign (v := .slice _ _ _) rfl) rfl rfl rfl ?_
        refine gop (y_assign (v := .int _ _) rfl) rfl rfl rfl ?_
        refine gops_nil ?_
        refine hN7 _ _ ?_
        refine gfrom [(6, .slice _ _ _), (7, .int _ _)] ⟨rfl, rfl, trivial⟩ fun σ => ?_
        refine gret fun w1 hM => ?_
        refine ⟨_, res2 rfl (rt (v := .slice _ _ _) rfl) (rt (v := .int _ _) rfl), ?_⟩
        rw [hS]
        exact ⟨_, _, _, rfl, hlc, hcm, hH, .inl ⟨rfl, rfl⟩, hM⟩
      · -- slot 22 f
        replace hc22 := of_decide_eq_false hc22
        have hL : ¬ (x.pl.line < 0 ∨ (text.length : Int) ≤ x.pl.line) := by show ¬ (x.line < 0 ∨ _ ≤ x.line); omega
        refine gskip ?_
        refine hN5 _ _ ?_
        refine gfrom [(0, .slice _ _ _), (4, .pointer _), (8, .slice A10 _ c10)] ⟨rfl, rfl, rfl, trivial⟩ fun σ => ?_
        refine gseq fun N8 hN8 => ?_
        refine gseq fun N9 hN9 => ?_
        refine greg ?_
        refine gop (y_move (v := .slice _ _ _) rfl) rfl rfl rfl ?_
        refine gop (y_len Try.underlying55 rfl) rfl rfl rfl ?_
        refine gop (y_geq rfl rfl) rfl rfl rfl ?_
        refine gops_nil ?_
        refine hN9 _ _ ?_
        refine gfrom [(0, .slice _ _ _), (4, .pointer _), (8, .slice A10 _ c10), (26, .bool _)] ⟨rfl, rfl, rfl, rfl, trivial⟩ fun σ => ?_
        refine gcond (b := _) rfl (fun hc26 => ?_) (fun hc26 => ?_)
        · -- slot 26 t
          replace hc26 := of_decide_eq_true hc26
          have hS : stepE (l, text) x.pl = (14, (l, text)) := by rw [stepE_open (e := x.pl) hf hc13, if_neg hL, if_pos (show 12 ≤ l.length by omega)]
          refine gseq fun N10 hN10 => ?_
          refine greg ?_
          refine gop (y_move (v := .slice _ _ _) rfl) rfl rfl rfl ?_
          refine gop (y_assign (v := .slice _ _ _) rfl) rfl rfl rfl ?_
          refine gop (y_assign (v := .int _ _) rfl) rfl rfl rfl ?_
          refine gops_nil ?_
          refine hN10 _ _ ?_
          refine gfrom [(6, .slice _ _ _), (7, .int _ _)] ⟨rfl, rfl, trivial⟩ fun σ => ?_
          refine gret fun w1 hM => ?_
          refine ⟨_, res2 rfl (rt (v := .slice _ _ _) rfl) (rt (v := .int _ _) rfl), ?_⟩
          rw [hS]
          exact ⟨_, _, _, rfl, hlc, hcm, hH, .inl ⟨rfl, rfl⟩, hM⟩
        · -- slot 26 f
          replace hc26 := of_decide_eq_false hc26
          have hS : stepE (l, text) x.pl = (0, (l ++ [⟨x.user, x.line, 1, false, false⟩], text)) := by rw [stepE_open (e := x.pl) hf hc13, if_neg hL, if_neg (show ¬ 12 ≤ l.length by omega)]
          refine gskip ?_
          refine hN8 _ _ ?_
          refine gfrom [(4, .pointer _), (8, .slice A10 _ c10)] ⟨rfl, rfl, trivial⟩ fun σ => ?_
          refine gseq fun N11 hN11 => ?_
          refine greg ?_
          refine gop (y_move (v := .slice A10 _ c10) rfl) rfl rfl rfl ?_
          refine gop (y_fieldAddr_box fa66_1 rfl) rfl rfl rfl ?_
          refine gop (y_load Try.isAgg3 rfl (cell_box 0 rfl rfl)) rfl rfl rfl ?_
          refine gop (y_fieldAddr_box fa66_3 rfl) rfl rfl rfl ?_
          refine gop (y_load Try.isAgg3 rfl (cell_box 0 rfl rfl)) rfl rfl rfl ?_
          refine gop (y_build (vs := [(0, .int _ _), (1, .int _ _), (2, _)]) (cells := #[_, _, _, .bool false, .bool false]) rfl (bd60_0_1_2 _ _ _)) rfl rfl rfl ?_
          refine gop_lit (vs := [.agg #[_, _, _, _, _]]) (cells := #[_, _, _, _, _]) Try.underlying55 Try.sizeOf60 Try.zeroValue60 rfl (by decide) (by decide) rfl rfl rfl rfl (fun b34 hb34 => ?_)
          refine gop_append 1 (f := thrCells) (l2 := [⟨x.user, x.line, 1, false, false⟩]) Try.underlying55 el60 wide_thr (v := .slice A10 _ c10) rfl rfl rfl rfl (fun h => by cases h) (by simp [maxLen]; omega) (by simp; omega) (src_box 2 rfl rfl) rfl (fun v35 => ?_)
          refine gops_fact (fun w hM => own_some (hM.own 1 rfl) (by simp)) ?_
          rintro ⟨g35, c35, rfl, hc35, hm35⟩
          refine gop (y_assign (v := .slice (some ⟨g35, 0, none⟩) _ c35) rfl) rfl rfl rfl ?_
          refine gop (y_assign (v := .int _ _) rfl) rfl rfl rfl ?_
          refine gops_nil ?_
          refine hN11 _ _ ?_
          refine gT [box b4 _, rowl _ _ _ _ _ _, box b34 _] rfl ?_
          refine gfrom [(6, .slice (some ⟨g35, 0, none⟩) _ c35), (7, .int _ _)] ⟨rfl, rfl, trivial⟩ fun σ => ?_
          refine gret fun w1 hM => ?_
          refine ⟨_, res2 rfl (rt (v := .slice (some ⟨g35, 0, none⟩) _ c35) rfl) (rt (v := .int _ _) rfl), ?_⟩
          rw [hS]
          exact ⟨_, c35, _, rfl, hc35, hm35, (fun h => by cases h), .inr fun w1 h => row_rdl (f := thrCells) (fun _ => rfl) (h _ (List.mem_of_getElem? (i := 1) rfl)), hM⟩
    · -- guard 17 off
      have hg17d := of_decide_eq_true hg17
      refine gop_off rfl rfl rfl rfl hg17 rfl rfl ?_
      refine gop_off rfl rfl rfl rfl hg17 rfl rfl ?_
      refine gop_off rfl rfl rfl rfl hg17 rfl rfl ?_
      refine gop (y_pick_t (v := .bool _) rfl hg17 rfl) rfl rfl rfl ?_
      refine gops_nil ?_
      refine hN6 _ _ ?_
      refine gfrom [(0, .slice _ _ _), (4, .pointer _), (8, .slice A10 _ c10), (22, .bool _)] ⟨rfl, rfl, rfl, rfl, trivial⟩ fun σ => ?_
      refine gcond (b := _) rfl (fun hc22 => ?_) (fun hc22 => ?_)
      · -- slot 22 t
        have hS : stepE (l, text) x.pl = (3, (l, text)) := by rw [stepE_open (e := x.pl) hf hc13, if_pos (show x.pl.line < 0 ∨ (text.length : Int) ≤ x.pl.line from by show x.line < 0 ∨ _ ≤ x.line; omega)]
        refine gseq fun N12 hN12 => ?_
        refine greg ?_
        refine gop (y_move (v := .slice _ _ _) rfl) rfl rfl rfl ?_
        refine gop (y_assign (v := .slice _ _ _) rfl) rfl rfl rfl ?_
        refine gop (y_assign (v := .int _ _) rfl) rfl rfl rfl ?_
        refine gops_nil ?_
        refine hN12 _ _ ?_
        refine gfrom [(6, .slice _ _ _), (7, .int _ _)] ⟨rfl, rfl, trivial⟩ fun σ => ?_
        refine gret fun w1 hM => ?_
        refine ⟨_, res2 rfl (rt (v := .slice _ _ _) rfl) (rt (v := .int _ _) rfl), ?_⟩
        rw [hS]
        exact ⟨_, _, _, rfl, hlc, hcm, hH, .inl ⟨rfl, rfl⟩, hM⟩
      · -- slot 22 f
        cases hc22
  · -- slot 13 f
    replace hc13 := of_decide_eq_false hc13
    refine gskip ?_
    refine hN3 _ _ ?_
    refine gfrom [(0, .slice _ _ _), (4, .pointer _), (8, .slice A10 _ c10)] ⟨rfl, rfl, rfl, trivial⟩ fun σ => ?_
    refine gseq fun N13 hN13 => ?_
    refine gseq fun N14 hN14 => ?_
    refine greg ?_
    refine gop (y_fieldAddr_box fa66_2 rfl) rfl rfl rfl ?_
    refine gop (y_load Try.isAgg3 rfl (cell_box 0 rfl rfl)) rfl rfl rfl ?_
    refine gop (y_lss rfl rfl) rfl rfl rfl ?_
    refine gop (y_move (v := .bool _) rfl) rfl rfl rfl ?_
    refine gop_if (want := false) rfl rfl rfl rfl rfl rfl (fun hg39 => ?_) (fun hg39 => ?_)
    · -- guard 39 on
      have hg39d := of_decide_eq_false hg39
      refine gop (y_bare (y_fieldAddr_box fa66_2 rfl)) rfl rfl rfl ?_
      refine gop_on rfl rfl rfl rfl hg39 ?_
      refine gop (y_bare (y_load Try.isAgg3 rfl (cell_box 0 rfl rfl))) rfl rfl rfl ?_
      refine gop_on rfl rfl rfl rfl hg39 ?_
      refine gop (y_bare (y_move (v := .slice _ _ _) rfl)) rfl rfl rfl ?_
      refine gop_on rfl rfl rfl rfl hg39 ?_
      refine gop (y_bare (y_len Try.underlying55 rfl)) rfl rfl rfl ?_
      refine gop_on rfl rfl rfl rfl hg39 ?_
      refine gop (y_bare (y_geq rfl rfl)) rfl rfl rfl ?_
      refine gop (y_pick_f (v := .bool _) rfl hg39 rfl) rfl rfl rfl ?_
      refine gops_nil ?_
      refine hN14 _ _ ?_
      refine gfrom [(0, .slice _ _ _), (4, .pointer _), (8, .slice A10 _ c10), (45, .bool _)] ⟨rfl, rfl, rfl, rfl, trivial⟩ fun σ => ?_
      refine gcond (b := _) rfl (fun hc45 => ?_) (fun hc45 => ?_)
      · -- slot 45 t
        replace hc45 := of_decide_eq_true hc45
        have hS : stepE (l, text) x.pl = (6, (l, text)) := stepE_miss (e := x.pl) hf hc13 h4 (show ¬ (0 ≤ x.thread ∧ x.thread < (l.length : Int)) by omega)
        refine gseq fun N15 hN15 => ?_
        refine greg ?_
        refine gop (y_move (v := .slice _ _ _) rfl) rfl rfl rfl ?_
        refine gop (y_assign (v := .slice _ _ _) rfl) rfl rfl rfl ?_
        refine gop (y_assign (v := .int _ _) rfl) rfl rfl rfl ?_
        refine gops_nil ?_
        refine hN15 _ _ ?_
        refine gfrom [(6, .slice _ _ _), (7, .int _ _)] ⟨rfl, rfl, trivial⟩ fun σ => ?_
        refine gret fun w1 hM => ?_
        refine ⟨_, res2 rfl (rt (v := .slice _ _ _) rfl) (rt (v := .int _ _) rfl), ?_⟩
        rw [hS]
        exact ⟨_, _, _, rfl, hlc, hcm, hH, .inl ⟨rfl, rfl⟩, hM⟩
      · -- slot 45 f
        replace hc45 := of_decide_eq_false hc45
        have hr : 0 ≤ x.thread ∧ x.thread < (l.length : Int) := by omega
        have hK : x.thread.toNat < l.length := by omega
        obtain ⟨ad, rfl, -, hct⟩ := hl.at_ hK
        obtain ⟨t, ht, htc⟩ : ∃ t, l[x.thread.toNat]? = some t ∧ ∀ j u, (thrCells t)[j]? = some u → w.cell? (ad.add (x.thread.toNat * 5 + j)) = some u := ⟨_, List.getElem?_eq_getElem hK, hct⟩
        have hS0 := stepE_hit (s := (l, text)) (e := x.pl) hf hc13 h4 hr.1 ht
        have htm : t ∈ l := List.mem_of_getElem? ht
        have hc1 := hi.clo t htm
        have hc2 := hi.chi t htm
        refine g_fact (fun w hM => own_some (hM.own 1 rfl) (by simp; omega)) ?_
        rintro ⟨rg, cg, hvg, -, -⟩
        simp only [Value.slice.injEq] at hvg
        obtain ⟨rfl, -, rfl⟩ := hvg
        refine gskip ?_
        refine hN13 _ _ ?_
        refine gfrom [(0, .slice _ _ _), (4, .pointer _), (8, .slice (some ⟨rg, 0, none⟩) _ _)] ⟨rfl, rfl, rfl, trivial⟩ fun σ => ?_
        refine gseq fun N16 hN16 => ?_
        refine gseq fun N17 hN17 => ?_
        refine greg ?_
        refine gop (y_fieldAddr_box fa66_0 rfl) rfl rfl rfl ?_
        refine gop (y_load Try.isAgg3 rfl (cell_box 0 rfl rfl)) rfl rfl rfl ?_
        refine gop (y_eql rfl rfl) rfl rfl rfl ?_
        refine gops_nil ?_
        refine hN17 _ _ ?_
        refine gfrom [(0, .slice _ _ _), (4, .pointer _), (8, .slice (some ⟨rg, 0, none⟩) _ _), (49, .bool _)] ⟨rfl, rfl, rfl, rfl, trivial⟩ fun σ => ?_
        refine gcond (b := _) rfl (fun hc49 => ?_) (fun hc49 => ?_)
        · -- slot 49 t
          replace hc49 := of_decide_eq_true hc49
          have hS : stepE (l, text) x.pl = (0, (l.set x.thread.toNat { t with comments := t.comments + 1, resolved := false }, text)) := by rw [hS0, if_pos (show x.pl.kind = 2 from hc49)]
          refine gseq fun N18 hN18 => ?_
          refine greg ?_
          refine gop (y_move (v := .slice (some ⟨rg, 0, none⟩) _ _) rfl) rfl rfl rfl ?_
          refine gop (y_fieldAddr_box fa66_2 rfl) rfl rfl rfl ?_
          refine gop (y_load Try.isAgg3 rfl (cell_box 0 rfl rfl)) rfl rfl rfl ?_
          refine gop (y_indexAddr (m := x.thread.toNat) Try.underlying55 Try.sizeOf60 rfl rfl (by omega) (by omega) (by simp; omega)) rfl rfl rfl ?_
          refine gop (y_fieldAddr_add fa60_2 rfl) rfl rfl rfl ?_
          refine gop (y_load Try.isAgg3 rfl (cells_rowl 1 (f := thrCells) (l := l) rfl rfl (fun _ => rfl) ht 2 _ rfl)) rfl rfl rfl ?_
          refine gop (y_add rfl rfl ⟨by omega, by omega⟩) rfl rfl rfl ?_
          refine gop (y_indexAddr (m := x.thread.toNat) Try.underlying55 Try.sizeOf60 rfl rfl (by omega) (by omega) (by simp; omega)) rfl rfl rfl ?_
          refine gop (y_fieldAddr_add fa60_2 rfl) rfl rfl rfl ?_
          refine gop_store_row 1 (f := thrCells) (l := l) (k := x.thread.toNat) (o := 2) (v := .int _ _) (a := t) (a' := { t with comments := t.comments + 1 }) (fun _ => rfl) rfl rfl rfl Try.sizeOf3 rfl rfl rfl rfl rfl ht (Nat.le_of_ble_eq_true rfl) rfl rfl ?_
          refine gops_nil ?_
          refine hN18 _ _ ?_
          refine gT [box b4 _, rowl _ _ _ _ _ _] rfl ?_
          refine gfrom [(4, .pointer _), (8, .slice (some ⟨rg, 0, none⟩) _ _)] ⟨rfl, rfl, trivial⟩ fun σ => ?_
          refine gseq fun N19 hN19 => ?_
          refine greg ?_
          refine gop (y_move (v := .slice (some ⟨rg, 0, none⟩) _ _) rfl) rfl rfl rfl ?_
          refine gop (y_fieldAddr_box fa66_2 rfl) rfl rfl rfl ?_
          refine gop (y_load Try.isAgg3 rfl (cell_box 0 rfl rfl)) rfl rfl rfl ?_
          refine gop (y_indexAddr (m := x.thread.toNat) Try.underlying55 Try.sizeOf60 rfl rfl (by omega) (by omega) (by simp; omega)) rfl rfl rfl ?_
          refine gop (y_fieldAddr_add fa60_4 rfl) rfl rfl rfl ?_
          refine gop_store_row 1 (f := thrCells) (l := l.set x.thread.toNat { t with comments := t.comments + 1 }) (k := x.thread.toNat) (o := 4) (v := .bool _) (a := { t with comments := t.comments + 1 }) (a' := { t with comments := t.comments + 1, resolved := false }) (fun _ => rfl) rfl rfl rfl Try.sizeOf4 rfl rfl rfl rfl (by simp) (by rw [List.getElem?_set_self hK]) (Nat.le_of_ble_eq_true rfl) rfl rfl ?_
          refine gops_nil ?_
          refine hN19 _ _ ?_
          refine gT [box b4 _, rowl _ _ _ _ _ _] rfl ?_
          refine gfrom [(8, .slice (some ⟨rg, 0, none⟩) _ _)] ⟨rfl, trivial⟩ fun σ => ?_
          refine gseq fun N20 hN20 => ?_
          refine greg ?_
          refine gop (y_move (v := .slice (some ⟨rg, 0, none⟩) _ _) rfl) rfl rfl rfl ?_
          refine gop (y_assign (v := .slice (some ⟨rg, 0, none⟩) _ _) rfl) rfl rfl rfl ?_
          refine gop (y_assign (v := .int _ _) rfl) rfl rfl rfl ?_
          refine gops_nil ?_
          refine hN20 _ _ ?_
          refine gfrom [(6, .slice (some ⟨rg, 0, none⟩) _ _), (7, .int _ _)] ⟨rfl, rfl, trivial⟩ fun σ => ?_
          refine gret fun w1 hM => ?_
          refine ⟨_, res2 rfl (rt (v := .slice (some ⟨rg, 0, none⟩) _ _) rfl) (rt (v := .int _ _) rfl), ?_⟩
          rw [hS]
          rw [List.set_set] at hM
          exact ⟨_, _, _, by rw [List.length_set]; rfl, by rw [List.length_set]; exact hc10, hm10, (fun h => by cases h), .inr fun w1 h => row_rdl (f := thrCells) (fun _ => rfl) (h _ (List.mem_of_getElem? (i := 1) rfl)), hM⟩
        · -- slot 49 f
          replace hc49 := of_decide_eq_false hc49
          rw [if_neg (show ¬ x.pl.kind = 2 from hc49)] at hS0
          refine gskip ?_
          refine hN16 _ _ ?_
          refine gfrom [(0, .slice _ _ _), (4, .pointer _), (8, .slice (some ⟨rg, 0, none⟩) _ _)] ⟨rfl, rfl, rfl, trivial⟩ fun σ => ?_
          refine gseq fun N21 hN21 => ?_
          refine gseq fun N22 hN22 => ?_
          refine greg ?_
          refine gop (y_move (v := .slice _ _ _) rfl) rfl rfl rfl ?_
          refine gop (y_fieldAddr_box fa66_2 rfl) rfl rfl rfl ?_
          refine gop (y_load Try.isAgg3 rfl (cell_box 0 rfl rfl)) rfl rfl rfl ?_
          refine gop (y_indexAddr (m := x.thread.toNat) Try.underlying55 Try.sizeOf60 rfl rfl (by omega) (by omega) (by omega)) rfl rfl rfl ?_
          refine gop (y_fieldAddr_add fa60_4 rfl) rfl rfl rfl ?_
          refine gop (y_load Try.isAgg4 rfl (cell_base (htc 4 _ rfl))) rfl rfl rfl ?_
          refine gops_nil ?_
          refine hN22 _ _ ?_
          refine gfrom [(0, .slice _ _ _), (4, .pointer _), (8, .slice (some ⟨rg, 0, none⟩) _ _), (70, .bool _)] ⟨rfl, rfl, rfl, rfl, trivial⟩ fun σ => ?_
          refine gcond (b := _) rfl (fun hc70 => ?_) (fun hc70 => ?_)
          · -- slot 70 t
            have hS : stepE (l, text) x.pl = (11, (l, text)) := by rw [hS0, if_pos hc70]
            refine gseq fun N23 hN23 => ?_
            refine greg ?_
            refine gop (y_move (v := .slice _ _ _) rfl) rfl rfl rfl ?_
            refine gop (y_assign (v := .slice _ _ _) rfl) rfl rfl rfl ?_
            refine gop (y_assign (v := .int _ _) rfl) rfl rfl rfl ?_
            refine gops_nil ?_
            refine hN23 _ _ ?_
            refine gfrom [(6, .slice _ _ _), (7, .int _ _)] ⟨rfl, rfl, trivial⟩ fun σ => ?_
            refine gret fun w1 hM => ?_
            refine ⟨_, res2 rfl (rt (v := .slice _ _ _) rfl) (rt (v := .int _ _) rfl), ?_⟩
            rw [hS]
            exact ⟨_, _, _, rfl, hlc, hcm, hH, .inl ⟨rfl, rfl⟩, hM⟩
          · -- slot 70 f
            rw [if_neg (by simp [hc70])] at hS0
            refine gskip ?_
            refine hN21 _ _ ?_
            refine gfrom [(0, .slice _ _ _), (4, .pointer _), (8, .slice (some ⟨rg, 0, none⟩) _ _)] ⟨rfl, rfl, rfl, trivial⟩ fun σ => ?_
            refine gseq fun N24 hN24 => ?_
            refine gseq fun N25 hN25 => ?_
            refine greg_q (by kernel_rfl) (by kernel_rfl) ?_
            refine gq (y_move (v := .slice _ _ _) rfl) rfl rfl rfl ?_
            refine gq (y_fieldAddr_box fa66_2 rfl) rfl rfl rfl ?_
            refine gq (y_load Try.isAgg3 rfl (cell_box 0 rfl rfl)) rfl rfl rfl ?_
            refine gq (y_indexAddr (m := x.thread.toNat) Try.underlying55 Try.sizeOf60 rfl rfl (by omega) (by omega) (by omega)) rfl rfl rfl ?_
            refine gq (y_fieldAddr_add fa60_0 rfl) rfl rfl rfl ?_
            refine gq (y_load Try.isAgg3 rfl (cell_base (htc 0 _ rfl))) rfl rfl rfl ?_
            refine gq (y_fieldAddr_box fa66_1 rfl) rfl rfl rfl ?_
            refine gq (y_load Try.isAgg3 rfl (cell_box 0 rfl rfl)) rfl rfl rfl ?_
            refine gq (y_neq rfl rfl) rfl rfl rfl ?_
            refine gqs_nil ?_
            refine hN25 _ _ ?_
            refine gfrom [(0, .slice _ _ _), (4, .pointer _), (8, .slice (some ⟨rg, 0, none⟩) _ _), (80, .bool _)] ⟨rfl, rfl, rfl, rfl, trivial⟩ fun σ => ?_
            refine gcond (b := _) rfl (fun hc80 => ?_) (fun hc80 => ?_)
            · -- slot 80 t
              replace hc80 := of_decide_eq_true hc80
              have hS : stepE (l, text) x.pl = (13, (l, text)) := by rw [hS0, if_pos (show t.user ≠ x.pl.user from hc80)]
              refine gseq fun N26 hN26 => ?_
              refine greg ?_
              refine gop (y_move (v := .slice _ _ _) rfl) rfl rfl rfl ?_
              refine gop (y_assign (v := .slice _ _ _) rfl) rfl rfl rfl ?_
              refine gop (y_assign (v := .int _ _) rfl) rfl rfl rfl ?_
              refine gops_nil ?_
              refine hN26 _ _ ?_
              refine gfrom [(6, .slice _ _ _), (7, .int _ _)] ⟨rfl, rfl, trivial⟩ fun σ => ?_
              refine gret fun w1 hM => ?_
              refine ⟨_, res2 rfl (rt (v := .slice _ _ _) rfl) (rt (v := .int _ _) rfl), ?_⟩
              rw [hS]
              exact ⟨_, _, _, rfl, hlc, hcm, hH, .inl ⟨rfl, rfl⟩, hM⟩
            · -- slot 80 f
              replace hc80 := Decidable.not_not.1 (of_decide_eq_false hc80)
              have hS : stepE (l, text) x.pl = (0, (l.set x.thread.toNat { t with resolved := true }, text)) := by rw [hS0, if_neg (show ¬ t.user ≠ x.pl.user from fun h => h hc80)]
              refine gskip ?_
              refine hN24 _ _ ?_
              refine gfrom [(4, .pointer _), (8, .slice (some ⟨rg, 0, none⟩) _ _)] ⟨rfl, rfl, trivial⟩ fun σ => ?_
              refine gseq fun N27 hN27 => ?_
              refine greg ?_
              refine gop (y_move (v := .slice (some ⟨rg, 0, none⟩) _ _) rfl) rfl rfl rfl ?_
              refine gop (y_fieldAddr_box fa66_2 rfl) rfl rfl rfl ?_
              refine gop (y_load Try.isAgg3 rfl (cell_box 0 rfl rfl)) rfl rfl rfl ?_
              refine gop (y_indexAddr (m := x.thread.toNat) Try.underlying55 Try.sizeOf60 rfl rfl (by omega) (by omega) (by simp; omega)) rfl rfl rfl ?_
              refine gop (y_fieldAddr_add fa60_4 rfl) rfl rfl rfl ?_
              refine gop_store_row 1 (f := thrCells) (l := l) (k := x.thread.toNat) (o := 4) (v := .bool _) (a := t) (a' := { t with resolved := true }) (fun _ => rfl) rfl rfl rfl Try.sizeOf4 rfl rfl rfl rfl rfl ht (Nat.le_of_ble_eq_true rfl) rfl rfl ?_
              refine gops_nil ?_
              refine hN27 _ _ ?_
              refine gT [box b4 _, rowl _ _ _ _ _ _] rfl ?_
              refine gfrom [(8, .slice (some ⟨rg, 0, none⟩) _ _)] ⟨rfl, trivial⟩ fun σ => ?_
              refine gseq fun N28 hN28 => ?_
              refine greg ?_
              refine gop (y_move (v := .slice (some ⟨rg, 0, none⟩) _ _) rfl) rfl rfl rfl ?_
              refine gop (y_assign (v := .slice (some ⟨rg, 0, none⟩) _ _) rfl) rfl rfl rfl ?_
              refine gop (y_assign (v := .int _ _) rfl) rfl rfl rfl ?_
              refine gops_nil ?_
              refine hN28 _ _ ?_
              refine gfrom [(6, .slice (some ⟨rg, 0, none⟩) _ _), (7, .int _ _)] ⟨rfl, rfl, trivial⟩ fun σ => ?_
              refine gret fun w1 hM => ?_
              refine ⟨_, res2 rfl (rt (v := .slice (some ⟨rg, 0, none⟩) _ _) rfl) (rt (v := .int _ _) rfl), ?_⟩
              rw [hS]
              exact ⟨_, _, _, by rw [List.length_set]; rfl, by rw [List.length_set]; exact hc10, hm10, (fun h => by cases h), .inr fun w1 h => row_rdl (f := thrCells) (fun _ => rfl) (h _ (List.mem_of_getElem? (i := 1) rfl)), hM⟩
    · -- guard 39 off
      have hg39d := of_decide_eq_true hg39
      refine gop_off rfl rfl rfl rfl hg39 rfl rfl ?_
      refine gop_off rfl rfl rfl rfl hg39 rfl rfl ?_
      refine gop_off rfl rfl rfl rfl hg39 rfl rfl ?_
      refine gop_off rfl rfl rfl rfl hg39 rfl rfl ?_
      refine gop (y_pick_t (v := .bool _) rfl hg39 rfl) rfl rfl rfl ?_
      refine gops_nil ?_
      refine hN14 _ _ ?_
      refine gfrom [(0, .slice _ _ _), (4, .pointer _), (8, .slice A10 _ c10), (45, .bool _)] ⟨rfl, rfl, rfl, rfl, trivial⟩ fun σ => ?_
      refine gcond (b := _) rfl (fun hc45 => ?_) (fun hc45 => ?_)
      · -- slot 45 t
        have hS : stepE (l, text) x.pl = (6, (l, text)) := stepE_miss (e := x.pl) hf hc13 h4 (show ¬ (0 ≤ x.thread ∧ x.thread < (l.length : Int)) by omega)
        refine gseq fun N29 hN29 => ?_
        refine greg ?_
        refine gop (y_move (v := .slice _ _ _) rfl) rfl rfl rfl ?_
        refine gop (y_assign (v := .slice _ _ _) rfl) rfl rfl rfl ?_
        refine gop (y_assign (v := .int _ _) rfl) rfl rfl rfl ?_
        refine gops_nil ?_
        refine hN29 _ _ ?_
        refine gfrom [(6, .slice _ _ _), (7, .int _ _)] ⟨rfl, rfl, trivial⟩ fun σ => ?_
        refine gret fun w1 hM => ?_
        refine ⟨_, res2 rfl (rt (v := .slice _ _ _) rfl) (rt (v := .int _ _) rfl), ?_⟩
        rw [hS]
        exact ⟨_, _, _, rfl, hlc, hcm, hH, .inl ⟨rfl, rfl⟩, hM⟩
      · -- slot 45 f
        cases hc45

set_option maxHeartbeats 8000000 in
theorem replay_any (w : World) (B : Option Addr) (d : Nat) (text : List ByteArray) (ht : Rdl w 0 1 strCells B text) (htb : SB B text.length d 16) (E : Option Addr) (ec : Nat) (es : List EvC) (he : EvsR w 0 E es) (hem : es.length ≤ maxLen) :
    Calls Try.prog 28 #[.slice B text.length d, .slice E es.length ec] w fun e w' => ∃ A1 c1 A2 c2, e = .returned (.tuple #[.slice A1 (runV text (evs es)).2.1.length c1, .slice A2 (runV text (evs es)).2.2.length c2, fv (runV text (evs es)).1]) ∧ Below w.heap.size w w' ∧ (runV text (evs es)).2.1.length ≤ maxLen ∧ (runV text (evs es)).2.2.length ≤ maxLen ∧ (∀ w1, (seal_ w.heap.size w').ok w1 → Rdl w1 0 5 thrCells A1 (runV text (evs es)).2.1) ∧ (∀ w1, Rdl w1 0 1 strCells B text → (seal_ w.heap.size w').ok w1 → Rdl w1 0 1 strCells A2 (runV text (evs es)).2.2) := by
  have hmx : maxLen = 9223372036854775807 := rfl
  have htc := htb.len
  have htm := htb.max
  refine gcalls Try.func28 rfl Try.ntmps28 (Nat.le_of_ble_eq_true rfl) ?_
  refine gfrom [(0, .slice _ _ _), (1, .slice _ _ _)] ⟨rfl, rfl, trivial⟩ fun σ => ?_
  refine gseq fun N1 hN1 => ?_
  refine greg ?_
  refine gop (y_assign (v := .slice _ _ _) rfl) rfl rfl rfl ?_
  refine gop (y_assign (v := .slice _ _ _) rfl) rfl rfl rfl ?_
  refine gop_alloc (cs := #[.int .i64 0, .int .i64 0]) Try.zeroValue27 rfl rfl (fun b6 hb6 => ?_)
  refine gops_nil ?_
  refine hN1 _ _ ?_
  refine gT [box b6 _] rfl ?_
  refine gfrom [(0, .slice _ _ _), (1, .slice _ _ _), (6, .pointer _)] ⟨rfl, rfl, rfl, trivial⟩ fun σ => ?_
  refine gseq fun N2 hN2 => ?_
  refine gseq fun N3 hN3 => ?_
  refine greg ?_
  refine gop (y_move (v := .slice _ _ _) rfl) rfl rfl rfl ?_
  refine gop_pure (e_call (vs := [.slice _ _ _]) Try.func43 rfl (by kernel_rfl) rfl) (fun w hM => linesValidate_any w _ _ _ (ht.base hM) (by omega)) rfl rfl rfl ?_
  refine gop (y_field (cs := #[_, _]) rfl (fd27_0 _ _)) rfl rfl rfl ?_
  refine gop (y_neq rfl rfl) rfl rfl rfl ?_
  refine gops_nil ?_
  refine hN3 _ _ ?_
  refine gfrom [(0, .slice _ _ _), (1, .slice _ _ _), (6, .pointer _), (15, .bool _)] ⟨rfl, rfl, rfl, rfl, trivial⟩ fun σ => ?_
  refine gcond (b := _) rfl (fun hc15 => ?_) (fun hc15 => ?_)
  · -- slot 15 t
    replace hc15 := of_decide_eq_true hc15
    have hs0 : secondF (linesF text) (-2) = ⟨(linesF text).code, -2⟩ := by rw [secondF, if_pos (fun h => hc15 (by rw [h]))]
    have hV : runV text (evs es) = (⟨(linesF text).code, -2⟩, ([], [])) := by rw [runV, hs0, if_pos (by intro h; exact hc15 (congrArg Fault.code h))]
    refine gseq fun N4 hN4 => ?_
    refine greg ?_
    refine gop (y_move (v := .slice _ _ _) rfl) rfl rfl rfl ?_
    refine gop_pure (e_call (vs := [.slice _ _ _]) Try.func43 rfl (by kernel_rfl) rfl) (fun w hM => linesValidate_any w _ _ _ (ht.base hM) (by omega)) rfl rfl rfl ?_
    refine gop (y_field (cs := #[_, _]) rfl (fd27_0 _ _)) rfl rfl rfl ?_
    refine gop_pure (e_call (vs := [.int _ _, _]) Try.func16 rfl (by kernel_rfl) rfl) (fun w hM => fault_any w _ _) rfl rfl rfl ?_
    refine gop (y_assign (v := .slice _ _ _) rfl) rfl rfl rfl ?_
    refine gop (y_assign (v := .slice _ _ _) rfl) rfl rfl rfl ?_
    refine gop_store 0 (v := .agg #[_, _]) (cs' := #[_, _]) rfl rfl Try.sizeOf27 rfl rfl rfl rfl (Nat.le_of_ble_eq_true rfl) rfl rfl ?_
    refine gops_nil ?_
    refine hN4 _ _ ?_
    refine gT [box b6 _] rfl ?_
    refine gfrom [(4, .slice _ _ _), (5, .slice _ _ _), (6, .pointer _)] ⟨rfl, rfl, rfl, trivial⟩ fun σ => ?_
    refine gret fun w1 hM => ?_
    refine ⟨_, res3 rfl (rt (v := .slice _ _ _) rfl) (rt (v := .slice _ _ _) rfl) (rc 0 (cs := [_, _]) hM rfl rfl Try.isAgg27 Try.sizeOf27 rfl), ?_⟩
    exact ⟨none, 0, none, 0, by rw [hV]; rfl, hM.low, by rw [hV]; simp, by rw [hV]; simp, fun _ _ => by rw [hV]; exact Rdl.nil, fun _ _ _ => by rw [hV]; exact Rdl.nil⟩
  · -- slot 15 f
    replace hc15 := Decidable.not_not.1 (of_decide_eq_false hc15)
    have hl0 := linesF_code hc15
    have hsl : secondF (linesF text) (-2) = ⟨0, 0⟩ := by rw [secondF, if_neg (by simp [hl0])]
    have htl := linesF_len hl0
    refine gskip ?_
    refine hN2 _ _ ?_
    refine gfrom [(0, .slice _ _ _), (1, .slice _ _ _), (6, .pointer _)] ⟨rfl, rfl, rfl, trivial⟩ fun σ => ?_
    refine gseq fun N5 hN5 => ?_
    refine gseq fun N6 hN6 => ?_
    refine greg ?_
    refine gop (y_move (v := .slice _ _ _) rfl) rfl rfl rfl ?_
    refine gop (y_len Try.underlying54 rfl) rfl rfl rfl ?_
    refine gop (y_gtr rfl rfl) rfl rfl rfl ?_
    refine gops_nil ?_
    refine hN6 _ _ ?_
    refine gfrom [(0, .slice _ _ _), (1, .slice _ _ _), (6, .pointer _), (22, .bool _)] ⟨rfl, rfl, rfl, rfl, trivial⟩ fun σ => ?_
    refine gcond (b := _) rfl (fun hc22 => ?_) (fun hc22 => ?_)
    · -- slot 22 t
      replace hc22 := of_decide_eq_true hc22
      have hV : runV text (evs es) = (⟨2, -1⟩, ([], [])) := by rw [runV, if_neg (by simp [hsl]), if_pos (by simp; omega)]
      refine gseq fun N7 hN7 => ?_
      refine greg ?_
      refine gop_pure (e_call (vs := [_, _]) Try.func16 rfl (by kernel_rfl) rfl) (fun w hM => fault_any w _ _) rfl rfl rfl ?_
      refine gop (y_assign (v := .slice _ _ _) rfl) rfl rfl rfl ?_
      refine gop (y_assign (v := .slice _ _ _) rfl) rfl rfl rfl ?_
      refine gop_store 0 (v := .agg #[_, _]) (cs' := #[_, _]) rfl rfl Try.sizeOf27 rfl rfl rfl rfl (Nat.le_of_ble_eq_true rfl) rfl rfl ?_
      refine gops_nil ?_
      refine hN7 _ _ ?_
      refine gT [box b6 _] rfl ?_
      refine gfrom [(4, .slice _ _ _), (5, .slice _ _ _), (6, .pointer _)] ⟨rfl, rfl, rfl, trivial⟩ fun σ => ?_
      refine gret fun w1 hM => ?_
      refine ⟨_, res3 rfl (rt (v := .slice _ _ _) rfl) (rt (v := .slice _ _ _) rfl) (rc 0 (cs := [_, _]) hM rfl rfl Try.isAgg27 Try.sizeOf27 rfl), ?_⟩
      exact ⟨none, 0, none, 0, by rw [hV]; rfl, hM.low, by rw [hV]; simp, by rw [hV]; simp, fun _ _ => by rw [hV]; exact Rdl.nil, fun _ _ _ => by rw [hV]; exact Rdl.nil⟩
    · -- slot 22 f
      replace hc22 := of_decide_eq_false hc22
      have hV0 : runV text (evs es) = runFrom 0 ([], text) (evs es) := by rw [runV, if_neg (by simp [hsl]), if_neg (by simp; omega)]
      refine gskip ?_
      refine hN5 _ _ ?_
      refine gfrom [(0, .slice _ _ _), (1, .slice _ _ _), (6, .pointer _)] ⟨rfl, rfl, rfl, trivial⟩ fun σ => ?_
      refine gseq fun N8 hN8 => ?_
      refine greg ?_
      refine gop (y_assign (v := .slice _ _ _) rfl) rfl rfl rfl ?_
      refine gops_nil ?_
      refine hN8 _ _ ?_
      refine gfrom [(0, .slice _ _ _), (1, .slice _ _ _), (6, .pointer _), (7, .slice _ _ _)] ⟨rfl, rfl, rfl, rfl, trivial⟩ fun σ => ?_
      refine gseq fun N9 hN9 => ?_
      refine gseq fun N10 hN10 => ?_
      refine greg ?_
      refine gop (y_assign (v := .int _ _) rfl) rfl rfl rfl ?_
      refine gops_nil ?_
      refine hN10 _ _ ?_
      refine gfrom [(0, .slice _ _ _), (1, .slice _ _ _), (6, .pointer _), (7, .slice _ _ _), (8, .int _ _)] ⟨rfl, rfl, rfl, rfl, rfl, trivial⟩ fun σ => ?_
      refine gblock ?_
      refine g_emp ?_
      refine gfrom2 [(0, .slice _ _ _), (7, .slice _ _ _), (8, .int _ _)] [(1, .slice _ _ _), (6, .pointer _)] ⟨rfl, rfl, rfl, trivial⟩ ⟨rfl, rfl, trivial⟩ fun σ => ?_
      refine gloop2 (G := Nat × Nat × Nat × Option Addr × Option Addr × St × Reg) (fun (k, tc, hc, tA, hA, s, fr) => k ≤ es.length ∧ RI s k ∧ SB tA s.2.length tc 16 ∧ s.1.length ≤ hc ∧ hc ≤ maxLen ∧ (hA = none → hc = 0) ∧ (∀ w1, Rdl w1 0 1 strCells B text → fr.ok w1 → Rdl w1 0 1 strCells tA s.2) ∧ (∀ w1, fr.ok w1 → Rdl w1 0 5 thrCells hA s.1) ∧ runFrom k s ((evs es).drop k) = runFrom 0 ([], text) (evs es)) (fun (k, tc, hc, tA, hA, s, fr) => es.length - k) (fun (k, tc, hc, tA, hA, s, fr) => [(0, .slice tA s.2.length tc), (7, .slice hA s.1.length hc), (8, .int .i64 (k : Int))]) (fun (k, tc, hc, tA, hA, s, fr) => [(1, fr)]) ((0, d, 0, B, none, ([], text), emp)) ?h0 ⟨rfl, rfl, rfl, trivial⟩ ⟨rfl, rfl, trivial⟩ rfl ?round
      case h0 => exact ⟨Nat.zero_le _, RI.start text htl, htb, Nat.le_refl _, by unfold maxLen; omega, fun _ => rfl, fun w1 h _ => h, fun _ _ => Rdl.nil, rfl⟩
      case round =>
        rintro ⟨k, tc, hc, tA, hA, s, fr⟩ hφ σ
        obtain ⟨hk, hri, hsb, hhc, hhm, hhn, hfx, hfh, hrun⟩ := hφ
        refine gT [box b6 _, fr] rfl ?_
        refine gseq fun N11 hN11 => ?_
        refine gseq fun N12 hN12 => ?_
        refine greg ?_
        refine gop (y_move (v := .int _ _) rfl) rfl rfl rfl ?_
        refine gop (y_move (v := .slice _ _ _) rfl) rfl rfl rfl ?_
        refine gop (y_len Try.underlying54 rfl) rfl rfl rfl ?_
        refine gop (y_lss rfl rfl) rfl rfl rfl ?_
        refine gops_nil ?_
        refine hN12 _ _ ?_
        refine gfrom [(0, .slice tA _ tc), (1, .slice _ _ _), (6, .pointer _), (7, .slice hA _ hc), (8, .int _ _), (27, .bool _)] ⟨rfl, rfl, rfl, rfl, rfl, rfl, trivial⟩ fun σ => ?_
        refine gcond (b := _) rfl (fun hc27 => ?_) (fun hc27 => ?_)
        · -- slot 27 t
          replace hc27 := of_decide_eq_true hc27
          have hk1 : k < es.length := by omega
          have hk2 : k < (evs es).length := by simpa using hk1
          obtain ⟨ad, rfl, -, hcv⟩ := he.rd.at_ hk1
          have hx := he.each _ (List.getElem_mem hk1)
          have hD := runFrom_drop hk2 k s
          rw [List.getElem_map] at hD
          refine gskip ?_
          refine hN11 _ _ ?_
          refine gfrom [(0, .slice tA _ tc), (1, .slice _ _ _), (6, .pointer _), (7, .slice hA _ hc), (8, .int _ _)] ⟨rfl, rfl, rfl, rfl, rfl, trivial⟩ fun σ => ?_
          refine gseq fun N13 hN13 => ?_
          refine gblock ?_
          refine gseq fun N14 hN14 => ?_
          refine greg ?_
          refine gop (y_move (v := .slice _ _ _) rfl) rfl rfl rfl ?_
          refine gop (y_move (v := .int _ _) rfl) rfl rfl rfl ?_
          refine gop (y_indexAddr Try.underlying54 Try.sizeOf66 rfl rfl rfl (by omega) (by omega)) rfl rfl rfl ?_
          refine gop (y_loads (cs := [_, _, _, _, _, _]) Try.isAgg66 Try.sizeOf66 rfl rfl (cells_base hcv)) rfl rfl rfl ?_
          refine gop_pure (e_call (vs := [.agg #[_, _, _, _, _, _]]) Try.func44 rfl (by kernel_rfl) rfl) (fun w hM => eventCode_any w es[k]) rfl rfl rfl ?_
          refine gop (y_assign (v := .int _ _) rfl) rfl rfl rfl ?_
          refine gops_nil ?_
          refine hN14 _ _ ?_
          refine gfrom [(0, .slice tA _ tc), (1, .slice _ _ _), (6, .pointer _), (7, .slice hA _ hc), (8, .int _ _), (9, .int _ _)] ⟨rfl, rfl, rfl, rfl, rfl, rfl, trivial⟩ fun σ => ?_
          refine gseq fun N15 hN15 => ?_
          refine gfrom [(0, .slice tA _ tc), (1, .slice _ _ _), (6, .pointer _), (7, .slice hA _ hc), (8, .int _ _), (9, .int _ _)] ⟨rfl, rfl, rfl, rfl, rfl, rfl, trivial⟩ fun σ => ?_
          refine gcut3 (Lf := [(1, .slice _ _ _), (6, .pointer _), (8, .int _ _)]) (G := Int × Nat × Nat × Option Addr × Option Addr × St × Reg) (fun (cd, tc2, hc2, tA2, hA2, s2, fr2) => cd = (stepE s es[k].pl).1 ∧ (cd = 0 → s2 = (stepE s es[k].pl).2 ∧ SB tA2 s2.2.length tc2 16 ∧ s2.1.length ≤ hc2 ∧ hc2 ≤ maxLen ∧ (hA2 = none → hc2 = 0) ∧ (∀ w1, Rdl w1 0 1 strCells B text → fr2.ok w1 → Rdl w1 0 1 strCells tA2 s2.2) ∧ ∀ w1, fr2.ok w1 → Rdl w1 0 5 thrCells hA2 s2.1)) (fun (cd, tc2, hc2, tA2, hA2, s2, fr2) => [(0, .slice tA2 s2.2.length tc2), (7, .slice hA2 s2.1.length hc2), (9, .int .i64 cd)]) (fun (cd, tc2, hc2, tA2, hA2, s2, fr2) => [(1, fr2)]) ⟨rfl, rfl, rfl, trivial⟩ ?_ ?_
          ·
            refine gseq fun N16 hN16 => ?_
            refine greg ?_
            refine gop (y_move (v := .int _ _) rfl) rfl rfl rfl ?_
            refine gop (y_eql rfl rfl) rfl rfl rfl ?_
            refine gop (y_move (v := .bool _) rfl) rfl rfl rfl ?_
            refine gop_if (want := true) rfl rfl rfl rfl rfl rfl (fun hg37 => ?_) (fun hg37 => ?_)
            · -- guard 37 on
              have hg37d := of_decide_eq_true hg37
              refine gop (y_bare (y_move (v := .slice _ _ _) rfl)) rfl rfl rfl ?_
              refine gop_on rfl rfl rfl rfl hg37 ?_
              refine gop (y_bare (y_move (v := .int _ _) rfl)) rfl rfl rfl ?_
              refine gop_on rfl rfl rfl rfl hg37 ?_
              refine gop (y_bare (y_indexAddr Try.underlying54 Try.sizeOf66 rfl rfl rfl (by omega) (by omega))) rfl rfl rfl ?_
              refine gop_on rfl rfl rfl rfl hg37 ?_
              refine gop (y_bare (y_fieldAddr_add fa66_0 rfl)) rfl rfl rfl ?_
              refine gop_on rfl rfl rfl rfl hg37 ?_
              refine gop (y_bare (y_load Try.isAgg3 rfl (cell_base (hcv 0 _ rfl)))) rfl rfl rfl ?_
              refine gop_on rfl rfl rfl rfl hg37 ?_
              refine gop (y_bare (y_eql rfl rfl)) rfl rfl rfl ?_
              refine gop (y_pick_t (v := .bool _) rfl hg37 rfl) rfl rfl rfl ?_
              refine gops_nil ?_
              refine hN16 _ _ ?_
              refine gfrom [(0, .slice tA _ tc), (1, .slice _ _ _), (6, .pointer _), (7, .slice hA _ hc), (8, .int _ _), (9, .int _ _), (44, .bool _)] ⟨rfl, rfl, rfl, rfl, rfl, rfl, rfl, trivial⟩ fun σ => ?_
              refine gcond (b := _) rfl (fun hc44 => ?_) (fun hc44 => ?_)
              · -- slot 44 t
                replace hc44 := of_decide_eq_true hc44
                refine gseq fun N17 hN17 => ?_
                refine greg ?_
                refine gop (y_move (v := .slice _ _ _) rfl) rfl rfl rfl ?_
                refine gop (y_move (v := .int _ _) rfl) rfl rfl rfl ?_
                refine gop (y_indexAddr Try.underlying54 Try.sizeOf66 rfl rfl rfl (by omega) (by omega)) rfl rfl rfl ?_
                refine gop (y_fieldAddr_add fa66_5 rfl) rfl rfl rfl ?_
                refine gop (y_loads (cs := [_]) Try.isAgg25 Try.sizeOf25 rfl rfl (cells_of1 (cell_base (hcv 5 _ rfl)))) rfl rfl rfl ?_
                refine gop (y_move (v := .slice tA _ tc) rfl) rfl rfl rfl ?_
                refine gop_got (fun v T' => ∃ lo v1, w.heap.size ≤ lo ∧ v = .tuple #[v1, fv (applyF (pls es[k].hs) s.2)] ∧ T' = [rowl strCells lo 9 1 v1 (applyR (pls es[k].hs) s.2)]) (e_call (vs := [.agg #[_], .slice tA _ tc]) Try.func23 rfl (by kernel_rfl) rfl) (fun w hM => (apply_any w _ _ es[k].hs (PatR.lasts.base hx.pat hM) _ _ s.2 (hfx w (ht.base hM) (hM.ok _ (List.mem_of_getElem? (i := 1) rfl))) hsb).mono fun _ _ ⟨v, T1, h1, h2, h3⟩ => ⟨_, T1, h1, ⟨_, v, hM.low.size, rfl, h2⟩, h3⟩) rfl rfl rfl ?_
                rintro _ _ ⟨lo52, v52, hlo52, rfl, rfl⟩
                refine gops_fact (fun w hM => row_form (hM.ok _ (List.mem_of_getElem? (i := 2) rfl))) ?_
                rintro ⟨A52, c52, rfl, hc52, hm52, hn52⟩
                refine gop (y_move (v := .tuple #[.slice A52 _ c52, .agg #[_, _]]) rfl) rfl rfl rfl ?_
                refine gop (y_extract (v := .slice _ _ _) rfl rfl) rfl rfl rfl ?_
                refine gop (y_extract (v := .agg #[_, _]) rfl rfl) rfl rfl rfl ?_
                refine gop_alloc (cs := #[.int .i64 0, .int .i64 0]) Try.zeroValue27 rfl rfl (fun b11 hb11 => ?_)
                refine gop (y_assign (v := .slice _ _ _) rfl) rfl rfl rfl ?_
                refine gop_store 3 (v := .agg #[_, _]) (cs' := #[_, _]) rfl rfl Try.sizeOf27 rfl rfl rfl rfl (Nat.le_of_ble_eq_true rfl) rfl rfl ?_
                refine gops_nil ?_
                refine hN17 _ _ ?_
                refine gT [box b6 _, fr, rowl _ _ _ _ _ _, box b11 _] rfl ?_
                refine gfrom [(0, .slice tA _ tc), (1, .slice _ _ _), (6, .pointer _), (7, .slice hA _ hc), (8, .int _ _), (10, .slice _ _ _), (11, .pointer _)] ⟨rfl, rfl, rfl, rfl, rfl, rfl, rfl, trivial⟩ fun σ => ?_
                refine gseq fun N18 hN18 => ?_
                refine greg ?_
                refine gop (y_fieldAddr_box fa27_0 rfl) rfl rfl rfl ?_
                refine gop (y_load Try.isAgg3 rfl (cell_box 3 rfl rfl)) rfl rfl rfl ?_
                refine gop (y_assign (v := .int _ _) rfl) rfl rfl rfl ?_
                refine gops_nil ?_
                refine hN18 _ _ ?_
                refine gfrom [(0, .slice tA _ tc), (1, .slice _ _ _), (6, .pointer _), (7, .slice hA _ hc), (8, .int _ _), (9, .int _ _), (10, .slice _ _ _)] ⟨rfl, rfl, rfl, rfl, rfl, rfl, rfl, trivial⟩ fun σ => ?_
                refine gseq fun N19 hN19 => ?_
                refine greg ?_
                refine gop (y_move (v := .int _ _) rfl) rfl rfl rfl ?_
                refine gop (y_eql rfl rfl) rfl rfl rfl ?_
                refine gops_nil ?_
                refine hN19 _ _ ?_
                refine gfrom [(0, .slice tA _ tc), (1, .slice _ _ _), (6, .pointer _), (7, .slice hA _ hc), (8, .int _ _), (9, .int _ _), (10, .slice _ _ _), (58, .bool _)] ⟨rfl, rfl, rfl, rfl, rfl, rfl, rfl, rfl, trivial⟩ fun σ => ?_
                refine gcond (b := _) rfl (fun hc58 => ?_) (fun hc58 => ?_)
                · -- slot 58 t
                  replace hc58 := of_decide_eq_true hc58
                  obtain ⟨hap0, happ, hAR⟩ := applyF_code hc58
                  have hS : stepE s es[k].pl = (0, (s.1.map (followT (pls es[k].hs)), applyR (pls es[k].hs) s.2)) := by rw [hAR, stepE_patch (e := es[k].pl) hg37d hc44, patchT, if_neg (by simp [hap0])]
                  refine gseq fun N20 hN20 => ?_
                  refine greg ?_
                  refine gop (y_move (v := .slice hA _ hc) rfl) rfl rfl rfl ?_
                  refine gop (y_move (v := .slice _ _ _) rfl) rfl rfl rfl ?_
                  refine gop (y_move (v := .int _ _) rfl) rfl rfl rfl ?_
                  refine gop (y_indexAddr Try.underlying54 Try.sizeOf66 rfl rfl rfl (by omega) (by omega)) rfl rfl rfl ?_
                  refine gop (y_fieldAddr_add fa66_5 rfl) rfl rfl rfl ?_
                  refine gop (y_loads (cs := [_]) Try.isAgg25 Try.sizeOf25 rfl rfl (cells_of1 (cell_base (hcv 5 _ rfl)))) rfl rfl rfl ?_
                  refine gop_got (fun v T' => ∃ lo, w.heap.size ≤ lo ∧ T' = [rowl thrCells lo 60 5 v (s.1.map (followT (pls es[k].hs)))]) (e_call (vs := [.slice hA _ hc, .agg #[_]]) Try.func45 rfl (by kernel_rfl) rfl) (fun w hM => (follow_any w _ _ s.1 (hfh w (hM.ok _ (List.mem_of_getElem? (i := 1) rfl))) hri.few hri.lo hri.hi _ _ es[k].hs (PatR.lasts.base hx.pat hM) happ.pv).mono fun _ _ ⟨v, T1, h1, h2, h3⟩ => ⟨_, T1, h1, ⟨_, hM.low.size, h2⟩, h3⟩) rfl rfl rfl ?_
                  rintro v65 _ ⟨lo65, hlo65, rfl⟩
                  refine gops_fact (fun w hM => row_form (hM.ok _ (List.mem_of_getElem? (i := 4) rfl))) ?_
                  rintro ⟨A65, c65, rfl, hc65, hm65, hn65⟩
                  refine gop (y_assign (v := .slice A65 _ c65) rfl) rfl rfl rfl ?_
                  refine gops_nil ?_
                  refine hN20 _ _ ?_
                  refine gT [box b6 _, fr, rowl _ _ _ _ _ _, box b11 _, rowl _ _ _ _ _ _] rfl ?_
                  refine gfrom [(1, .slice _ _ _), (6, .pointer _), (7, .slice A65 _ c65), (8, .int _ _), (9, .int _ _), (10, .slice _ _ _)] ⟨rfl, rfl, rfl, rfl, rfl, rfl, trivial⟩ fun σ => ?_
                  refine greg ?_
                  refine gop (y_move (v := .slice _ _ _) rfl) rfl rfl rfl ?_
                  refine gop (y_assign (v := .slice _ _ _) rfl) rfl rfl rfl ?_
                  refine gops_nil ?_
                  refine fin_mem _ (weak_all 2 1 rfl) ?_
                  refine gcut3_end (((applyF (pls es[k].hs) s.2).code, c52, c65, A52, A65, (s.1.map (followT (pls es[k].hs)), applyR (pls es[k].hs) s.2), both fr (all_ _))) (⟨by rw [hS, hap0], fun _ => ⟨by rw [hS], ⟨hc52, hm52, hn52, by have := happ.len; rw [← hAR] at this; show (applyR (pls es[k].hs) s.2).length * 16 ≤ _; unfold reachBytes; omega⟩, by show (List.map _ _).length ≤ _; exact hc65, hm65, hn65, fun w1 _ ho => (row_rdl (f := strCells) (fun _ => rfl) ((all_ok _ w1).1 ho.2 _ (List.mem_of_getElem? (i := 0) rfl))).mono (Nat.zero_le _), fun w1 ho => (row_rdl (f := thrCells) (fun _ => rfl) ((all_ok _ w1).1 ho.2 _ (List.mem_of_getElem? (i := 2) rfl))).mono (Nat.zero_le _)⟩⟩) ⟨rfl, rfl, rfl, trivial⟩ ⟨rfl, rfl, rfl, trivial⟩ ⟨_, rfl⟩
                · -- slot 58 f
                  replace hc58 := of_decide_eq_false hc58
                  have hS : stepE s es[k].pl = ((applyF (pls es[k].hs) s.2).code, s) := by rw [stepE_patch (e := es[k].pl) hg37d hc44, patchT, if_pos (fun h => hc58 (by rw [h]))]
                  refine gskip ?_
                  refine fin_mem _ (weak_all 2 1 rfl) ?_
                  refine gcut3_end (((applyF (pls es[k].hs) s.2).code, tc, hc, tA, hA, s, both fr (all_ _))) (⟨by rw [hS], fun h => absurd h hc58⟩) ⟨rfl, rfl, rfl, trivial⟩ ⟨rfl, rfl, rfl, trivial⟩ ⟨_, rfl⟩
              · -- slot 44 f
                replace hc44 := of_decide_eq_false hc44
                refine gseq fun N21 hN21 => ?_
                refine greg ?_
                refine gop (y_move (v := .int _ _) rfl) rfl rfl rfl ?_
                refine gop (y_eql rfl rfl) rfl rfl rfl ?_
                refine gops_nil ?_
                refine hN21 _ _ ?_
                refine gfrom [(0, .slice tA _ tc), (1, .slice _ _ _), (6, .pointer _), (7, .slice hA _ hc), (8, .int _ _), (9, .int _ _), (68, .bool _)] ⟨rfl, rfl, rfl, rfl, rfl, rfl, rfl, trivial⟩ fun σ => ?_
                refine gcond (b := _) rfl (fun hc68 => ?_) (fun hc68 => ?_)
                · -- slot 68 t
                  replace hc68 := of_decide_eq_true hc68
                  refine greg ?_
                  refine gop (y_move (v := .slice hA _ hc) rfl) rfl rfl rfl ?_
                  refine gop (y_move (v := .slice _ _ _) rfl) rfl rfl rfl ?_
                  refine gop (y_move (v := .int _ _) rfl) rfl rfl rfl ?_
                  refine gop (y_indexAddr Try.underlying54 Try.sizeOf66 rfl rfl rfl (by omega) (by omega)) rfl rfl rfl ?_
                  refine gop (y_loads (cs := [_, _, _, _, _, _]) Try.isAgg66 Try.sizeOf66 rfl rfl (cells_base hcv)) rfl rfl rfl ?_
                  refine gop (y_move (v := .slice tA _ tc) rfl) rfl rfl rfl ?_
                  refine gop (y_len Try.underlying41 rfl) rfl rfl rfl ?_
                  refine gop_got (fun v T' => ∃ A1 c1, v = .tuple #[.slice A1 (stepE s es[k].pl).2.1.length c1, .int .i64 (stepE s es[k].pl).1] ∧ (stepE s es[k].pl).2.1.length ≤ c1 ∧ c1 ≤ maxLen ∧ (A1 = none → c1 = 0) ∧ ((A1 = hA ∧ (stepE s es[k].pl).2.1 = s.1) ∨ ∀ w1, (∀ r ∈ T', r.ok w1) → Rdl w1 w.heap.size 5 thrCells A1 (stepE s es[k].pl).2.1)) (e_call (vs := [.slice hA _ hc, .agg #[_, _, _, _, _, _], .int _ _]) Try.func46 rfl (by kernel_rfl) rfl) (fun w hM => (comment_any w _ _ s.1 (hfh w (hM.ok _ (List.mem_of_getElem? (i := 1) rfl))) hhc hhm hhn s.2 es[k] (hri.up (by omega)) hc68 (by first | exact hc44 | exact absurd hc68 hg37d)).mono fun _ _ ⟨A1, c1, T1, e1, e2, e3, e4, e5, e6⟩ => ⟨_, T1, e1, ⟨A1, c1, rfl, e2, e3, e4, (match e5 with | .inl h => .inl h | .inr h => .inr fun w1 hr => (h w1 hr).mono hM.low.size)⟩, e6⟩) rfl rfl rfl ?_
                  rintro _ G ⟨A77, c77, rfl, hc77, hm77, hn77, hdj⟩
                  refine gop (y_move (v := .tuple #[.slice A77 _ c77, .int _ _]) rfl) rfl rfl rfl ?_
                  refine gop (y_extract (v := .slice _ _ _) rfl rfl) rfl rfl rfl ?_
                  refine gop (y_extract (v := .int _ _) rfl rfl) rfl rfl rfl ?_
                  refine gop (y_assign (v := .slice _ _ _) rfl) rfl rfl rfl ?_
                  refine gop (y_assign (v := .int _ _) rfl) rfl rfl rfl ?_
                  refine gops_nil ?_
                  refine fin_mem _ (weak_all 2 1 rfl) ?_
                  refine gcut3_end (((stepE s es[k].pl).1, tc, c77, tA, A77, (stepE s es[k].pl).2, both fr (all_ _))) (⟨rfl, fun _ => ⟨rfl, ?sb, hc77, hm77, hn77, ?fx, ?fh⟩⟩) ⟨(by show Value.slice tA s.2.length tc = Value.slice tA (stepE s es[k].pl).2.2.length tc; rw [stepE_text hc68 (by first | exact hc44 | exact absurd hc68 hg37d)]), rfl, rfl, trivial⟩ ⟨rfl, rfl, rfl, trivial⟩ ⟨_, rfl⟩
                  case sb =>
                    rw [show (stepE s es[k].pl).2.2 = s.2 from stepE_text hc68 (by first | exact hc44 | exact absurd hc68 hg37d)]; exact hsb
                  case fx =>
                    intro w1 hb ho
                    rw [show (stepE s es[k].pl).2.2 = s.2 from stepE_text hc68 (by first | exact hc44 | exact absurd hc68 hg37d)]; exact hfx w1 hb ho.1
                  case fh =>
                    intro w1 ho
                    rcases hdj with ⟨e1, e2⟩ | h2
                    · rw [e1, e2]; exact hfh w1 ho.1
                    · exact (h2 w1 fun r hr => (all_ok _ w1).1 ho.2 r hr).mono (Nat.zero_le _)
                · -- slot 68 f
                  replace hc68 := of_decide_eq_false hc68
                  have hS : stepE s es[k].pl = (formC es[k].pl, s) := by rw [stepE, if_pos hc68]
                  refine gskip ?_
                  refine fin_mem _ (weak_all 2 1 rfl) ?_
                  refine gcut3_end ((formC es[k].pl, tc, hc, tA, hA, s, both fr (all_ _))) (⟨by rw [hS], fun h => absurd h hc68⟩) ⟨rfl, rfl, rfl, trivial⟩ ⟨rfl, rfl, rfl, trivial⟩ ⟨_, rfl⟩
            · -- guard 37 off
              have hg37d := of_decide_eq_false hg37
              refine gop_off rfl rfl rfl rfl hg37 rfl rfl ?_
              refine gop_off rfl rfl rfl rfl hg37 rfl rfl ?_
              refine gop_off rfl rfl rfl rfl hg37 rfl rfl ?_
              refine gop_off rfl rfl rfl rfl hg37 rfl rfl ?_
              refine gop_off rfl rfl rfl rfl hg37 rfl rfl ?_
              refine gop (y_pick_f (v := .bool _) rfl hg37 rfl) rfl rfl rfl ?_
              refine gops_nil ?_
              refine hN16 _ _ ?_
              refine gfrom [(0, .slice tA _ tc), (1, .slice _ _ _), (6, .pointer _), (7, .slice hA _ hc), (8, .int _ _), (9, .int _ _), (44, .bool _)] ⟨rfl, rfl, rfl, rfl, rfl, rfl, rfl, trivial⟩ fun σ => ?_
              refine gcond (b := _) rfl (fun hc44 => ?_) (fun hc44 => ?_)
              · -- slot 44 t
                cases hc44
              · -- slot 44 f
                refine gseq fun N22 hN22 => ?_
                refine greg ?_
                refine gop (y_move (v := .int _ _) rfl) rfl rfl rfl ?_
                refine gop (y_eql rfl rfl) rfl rfl rfl ?_
                refine gops_nil ?_
                refine hN22 _ _ ?_
                refine gfrom [(0, .slice tA _ tc), (1, .slice _ _ _), (6, .pointer _), (7, .slice hA _ hc), (8, .int _ _), (9, .int _ _), (68, .bool _)] ⟨rfl, rfl, rfl, rfl, rfl, rfl, rfl, trivial⟩ fun σ => ?_
                refine gcond (b := _) rfl (fun hc68 => ?_) (fun hc68 => ?_)
                · -- slot 68 t
                  replace hc68 := of_decide_eq_true hc68
                  refine greg ?_
                  refine gop (y_move (v := .slice hA _ hc) rfl) rfl rfl rfl ?_
                  refine gop (y_move (v := .slice _ _ _) rfl) rfl rfl rfl ?_
                  refine gop (y_move (v := .int _ _) rfl) rfl rfl rfl ?_
                  refine gop (y_indexAddr Try.underlying54 Try.sizeOf66 rfl rfl rfl (by omega) (by omega)) rfl rfl rfl ?_
                  refine gop (y_loads (cs := [_, _, _, _, _, _]) Try.isAgg66 Try.sizeOf66 rfl rfl (cells_base hcv)) rfl rfl rfl ?_
                  refine gop (y_move (v := .slice tA _ tc) rfl) rfl rfl rfl ?_
                  refine gop (y_len Try.underlying41 rfl) rfl rfl rfl ?_
                  refine gop_got (fun v T' => ∃ A1 c1, v = .tuple #[.slice A1 (stepE s es[k].pl).2.1.length c1, .int .i64 (stepE s es[k].pl).1] ∧ (stepE s es[k].pl).2.1.length ≤ c1 ∧ c1 ≤ maxLen ∧ (A1 = none → c1 = 0) ∧ ((A1 = hA ∧ (stepE s es[k].pl).2.1 = s.1) ∨ ∀ w1, (∀ r ∈ T', r.ok w1) → Rdl w1 w.heap.size 5 thrCells A1 (stepE s es[k].pl).2.1)) (e_call (vs := [.slice hA _ hc, .agg #[_, _, _, _, _, _], .int _ _]) Try.func46 rfl (by kernel_rfl) rfl) (fun w hM => (comment_any w _ _ s.1 (hfh w (hM.ok _ (List.mem_of_getElem? (i := 1) rfl))) hhc hhm hhn s.2 es[k] (hri.up (by omega)) hc68 (by first | exact hc44 | exact absurd hc68 hg37d)).mono fun _ _ ⟨A1, c1, T1, e1, e2, e3, e4, e5, e6⟩ => ⟨_, T1, e1, ⟨A1, c1, rfl, e2, e3, e4, (match e5 with | .inl h => .inl h | .inr h => .inr fun w1 hr => (h w1 hr).mono hM.low.size)⟩, e6⟩) rfl rfl rfl ?_
                  rintro _ G ⟨A77, c77, rfl, hc77, hm77, hn77, hdj⟩
                  refine gop (y_move (v := .tuple #[.slice A77 _ c77, .int _ _]) rfl) rfl rfl rfl ?_
                  refine gop (y_extract (v := .slice _ _ _) rfl rfl) rfl rfl rfl ?_
                  refine gop (y_extract (v := .int _ _) rfl rfl) rfl rfl rfl ?_
                  refine gop (y_assign (v := .slice _ _ _) rfl) rfl rfl rfl ?_
                  refine gop (y_assign (v := .int _ _) rfl) rfl rfl rfl ?_
                  refine gops_nil ?_
                  refine fin_mem _ (weak_all 2 1 rfl) ?_
                  refine gcut3_end (((stepE s es[k].pl).1, tc, c77, tA, A77, (stepE s es[k].pl).2, both fr (all_ _))) (⟨rfl, fun _ => ⟨rfl, ?sb, hc77, hm77, hn77, ?fx, ?fh⟩⟩) ⟨(by show Value.slice tA s.2.length tc = Value.slice tA (stepE s es[k].pl).2.2.length tc; rw [stepE_text hc68 (by first | exact hc44 | exact absurd hc68 hg37d)]), rfl, rfl, trivial⟩ ⟨rfl, rfl, rfl, trivial⟩ ⟨_, rfl⟩
                  case sb =>
                    rw [show (stepE s es[k].pl).2.2 = s.2 from stepE_text hc68 (by first | exact hc44 | exact absurd hc68 hg37d)]; exact hsb
                  case fx =>
                    intro w1 hb ho
                    rw [show (stepE s es[k].pl).2.2 = s.2 from stepE_text hc68 (by first | exact hc44 | exact absurd hc68 hg37d)]; exact hfx w1 hb ho.1
                  case fh =>
                    intro w1 ho
                    rcases hdj with ⟨e1, e2⟩ | h2
                    · rw [e1, e2]; exact hfh w1 ho.1
                    · exact (h2 w1 fun r hr => (all_ok _ w1).1 ho.2 r hr).mono (Nat.zero_le _)
                · -- slot 68 f
                  replace hc68 := of_decide_eq_false hc68
                  have hS : stepE s es[k].pl = (formC es[k].pl, s) := by rw [stepE, if_pos hc68]
                  refine gskip ?_
                  refine fin_mem _ (weak_all 2 1 rfl) ?_
                  refine gcut3_end ((formC es[k].pl, tc, hc, tA, hA, s, both fr (all_ _))) (⟨by rw [hS], fun h => absurd h hc68⟩) ⟨rfl, rfl, rfl, trivial⟩ ⟨rfl, rfl, rfl, trivial⟩ ⟨_, rfl⟩
          ·
            rintro ⟨cd, tc2, hc2, tA2, hA2, s2, fr2⟩ hcut σ
            refine hN15 _ _ ?_
            obtain ⟨hcd, hcz⟩ := hcut
            refine gseq fun N23 hN23 => ?_
            refine greg ?_
            refine gop (y_move (v := .int _ _) rfl) rfl rfl rfl ?_
            refine gop (y_neq rfl rfl) rfl rfl rfl ?_
            refine gops_nil ?_
            refine hN23 _ _ ?_
            refine gT [box b6 _, fr2] rfl ?_
            refine gfrom [(0, .slice tA2 _ tc2), (1, .slice _ _ _), (6, .pointer _), (7, .slice hA2 _ hc2), (8, .int _ _), (9, .int _ _), (81, .bool _)] ⟨rfl, rfl, rfl, rfl, rfl, rfl, rfl, trivial⟩ fun σ => ?_
            refine gcond (b := _) rfl (fun hc81 => ?_) (fun hc81 => ?_)
            · -- slot 81 t
              replace hc81 := of_decide_eq_true hc81
              have hV : runV text (evs es) = (⟨cd, k⟩, ([], [])) := by rw [hV0, ← hrun, hD, if_pos (by rw [← hcd]; exact hc81), ← hcd]
              refine gseq fun N24 hN24 => ?_
              refine greg ?_
              refine gop (y_move (v := .int _ _) rfl) rfl rfl rfl ?_
              refine gop (y_move (v := .int _ _) rfl) rfl rfl rfl ?_
              refine gop_pure (e_call (vs := [.int _ _, .int _ _]) Try.func16 rfl (by kernel_rfl) rfl) (fun w hM => fault_any w _ _) rfl rfl rfl ?_
              refine gop (y_assign (v := .slice _ _ _) rfl) rfl rfl rfl ?_
              refine gop (y_assign (v := .slice _ _ _) rfl) rfl rfl rfl ?_
              refine gop_store 0 (v := .agg #[_, _]) (cs' := #[_, _]) rfl rfl Try.sizeOf27 rfl rfl rfl rfl (Nat.le_of_ble_eq_true rfl) rfl rfl ?_
              refine gops_nil ?_
              refine hN24 _ _ ?_
              refine gT [box b6 _, fr2] rfl ?_
              refine gfrom [(4, .slice _ _ _), (5, .slice _ _ _), (6, .pointer _)] ⟨rfl, rfl, rfl, trivial⟩ fun σ => ?_
              refine gret fun w1 hM => ?_
              refine ⟨_, res3 rfl (rt (v := .slice _ _ _) rfl) (rt (v := .slice _ _ _) rfl) (rc 0 (cs := [_, _]) hM rfl rfl Try.isAgg27 Try.sizeOf27 rfl), ?_⟩
              exact ⟨none, 0, none, 0, by rw [hV]; rfl, hM.low, by rw [hV]; simp, by rw [hV]; simp, fun _ _ => by rw [hV]; exact Rdl.nil, fun _ _ _ => by rw [hV]; exact Rdl.nil⟩
            · -- slot 81 f
              replace hc81 := Decidable.not_not.1 (of_decide_eq_false hc81)
              obtain ⟨hs2, hsb2, hhc2, hhm2, hhn2, hfx2, hfh2⟩ := hcz hc81
              refine gskip ?_
              refine hN13 _ _ ?_
              refine gfrom [(0, .slice tA2 _ tc2), (1, .slice _ _ _), (6, .pointer _), (7, .slice hA2 _ hc2), (8, .int _ _)] ⟨rfl, rfl, rfl, rfl, rfl, trivial⟩ fun σ => ?_
              refine greg ?_
              refine gop (y_move (v := .int _ _) rfl) rfl rfl rfl ?_
              refine gop (y_add rfl rfl ⟨by omega, by omega⟩) rfl rfl rfl ?_
              refine gop (y_assign (v := .int _ _) rfl) rfl rfl rfl ?_
              refine gops_nil ?_
              refine gnext2 ((k + 1, tc2, hc2, tA2, hA2, s2, fr2)) (by show es.length - (k + 1) < es.length - k; omega) (⟨show k + 1 ≤ _ by omega, by rw [hs2]; exact stepE_RI hri _ (by rw [← hcd]; exact hc81), hsb2, hhc2, hhm2, hhn2, hfx2, hfh2, by rw [← hrun, hD, if_neg (by rw [← hcd]; simp [hc81]), hs2]⟩) ⟨rfl, rfl, rfl, trivial⟩ ⟨rfl, rfl, trivial⟩ ⟨_, rfl⟩
        · -- slot 27 f
          replace hc27 := of_decide_eq_false hc27
          have hV : runV text (evs es) = (⟨0, 0⟩, s) := by rw [hV0, ← hrun, List.drop_eq_nil_of_le (by simp; omega), runFrom]
          refine gexit ?_
          refine hN9 _ _ ?_
          refine gfrom [(0, .slice tA _ tc), (6, .pointer _), (7, .slice hA _ hc)] ⟨rfl, rfl, rfl, trivial⟩ fun σ => ?_
          refine gseq fun N25 hN25 => ?_
          refine greg ?_
          refine gop (y_move (v := .slice hA _ hc) rfl) rfl rfl rfl ?_
          refine gop (y_move (v := .slice tA _ tc) rfl) rfl rfl rfl ?_
          refine gop (y_build (vs := []) (cells := #[.int .i64 0, .int .i64 0]) rfl bd27_) rfl rfl rfl ?_
          refine gop (y_assign (v := .slice hA _ hc) rfl) rfl rfl rfl ?_
          refine gop (y_assign (v := .slice tA _ tc) rfl) rfl rfl rfl ?_
          refine gop_store 0 (v := .agg #[_, _]) (cs' := #[_, _]) rfl rfl Try.sizeOf27 rfl rfl rfl rfl (Nat.le_of_ble_eq_true rfl) rfl rfl ?_
          refine gops_nil ?_
          refine hN25 _ _ ?_
          refine gT [box b6 _, fr] rfl ?_
          refine gfrom [(4, .slice hA _ hc), (5, .slice tA _ tc), (6, .pointer _)] ⟨rfl, rfl, rfl, trivial⟩ fun σ => ?_
          refine gret fun w1 hM => ?_
          refine ⟨_, res3 rfl (rt (v := .slice hA _ hc) rfl) (rt (v := .slice tA _ tc) rfl) (rc 0 (cs := [_, _]) hM rfl rfl Try.isAgg27 Try.sizeOf27 rfl), ?_⟩
          have hfo : ∀ w2, (seal_ w.heap.size w1).ok w2 → fr.ok w2 := fun w2 h2 => fr.stays w1 w2 (fun b hb => h2 b (hM.ge _ (List.mem_of_getElem? (i := 1) rfl) b hb) (hM.lt _ (List.mem_of_getElem? (i := 1) rfl) b hb)) (hM.ok _ (List.mem_of_getElem? (i := 1) rfl))
          exact ⟨hA, hc, tA, tc, by rw [hV], hM.low, by rw [hV]; have := hri.few; show s.1.length ≤ _; omega, by rw [hV]; have := hri.len; show s.2.length ≤ _; omega, fun w2 h2 => by rw [hV]; exact hfh w2 (hfo w2 h2), fun w2 hb h2 => by rw [hV]; exact hfx w2 hb (hfo w2 h2)⟩
end Go.Proofs.Ytbaojdiccikbiaa
