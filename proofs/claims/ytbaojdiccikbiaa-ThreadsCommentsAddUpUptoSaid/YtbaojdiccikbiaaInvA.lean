/- walks, printed by program -/
import Derived.Test.YtbaojdiccikbiaaPatchB
import Derived.Test.YtbaojdiccikbiaaPatchI
import Derived.Test.YtbaojdiccikbiaaLibL
namespace Go.Proofs.Ytbaojdiccikbiaa
open Go.RowKit Go.Cf
set_option maxRecDepth 10000

theorem el9 : Elem Try.prog 9 1 16 := elem_of (z := .string .empty) (by kernel_rfl) rfl (by decide)
theorem bd43_0_1_2 (x1 : Int) (x2 : Option Addr) (x2l x2c : Nat) (x3 : Option Addr) (x3l x3c : Nat) : Try.prog.built 43 [(0, .int .i64 x1), (1, .slice x2 x2l x2c), (2, .slice x3 x3l x3c)] = some #[.int .i64 x1, .slice x2 x2l x2c, .slice x3 x3l x3c] := by kernel_rfl
theorem el43 : Elem Try.prog 43 3 56 := elem_of (z := .agg #[.int .i64 0, .slice none 0 0, .slice none 0 0]) (by kernel_rfl) rfl (by decide)
theorem bd25_  : Try.prog.built 25 [] = some #[.slice none 0 0] := by kernel_rfl

set_option maxHeartbeats 1000000 in
theorem clone_any (w : World) (A : Option Addr) (c : Nat) (l : List ByteArray) (hl : Rdl w 0 1 strCells A l) (hb : l.length * 16 ≤ 140737488355328) (hA : A = none → c = 0) :
    Calls Try.prog 41 #[.slice A l.length c] w fun e w' => ∃ v T', e = .returned v ∧ T' = [rowl strCells w.heap.size 9 1 v l] ∧ Mem w T' w' := by
  refine gcalls Try.func41 rfl Try.ntmps41 (Nat.le_of_ble_eq_true rfl) ?_
  refine gfrom [(0, .slice _ _ _)] ⟨rfl, trivial⟩ fun σ => ?_
  refine gseq fun N1 hN1 => ?_
  refine greg ?_
  refine gop (y_assign (v := .slice _ _ _) rfl) rfl rfl rfl ?_
  refine gops_nil ?_
  refine hN1 _ _ ?_
  refine gfrom [(0, .slice _ _ _)] ⟨rfl, trivial⟩ fun σ => ?_
  refine gseq fun N2 hN2 => ?_
  refine gseq fun N3 hN3 => ?_
  refine greg ?_
  refine gop (y_move (v := .slice _ _ _) rfl) rfl rfl rfl ?_
  refine gop (y_eqlnil Try.underlying41 rfl rfl) rfl rfl rfl ?_
  refine gops_nil ?_
  refine hN3 _ _ ?_
  refine gfrom [(0, .slice _ _ _), (4, .bool _)] ⟨rfl, rfl, trivial⟩ fun σ => ?_
  refine gcond (b := _) rfl (fun hc4 => ?_) (fun hc4 => ?_)
  · -- slot 4 t
    obtain rfl : A = none := by simpa using hc4
    obtain rfl : l = [] := by
      cases l with
      | nil => rfl
      | cons x t => obtain ⟨_, h, _⟩ := hl (by simp); cases h
    refine gseq fun N4 hN4 => ?_
    refine greg ?_
    refine gop (y_assign (v := .slice _ _ _) rfl) rfl rfl rfl ?_
    refine gops_nil ?_
    refine hN4 _ _ ?_
    refine gfrom [(2, .slice _ _ _)] ⟨rfl, trivial⟩ fun σ => ?_
    refine gret fun w1 hM => ?_
    refine ⟨_, res1 rfl (rt (v := .slice _ _ _) rfl), ?_⟩
    exact ⟨_, _, rfl, rfl, mem_nilrow strCells _ 1 hM⟩
  · -- slot 4 f
    refine gskip ?_
    refine hN2 _ _ ?_
    refine gfrom [(0, .slice _ _ _)] ⟨rfl, trivial⟩ fun σ => ?_
    refine gseq fun N5 hN5 => ?_
    refine greg ?_
    refine gop_bslice0 strCells Try.underlying41 Try.sizeOf9 rfl (fun b5 hb5 => ?_)
    refine gop (y_move (v := .slice _ _ _) rfl) rfl rfl rfl ?_
    refine gop_append 0 (f := strCells) (l2 := l) Try.underlying41 el9 wide_str (v := .slice (some ⟨b5, 0, none⟩) 0 0) rfl rfl rfl rfl hA (by simp [maxLen]; omega) (by simp; omega) (fun w hM => (hl.base hM).src (fun _ => rfl)) rfl (fun v7 => ?_)
    refine gop (y_assign (v := v7) rfl) rfl rfl rfl ?_
    refine gops_nil ?_
    refine hN5 _ _ ?_
    refine gT [rowl _ _ _ _ _ _] rfl ?_
    refine gfrom [(2, v7)] ⟨rfl, trivial⟩ fun σ => ?_
    refine gret fun w1 hM => ?_
    refine ⟨_, res1 rfl (rt (v := v7) rfl), ?_⟩
    exact ⟨_, _, rfl, rfl, hM⟩

set_option maxHeartbeats 2000000 in
theorem copy_any (w : World) (A : Option Addr) (c : Nat) (hs : List HunkC) (hp : PatR w 0 A c hs) (v : PV (pls hs)) :
    Calls Try.prog 48 #[.agg #[.slice A hs.length c]] w fun e w' => ∃ v' T' hs' fr, e = .returned (.agg #[v']) ∧ T' = [rowl hunkCells w.heap.size 43 3 v' hs', fr] ∧ pls hs' = pls hs ∧ (∀ w1, fr.ok w1 → ∀ h ∈ hs', HunkR w1 w.heap.size h) ∧ Mem w T' w' := by
  have hm := Nat.le_trans hp.sb.len hp.sb.max
  have hvl : hs.length ≤ 130 := by simpa using v.len
  unfold maxLen at hm
  refine gcalls Try.func48 rfl Try.ntmps48 (Nat.le_of_ble_eq_true rfl) ?_
  refine gfrom [(0, .agg #[_])] ⟨rfl, trivial⟩ fun σ => ?_
  refine gseq fun N1 hN1 => ?_
  refine greg ?_
  refine gop_box (v := .agg #[_]) (cs := #[_]) rfl rfl rfl (fun b1 hb1 => ?_)
  refine gop_alloc (cs := #[.slice none 0 0]) Try.zeroValue25 rfl rfl (fun b2 hb2 => ?_)
  refine gops_nil ?_
  refine hN1 _ _ ?_
  refine gT [box b1 _, box b2 _] rfl ?_
  refine gfrom [(1, .pointer _), (2, .pointer _)] ⟨rfl, rfl, trivial⟩ fun σ => ?_
  refine gseq fun N2 hN2 => ?_
  refine greg ?_
  refine gop_alloc (cs := #[.slice none 0 0]) Try.zeroValue25 rfl rfl (fun b3 hb3 => ?_)
  refine gops_nil ?_
  refine hN2 _ _ ?_
  refine gT [box b1 _, box b2 _, box b3 _] rfl ?_
  refine gfrom [(1, .pointer _), (2, .pointer _), (3, .pointer _)] ⟨rfl, rfl, rfl, trivial⟩ fun σ => ?_
  refine gseq fun N3 hN3 => ?_
  refine gseq fun N4 hN4 => ?_
  refine greg ?_
  refine gop (y_fieldAddr_box fa25_0 rfl) rfl rfl rfl ?_
  refine gop (y_load Try.isAgg23 rfl (cell_box 0 rfl rfl)) rfl rfl rfl ?_
  refine gop (y_len Try.underlying23 rfl) rfl rfl rfl ?_
  refine gop (y_move (v := .int _ _) rfl) rfl rfl rfl ?_
  refine gops_nil ?_
  refine hN4 _ _ ?_
  refine gfrom [(2, .pointer _), (3, .pointer _), (7, .slice _ _ _), (8, .int _ _), (9, .int _ _)] ⟨rfl, rfl, rfl, rfl, rfl, trivial⟩ fun σ => ?_
  refine gblock ?_
  refine gnilrow hunkCells 43 3 ?_
  refine g_emp ?_
  refine gfrom2 [(9, .int _ _)] [(2, .pointer _), (3, .pointer _), (7, .slice _ _ _), (8, .int _ _)] ⟨rfl, trivial⟩ ⟨rfl, rfl, rfl, rfl, trivial⟩ fun σ => ?_
  refine gloop2 (G := Nat × Option Addr × Nat × List HunkC × Reg) (fun (k, Av, cv, hn, fr) => k ≤ hs.length ∧ pls hn = (pls hs).take k ∧ ∀ w1, fr.ok w1 → ∀ h ∈ hn, HunkR w1 w.heap.size h) (fun (k, Av, cv, hn, fr) => hs.length - k) (fun (k, Av, cv, hn, fr) => [(9, .int .i64 (k : Int))]) (fun (k, Av, cv, hn, fr) => [(2, box b3 (.cells #[.slice Av hn.length cv] 25)), (3, rowl hunkCells w.heap.size 43 3 (.slice Av hn.length cv) (hn)), (4, fr)]) ((0, none, 0, [], emp)) ?h0 ⟨rfl, trivial⟩ ⟨rfl, rfl, rfl, rfl, trivial⟩ rfl ?round
  case h0 => exact ⟨Nat.zero_le _, by simp, fun _ _ _ h => by cases h⟩
  case round =>
    rintro ⟨k, Av, cv, hn, fr⟩ hφ σ
    obtain ⟨hk, hpl, hfr⟩ := hφ
    have hnl : hn.length = k := by have := congrArg List.length hpl; simp at this; omega
    refine gT [box b1 _, box b2 _, box _ _, rowl _ _ _ _ _ _, fr] rfl ?_
    refine gseq fun N5 hN5 => ?_
    refine greg ?_
    refine gop (y_lss rfl rfl) rfl rfl rfl ?_
    refine gops_nil ?_
    refine hN5 _ _ ?_
    refine gfrom [(2, .pointer _), (3, .pointer _), (7, .slice _ _ _), (8, .int _ _), (9, .int _ _), (10, .bool _)] ⟨rfl, rfl, rfl, rfl, rfl, rfl, trivial⟩ fun σ => ?_
    refine gseq fun N6 hN6 => ?_
    refine gcond (b := _) rfl (fun hc10 => ?_) (fun hc10 => ?_)
    · -- slot 10 t
      replace hc10 := of_decide_eq_true hc10
      have hk1 : k < hs.length := by omega
      have hk2 : k < (pls hs).length := by simpa using hk1
      obtain ⟨ad, rfl, -, hcv⟩ := hp.rd.at_ hk1
      have hR := hp.each _ (List.getElem_mem hk1)
      have hv : VHunk hs[k].pl (prevEnd (pls hs) k) := by have := v.at_ k hk2; rwa [List.getElem_map] at this
      refine gskip ?_
      refine hN6 _ _ ?_
      refine gfrom [(2, .pointer _), (3, .pointer _), (7, .slice _ _ _), (8, .int _ _), (9, .int _ _)] ⟨rfl, rfl, rfl, rfl, rfl, trivial⟩ fun σ => ?_
      refine gseq fun N7 hN7 => ?_
      refine gblock ?_
      refine gseq fun N8 hN8 => ?_
      refine greg ?_
      refine gop (y_indexAddr Try.underlying23 Try.sizeOf43 rfl rfl rfl (by omega) (by omega)) rfl rfl rfl ?_
      refine gop (y_loads (cs := [_, _, _]) Try.isAgg43 Try.sizeOf43 rfl rfl (cells_base hcv)) rfl rfl rfl ?_
      refine gop_alloc (cs := #[.int .i64 0, .slice none 0 0, .slice none 0 0]) Try.zeroValue43 rfl rfl (fun b5 hb5 => ?_)
      refine gop_store 5 (v := .agg #[_, _, _]) (cs' := #[_, _, _]) rfl rfl Try.sizeOf43 rfl rfl rfl rfl (Nat.le_of_ble_eq_true rfl) rfl rfl ?_
      refine gops_nil ?_
      refine hN8 _ _ ?_
      refine gT [box b1 _, box b2 _, box _ _, rowl _ _ _ _ _ _, fr, box b5 _] rfl ?_
      refine gfrom [(2, .pointer _), (3, .pointer _), (5, .pointer _), (7, .slice _ _ _), (8, .int _ _), (9, .int _ _)] ⟨rfl, rfl, rfl, rfl, rfl, rfl, trivial⟩ fun σ => ?_
      refine greg_e1 [14] [(3, emp)] (by kernel_rfl) ?_
      refine ge_take 0 (TK := [box b1 _, box b2 _, box _ _, emp, fr, box b5 _]) rfl (by kernel_rfl) (by kernel_rfl) (by kernel_rfl) #[false, false, true, true, true, true, true, true, true, true, true, true, false, false, false] (by kernel_rfl) rfl (y_fieldAddr_box fa25_0 rfl) rfl rfl rfl (weak_emp 3 rfl) (listed' := #[true, false, false, false, false, false, false, false, false, false, false, false, false, false, false]) rfl ?_
      refine ge_take 1 (TK := [box b1 _, box b2 _, box _ _, emp, fr, box b5 _]) rfl (by kernel_rfl) (by kernel_rfl) (by kernel_rfl) #[true, false, true, true, true, true, true, true, true, true, true, true, false, false, false] (by kernel_rfl) rfl (y_load Try.isAgg23 rfl (cell_box 2 rfl rfl)) rfl rfl rfl (weak_emp 3 rfl) (listed' := #[true, true, false, false, false, false, false, false, false, false, false, false, false, false, false]) rfl ?_
      refine ge_take 2 (TK := [box b1 _, box b2 _, box _ _, emp, fr, box b5 _]) rfl (by kernel_rfl) (by kernel_rfl) (by kernel_rfl) #[true, true, false, false, true, true, true, true, true, true, false, false, false, false, false] (by kernel_rfl) rfl (y_fieldAddr_box fa43_0 rfl) rfl rfl rfl (weak_emp 3 rfl) (listed' := #[true, true, true, false, false, false, false, false, false, false, false, false, false, false, false]) rfl ?_
      refine ge_take 3 (TK := [box b1 _, box b2 _, box _ _, emp, fr, box b5 _]) rfl (by kernel_rfl) (by kernel_rfl) (by kernel_rfl) #[true, true, true, false, true, true, true, true, true, true, false, false, false, false, false] (by kernel_rfl) rfl (y_load Try.isAgg3 rfl (cell_box 5 rfl rfl)) rfl rfl rfl (weak_emp 3 rfl) (listed' := #[true, true, true, true, false, false, false, false, false, false, false, false, false, false, false]) rfl ?_
      refine ge_take 4 (TK := [box b1 _, box b2 _, box _ _, emp, fr, box b5 _]) rfl (by kernel_rfl) (by kernel_rfl) (by kernel_rfl) #[true, true, true, true, false, false, false, true, true, false, false, false, false, false, false] (by kernel_rfl) rfl (y_fieldAddr_box fa43_1 rfl) rfl rfl rfl (weak_emp 3 rfl) (listed' := #[true, true, true, true, true, false, false, false, false, false, false, false, false, false, false]) rfl ?_
      refine ge_take 5 (TK := [box b1 _, box b2 _, box _ _, emp, fr, box b5 _]) rfl (by kernel_rfl) (by kernel_rfl) (by kernel_rfl) #[true, true, true, true, true, false, false, true, true, false, false, false, false, false, false] (by kernel_rfl) rfl (y_load Try.isAgg41 rfl (cell_box 5 rfl rfl)) rfl rfl rfl (weak_emp 3 rfl) (listed' := #[true, true, true, true, true, true, false, false, false, false, false, false, false, false, false]) rfl ?_
      refine ge_take 7 (TK := [box b1 _, box b2 _, box _ _, emp, fr, box b5 _]) rfl (by kernel_rfl) (by kernel_rfl) (by kernel_rfl) #[true, true, true, true, true, true, true, false, false, false, false, false, false, false, false] (by kernel_rfl) rfl (y_fieldAddr_box fa43_2 rfl) rfl rfl rfl (weak_emp 3 rfl) (listed' := #[true, true, true, true, true, true, false, true, false, false, false, false, false, false, false]) rfl ?_
      refine ge_take 8 (TK := [box b1 _, box b2 _, box _ _, emp, fr, box b5 _]) rfl (by kernel_rfl) (by kernel_rfl) (by kernel_rfl) #[true, true, true, true, true, true, true, true, false, false, false, false, false, false, false] (by kernel_rfl) rfl (y_load Try.isAgg41 rfl (cell_box 5 rfl rfl)) rfl rfl rfl (weak_emp 3 rfl) (listed' := #[true, true, true, true, true, true, false, true, true, false, false, false, false, false, false]) rfl ?_
      refine ge_one 6 (k' := 0) (listed' := #[true, true, true, true, true, true, true, true, true, false, false, false, false, false, false]) (by kernel_rfl) rfl rfl rfl ?_
      refine gop_got (fun v T' => ∃ lo, w.heap.size ≤ lo ∧ T' = [rowl strCells lo 9 1 v hs[k].pl.old]) (e_call (vs := [.slice _ _ _]) Try.func41 rfl (by kernel_rfl) rfl) (fun w hM => (clone_any w _ _ _ (hR.old.base hM) (by have := hv.oldLen; omega) hR.ob.nil).mono fun _ _ ⟨v, T1, h1, h2, h3⟩ => ⟨v, T1, h1, ⟨_, hM.low.size, h2⟩, h3⟩) rfl rfl rfl ?_
      rintro v19 _ ⟨lo19, hlo19, rfl⟩
      refine gops_fact (fun w hM => row_form (hM.ok _ (List.mem_of_getElem? (i := 6) rfl))) ?_
      rintro ⟨A19, c19, rfl, hc19, hm19, hn19⟩
      refine gops_nil ?_
      refine ge_fin (TK := [box b1 _, box b2 _, box _ _, emp, fr, box b5 _]) rfl (weak_trans (weak_take (T' := [box b1 _, box b2 _, box _ _, rowl _ _ _ _ _ _, fr, box b5 _]) rfl) (weak_emp 3 rfl)) ?_
      refine ge_one 9 (k' := 0) (listed' := #[true, true, true, true, true, true, true, true, true, true, false, false, false, false, false]) (by kernel_rfl) rfl rfl rfl ?_
      refine gop_got (fun v T' => ∃ lo, w.heap.size ≤ lo ∧ T' = [rowl strCells lo 9 1 v hs[k].pl.new]) (e_call (vs := [.slice _ _ _]) Try.func41 rfl (by kernel_rfl) rfl) (fun w hM => (clone_any w _ _ _ (hR.new.base hM) (by have := hv.newLen; omega) hR.nb.nil).mono fun _ _ ⟨v, T1, h1, h2, h3⟩ => ⟨v, T1, h1, ⟨_, hM.low.size, h2⟩, h3⟩) rfl rfl rfl ?_
      rintro v22 _ ⟨lo22, hlo22, rfl⟩
      refine gops_fact (fun w hM => row_form (hM.ok _ (List.mem_of_getElem? (i := 7) rfl))) ?_
      rintro ⟨A22, c22, rfl, hc22, hm22, hn22⟩
      refine gops_nil ?_
      refine ge_fin (TK := [box b1 _, box b2 _, box _ _, emp, fr, box b5 _]) rfl (weak_trans (weak_take (T' := [box b1 _, box b2 _, box _ _, rowl _ _ _ _ _ _, fr, box b5 _]) rfl) (weak_emp 3 rfl)) ?_
      refine ge_take 10 (TK := [box b1 _, box b2 _, box _ _, emp, fr, box b5 _]) rfl (by kernel_rfl) (by kernel_rfl) (by kernel_rfl) #[true, true, true, true, true, true, true, true, true, true, false, false, false, false, false] (by kernel_rfl) rfl (y_build (vs := [(0, .int _ _), (1, .slice A19 _ c19), (2, .slice A22 _ c22)]) (cells := #[_, _, _]) rfl (bd43_0_1_2 _ _ _ _ _ _ _)) rfl rfl rfl (weak_trans (weak_take (T' := [box b1 _, box b2 _, box _ _, rowl _ _ _ _ _ _, fr, box b5 _]) rfl) (weak_emp 3 rfl)) (listed' := #[true, true, true, true, true, true, true, true, true, true, true, false, false, false, false]) rfl ?_
      refine ge_one 11 (k' := 0) (listed' := #[true, true, true, true, true, true, true, true, true, true, true, true, false, false, false]) (by kernel_rfl) rfl rfl rfl ?_
      refine gop_lit (vs := [.agg #[_, _, _]]) (cells := #[_, _, _]) Try.underlying23 Try.sizeOf43 Try.zeroValue43 rfl (by decide) (by decide) rfl rfl rfl rfl (fun b24 hb24 => ?_)
      refine gops_nil ?_
      refine ge_fin (TK := [box b1 _, box b2 _, box _ _, emp, fr, box b5 _]) rfl (weak_trans (weak_take (T' := [box b1 _, box b2 _, box _ _, rowl _ _ _ _ _ _, fr, box b5 _]) rfl) (weak_emp 3 rfl)) ?_
      refine ge_one 12 (k' := 0) (listed' := #[true, true, true, true, true, true, true, true, true, true, true, true, true, false, false]) (by kernel_rfl) rfl rfl rfl ?_
      refine gop_append 3 (f := hunkCells) (l2 := [⟨hs[k].pl, A19, c19, A22, c22⟩]) Try.underlying23 el43 wide_hunk (v := .slice Av _ cv) rfl rfl rfl rfl (fun h => by cases h) (by simp [maxLen]; omega) (by simp; omega) (src_box 8 rfl rfl) rfl (fun v25 => ?_)
      refine gops_fact (fun w hM => own_form (hM.own 3 rfl)) ?_
      rintro ⟨A25, c25, rfl, hc25, hm25⟩
      refine gops_nil ?_
      refine ge_fin (TK := [box b1 _, box b2 _, box _ _, emp, fr, box b5 _]) rfl (weak_trans (weak_take (T' := [box b1 _, box b2 _, box _ _, rowl _ _ _ _ _ _, fr, box b5 _]) rfl) (weak_emp 3 rfl)) ?_
      refine ge_take 13 (TK := [box b1 _, box b2 _, box _ _, emp, fr, box b5 _]) rfl (by kernel_rfl) (by kernel_rfl) (by kernel_rfl) #[true, true, true, true, true, true, true, true, true, true, true, true, true, false, false] (by kernel_rfl) rfl (y_fieldAddr_box fa25_0 rfl) rfl rfl rfl (weak_trans (weak_take (T' := [box b1 _, box b2 _, box _ _, rowl _ _ _ _ _ _, fr, box b5 _]) rfl) (weak_emp 3 rfl)) (listed' := #[true, true, true, true, true, true, true, true, true, true, true, true, true, true, false]) rfl ?_
      refine ge_one 14 (k' := 1) (listed' := #[true, true, true, true, true, true, true, true, true, true, true, true, true, true, true]) (by kernel_rfl) rfl rfl rfl ?_
      refine gop_store 2 (v := .slice A25 _ c25) (cs' := #[_]) rfl rfl Try.sizeOf23 rfl rfl rfl rfl (Nat.le_of_ble_eq_true rfl) rfl rfl ?_
      refine gops_nil ?_
      refine ge_fin (TK := []) rfl (weak_nil) ?_
      refine ge_done (by kernel_rfl) ?_
      refine hN7 _ _ ?_
      refine gT [box b1 _, box b2 _, box _ _, rowl _ _ _ _ _ _, fr, box b5 _, rowl _ _ _ _ _ _, rowl _ _ _ _ _ _, box b24 _] rfl ?_
      refine gfrom [(2, .pointer _), (3, .pointer _), (7, .slice _ _ _), (8, .int _ _), (9, .int _ _)] ⟨rfl, rfl, rfl, rfl, rfl, trivial⟩ fun σ => ?_
      refine greg ?_
      refine gop (y_add rfl rfl ⟨by omega, by omega⟩) rfl rfl rfl ?_
      refine gop (y_move (v := .int _ _) rfl) rfl rfl rfl ?_
      refine gops_nil ?_
      refine fin_mem _ (weak_all 5 4 rfl) ?_
      refine gnext2 ((k + 1, A25, c25, hn ++ [⟨hs[k].pl, A19, c19, A22, c22⟩], both fr (all_ [_, _, _, _]))) (by show hs.length - (k + 1) < hs.length - k; omega) (⟨by show k + 1 ≤ _; omega, by rw [List.take_succ_eq_append_getElem hk2]; show List.map _ _ = _; rw [List.map_append]; show pls hn ++ _ = _; rw [hpl]; simp, fun w1 ho h hh => ?hr⟩) ⟨rfl, trivial⟩ ⟨rfl, rfl, rfl, rfl, trivial⟩ ⟨_, rfl⟩
      case hr =>
        rcases List.mem_append.1 hh with hh | hh
        · exact hfr w1 ho.1 h hh
        · rw [List.mem_singleton.1 hh]
          have ho2 := (all_ok _ w1).1 ho.2
          exact ⟨(row_rdl (f := strCells) (fun _ => rfl) (ho2 _ (List.mem_of_getElem? (i := 1) rfl))).mono hlo19, (row_rdl (f := strCells) (fun _ => rfl) (ho2 _ (List.mem_of_getElem? (i := 2) rfl))).mono hlo22, ⟨hc19, hm19, hn19, by have := hv.oldLen; show hs[k].pl.old.length * 16 ≤ _; unfold reachBytes; omega⟩, ⟨hc22, hm22, hn22, by have := hv.newLen; show hs[k].pl.new.length * 16 ≤ _; unfold reachBytes; omega⟩, hR.at_⟩
    · -- slot 10 f
      replace hc10 := of_decide_eq_false hc10
      refine gexit ?_
      refine hN3 _ _ ?_
      refine gfrom [(2, .pointer _), (3, .pointer _)] ⟨rfl, rfl, trivial⟩ fun σ => ?_
      refine gseq fun N9 hN9 => ?_
      refine greg ?_
      refine gop (y_loads (cs := [_]) Try.isAgg25 Try.sizeOf25 rfl rfl (cells_box 2 rfl)) rfl rfl rfl ?_
      refine gop_store 1 (v := .agg #[_]) (cs' := #[_]) rfl rfl Try.sizeOf25 rfl rfl rfl rfl (Nat.le_of_ble_eq_true rfl) rfl rfl ?_
      refine gops_nil ?_
      refine hN9 _ _ ?_
      refine gT [box b1 _, box b2 _, box _ _, rowl _ _ _ _ _ _, fr] rfl ?_
      refine gfrom [(2, .pointer _)] ⟨rfl, trivial⟩ fun σ => ?_
      refine gret fun w1 hM => ?_
      refine ⟨_, res1 rfl (rc 1 (cs := [_]) hM rfl rfl Try.isAgg25 Try.sizeOf25 rfl), ?_⟩
      exact ⟨_, _, hn, fr, rfl, rfl, by rw [hpl, List.take_of_length_le (by simp; omega)], hfr, hM.dropTo 3 rfl⟩

set_option maxHeartbeats 2000000 in
theorem change_any (w0 w : World) (bg rg nn cap base k : Nat) (g : Int) (l : List HunkC) (fr : Reg) (h : HunkC)
    (hM0 : Mem w0 [rowl hunkCells base 43 3 (.slice (some ⟨rg, 0, none⟩) nn cap) (l), box bg (.cells #[.int .i64 g] 3), fr] w) (hn : nn = l.length) (hk : l[k]? = some h) (h1 : In64 (h.pl.at_ + g)) (h2 : In64 (g + h.pl.growth)) (h3 : In64 h.pl.growth) :
    Calls Try.prog 49 #[.pointer (some ((⟨rg, 0, none⟩ : Addr).add (k * 3))), .pointer (some ⟨bg, 0, none⟩)] w fun e w' => e = .returned (.tuple #[]) ∧ Mem w0 [rowl hunkCells base 43 3 (.slice (some ⟨rg, 0, none⟩) nn cap) (l.set k (swapC g h)), box bg (.cells #[.int .i64 (g + h.pl.growth)] 3), fr] w' := by
  have hkl : k < l.length := (List.getElem?_eq_some_iff.1 hk).1
  refine gcallsT Try.func49 rfl Try.ntmps49 (Nat.le_of_ble_eq_true rfl) hM0 ?_
  refine gfrom [(0, .pointer _), (1, _)] ⟨rfl, rfl, trivial⟩ fun σ => ?_
  refine gseq fun N1 hN1 => ?_
  refine greg ?_
  refine gop (y_move (v := .pointer _) rfl) rfl rfl rfl ?_
  refine gop (y_nilCheck rfl) rfl rfl rfl ?_
  refine gop (y_loads (cs := [_, _, _]) Try.isAgg43 Try.sizeOf43 rfl rfl (cells_rowp 0 (f := hunkCells) (l := l) rfl hn (fun _ => rfl) hk)) rfl rfl rfl ?_
  refine gop_pure (e_call (vs := [.agg #[_, _, _]]) Try.func47 rfl (by kernel_rfl) rfl) (fun w hM => growth_any w h h3) rfl rfl rfl ?_
  refine gop (y_assign (v := .int _ _) rfl) rfl rfl rfl ?_
  refine gops_nil ?_
  refine hN1 _ _ ?_
  refine gfrom [(0, .pointer _), (1, _), (3, .int _ _)] ⟨rfl, rfl, rfl, trivial⟩ fun σ => ?_
  refine gseq fun N2 hN2 => ?_
  refine greg_e0 [19, 22, 25] (by kernel_rfl) ?_
  refine ge_take 0 (TK := [rowl _ _ _ _ _ _, box bg _, fr]) rfl (by kernel_rfl) (by kernel_rfl) (by kernel_rfl) #[false, true, true, true, true, true, true, true, true, true, true, true, true, true, true, true, true, false, false, false, false, false, false, false, false, false] (by kernel_rfl) rfl (y_move (v := .pointer _) rfl) rfl rfl rfl (weak_refl) (listed' := #[true, false, false, false, false, false, false, false, false, false, false, false, false, false, false, false, false, false, false, false, false, false, false, false, false, false]) rfl ?_
  refine ge_take 3 (TK := [rowl _ _ _ _ _ _, box bg _, fr]) rfl (by kernel_rfl) (by kernel_rfl) (by kernel_rfl) #[true, true, true, false, false, false, false, true, false, true, true, true, true, true, true, true, true, false, false, false, false, false, false, false, false, false] (by kernel_rfl) rfl (y_move (v := .pointer _) rfl) rfl rfl rfl (weak_refl) (listed' := #[true, false, false, true, false, false, false, false, false, false, false, false, false, false, false, false, false, false, false, false, false, false, false, false, false, false]) rfl ?_
  refine ge_take 4 (TK := [rowl _ _ _ _ _ _, box bg _, fr]) rfl (by kernel_rfl) (by kernel_rfl) (by kernel_rfl) #[true, true, true, true, false, false, false, true, false, true, true, true, true, true, true, true, true, false, false, false, false, false, false, false, false, false] (by kernel_rfl) rfl (y_nilCheck rfl) rfl rfl rfl (weak_refl) (listed' := #[true, false, false, true, true, false, false, false, false, false, false, false, false, false, false, false, false, false, false, false, false, false, false, false, false, false]) rfl ?_
  refine ge_take 5 (TK := [rowl _ _ _ _ _ _, box bg _, fr]) rfl (by kernel_rfl) (by kernel_rfl) (by kernel_rfl) #[true, true, true, true, true, false, false, true, false, true, true, true, true, true, true, true, true, false, false, false, false, false, false, false, false, false] (by kernel_rfl) rfl (y_fieldAddr_add fa43_0 rfl) rfl rfl rfl (weak_refl) (listed' := #[true, false, false, true, true, true, false, false, false, false, false, false, false, false, false, false, false, false, false, false, false, false, false, false, false, false]) rfl ?_
  refine ge_take 6 (TK := [rowl _ _ _ _ _ _, box bg _, fr]) rfl (by kernel_rfl) (by kernel_rfl) (by kernel_rfl) #[true, true, true, true, true, true, false, true, false, true, true, true, true, true, true, true, true, false, false, false, false, false, false, false, false, false] (by kernel_rfl) rfl (y_load Try.isAgg3 rfl (cells_rowl 0 (f := hunkCells) (l := l) rfl hn (fun _ => rfl) hk 0 _ rfl)) rfl rfl rfl (weak_refl) (listed' := #[true, false, false, true, true, true, true, false, false, false, false, false, false, false, false, false, false, false, false, false, false, false, false, false, false, false]) rfl ?_
  refine ge_take 7 (TK := [rowl _ _ _ _ _ _, box bg _, fr]) rfl (by kernel_rfl) (by kernel_rfl) (by kernel_rfl) #[true, true, true, true, true, true, true, false, false, true, true, true, true, true, true, true, true, false, false, false, false, false, false, false, false, false] (by kernel_rfl) rfl (y_load Try.isAgg3 rfl (cell_box 1 rfl rfl)) rfl rfl rfl (weak_refl) (listed' := #[true, false, false, true, true, true, true, true, false, false, false, false, false, false, false, false, false, false, false, false, false, false, false, false, false, false]) rfl ?_
  refine ge_take 8 (TK := [rowl _ _ _ _ _ _, box bg _, fr]) rfl (by kernel_rfl) (by kernel_rfl) (by kernel_rfl) #[true, true, true, true, true, true, true, true, false, true, true, true, true, true, true, true, true, false, false, false, false, false, false, false, false, false] (by kernel_rfl) rfl (y_add rfl rfl h1) rfl rfl rfl (weak_refl) (listed' := #[true, false, false, true, true, true, true, true, true, false, false, false, false, false, false, false, false, false, false, false, false, false, false, false, false, false]) rfl ?_
  refine ge_take 9 (TK := [rowl _ _ _ _ _ _, box bg _, fr]) rfl (by kernel_rfl) (by kernel_rfl) (by kernel_rfl) #[true, true, true, true, true, true, true, true, true, false, false, false, false, true, true, true, true, false, false, false, false, false, false, false, false, false] (by kernel_rfl) rfl (y_move (v := .pointer _) rfl) rfl rfl rfl (weak_refl) (listed' := #[true, false, false, true, true, true, true, true, true, true, false, false, false, false, false, false, false, false, false, false, false, false, false, false, false, false]) rfl ?_
  refine ge_take 10 (TK := [rowl _ _ _ _ _ _, box bg _, fr]) rfl (by kernel_rfl) (by kernel_rfl) (by kernel_rfl) #[true, true, true, true, true, true, true, true, true, true, false, false, false, true, true, true, true, false, false, false, false, false, false, false, false, false] (by kernel_rfl) rfl (y_nilCheck rfl) rfl rfl rfl (weak_refl) (listed' := #[true, false, false, true, true, true, true, true, true, true, true, false, false, false, false, false, false, false, false, false, false, false, false, false, false, false]) rfl ?_
  refine ge_take 11 (TK := [rowl _ _ _ _ _ _, box bg _, fr]) rfl (by kernel_rfl) (by kernel_rfl) (by kernel_rfl) #[true, true, true, true, true, true, true, true, true, true, true, false, false, true, true, true, true, false, false, false, false, false, false, false, false, false] (by kernel_rfl) rfl (y_fieldAddr_add fa43_2 rfl) rfl rfl rfl (weak_refl) (listed' := #[true, false, false, true, true, true, true, true, true, true, true, true, false, false, false, false, false, false, false, false, false, false, false, false, false, false]) rfl ?_
  refine ge_take 12 (TK := [rowl _ _ _ _ _ _, box bg _, fr]) rfl (by kernel_rfl) (by kernel_rfl) (by kernel_rfl) #[true, true, true, true, true, true, true, true, true, true, true, true, false, true, true, true, true, false, false, false, false, false, false, false, false, false] (by kernel_rfl) rfl (y_load Try.isAgg41 rfl (cells_rowl 0 (f := hunkCells) (l := l) rfl hn (fun _ => rfl) hk 2 _ rfl)) rfl rfl rfl (weak_refl) (listed' := #[true, false, false, true, true, true, true, true, true, true, true, true, true, false, false, false, false, false, false, false, false, false, false, false, false, false]) rfl ?_
  refine ge_take 13 (TK := [rowl _ _ _ _ _ _, box bg _, fr]) rfl (by kernel_rfl) (by kernel_rfl) (by kernel_rfl) #[true, true, true, true, true, true, true, true, true, true, true, true, true, false, false, false, false, false, false, false, false, false, false, false, false, false] (by kernel_rfl) rfl (y_move (v := .pointer _) rfl) rfl rfl rfl (weak_refl) (listed' := #[true, false, false, true, true, true, true, true, true, true, true, true, true, true, false, false, false, false, false, false, false, false, false, false, false, false]) rfl ?_
  refine ge_take 14 (TK := [rowl _ _ _ _ _ _, box bg _, fr]) rfl (by kernel_rfl) (by kernel_rfl) (by kernel_rfl) #[true, true, true, true, true, true, true, true, true, true, true, true, true, true, false, false, false, false, false, false, false, false, false, false, false, false] (by kernel_rfl) rfl (y_nilCheck rfl) rfl rfl rfl (weak_refl) (listed' := #[true, false, false, true, true, true, true, true, true, true, true, true, true, true, true, false, false, false, false, false, false, false, false, false, false, false]) rfl ?_
  refine ge_take 15 (TK := [rowl _ _ _ _ _ _, box bg _, fr]) rfl (by kernel_rfl) (by kernel_rfl) (by kernel_rfl) #[true, true, true, true, true, true, true, true, true, true, true, true, true, true, true, false, false, false, false, false, false, false, false, false, false, false] (by kernel_rfl) rfl (y_fieldAddr_add fa43_1 rfl) rfl rfl rfl (weak_refl) (listed' := #[true, false, false, true, true, true, true, true, true, true, true, true, true, true, true, true, false, false, false, false, false, false, false, false, false, false]) rfl ?_
  refine ge_take 16 (TK := [rowl _ _ _ _ _ _, box bg _, fr]) rfl (by kernel_rfl) (by kernel_rfl) (by kernel_rfl) #[true, true, true, true, true, true, true, true, true, true, true, true, true, true, true, true, false, false, false, false, false, false, false, false, false, false] (by kernel_rfl) rfl (y_load Try.isAgg41 rfl (cells_rowl 0 (f := hunkCells) (l := l) rfl hn (fun _ => rfl) hk 1 _ rfl)) rfl rfl rfl (weak_refl) (listed' := #[true, false, false, true, true, true, true, true, true, true, true, true, true, true, true, true, true, false, false, false, false, false, false, false, false, false]) rfl ?_
  refine ge_take 17 (TK := [rowl _ _ _ _ _ _, box bg _, fr]) rfl (by kernel_rfl) (by kernel_rfl) (by kernel_rfl) #[true, true, true, true, true, true, true, true, true, true, true, true, true, true, true, true, true, false, false, false, false, false, false, false, false, false] (by kernel_rfl) rfl (y_nilCheck rfl) rfl rfl rfl (weak_refl) (listed' := #[true, false, false, true, true, true, true, true, true, true, true, true, true, true, true, true, true, true, false, false, false, false, false, false, false, false]) rfl ?_
  refine ge_take 18 (TK := [rowl _ _ _ _ _ _, box bg _, fr]) rfl (by kernel_rfl) (by kernel_rfl) (by kernel_rfl) #[true, true, true, true, true, true, true, true, true, true, true, true, true, true, true, true, true, true, false, false, false, false, false, false, false, false] (by kernel_rfl) rfl (y_fieldAddr_add fa43_0 rfl) rfl rfl rfl (weak_refl) (listed' := #[true, false, false, true, true, true, true, true, true, true, true, true, true, true, true, true, true, true, true, false, false, false, false, false, false, false]) rfl ?_
  refine ge_takep 1 (TK := [rowl _ _ _ _ _ _, box bg _, fr]) rfl (by kernel_rfl) (by kernel_rfl) (by kernel_rfl) rfl rfl (y_move (v := .pointer _) rfl) rfl rfl rfl (weak_refl) (listed' := #[true, true, false, true, true, true, true, true, true, true, true, true, true, true, true, true, true, true, true, false, false, false, false, false, false, false]) rfl ?_
  refine ge_takep 2 (TK := [rowl _ _ _ _ _ _, box bg _, fr]) rfl (by kernel_rfl) (by kernel_rfl) (by kernel_rfl) rfl rfl (y_move (v := .pointer _) rfl) rfl rfl rfl (weak_refl) (listed' := #[true, true, true, true, true, true, true, true, true, true, true, true, true, true, true, true, true, true, true, false, false, false, false, false, false, false]) rfl ?_
  refine ge_one 19 (k' := 1) (listed' := #[true, true, true, true, true, true, true, true, true, true, true, true, true, true, true, true, true, true, true, true, false, false, false, false, false, false]) (by kernel_rfl) rfl rfl rfl ?_
  refine gop_store_row 0 (f := hunkCells) (l := l) (k := k) (o := 0) (v := .int _ _) (a := h) (a' := ⟨⟨h.pl.at_ + g, h.pl.old, h.pl.new⟩, h.oA, h.oc, h.nA, h.nc⟩) (fun _ => rfl) rfl rfl rfl Try.sizeOf3 rfl rfl rfl rfl hn hk (Nat.le_of_ble_eq_true rfl) rfl rfl ?_
  refine gops_nil ?_
  refine ge_fin (TK := []) rfl (weak_nil) ?_
  refine ge_take 20 (TK := []) rfl (by kernel_rfl) (by kernel_rfl) (by kernel_rfl) #[true, true, true, true, true, true, true, true, true, true, true, true, true, true, true, true, true, true, true, true, false, false, false, false, false, false] (by kernel_rfl) rfl (y_nilCheck rfl) rfl rfl rfl (weak_nil) (listed' := #[true, true, true, true, true, true, true, true, true, true, true, true, true, true, true, true, true, true, true, true, true, false, false, false, false, false]) rfl ?_
  refine ge_take 21 (TK := []) rfl (by kernel_rfl) (by kernel_rfl) (by kernel_rfl) #[true, true, true, true, true, true, true, true, true, true, true, true, true, true, true, true, true, true, true, true, true, false, false, false, false, false] (by kernel_rfl) rfl (y_fieldAddr_add fa43_1 rfl) rfl rfl rfl (weak_nil) (listed' := #[true, true, true, true, true, true, true, true, true, true, true, true, true, true, true, true, true, true, true, true, true, true, false, false, false, false]) rfl ?_
  refine ge_one 22 (k' := 2) (listed' := #[true, true, true, true, true, true, true, true, true, true, true, true, true, true, true, true, true, true, true, true, true, true, true, false, false, false]) (by kernel_rfl) rfl rfl rfl ?_
  refine gop_store_row 0 (f := hunkCells) (l := l.set k ⟨⟨h.pl.at_ + g, h.pl.old, h.pl.new⟩, h.oA, h.oc, h.nA, h.nc⟩) (k := k) (o := 1) (v := .slice _ _ _) (a := ⟨⟨h.pl.at_ + g, h.pl.old, h.pl.new⟩, h.oA, h.oc, h.nA, h.nc⟩) (a' := ⟨⟨h.pl.at_ + g, h.pl.new, h.pl.new⟩, h.nA, h.nc, h.nA, h.nc⟩) (fun _ => rfl) rfl rfl rfl Try.sizeOf41 rfl rfl rfl rfl (by simp [hn]) (by rw [List.getElem?_set_self hkl]) (Nat.le_of_ble_eq_true rfl) rfl rfl ?_
  refine gops_nil ?_
  refine ge_fin (TK := []) rfl (weak_nil) ?_
  refine ge_take 23 (TK := []) rfl (by kernel_rfl) (by kernel_rfl) (by kernel_rfl) #[true, true, true, true, true, true, true, true, true, true, true, true, true, true, true, true, true, true, true, true, true, true, true, false, false, false] (by kernel_rfl) rfl (y_nilCheck rfl) rfl rfl rfl (weak_nil) (listed' := #[true, true, true, true, true, true, true, true, true, true, true, true, true, true, true, true, true, true, true, true, true, true, true, true, false, false]) rfl ?_
  refine ge_take 24 (TK := []) rfl (by kernel_rfl) (by kernel_rfl) (by kernel_rfl) #[true, true, true, true, true, true, true, true, true, true, true, true, true, true, true, true, true, true, true, true, true, true, true, true, false, false] (by kernel_rfl) rfl (y_fieldAddr_add fa43_2 rfl) rfl rfl rfl (weak_nil) (listed' := #[true, true, true, true, true, true, true, true, true, true, true, true, true, true, true, true, true, true, true, true, true, true, true, true, true, false]) rfl ?_
  refine ge_one 25 (k' := 3) (listed' := #[true, true, true, true, true, true, true, true, true, true, true, true, true, true, true, true, true, true, true, true, true, true, true, true, true, true]) (by kernel_rfl) rfl rfl rfl ?_
  refine gop_store_row 0 (f := hunkCells) (l := (l.set k ⟨⟨h.pl.at_ + g, h.pl.old, h.pl.new⟩, h.oA, h.oc, h.nA, h.nc⟩).set k ⟨⟨h.pl.at_ + g, h.pl.new, h.pl.new⟩, h.nA, h.nc, h.nA, h.nc⟩) (k := k) (o := 2) (v := .slice _ _ _) (a := ⟨⟨h.pl.at_ + g, h.pl.new, h.pl.new⟩, h.nA, h.nc, h.nA, h.nc⟩) (a' := swapC g h) (fun _ => rfl) rfl rfl rfl Try.sizeOf41 rfl rfl rfl rfl (by simp [hn]) (by rw [List.getElem?_set_self (by simpa using hkl)]) (Nat.le_of_ble_eq_true rfl) rfl rfl ?_
  refine gops_nil ?_
  refine ge_fin (TK := []) rfl (weak_nil) ?_
  refine ge_done (by kernel_rfl) ?_
  refine hN2 _ _ ?_
  refine gT [rowl _ _ _ _ _ _, box bg _, fr] rfl ?_
  refine gfrom [(1, _), (3, .int _ _)] ⟨rfl, rfl, trivial⟩ fun σ => ?_
  refine greg ?_
  refine gop (y_load Try.isAgg3 rfl (cell_box 1 rfl rfl)) rfl rfl rfl ?_
  refine gop (y_move (v := .int _ _) rfl) rfl rfl rfl ?_
  refine gop (y_add rfl rfl h2) rfl rfl rfl ?_
  refine gop_store 1 (v := .int _ _) (cs' := #[_]) rfl rfl Try.sizeOf3 rfl rfl rfl rfl (Nat.le_of_ble_eq_true rfl) rfl rfl ?_
  refine gops_nil ?_
  intro w1 hM
  refine ⟨_, res0 rfl, ?_⟩
  exact ⟨rfl, by rw [List.set_set, List.set_set] at hM; exact hM⟩

set_option maxHeartbeats 1000000 in
theorem made_any (w : World) (A : Option Addr) (c : Nat) (hs : List HunkC) (hp : PatR w 0 A c hs) (n : Nat) (hn : n = hs.length) : Calls Try.prog 50 #[.agg #[.slice A n c]] w fun e w' => e = .returned (.tuple #[.agg #[if patchF (pls hs) = ⟨0, 0⟩ then .slice A n c else .slice none 0 0], fv (if patchF (pls hs) = ⟨0, 0⟩ then ⟨0, 0⟩ else ⟨10, -1⟩)]) ∧ Below w.heap.size w w' := by
  subst hn
  refine gcalls Try.func50 rfl Try.ntmps50 (Nat.le_of_ble_eq_true rfl) ?_
  refine gfrom [(0, .agg #[_])] ⟨rfl, trivial⟩ fun σ => ?_
  refine gseq fun N1 hN1 => ?_
  refine greg ?_
  refine gop_box (v := .agg #[_]) (cs := #[_]) rfl rfl rfl (fun b1 hb1 => ?_)
  refine gop_alloc (cs := #[.slice none 0 0]) Try.zeroValue25 rfl rfl (fun b2 hb2 => ?_)
  refine gop_alloc (cs := #[.int .i64 0, .int .i64 0]) Try.zeroValue27 rfl rfl (fun b3 hb3 => ?_)
  refine gops_nil ?_
  refine hN1 _ _ ?_
  refine gT [box b1 _, box b2 _, box b3 _] rfl ?_
  refine gfrom [(1, .pointer _), (2, .pointer _), (3, .pointer _)] ⟨rfl, rfl, rfl, trivial⟩ fun σ => ?_
  refine gseq fun N2 hN2 => ?_
  refine gseq fun N3 hN3 => ?_
  refine greg ?_
  refine gop (y_loads (cs := [_]) Try.isAgg25 Try.sizeOf25 rfl rfl (cells_box 0 rfl)) rfl rfl rfl ?_
  refine gop_pure (e_call (vs := [.agg #[_]]) Try.func18 rfl (by kernel_rfl) rfl) (fun w hM => patchValidate_any w _ _ _ (PatR.lasts.base hp hM)) rfl rfl rfl ?_
  refine gop (y_build (vs := []) (cells := #[.int .i64 0, .int .i64 0]) rfl bd27_) rfl rfl rfl ?_
  refine gop (y_bin (vx := .agg #[_, _]) (vy := .agg #[_, _]) rfl rfl (fun w => eg27 _ _ _ _ _ w) (fun w => ne27 _ _ _ _ w)) rfl rfl rfl ?_
  refine gops_nil ?_
  refine hN3 _ _ ?_
  refine gfrom [(1, .pointer _), (2, .pointer _), (3, .pointer _), (7, .bool _)] ⟨rfl, rfl, rfl, rfl, trivial⟩ fun σ => ?_
  refine gcond (b := _) rfl (fun hc7 => ?_) (fun hc7 => ?_)
  · -- slot 7 t
    replace hc7 := fault_ne.1 hc7
    refine gseq fun N4 hN4 => ?_
    refine greg ?_
    refine gop (y_build (vs := []) (cells := #[.slice none 0 0]) rfl bd25_) rfl rfl rfl ?_
    refine gop (y_build (vs := [(0, _), (1, _)]) (cells := #[_, _]) rfl (bd27_0_1 _ _)) rfl rfl rfl ?_
    refine gop_store 1 (v := .agg #[_]) (cs' := #[_]) rfl rfl Try.sizeOf25 rfl rfl rfl rfl (Nat.le_of_ble_eq_true rfl) rfl rfl ?_
    refine gop_store 2 (v := .agg #[_, _]) (cs' := #[_, _]) rfl rfl Try.sizeOf27 rfl rfl rfl rfl (Nat.le_of_ble_eq_true rfl) rfl rfl ?_
    refine gops_nil ?_
    refine hN4 _ _ ?_
    refine gT [box b1 _, box b2 _, box b3 _] rfl ?_
    refine gfrom [(2, .pointer _), (3, .pointer _)] ⟨rfl, rfl, trivial⟩ fun σ => ?_
    refine gret fun w1 hM => ?_
    refine ⟨_, res2 rfl (rc 1 (cs := [_]) hM rfl rfl Try.isAgg25 Try.sizeOf25 rfl) (rc 2 (cs := [_, _]) hM rfl rfl Try.isAgg27 Try.sizeOf27 rfl), ?_⟩
    exact ⟨by rw [if_neg hc7, if_neg hc7], hM.low⟩
  · -- slot 7 f
    replace hc7 := fault_eq.1 hc7
    refine gskip ?_
    refine hN2 _ _ ?_
    refine gfrom [(1, .pointer _), (2, .pointer _), (3, .pointer _)] ⟨rfl, rfl, rfl, trivial⟩ fun σ => ?_
    refine gseq fun N5 hN5 => ?_
    refine greg ?_
    refine gop (y_loads (cs := [_]) Try.isAgg25 Try.sizeOf25 rfl rfl (cells_box 0 rfl)) rfl rfl rfl ?_
    refine gop (y_build (vs := []) (cells := #[.int .i64 0, .int .i64 0]) rfl bd27_) rfl rfl rfl ?_
    refine gop_store 1 (v := .agg #[_]) (cs' := #[_]) rfl rfl Try.sizeOf25 rfl rfl rfl rfl (Nat.le_of_ble_eq_true rfl) rfl rfl ?_
    refine gop_store 2 (v := .agg #[_, _]) (cs' := #[_, _]) rfl rfl Try.sizeOf27 rfl rfl rfl rfl (Nat.le_of_ble_eq_true rfl) rfl rfl ?_
    refine gops_nil ?_
    refine hN5 _ _ ?_
    refine gT [box b1 _, box b2 _, box b3 _] rfl ?_
    refine gfrom [(2, .pointer _), (3, .pointer _)] ⟨rfl, rfl, trivial⟩ fun σ => ?_
    refine gret fun w1 hM => ?_
    refine ⟨_, res2 rfl (rc 1 (cs := [_]) hM rfl rfl Try.isAgg25 Try.sizeOf25 rfl) (rc 2 (cs := [_, _]) hM rfl rfl Try.isAgg27 Try.sizeOf27 rfl), ?_⟩
    exact ⟨by rw [if_pos hc7, if_pos hc7], hM.low⟩

set_option maxHeartbeats 2000000 in
theorem invert_any (w : World) (A : Option Addr) (c : Nat) (hs : List HunkC) (hp : PatR w 0 A c hs) :
    Calls Try.prog 37 #[.agg #[.slice A hs.length c]] w fun e w' => ∃ A' c' hs', e = .returned (.tuple #[.agg #[.slice A' hs'.length c'], fv (invF (pls hs))]) ∧ Below w.heap.size w w' ∧ PatR w' w.heap.size A' c' hs' ∧ pls hs' = invR (pls hs) := by
  refine gcalls Try.func37 rfl Try.ntmps37 (Nat.le_of_ble_eq_true rfl) ?_
  refine gfrom [(0, .agg #[_])] ⟨rfl, trivial⟩ fun σ => ?_
  refine gseq fun N1 hN1 => ?_
  refine greg ?_
  refine gop_box (v := .agg #[_]) (cs := #[_]) rfl rfl rfl (fun b1 hb1 => ?_)
  refine gop_alloc (cs := #[.slice none 0 0]) Try.zeroValue25 rfl rfl (fun b2 hb2 => ?_)
  refine gop_alloc (cs := #[.int .i64 0, .int .i64 0]) Try.zeroValue27 rfl rfl (fun b3 hb3 => ?_)
  refine gops_nil ?_
  refine hN1 _ _ ?_
  refine gT [box b1 _, box b2 _, box b3 _] rfl ?_
  refine gfrom [(1, .pointer _), (2, .pointer _), (3, .pointer _)] ⟨rfl, rfl, rfl, trivial⟩ fun σ => ?_
  refine gseq fun N2 hN2 => ?_
  refine gseq fun N3 hN3 => ?_
  refine greg ?_
  refine gop (y_loads (cs := [_]) Try.isAgg25 Try.sizeOf25 rfl rfl (cells_box 0 rfl)) rfl rfl rfl ?_
  refine gop_pure (e_call (vs := [.agg #[_]]) Try.func18 rfl (by kernel_rfl) rfl) (fun w hM => patchValidate_any w _ _ _ (PatR.lasts.base hp hM)) rfl rfl rfl ?_
  refine gop_alloc (cs := #[.int .i64 0, .int .i64 0]) Try.zeroValue27 rfl rfl (fun b4 hb4 => ?_)
  refine gop_store 3 (v := .agg #[_, _]) (cs' := #[_, _]) rfl rfl Try.sizeOf27 rfl rfl rfl rfl (Nat.le_of_ble_eq_true rfl) rfl rfl ?_
  refine gops_nil ?_
  refine hN3 _ _ ?_
  refine gT [box b1 _, box b2 _, box b3 _, box b4 _] rfl ?_
  refine gfrom [(1, .pointer _), (2, .pointer _), (3, .pointer _), (4, .pointer _)] ⟨rfl, rfl, rfl, rfl, trivial⟩ fun σ => ?_
  refine gseq fun N4 hN4 => ?_
  refine greg ?_
  refine gop (y_loads (cs := [_, _]) Try.isAgg27 Try.sizeOf27 rfl rfl (cells_box 3 rfl)) rfl rfl rfl ?_
  refine gop (y_build (vs := []) (cells := #[.int .i64 0, .int .i64 0]) rfl bd27_) rfl rfl rfl ?_
  refine gop (y_bin (vx := .agg #[_, _]) (vy := .agg #[_, _]) rfl rfl (fun w => eg27 _ _ _ _ _ w) (fun w => ne27 _ _ _ _ w)) rfl rfl rfl ?_
  refine gops_nil ?_
  refine hN4 _ _ ?_
  refine gfrom [(1, .pointer _), (2, .pointer _), (3, .pointer _), (4, .pointer _), (13, .bool _)] ⟨rfl, rfl, rfl, rfl, rfl, trivial⟩ fun σ => ?_
  refine gcond (b := _) rfl (fun hc13 => ?_) (fun hc13 => ?_)
  · -- slot 13 t
    replace hc13 := fault_ne.1 hc13
    have hF : invF (pls hs) = patchF (pls hs) := by rw [invF, if_pos hc13]
    refine gseq fun N5 hN5 => ?_
    refine greg_e1 [] [(1, room b2 25 1), (2, room b3 27 2)] (by kernel_rfl) ?_
    refine ge_take 0 (TK := [box b1 _, room b2 25 1, room b3 27 2, box b4 _]) rfl (by kernel_rfl) (by kernel_rfl) (by kernel_rfl) #[false, true, false, false] (by kernel_rfl) rfl (y_build (vs := []) (cells := #[.slice none 0 0]) rfl bd25_) rfl rfl rfl (weak_trans (weak_room 1 rfl rfl) (weak_room 2 rfl rfl)) (listed' := #[true, false, false, false]) rfl ?_
    refine ge_take 1 (TK := [box b1 _, room b2 25 1, room b3 27 2, box b4 _]) rfl (by kernel_rfl) (by kernel_rfl) (by kernel_rfl) #[true, false, true, false] (by kernel_rfl) rfl (y_loads (cs := [_, _]) Try.isAgg27 Try.sizeOf27 rfl rfl (cells_box 3 rfl)) rfl rfl rfl (weak_trans (weak_room 1 rfl rfl) (weak_room 2 rfl rfl)) (listed' := #[true, true, false, false]) rfl ?_
    refine ge_one 2 (k' := 0) (listed' := #[true, true, true, false]) (by kernel_rfl) rfl rfl rfl ?_
    refine gop_store 1 (v := .agg #[_]) (cs' := #[_]) rfl rfl Try.sizeOf25 rfl rfl rfl rfl (Nat.le_of_ble_eq_true rfl) rfl rfl ?_
    refine gops_nil ?_
    refine ge_fin (TK := [box b1 _, room b2 25 1, room b3 27 2, box b4 _]) rfl (weak_trans (weak_room 1 rfl rfl) (weak_room 2 rfl rfl)) ?_
    refine ge_one 3 (k' := 0) (listed' := #[true, true, true, true]) (by kernel_rfl) rfl rfl rfl ?_
    refine gop_store 2 (v := .agg #[_, _]) (cs' := #[_, _]) rfl rfl Try.sizeOf27 rfl rfl rfl rfl (Nat.le_of_ble_eq_true rfl) rfl rfl ?_
    refine gops_nil ?_
    refine ge_fin (TK := [box b1 _, room b2 25 1, room b3 27 2, box b4 _]) rfl (weak_trans (weak_room 1 rfl rfl) (weak_room 2 rfl rfl)) ?_
    refine ge_done (by kernel_rfl) ?_
    refine hN5 _ _ ?_
    refine gT [box b1 _, box b2 _, box b3 _, box b4 _] rfl ?_
    refine gfrom [(2, .pointer _), (3, .pointer _)] ⟨rfl, rfl, trivial⟩ fun σ => ?_
    refine gret fun w1 hM => ?_
    refine ⟨_, res2 rfl (rc 1 (cs := [_]) hM rfl rfl Try.isAgg25 Try.sizeOf25 rfl) (rc 2 (cs := [_, _]) hM rfl rfl Try.isAgg27 Try.sizeOf27 rfl), ?_⟩
    exact ⟨none, 0, [], by rw [hF]; rfl, hM.low, PatR.nil, by rw [invR, hF, if_neg hc13]; rfl⟩
  · -- slot 13 f
    replace hc13 := fault_eq.1 hc13
    have hv := patchF_ok.1 hc13
    refine gskip ?_
    refine hN2 _ _ ?_
    refine gfrom [(1, .pointer _), (2, .pointer _), (3, .pointer _)] ⟨rfl, rfl, rfl, trivial⟩ fun σ => ?_
    refine gseq fun N6 hN6 => ?_
    refine greg ?_
    refine gop (y_loads (cs := [_]) Try.isAgg25 Try.sizeOf25 rfl rfl (cells_box 0 rfl)) rfl rfl rfl ?_
    refine gop_got (fun v T' => ∃ lo v1 h1 fr, w.heap.size ≤ lo ∧ v = .agg #[v1] ∧ T' = [rowl hunkCells lo 43 3 v1 h1, fr] ∧ pls h1 = pls hs ∧ ∀ w1, fr.ok w1 → ∀ h ∈ h1, HunkR w1 w.heap.size h) (e_call (vs := [.agg #[_]]) Try.func48 rfl (by kernel_rfl) rfl) (fun w hM => (copy_any w _ _ hs (PatR.lasts.base hp hM) hv).mono fun _ _ ⟨v1, T1, h1, fr, e1, e2, e3, e4, e5⟩ => ⟨_, T1, e1, ⟨_, v1, h1, fr, hM.low.size, rfl, e2, e3, fun w1 ho h hh => (e4 w1 ho h hh).mono hM.low.size⟩, e5⟩) rfl rfl rfl ?_
    rintro _ _ ⟨lo17, v17, h1, fr, hlo17, rfl, rfl, hpl, hfr⟩
    refine gops_fact (fun w hM => row_form (hM.ok _ (List.mem_of_getElem? (i := 4) rfl))) ?_
    rintro ⟨A17, c17, rfl, hc17, hm17, hn17⟩
    have hv1 : PV (pls h1) := hpl ▸ hv
    have hl1 : h1.length ≤ 130 := by simpa using hv1.len
    unfold maxLen at hm17
    refine gop_alloc (cs := #[.slice none 0 0]) Try.zeroValue25 rfl rfl (fun b5 hb5 => ?_)
    refine gop_store 6 (v := .agg #[.slice A17 _ c17]) (cs' := #[_]) rfl rfl Try.sizeOf25 rfl rfl rfl rfl (Nat.le_of_ble_eq_true rfl) rfl rfl ?_
    refine gops_nil ?_
    refine hN6 _ _ ?_
    refine gT [box b1 _, box b2 _, box b3 _, box b4 _, rowl _ _ _ _ _ _, fr, box b5 _] rfl ?_
    refine gfrom [(2, .pointer _), (3, .pointer _), (5, .pointer _)] ⟨rfl, rfl, rfl, trivial⟩ fun σ => ?_
    refine gseq fun N7 hN7 => ?_
    refine greg ?_
    refine gop_alloc (cs := #[.int .i64 0]) Try.zeroValue3 rfl rfl (fun b6 hb6 => ?_)
    refine gop_store 7 (v := .int _ _) (cs' := #[_]) rfl rfl Try.sizeOf3 rfl rfl rfl rfl (Nat.le_of_ble_eq_true rfl) rfl rfl ?_
    refine gops_nil ?_
    refine hN7 _ _ ?_
    refine gT [box b1 _, box b2 _, box b3 _, box b4 _, rowl _ _ _ _ _ _, fr, box b5 _, box b6 _] rfl ?_
    refine gfrom [(2, .pointer _), (3, .pointer _), (5, .pointer _), (6, .pointer _)] ⟨rfl, rfl, rfl, rfl, trivial⟩ fun σ => ?_
    refine gseq fun N8 hN8 => ?_
    refine greg ?_
    refine gop (y_makeFunc (vs := [.pointer (some ⟨b6, 0, none⟩)]) rfl) rfl rfl rfl ?_
    refine gop (y_assign (v := .func (.func 49) #[] #[.pointer (some ⟨b6, 0, none⟩)]) rfl) rfl rfl rfl ?_
    refine gops_nil ?_
    refine hN8 _ _ ?_
    refine gfrom [(2, .pointer _), (3, .pointer _), (5, .pointer _), (7, .func (.func 49) #[] #[.pointer (some ⟨b6, 0, none⟩)])] ⟨rfl, rfl, rfl, rfl, trivial⟩ fun σ => ?_
    refine gseq fun N9 hN9 => ?_
    refine gseq fun N10 hN10 => ?_
    refine greg ?_
    refine gop (y_fieldAddr_box fa25_0 rfl) rfl rfl rfl ?_
    refine gop (y_load Try.isAgg23 rfl (cell_box 6 rfl rfl)) rfl rfl rfl ?_
    refine gop (y_len Try.underlying23 rfl) rfl rfl rfl ?_
    refine gop (y_move (v := .int _ _) rfl) rfl rfl rfl ?_
    refine gops_nil ?_
    refine hN10 _ _ ?_
    refine gfrom [(2, .pointer _), (3, .pointer _), (5, .pointer _), (7, .func (.func 49) #[] #[.pointer (some ⟨b6, 0, none⟩)]), (21, .int _ _), (22, .int _ _)] ⟨rfl, rfl, rfl, rfl, rfl, rfl, trivial⟩ fun σ => ?_
    refine gblock ?_
    refine gfrom2 [(22, .int _ _)] [(2, .pointer _), (3, .pointer _), (5, .pointer _), (7, .func (.func 49) #[] #[.pointer (some ⟨b6, 0, none⟩)]), (21, .int _ _)] ⟨rfl, trivial⟩ ⟨rfl, rfl, rfl, rfl, rfl, trivial⟩ fun σ => ?_
    refine gloop2 (G := Nat) (fun k => k ≤ h1.length) (fun k => h1.length - k) (fun k => [(22, .int .i64 (k : Int))]) (fun k => [(4, rowl hunkCells lo17 43 3 (.slice A17 h1.length c17) (invK h1 k)), (7, box b6 (.cells #[.int .i64 (gsum (pls h1) k)] 3))]) (0) ?h0 ⟨rfl, trivial⟩ ⟨rfl, rfl, rfl, rfl, rfl, trivial⟩ rfl ?round
    case h0 => exact Nat.zero_le _
    case round =>
      intro k hφ σ
      have hk := hφ
      refine gT [box b1 _, box b2 _, box b3 _, box b4 _, rowl _ _ _ _ _ _, fr, box b5 _, box b6 _] rfl ?_
      refine gseq fun N11 hN11 => ?_
      refine greg ?_
      refine gop (y_lss rfl rfl) rfl rfl rfl ?_
      refine gops_nil ?_
      refine hN11 _ _ ?_
      refine gfrom [(2, .pointer _), (3, .pointer _), (5, .pointer _), (7, .func (.func 49) #[] #[.pointer (some ⟨b6, 0, none⟩)]), (21, .int _ _), (22, .int _ _), (23, .bool _)] ⟨rfl, rfl, rfl, rfl, rfl, rfl, rfl, trivial⟩ fun σ => ?_
      refine gseq fun N12 hN12 => ?_
      refine gcond (b := _) rfl (fun hc23 => ?_) (fun hc23 => ?_)
      · -- slot 23 t
        replace hc23 := of_decide_eq_true hc23
        have hk1 : k < h1.length := by omega
        have hkl := invK_len h1 (Nat.le_of_lt hk1)
        refine g_fact (fun w hM => own_some (hM.own 4 rfl) (by rw [hkl]; omega)) ?_
        rintro ⟨rg, cg, hvg, -, -⟩
        simp only [Value.slice.injEq] at hvg
        obtain ⟨rfl, -, rfl⟩ := hvg
        have hk2 : k < (pls h1).length := by simpa using hk1
        have hB := hv1.hb k hk2
        rw [List.getElem_map] at hB
        have hB1 := hB.lo
        have hB2 := hB.hi
        have hB3 := hB.old
        have hB4 := hB.new
        have hgb := gsum_bd hv1.each k (by omega)
        have hgs : gsum (pls h1) k + h1[k].pl.growth = gsum (pls h1) (k + 1) := by rw [gsum_succ hk2, List.getElem_map]
        refine gskip ?_
        refine hN12 _ _ ?_
        refine gfrom [(2, .pointer _), (3, .pointer _), (5, .pointer _), (7, .func (.func 49) #[] #[.pointer (some ⟨b6, 0, none⟩)]), (21, .int _ _), (22, .int _ _)] ⟨rfl, rfl, rfl, rfl, rfl, rfl, trivial⟩ fun σ => ?_
        refine gseq fun N13 hN13 => ?_
        refine gblock ?_
        refine gseq fun N14 hN14 => ?_
        refine greg ?_
        refine gop (y_move (v := .int _ _) rfl) rfl rfl rfl ?_
        refine gop (y_assign (v := .int _ _) rfl) rfl rfl rfl ?_
        refine gops_nil ?_
        refine hN14 _ _ ?_
        refine gfrom [(2, .pointer _), (3, .pointer _), (5, .pointer _), (7, .func (.func 49) #[] #[.pointer (some ⟨b6, 0, none⟩)]), (8, .int _ _), (21, .int _ _), (22, .int _ _)] ⟨rfl, rfl, rfl, rfl, rfl, rfl, rfl, trivial⟩ fun σ => ?_
        refine greg ?_
        refine gop (y_move (v := .func (.func 49) #[] #[.pointer (some ⟨b6, 0, none⟩)]) rfl) rfl rfl rfl ?_
        refine gop (y_fieldAddr_box fa25_0 rfl) rfl rfl rfl ?_
        refine gop (y_load Try.isAgg23 rfl (cell_box 6 rfl rfl)) rfl rfl rfl ?_
        refine gop (y_move (v := .int _ _) rfl) rfl rfl rfl ?_
        refine gop (y_indexAddr (m := k) Try.underlying23 Try.sizeOf43 rfl rfl (by omega) (by omega) (by omega)) rfl rfl rfl ?_
        refine gop_does2 4 7 (fun v r s G => v = .tuple #[] ∧ r = rowl hunkCells lo17 43 3 (.slice (some ⟨rg, 0, none⟩) h1.length c17) ((invK h1 k).set k (swapC (gsum (pls h1) k) h1[k])) ∧ s = box b6 (.cells #[.int .i64 (gsum (pls h1) k + h1[k].pl.growth)] 3) ∧ G = []) (e_callv (vs := [.pointer _]) (cs := [.pointer (some ⟨b6, 0, none⟩)]) rfl Try.func49 rfl (by kernel_rfl) rfl) rfl rfl rfl (fun w fr1 hfr hM => (change_any _ w b6 rg _ _ _ k _ (invK h1 k) fr1 h1[k] hM hkl.symm (invK_at hk1) (by unfold In64; omega) (by unfold In64 Hunk.growth; omega) (by unfold In64 Hunk.growth; omega)).mono fun _ _ ⟨he, hm⟩ => ⟨_, _, _, [], he, ⟨rfl, rfl, rfl, rfl⟩, hm⟩) rfl rfl rfl ?_
        rintro _ _ _ _ ⟨rfl, rfl, rfl, rfl⟩
        refine gops_nil ?_
        refine hN13 _ _ ?_
        refine gT [box b1 _, box b2 _, box b3 _, box b4 _, rowl _ _ _ _ _ _, fr, box b5 _, box b6 _] rfl ?_
        refine gfrom [(2, .pointer _), (3, .pointer _), (5, .pointer _), (7, .func (.func 49) #[] #[.pointer (some ⟨b6, 0, none⟩)]), (21, .int _ _), (22, .int _ _)] ⟨rfl, rfl, rfl, rfl, rfl, rfl, trivial⟩ fun σ => ?_
        refine greg ?_
        refine gop (y_add rfl rfl ⟨by omega, by omega⟩) rfl rfl rfl ?_
        refine gop (y_move (v := .int _ _) rfl) rfl rfl rfl ?_
        refine gops_nil ?_
        rw [invK_set hk1, hgs]
        refine gnext2 (k + 1) (by omega) (show k + 1 ≤ _ by omega) ⟨rfl, trivial⟩ ⟨rfl, rfl, rfl, rfl, rfl, trivial⟩ ⟨_, rfl⟩
      · -- slot 23 f
        replace hc23 := of_decide_eq_false hc23
        rw [invK_all h1 (by omega)]
        refine gexit ?_
        refine hN9 _ _ ?_
        refine gfrom [(2, .pointer _), (3, .pointer _), (5, .pointer _)] ⟨rfl, rfl, rfl, trivial⟩ fun σ => ?_
        refine gseq fun N15 hN15 => ?_
        refine greg ?_
        refine gop (y_loads (cs := [_]) Try.isAgg25 Try.sizeOf25 rfl rfl (cells_box 6 rfl)) rfl rfl rfl ?_
        refine gop_got (fun v T' => T' = [] ∧ ∃ A1 n1 c1, v = .tuple #[.agg #[.slice A1 n1 c1], fv (if patchF (inv (pls hs)) = ⟨0, 0⟩ then ⟨0, 0⟩ else ⟨10, -1⟩)] ∧ (patchF (inv (pls hs)) = ⟨0, 0⟩ → A1 = A17 ∧ n1 = h1.length ∧ c1 = c17) ∧ (¬ patchF (inv (pls hs)) = ⟨0, 0⟩ → A1 = none ∧ n1 = 0 ∧ c1 = 0)) (e_call (vs := [.agg #[_]]) Try.func50 rfl (by kernel_rfl) rfl) (fun w hM => by
    have hc := made_any w A17 c17 (invC h1) (PatR.mono (patR_inv (hM.ok _ (List.mem_of_getElem? (i := 4) rfl)) (hfr _ (hM.ok _ (List.mem_of_getElem? (i := 5) rfl))) hlo17 hv1 hc17 hm17 hn17) (Nat.zero_le _)) h1.length (invC_len h1).symm
    rw [pls_invC, hpl] at hc
    by_cases hpv : patchF (inv (pls hs)) = ⟨0, 0⟩
    · rw [if_pos hpv, if_pos hpv] at hc
      exact hc.mono fun _ _ ⟨h1, h2⟩ => ⟨_, [], h1, ⟨rfl, _, _, _, by rw [if_pos hpv], fun _ => ⟨rfl, rfl, rfl⟩, fun h => absurd hpv h⟩, (Mem.start w).call h2⟩
    · rw [if_neg hpv, if_neg hpv] at hc
      exact hc.mono fun _ _ ⟨h1, h2⟩ => ⟨_, [], h1, ⟨rfl, _, _, _, by rw [if_neg hpv], fun h => absurd h hpv, fun _ => ⟨rfl, rfl, rfl⟩⟩, (Mem.start w).call h2⟩) rfl rfl rfl ?_
        rintro _ _ ⟨rfl, A1, n1, c1, rfl, hy1, hy2⟩
        refine gop (y_extract (v := .agg #[_]) rfl rfl) rfl rfl rfl ?_
        refine gop (y_extract (v := .agg #[_, _]) rfl rfl) rfl rfl rfl ?_
        refine gop_store 1 (v := .agg #[_]) (cs' := #[_]) rfl rfl Try.sizeOf25 rfl rfl rfl rfl (Nat.le_of_ble_eq_true rfl) rfl rfl ?_
        refine gop_store 2 (v := .agg #[_, _]) (cs' := #[_, _]) rfl rfl Try.sizeOf27 rfl rfl rfl rfl (Nat.le_of_ble_eq_true rfl) rfl rfl ?_
        refine gops_nil ?_
        refine hN15 _ _ ?_
        refine gT [box b1 _, box b2 _, box b3 _, box b4 _, rowl _ _ _ _ _ _, fr, box b5 _, box b6 _] rfl ?_
        refine gfrom [(2, .pointer _), (3, .pointer _)] ⟨rfl, rfl, trivial⟩ fun σ => ?_
        refine gret fun w1 hM => ?_
        refine ⟨_, res2 rfl (rc 1 (cs := [_]) hM rfl rfl Try.isAgg25 Try.sizeOf25 rfl) (rc 2 (cs := [_, _]) hM rfl rfl Try.isAgg27 Try.sizeOf27 rfl), ?_⟩
        by_cases hpv : patchF (inv (pls hs)) = ⟨0, 0⟩
        · obtain ⟨rfl, rfl, rfl⟩ := hy1 hpv
          have hF : invF (pls hs) = ⟨0, 0⟩ := by rw [invF_if hc13, if_pos hpv]
          exact ⟨A1, c1, invC h1, by rw [if_pos hpv, hF, invC_len], hM.low, patR_inv (hM.ok _ (List.mem_of_getElem? (i := 4) rfl)) (hfr _ (hM.ok _ (List.mem_of_getElem? (i := 5) rfl))) hlo17 hv1 hc17 hm17 hn17, by rw [pls_invC, hpl, invR, if_pos hF]⟩
        · obtain ⟨rfl, rfl, rfl⟩ := hy2 hpv
          have hF : invF (pls hs) = ⟨10, -1⟩ := by rw [invF_if hc13, if_neg hpv]
          exact ⟨none, 0, [], by rw [if_neg hpv, hF]; rfl, hM.low, PatR.nil, by rw [invR, hF]; rfl⟩
end Go.Proofs.Ytbaojdiccikbiaa
