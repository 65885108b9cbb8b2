/- walks, printed by program -/
import Derived.Test.YtijpaljdclhehaaDoorGlobD
namespace Go.Proofs.YtijpaljdclhehaaDoor
open Go.RowKit Go.Cf
set_option maxRecDepth 10000



set_option maxHeartbeats 2000000 in
theorem splitSeq1_iters (s : ByteArray) (hs : s.size ≤ 4000000) (b1 b2 b3 : Nat) :
    Iters Tryd.prog 102 [.pointer (some ⟨b1, 0, none⟩), .pointer (some ⟨b2, 0, none⟩), .pointer (some ⟨b3, 0, none⟩)] (fun x : ByteArray => [.string x]) (cutS s)
      [box b1 (.cells #[.string ⟨#[47]⟩] 9), box b2 (.cells #[.string s] 9), box b3 (.cells #[.int .i64 0] 3)] := by
  intro w W l J Jx hM0 hY
  have h47 : (⟨#[47]⟩ : ByteArray).size = 1 := rfl
  refine gcallsI Tryd.func102 rfl Tryd.ntmps102 (Nat.le_of_ble_eq_true rfl) hM0 ?_
  refine gfrom [(0, .func _ _ _), (1, _), (2, _), (3, _)] ⟨rfl, rfl, rfl, rfl, trivial⟩ fun σ => ?_
  refine gseq fun N1 hN1 => ?_
  refine gseq fun N2 hN2 => ?_
  refine greg ?_
  refine gop (y_load Tryd.isAgg9 rfl (cell_box 1 rfl rfl)) rfl rfl rfl ?_
  refine gop (y_lens Tryd.underlying9 rfl) rfl rfl rfl ?_
  refine gop (y_eql rfl rfl) rfl rfl rfl ?_
  refine gops_nil ?_
  refine hN2 _ _ ?_
  refine gfrom [(0, .func _ _ _), (1, _), (2, _), (3, _), (11, .bool _)] ⟨rfl, rfl, rfl, rfl, rfl, trivial⟩ fun σ => ?_
  refine gcond (b := _) rfl (fun hc11 => ?_) (fun hc11 => ?_)
  · -- slot 11 t
     exact absurd hc11 (by decide)
  · -- slot 11 f
    replace hc11 := of_decide_eq_false hc11
    refine gskip ?_
    refine hN1 _ _ ?_
    refine gfrom [(0, .func _ _ _), (1, _), (2, _), (3, _)] ⟨rfl, rfl, rfl, rfl, trivial⟩ fun σ => ?_
    refine gseq fun N3 hN3 => ?_
    refine gblock ?_
    refine gfrom2 [] [(0, .func _ _ _), (1, _), (2, _), (3, _)] trivial ⟨rfl, rfl, rfl, rfl, trivial⟩ fun σ => ?_
    refine gloop2 (G := Nat × ByteArray) (fun (k, sc) => (cutS s).drop k = cutS sc ∧ k + slashes sc = slashes s ∧ sc.size ≤ s.size) (fun (k, sc) => slashes sc) (fun (k, sc) => []) (fun (k, sc) => [(0, J k), (2, box b2 (.cells #[.string sc] 9))]) ((0, s)) ?h0 trivial ⟨rfl, rfl, rfl, rfl, trivial⟩ rfl ?round
    case h0 => exact ⟨rfl, by simp, Nat.le_refl _⟩
    case round =>
      rintro ⟨k, sc⟩ hφ σ
      obtain ⟨hk1, hk2, hk3⟩ := hφ
      refine gT [_, box b1 _, box _ _, box b3 _] rfl ?_
      refine gblock ?_
      refine gseq fun N4 hN4 => ?_
      refine greg ?_
      refine gop (y_load Tryd.isAgg9 rfl (cell_box 2 rfl rfl)) rfl rfl rfl ?_
      refine gop (y_load Tryd.isAgg9 rfl (cell_box 1 rfl rfl)) rfl rfl rfl ?_
      refine gop_pure (e_call (vs := [.string _, .string _]) Tryd.func90 rfl (by kernel_rfl) rfl) (fun w hM => sIndex_any w _) rfl rfl rfl ?_
      refine gop (y_assign (v := .int _ _) rfl) rfl rfl rfl ?_
      refine gops_nil ?_
      refine hN4 _ _ ?_
      refine gfrom [(0, .func _ _ _), (1, _), (2, _), (3, _), (7, .int _ _)] ⟨rfl, rfl, rfl, rfl, rfl, trivial⟩ fun σ => ?_
      refine gseq fun N5 hN5 => ?_
      refine gseq fun N6 hN6 => ?_
      refine greg ?_
      refine gop (y_move (v := .int _ _) rfl) rfl rfl rfl ?_
      refine gop (y_lss rfl rfl) rfl rfl rfl ?_
      refine gops_nil ?_
      refine hN6 _ _ ?_
      refine gfrom [(0, .func _ _ _), (1, _), (2, _), (3, _), (7, .int _ _), (33, .bool _)] ⟨rfl, rfl, rfl, rfl, rfl, rfl, trivial⟩ fun σ => ?_
      refine gcond (b := _) rfl (fun hc33 => ?_) (fun hc33 => ?_)
      · -- slot 33 t
        replace hc33 := of_decide_eq_true hc33
        have hs0 : slashes sc = 0 := by
          rcases Nat.eq_zero_or_pos (slashes sc) with h0 | h0
          · exact h0
          · obtain ⟨m, hm1, _⟩ := idx_hit h0; omega
        refine gexit ?_
        refine hN3 _ _ ?_
        refine gfrom [(0, .func _ _ _), (2, _)] ⟨rfl, rfl, trivial⟩ fun σ => ?_
        refine greg ?_
        refine gop (y_move (v := .func _ _ _) rfl) rfl rfl rfl ?_
        refine gop (y_load Tryd.isAgg9 rfl (cell_box 2 rfl rfl)) rfl rfl rfl ?_
        refine gop_yield (l := l) (k := k) (J := J) (Jx := Jx) (vs := [.string _]) rfl rfl rfl (fun r W1 hM1 => hY k sc r W1 (drop_head (hk1.trans (idx_miss hs0).2)).1 hM1) rfl (fun bY51 => ?_)
        refine gops_nil ?_
        intro w1 hM
        refine ⟨_, res0 rfl, ?_⟩
        cases bY51 with
        | false => exact ⟨⟨_, rfl⟩, .inr ⟨k, (List.getElem?_eq_some_iff.1 (drop_head (hk1.trans (idx_miss hs0).2)).1).1, hM.sub (List.singleton_sublist.2 (by simp))⟩⟩
        | true => exact ⟨⟨_, rfl⟩, .inl (by have h1 := drop_head (hk1.trans (idx_miss hs0).2); have h2 := (List.getElem?_eq_some_iff.1 h1.1).1; have h3 := List.drop_eq_nil_iff.1 h1.2; rw [show (cutS s).length = k + 1 by omega]; exact hM.sub (List.singleton_sublist.2 (by simp)))⟩
      · -- slot 33 f
        replace hc33 := of_decide_eq_false hc33
        have hs0 : 0 < slashes sc := by
          rcases Nat.eq_zero_or_pos (slashes sc) with h0 | h0
          · have := (idx_miss h0).1; omega
          · exact h0
        obtain ⟨m, hm1, hm2, hm3, hm4⟩ := idx_hit hs0
        refine gskip ?_
        refine hN5 _ _ ?_
        refine gfrom [(0, .func _ _ _), (1, _), (2, _), (3, _), (7, .int _ _)] ⟨rfl, rfl, rfl, rfl, rfl, trivial⟩ fun σ => ?_
        refine gseq fun N7 hN7 => ?_
        refine greg ?_
        refine gop (y_load Tryd.isAgg9 rfl (cell_box 2 rfl rfl)) rfl rfl rfl ?_
        refine gop (y_move (v := .int _ _) rfl) rfl rfl rfl ?_
        refine gop (y_load Tryd.isAgg3 rfl (cell_box 3 rfl rfl)) rfl rfl rfl ?_
        refine gop (y_add rfl rfl ⟨by omega, by omega⟩) rfl rfl rfl ?_
        refine gop (y_strslice_hi Tryd.underlying9 rfl rfl (by omega) (by omega)) rfl rfl rfl ?_
        refine gop (y_assign (v := .string _) rfl) rfl rfl rfl ?_
        refine gops_nil ?_
        refine hN7 _ _ ?_
        refine gfrom [(0, .func _ _ _), (1, _), (2, _), (3, _), (7, .int _ _), (8, .string _)] ⟨rfl, rfl, rfl, rfl, rfl, rfl, trivial⟩ fun σ => ?_
        refine gseq fun N8 hN8 => ?_
        refine gseq fun N9 hN9 => ?_
        refine greg ?_
        refine gop (y_move (v := .func _ _ _) rfl) rfl rfl rfl ?_
        refine gop (y_move (v := .string _) rfl) rfl rfl rfl ?_
        refine gop_yield (l := l) (k := k) (J := J) (Jx := Jx) (vs := [.string _]) rfl rfl rfl (fun r W1 hM1 => hY k (sc.extract 0 (Lib.indexByte sc.data.toList 47 + 0).toNat) r W1 (by rw [show (Lib.indexByte sc.data.toList 47 + 0).toNat = m by omega]; exact (drop_head (hk1.trans hm3)).1) hM1) rfl (fun bY41 => ?_)
        refine gop (y_not rfl) rfl rfl rfl ?_
        refine gops_nil ?_
        refine hN9 _ _ ?_
        refine gT [_, box b1 _, box _ _, box b3 _] rfl ?_
        refine gfrom [(0, .func _ _ _), (1, _), (2, _), (3, _), (7, .int _ _), (42, .bool _)] ⟨rfl, rfl, rfl, rfl, rfl, rfl, trivial⟩ fun σ => ?_
        refine gcond (b := _) rfl (fun hc42 => ?_) (fun hc42 => ?_)
        · -- slot 42 t
          obtain rfl : bY41 = false := by simpa using hc42
          refine gret fun w1 hM => ?_
          refine ⟨_, res0 rfl, ?_⟩
          exact ⟨⟨_, rfl⟩, .inr ⟨k, (List.getElem?_eq_some_iff.1 (drop_head (hk1.trans hm3)).1).1, hM.sub (List.singleton_sublist.2 (by simp))⟩⟩
        · -- slot 42 f
          obtain rfl : bY41 = true := by simpa using hc42
          refine gskip ?_
          refine hN8 _ _ ?_
          refine gfrom [(0, .func _ _ _), (1, _), (2, _), (3, _), (7, .int _ _)] ⟨rfl, rfl, rfl, rfl, rfl, trivial⟩ fun σ => ?_
          refine greg ?_
          refine gop (y_load Tryd.isAgg9 rfl (cell_box 2 rfl rfl)) rfl rfl rfl ?_
          refine gop (y_move (v := .int _ _) rfl) rfl rfl rfl ?_
          refine gop (y_load Tryd.isAgg9 rfl (cell_box 1 rfl rfl)) rfl rfl rfl ?_
          refine gop (y_lens Tryd.underlying9 rfl) rfl rfl rfl ?_
          refine gop (y_add rfl rfl ⟨by omega, by omega⟩) rfl rfl rfl ?_
          refine gop (y_strslice_lo Tryd.underlying9 rfl rfl (by omega) (by omega)) rfl rfl rfl ?_
          refine gop_store 2 (v := .string _) (cs' := #[_]) rfl rfl Tryd.sizeOf9 rfl rfl rfl rfl (Nat.le_of_ble_eq_true rfl) rfl rfl ?_
          refine gops_nil ?_
          refine gnext2 ((k + 1, sc.extract (Lib.indexByte sc.data.toList 47 + ((⟨#[47]⟩ : ByteArray).size : Int)).toNat sc.size)) (by show slashes (sc.extract (Lib.indexByte sc.data.toList 47 + ((⟨#[47]⟩ : ByteArray).size : Int)).toNat sc.size) < slashes sc; rw [show (Lib.indexByte sc.data.toList 47 + ((⟨#[47]⟩ : ByteArray).size : Int)).toNat = m + 1 by omega]; omega) (by rw [show (Lib.indexByte sc.data.toList 47 + ((⟨#[47]⟩ : ByteArray).size : Int)).toNat = m + 1 by omega]; exact ⟨(drop_head (hk1.trans hm3)).2, by omega, by simp; omega⟩) trivial ⟨rfl, rfl, rfl, rfl, trivial⟩ ⟨_, rfl⟩

set_option maxHeartbeats 1000000 in
theorem splitSeq_any (w : World) (s : ByteArray) :
    Calls Tryd.prog 83 #[.string s, .string ⟨#[47]⟩, .int .i64 0] w fun e w' => ∃ v T', e = .returned v ∧ (∃ b1 b2 b3, v = .func (.func 102) #[] #[.pointer (some ⟨b1, 0, none⟩), .pointer (some ⟨b2, 0, none⟩), .pointer (some ⟨b3, 0, none⟩)] ∧ T' = [box b2 (.cells #[.string s] 9), box b1 (.cells #[.string ⟨#[47]⟩] 9), box b3 (.cells #[.int .i64 0] 3)]) ∧ Mem w T' w' := by
  refine gcalls Tryd.func83 rfl Tryd.ntmps83 (Nat.le_of_ble_eq_true rfl) ?_
  refine gfrom [(0, .string _), (1, .string _), (2, .int _ _)] ⟨rfl, rfl, rfl, trivial⟩ fun σ => ?_
  refine gseq fun N1 hN1 => ?_
  refine greg ?_
  refine gop_box (v := .string _) (cs := #[_]) rfl rfl rfl (fun b3 hb3 => ?_)
  refine gop_box (v := .string _) (cs := #[_]) rfl rfl rfl (fun b4 hb4 => ?_)
  refine gop_box (v := .int _ _) (cs := #[_]) rfl rfl rfl (fun b5 hb5 => ?_)
  refine gop (y_assign (v := .nilFunc) rfl) rfl rfl rfl ?_
  refine gops_nil ?_
  refine hN1 _ _ ?_
  refine gT [box b3 _, box b4 _, box b5 _] rfl ?_
  refine gfrom [(3, .pointer _), (4, .pointer _), (5, .pointer _)] ⟨rfl, rfl, rfl, trivial⟩ fun σ => ?_
  refine gseq fun N2 hN2 => ?_
  refine greg ?_
  refine gop (y_makeFunc (vs := [.pointer (some ⟨b4, 0, none⟩), .pointer (some ⟨b3, 0, none⟩), .pointer (some ⟨b5, 0, none⟩)]) rfl) rfl rfl rfl ?_
  refine gop (y_assign (v := .func (.func 102) #[] #[.pointer (some ⟨b4, 0, none⟩), .pointer (some ⟨b3, 0, none⟩), .pointer (some ⟨b5, 0, none⟩)]) rfl) rfl rfl rfl ?_
  refine gops_nil ?_
  refine hN2 _ _ ?_
  refine gfrom [(6, .func (.func 102) #[] #[.pointer (some ⟨b4, 0, none⟩), .pointer (some ⟨b3, 0, none⟩), .pointer (some ⟨b5, 0, none⟩)])] ⟨rfl, trivial⟩ fun σ => ?_
  refine gret fun w1 hM => ?_
  refine ⟨_, res1 rfl (rt (v := .func (.func 102) #[] #[.pointer (some ⟨b4, 0, none⟩), .pointer (some ⟨b3, 0, none⟩), .pointer (some ⟨b5, 0, none⟩)]) rfl), ?_⟩
  exact ⟨_, _, rfl, ⟨_, _, _, rfl, rfl⟩, hM⟩

set_option maxHeartbeats 1000000 in
theorem splitSeqX_any (w : World) (s : ByteArray) :
    Calls Tryd.prog 64 #[.string s, .string ⟨#[47]⟩] w fun e w' => ∃ v T', e = .returned v ∧ (∃ b1 b2 b3, v = .func (.func 102) #[] #[.pointer (some ⟨b1, 0, none⟩), .pointer (some ⟨b2, 0, none⟩), .pointer (some ⟨b3, 0, none⟩)] ∧ T' = [box b2 (.cells #[.string s] 9), box b1 (.cells #[.string ⟨#[47]⟩] 9), box b3 (.cells #[.int .i64 0] 3)]) ∧ Mem w T' w' := by
  refine gcalls Tryd.func64 rfl Tryd.ntmps64 (Nat.le_of_ble_eq_true rfl) ?_
  refine gfrom [(0, .string _), (1, .string _)] ⟨rfl, rfl, trivial⟩ fun σ => ?_
  refine gseq fun N1 hN1 => ?_
  refine greg ?_
  refine gop (y_assign (v := .nilFunc) rfl) rfl rfl rfl ?_
  refine gops_nil ?_
  refine hN1 _ _ ?_
  refine gfrom [(0, .string _), (1, .string _)] ⟨rfl, rfl, trivial⟩ fun σ => ?_
  refine gseq fun N2 hN2 => ?_
  refine greg ?_
  refine gop (y_move (v := .string _) rfl) rfl rfl rfl ?_
  refine gop (y_move (v := .string _) rfl) rfl rfl rfl ?_
  refine gop_got (fun v T' => ∃ b1 b2 b3, v = .func (.func 102) #[] #[.pointer (some ⟨b1, 0, none⟩), .pointer (some ⟨b2, 0, none⟩), .pointer (some ⟨b3, 0, none⟩)] ∧ T' = [box b2 (.cells #[.string s] 9), box b1 (.cells #[.string ⟨#[47]⟩] 9), box b3 (.cells #[.int .i64 0] 3)]) (e_call (vs := [.string _, .string _, _]) Tryd.func83 rfl (by kernel_rfl) rfl) (fun w hM => splitSeq_any w s) rfl rfl rfl ?_
  rintro _ _ ⟨b1, b2, b3, rfl, rfl⟩
  refine gop (y_assign (v := .func _ _ _) rfl) rfl rfl rfl ?_
  refine gops_nil ?_
  refine hN2 _ _ ?_
  refine gT [box b2 _, box b1 _, box b3 _] rfl ?_
  refine gfrom [(4, .func _ _ _)] ⟨rfl, trivial⟩ fun σ => ?_
  refine gret fun w1 hM => ?_
  refine ⟨_, res1 rfl (rt (v := .func _ _ _) rfl), ?_⟩
  exact ⟨_, _, rfl, ⟨_, _, _, rfl, rfl⟩, hM⟩
end Go.Proofs.YtijpaljdclhehaaDoor
