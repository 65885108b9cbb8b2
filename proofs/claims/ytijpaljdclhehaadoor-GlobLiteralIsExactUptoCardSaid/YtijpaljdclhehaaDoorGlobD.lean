/- walks, printed by program -/
import Derived.Test.YtijpaljdclhehaaDoorGlobC
namespace Go.Proofs.YtijpaljdclhehaaDoor
open Go.RowKit Go.Cf
set_option maxRecDepth 10000



set_option maxHeartbeats 2000000 in
theorem genSplit_any (w : World) (s : ByteArray) (hs : s.size ≤ 4000000) :
    Calls Tryd.prog 70 #[.string s, .string ⟨#[47]⟩, .int .i64 0, .int .i64 (-1)] w fun e w' => ∃ v T', e = .returned v ∧ T' = [rowl strCells w.heap.size 9 1 v (cutS s)] ∧ Mem w T' w' := by
  have hsl := slashes_le s
  have h47 : (⟨#[47]⟩ : ByteArray).size = 1 := rfl
  refine gcalls Tryd.func70 rfl Tryd.ntmps70 (Nat.le_of_ble_eq_true rfl) ?_
  refine gfrom [(0, .string _), (1, .string _), (2, .int _ _), (3, .int _ _)] ⟨rfl, rfl, rfl, rfl, trivial⟩ fun σ => ?_
  refine gseq fun N1 hN1 => ?_
  refine greg ?_
  refine gop (y_assign (v := .slice _ _ _) rfl) rfl rfl rfl ?_
  refine gops_nil ?_
  refine hN1 _ _ ?_
  refine gfrom [(0, .string _), (1, .string _), (2, .int _ _), (3, .int _ _)] ⟨rfl, rfl, rfl, rfl, trivial⟩ fun σ => ?_
  refine gseq fun N2 hN2 => ?_
  refine gseq fun N3 hN3 => ?_
  refine greg ?_
  refine gop (y_move (v := .int _ _) rfl) rfl rfl rfl ?_
  refine gop (y_eql rfl rfl) rfl rfl rfl ?_
  refine gops_nil ?_
  refine hN3 _ _ ?_
  refine gfrom [(0, .string _), (1, .string _), (2, .int _ _), (3, .int _ _), (13, .bool _)] ⟨rfl, rfl, rfl, rfl, rfl, trivial⟩ fun σ => ?_
  refine gcond (b := _) rfl (fun hc13 => ?_) (fun hc13 => ?_)
  · -- slot 13 t
     exact absurd hc13 (by decide)
  · -- slot 13 f
    replace hc13 := of_decide_eq_false hc13
    refine gskip ?_
    refine hN2 _ _ ?_
    refine gfrom [(0, .string _), (1, .string _), (2, .int _ _), (3, .int _ _)] ⟨rfl, rfl, rfl, rfl, trivial⟩ fun σ => ?_
    refine gseq fun N4 hN4 => ?_
    refine gseq fun N5 hN5 => ?_
    refine greg ?_
    refine gop (y_move (v := .string _) rfl) rfl rfl rfl ?_
    refine gop (y_eqls rfl rfl) rfl rfl rfl ?_
    refine gops_nil ?_
    refine hN5 _ _ ?_
    refine gfrom [(0, .string _), (1, .string _), (2, .int _ _), (3, .int _ _), (15, .bool _)] ⟨rfl, rfl, rfl, rfl, rfl, trivial⟩ fun σ => ?_
    refine gcond (b := _) rfl (fun hc15 => ?_) (fun hc15 => ?_)
    · -- slot 15 t
       simp at hc15
    · -- slot 15 f
      refine gskip ?_
      refine hN4 _ _ ?_
      refine gfrom [(0, .string _), (1, .string _), (2, .int _ _), (3, .int _ _)] ⟨rfl, rfl, rfl, rfl, trivial⟩ fun σ => ?_
      refine gseq fun N6 hN6 => ?_
      refine gseq fun N7 hN7 => ?_
      refine greg ?_
      refine gop (y_move (v := .int _ _) rfl) rfl rfl rfl ?_
      refine gop (y_lss rfl rfl) rfl rfl rfl ?_
      refine gops_nil ?_
      refine hN7 _ _ ?_
      refine gfrom [(0, .string _), (1, .string _), (2, .int _ _), (3, .int _ _), (20, .bool _)] ⟨rfl, rfl, rfl, rfl, rfl, trivial⟩ fun σ => ?_
      refine gcond (b := _) rfl (fun hc20 => ?_) (fun hc20 => ?_)
      · -- slot 20 t
        replace hc20 := of_decide_eq_true hc20
        refine greg ?_
        refine gop (y_move (v := .string _) rfl) rfl rfl rfl ?_
        refine gop (y_move (v := .string _) rfl) rfl rfl rfl ?_
        refine gop_pure (e_call (vs := [.string _, .string _]) Tryd.func89 rfl (by kernel_rfl) rfl) (fun w hM => sCount_any w _) rfl rfl rfl ?_
        refine gop (y_add rfl rfl ⟨by omega, by omega⟩) rfl rfl rfl ?_
        refine gop (y_assign (v := .int _ _) rfl) rfl rfl rfl ?_
        refine gops_nil ?_
        refine hN6 _ _ ?_
        refine gfrom [(0, .string _), (1, .string _), (2, .int _ _), (3, .int _ _)] ⟨rfl, rfl, rfl, rfl, trivial⟩ fun σ => ?_
        refine gseq fun N8 hN8 => ?_
        refine greg ?_
        refine gop (y_move (v := .int _ _) rfl) rfl rfl rfl ?_
        refine gop (y_move (v := .string _) rfl) rfl rfl rfl ?_
        refine gop (y_lens Tryd.underlying9 rfl) rfl rfl rfl ?_
        refine gop (y_add rfl rfl ⟨by omega, by omega⟩) rfl rfl rfl ?_
        refine gop (y_min_l rfl rfl (show ((slashes s : Nat) : Int) + 1 ≤ (s.size : Int) + 1 by omega)) rfl rfl rfl ?_
        refine gop (y_assign (v := .int _ _) rfl) rfl rfl rfl ?_
        refine gops_nil ?_
        refine hN8 _ _ ?_
        refine gfrom [(0, .string _), (1, .string _), (2, .int _ _), (3, .int _ _)] ⟨rfl, rfl, rfl, rfl, trivial⟩ fun σ => ?_
        refine gseq fun N9 hN9 => ?_
        refine greg ?_
        refine gop (y_move (v := .int _ _) rfl) rfl rfl rfl ?_
        refine gop_make (f := strCells) (bytes := 16) (z := .string .empty) (ByteArray.empty) Tryd.underlying37 (by kernel_rfl) rfl rfl rfl (k := slashes s + 1) rfl rfl (by omega) (by simp [maxLen]; omega) rfl (fun b31 hb31 => ?_)
        refine gop (y_assign (v := .slice (some _) _ _) rfl) rfl rfl rfl ?_
        refine gops_nil ?_
        refine hN9 _ _ ?_
        refine gT [rowl _ _ _ _ _ _] rfl ?_
        refine gfrom [(0, .string _), (1, .string _), (2, .int _ _), (3, .int _ _), (9, .slice (some _) _ _)] ⟨rfl, rfl, rfl, rfl, rfl, trivial⟩ fun σ => ?_
        refine gseq fun N10 hN10 => ?_
        refine greg ?_
        refine gop (y_move (v := .int _ _) rfl) rfl rfl rfl ?_
        refine gop (y_sub rfl rfl ⟨by omega, by omega⟩) rfl rfl rfl ?_
        refine gop (y_assign (v := .int _ _) rfl) rfl rfl rfl ?_
        refine gops_nil ?_
        refine hN10 _ _ ?_
        refine gfrom [(0, .string _), (1, .string _), (2, .int _ _), (3, .int _ _), (9, .slice (some _) _ _)] ⟨rfl, rfl, rfl, rfl, rfl, trivial⟩ fun σ => ?_
        refine gseq fun N11 hN11 => ?_
        refine greg ?_
        refine gop (y_assign (v := .int _ _) rfl) rfl rfl rfl ?_
        refine gops_nil ?_
        refine hN11 _ _ ?_
        refine gfrom [(0, .string _), (1, .string _), (2, .int _ _), (3, .int _ _), (9, .slice (some _) _ _), (10, .int _ _)] ⟨rfl, rfl, rfl, rfl, rfl, rfl, trivial⟩ fun σ => ?_
        refine gseq fun N12 hN12 => ?_
        refine gblock ?_
        refine gfrom2 [(0, .string _), (10, .int _ _)] [(1, .string _), (2, .int _ _), (3, .int _ _), (9, .slice (some _) _ _)] ⟨rfl, rfl, trivial⟩ ⟨rfl, rfl, rfl, rfl, trivial⟩ fun σ => ?_
        refine gloop2 (G := Nat × ByteArray × List ByteArray) (fun (i, sc, pre) => i = pre.length ∧ pre ++ cutS sc = cutS s ∧ slashes sc + pre.length = slashes s ∧ sc.size ≤ s.size) (fun (i, sc, pre) => slashes s - pre.length) (fun (i, sc, pre) => [(0, .string sc), (10, .int .i64 (i : Int))]) (fun (i, sc, pre) => [(0, rowl strCells w.heap.size 9 1 (.slice (some ⟨b31, 0, none⟩) (slashes s + 1) (slashes s + 1)) (pre ++ List.replicate (slashes s + 1 - pre.length) ByteArray.empty))]) ((0, s, [])) ?h0 ⟨rfl, rfl, trivial⟩ ⟨rfl, rfl, rfl, rfl, trivial⟩ rfl ?round
        case h0 => exact ⟨rfl, rfl, rfl, Nat.le_refl _⟩
        case round =>
          rintro ⟨i, sc, pre⟩ hφ σ
          obtain ⟨hi, hp1, hp2, hp3⟩ := hφ
          refine gT [rowl _ _ _ _ _ _] rfl ?_
          refine gseq fun N13 hN13 => ?_
          refine gseq fun N14 hN14 => ?_
          refine greg ?_
          refine gop (y_move (v := .int _ _) rfl) rfl rfl rfl ?_
          refine gop (y_move (v := .int _ _) rfl) rfl rfl rfl ?_
          refine gop (y_lss rfl rfl) rfl rfl rfl ?_
          refine gops_nil ?_
          refine hN14 _ _ ?_
          refine gfrom [(0, .string _), (1, .string _), (2, .int _ _), (3, .int _ _), (9, .slice (some _) _ _), (10, .int _ _), (36, .bool _)] ⟨rfl, rfl, rfl, rfl, rfl, rfl, rfl, trivial⟩ fun σ => ?_
          refine gcond (b := _) rfl (fun hc36 => ?_) (fun hc36 => ?_)
          · -- slot 36 t
            replace hc36 := of_decide_eq_true hc36
            obtain ⟨m, hm1, hm2, hm3, hm4⟩ := idx_hit (s := sc) (by have h0 : ((i : Nat) : Int) < ((slashes s : Nat) : Int) + 1 - 1 := hc36; omega)
            refine gskip ?_
            refine hN13 _ _ ?_
            refine gfrom [(0, .string _), (1, .string _), (2, .int _ _), (3, .int _ _), (9, .slice (some _) _ _), (10, .int _ _)] ⟨rfl, rfl, rfl, rfl, rfl, rfl, trivial⟩ fun σ => ?_
            refine gblock ?_
            refine gseq fun N15 hN15 => ?_
            refine greg ?_
            refine gop (y_move (v := .string _) rfl) rfl rfl rfl ?_
            refine gop (y_move (v := .string _) rfl) rfl rfl rfl ?_
            refine gop_pure (e_call (vs := [.string _, .string _]) Tryd.func90 rfl (by kernel_rfl) rfl) (fun w hM => sIndex_any w _) rfl rfl rfl ?_
            refine gop (y_assign (v := .int _ _) rfl) rfl rfl rfl ?_
            refine gops_nil ?_
            refine hN15 _ _ ?_
            refine gfrom [(0, .string _), (1, .string _), (2, .int _ _), (3, .int _ _), (9, .slice (some _) _ _), (10, .int _ _), (11, .int _ _)] ⟨rfl, rfl, rfl, rfl, rfl, rfl, rfl, trivial⟩ fun σ => ?_
            refine gseq fun N16 hN16 => ?_
            refine gseq fun N17 hN17 => ?_
            refine greg ?_
            refine gop (y_move (v := .int _ _) rfl) rfl rfl rfl ?_
            refine gop (y_lss rfl rfl) rfl rfl rfl ?_
            refine gops_nil ?_
            refine hN17 _ _ ?_
            refine gfrom [(0, .string _), (1, .string _), (2, .int _ _), (3, .int _ _), (9, .slice (some _) _ _), (10, .int _ _), (11, .int _ _), (41, .bool _)] ⟨rfl, rfl, rfl, rfl, rfl, rfl, rfl, rfl, trivial⟩ fun σ => ?_
            refine gcond (b := _) rfl (fun hc41 => ?_) (fun hc41 => ?_)
            · -- slot 41 t
               rw [hm1] at hc41; exact absurd hc41 (by simp)
            · -- slot 41 f
              replace hc41 := of_decide_eq_false hc41
              refine gskip ?_
              refine hN16 _ _ ?_
              refine gfrom [(0, .string _), (1, .string _), (2, .int _ _), (3, .int _ _), (9, .slice (some _) _ _), (10, .int _ _), (11, .int _ _)] ⟨rfl, rfl, rfl, rfl, rfl, rfl, rfl, trivial⟩ fun σ => ?_
              refine gseq fun N18 hN18 => ?_
              refine greg ?_
              refine gop (y_move (v := .slice (some _) _ _) rfl) rfl rfl rfl ?_
              refine gop (y_move (v := .int _ _) rfl) rfl rfl rfl ?_
              refine gop (y_move (v := .string _) rfl) rfl rfl rfl ?_
              refine gop (y_move (v := .int _ _) rfl) rfl rfl rfl ?_
              refine gop (y_move (v := .int _ _) rfl) rfl rfl rfl ?_
              refine gop (y_add rfl rfl ⟨by omega, by omega⟩) rfl rfl rfl ?_
              refine gop (y_strslice_hi Tryd.underlying9 rfl rfl (by omega) (by omega)) rfl rfl rfl ?_
              refine gop (y_indexAddr (m := i) Tryd.underlying37 Tryd.sizeOf9 rfl rfl (by omega) (by omega) (by omega)) rfl rfl rfl ?_
              refine gop_store_row 0 (f := strCells) (l := pre ++ List.replicate (slashes s + 1 - pre.length) ByteArray.empty) (k := i) (o := 0) (v := .string _) (a := ByteArray.empty) (a' := sc.extract 0 m) (fun _ => rfl) rfl rfl rfl Tryd.sizeOf9 rfl rfl rfl rfl (by simp; omega) (by rw [hi, List.getElem?_append_right (Nat.le_refl _), Nat.sub_self, List.getElem?_replicate, if_pos (by omega)]) (Nat.le_of_ble_eq_true rfl) (by rw [hm1]; rfl) rfl ?_
              refine gops_nil ?_
              refine hN18 _ _ ?_
              refine gT [rowl _ _ _ _ _ _] rfl ?_
              refine gfrom [(0, .string _), (1, .string _), (2, .int _ _), (3, .int _ _), (9, .slice (some _) _ _), (10, .int _ _), (11, .int _ _)] ⟨rfl, rfl, rfl, rfl, rfl, rfl, rfl, trivial⟩ fun σ => ?_
              refine gseq fun N19 hN19 => ?_
              refine greg ?_
              refine gop (y_move (v := .string _) rfl) rfl rfl rfl ?_
              refine gop (y_move (v := .int _ _) rfl) rfl rfl rfl ?_
              refine gop (y_move (v := .string _) rfl) rfl rfl rfl ?_
              refine gop (y_lens Tryd.underlying9 rfl) rfl rfl rfl ?_
              refine gop (y_add rfl rfl ⟨by omega, by omega⟩) rfl rfl rfl ?_
              refine gop (y_strslice_lo Tryd.underlying9 rfl rfl (by omega) (by omega)) rfl rfl rfl ?_
              refine gop (y_assign (v := .string _) rfl) rfl rfl rfl ?_
              refine gops_nil ?_
              refine hN19 _ _ ?_
              refine gfrom [(0, .string _), (1, .string _), (2, .int _ _), (3, .int _ _), (9, .slice (some _) _ _), (10, .int _ _)] ⟨rfl, rfl, rfl, rfl, rfl, rfl, trivial⟩ fun σ => ?_
              refine greg ?_
              refine gop (y_move (v := .int _ _) rfl) rfl rfl rfl ?_
              refine gop (y_add rfl rfl ⟨by omega, by omega⟩) rfl rfl rfl ?_
              refine gop (y_assign (v := .int _ _) rfl) rfl rfl rfl ?_
              refine gops_nil ?_
              rw [show (pre ++ List.replicate (slashes s + 1 - pre.length) ByteArray.empty).set i (sc.extract 0 m) = (pre ++ [sc.extract 0 m]) ++ List.replicate (slashes s + 1 - (pre ++ [sc.extract 0 m]).length) ByteArray.empty from by rw [hi]; exact set_pre (by omega)]
              refine gnext2 ((i + 1, sc.extract (Lib.indexByte sc.data.toList 47 + ((⟨#[47]⟩ : ByteArray).size : Int)).toNat sc.size, pre ++ [sc.extract 0 m])) (by show slashes s - (pre ++ [sc.extract 0 m]).length < slashes s - pre.length; simp; omega) (by rw [show (Lib.indexByte sc.data.toList 47 + ((⟨#[47]⟩ : ByteArray).size : Int)).toNat = m + 1 by omega]; exact ⟨by simp [hi], by rw [← hp1, hm3]; simp, by simp; omega, by simp; omega⟩) ⟨rfl, rfl, trivial⟩ ⟨rfl, rfl, rfl, rfl, trivial⟩ ⟨_, rfl⟩
          · -- slot 36 f
            replace hc36 := of_decide_eq_false hc36
            have hpl : pre.length = slashes s := by have h0 : ¬ ((i : Nat) : Int) < ((slashes s : Nat) : Int) + 1 - 1 := hc36; omega
            refine gexit ?_
            refine hN12 _ _ ?_
            refine gfrom [(0, .string _), (9, .slice (some _) _ _), (10, .int _ _)] ⟨rfl, rfl, rfl, trivial⟩ fun σ => ?_
            refine gseq fun N20 hN20 => ?_
            refine greg ?_
            refine gop (y_move (v := .slice (some _) _ _) rfl) rfl rfl rfl ?_
            refine gop (y_move (v := .int _ _) rfl) rfl rfl rfl ?_
            refine gop (y_move (v := .string _) rfl) rfl rfl rfl ?_
            refine gop (y_indexAddr (m := i) Tryd.underlying37 Tryd.sizeOf9 rfl rfl (by omega) (by omega) (by omega)) rfl rfl rfl ?_
            refine gop_store_row 0 (f := strCells) (l := pre ++ List.replicate (slashes s + 1 - pre.length) ByteArray.empty) (k := i) (o := 0) (v := .string _) (a := ByteArray.empty) (a' := sc) (fun _ => rfl) rfl rfl rfl Tryd.sizeOf9 rfl rfl rfl rfl (by simp; omega) (by rw [hi, List.getElem?_append_right (Nat.le_refl _), Nat.sub_self, List.getElem?_replicate, if_pos (by omega)]) (Nat.le_of_ble_eq_true rfl) rfl rfl ?_
            refine gops_nil ?_
            refine hN20 _ _ ?_
            refine gT [rowl _ _ _ _ _ _] rfl ?_
            refine gfrom [(9, .slice (some _) _ _), (10, .int _ _)] ⟨rfl, rfl, trivial⟩ fun σ => ?_
            refine gseq fun N21 hN21 => ?_
            refine greg ?_
            refine gop (y_move (v := .slice (some _) _ _) rfl) rfl rfl rfl ?_
            refine gop (y_move (v := .int _ _) rfl) rfl rfl rfl ?_
            refine gop (y_add rfl rfl ⟨by omega, by omega⟩) rfl rfl rfl ?_
            refine gop (y_slice_hi Tryd.underlying37 Tryd.sizeOf9 rfl rfl (by omega) (by omega)) rfl rfl rfl ?_
            refine gop (y_assign (v := .slice _ _ _) rfl) rfl rfl rfl ?_
            refine gops_nil ?_
            refine hN21 _ _ ?_
            refine gfrom [(8, .slice _ _ _)] ⟨rfl, trivial⟩ fun σ => ?_
            refine gret fun w1 hM => ?_
            refine ⟨_, res1 rfl (rt (v := .slice _ _ _) rfl), ?_⟩
            have hl : (pre ++ List.replicate (slashes s + 1 - pre.length) ByteArray.empty).set i sc = cutS s := by rw [hi, set_pre (by omega), ← hp1, (idx_miss (s := sc) (by omega)).2, show slashes s + 1 - (pre ++ [sc]).length = 0 by simp; omega]; simp
            rw [hl] at hM
            have hi1 : i = slashes s := by omega
            subst hi1
            exact ⟨_, _, rfl, rfl, hM⟩
      · -- slot 20 f
         exact absurd hc20 (by decide)

set_option maxHeartbeats 1000000 in
theorem split_any (w : World) (s : ByteArray) (hs : s.size ≤ 4000000) :
    Calls Tryd.prog 44 #[.string s, .string ⟨#[47]⟩] w fun e w' => ∃ v T', e = .returned v ∧ T' = [rowl strCells w.heap.size 9 1 v (cutS s)] ∧ Mem w T' w' := by
  refine gcalls Tryd.func44 rfl Tryd.ntmps44 (Nat.le_of_ble_eq_true rfl) ?_
  refine gfrom [(0, .string _), (1, .string _)] ⟨rfl, rfl, trivial⟩ fun σ => ?_
  refine gseq fun N1 hN1 => ?_
  refine greg ?_
  refine gop (y_assign (v := .slice _ _ _) rfl) rfl rfl rfl ?_
  refine gops_nil ?_
  refine hN1 _ _ ?_
  refine gfrom [(0, .string _), (1, .string _)] ⟨rfl, rfl, trivial⟩ fun σ => ?_
  refine gseq fun N2 hN2 => ?_
  refine greg ?_
  refine gop (y_move (v := .string _) rfl) rfl rfl rfl ?_
  refine gop (y_move (v := .string _) rfl) rfl rfl rfl ?_
  refine gop_got (fun v T' => ∃ lo, w.heap.size ≤ lo ∧ T' = [rowl strCells lo 9 1 v (cutS s)]) (e_call (vs := [.string _, .string _, _, _]) Tryd.func70 rfl (by kernel_rfl) rfl) (fun w hM => (genSplit_any w s hs).mono fun _ _ ⟨v, T1, h1, h2, h3⟩ => ⟨v, T1, h1, ⟨_, hM.low.size, h2⟩, h3⟩) rfl rfl rfl ?_
  rintro v7 _ ⟨lo7, hlo7, rfl⟩
  refine gops_fact (fun w hM => row_form (hM.ok _ (List.mem_of_getElem? (i := 0) rfl))) ?_
  rintro ⟨A7, c7, rfl, hc7, hm7, hn7⟩
  refine gop (y_assign (v := .slice A7 _ c7) rfl) rfl rfl rfl ?_
  refine gops_nil ?_
  refine hN2 _ _ ?_
  refine gT [rowl _ _ _ _ _ _] rfl ?_
  refine gfrom [(4, .slice A7 _ c7)] ⟨rfl, trivial⟩ fun σ => ?_
  refine gret fun w1 hM => ?_
  refine ⟨_, res1 rfl (rt (v := .slice A7 _ c7) rfl), ?_⟩
  exact ⟨_, _, rfl, rfl, weak_lower 0 rfl hlo7 _ hM⟩
end Go.Proofs.YtijpaljdclhehaaDoor
