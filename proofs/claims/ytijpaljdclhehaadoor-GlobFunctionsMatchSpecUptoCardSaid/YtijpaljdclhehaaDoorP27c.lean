/- Own frame, plain models and walks, part 3 (texts of this claim put together). -/
import Derived.Test.YtijpaljdclhehaaDoorP27b
import Derived.ChangeKeysEq
import Derived.Test.YtijpaljdclhehaaDoorProg
namespace Go.Proofs.YtijpaljdclhehaaDoor
open Go.RowKit Go.Cf
set_option maxRecDepth 10000
set_option maxHeartbeats 2000000 in
theorem genSplit_any (w : World) (s : ByteArray) (hs : s.size ≤ 4000000) :
    Calls Tryd.prog 70 #[.string s, .string ⟨#[47]⟩, .int .i64 0, .int .i64 (-1)] w fun e w' => ∃ v T', e = .returned v ∧ T' = [rowl strCells w.heap.size 9 1 v (cutS s)] ∧ Mem w T' w' := by
  have hsl := slashes_le s
  have h47 : (⟨#[47]⟩ : ByteArray).size = 1 := rfl
  refine gcalls Tryd.func70 rfl Tryd.ntmps70 (Nat.le_of_ble_eq_true rfl) ?_
  refine gfrom [(0, .string _), (1, .string _), (2, .int _ _), (3, .int _ _)] ⟨rfl, rfl, rfl, rfl, trivial⟩ fun σ => ?_
  refine gseq fun N1 hN1 => ?_
  refine greg ?_
  refine gop (y_assign (v := .slice _ _ _) rfl) rfl rfl rfl ?_
  refine gops_nil ?_
  refine hN1 _ _ ?_
  refine gfrom [(0, .string _), (1, .string _), (2, .int _ _), (3, .int _ _)] ⟨rfl, rfl, rfl, rfl, trivial⟩ fun σ => ?_
  refine gseq fun N2 hN2 => ?_
  refine gseq fun N3 hN3 => ?_
  refine greg ?_
  refine gop (y_move (v := .int _ _) rfl) rfl rfl rfl ?_
  refine gop (y_eql rfl rfl) rfl rfl rfl ?_
  refine gops_nil ?_
  refine hN3 _ _ ?_
  refine gfrom [(0, .string _), (1, .string _), (2, .int _ _), (3, .int _ _), (13, .bool _)] ⟨rfl, rfl, rfl, rfl, rfl, trivial⟩ fun σ => ?_
  refine gcond (b := _) rfl (fun hc13 => ?_) (fun hc13 => ?_)
  · 
     exact absurd hc13 (by decide)
  · 
    replace hc13 := of_decide_eq_false hc13
    refine gskip ?_
    refine hN2 _ _ ?_
    refine gfrom [(0, .string _), (1, .string _), (2, .int _ _), (3, .int _ _)] ⟨rfl, rfl, rfl, rfl, trivial⟩ fun σ => ?_
    refine gseq fun N4 hN4 => ?_
    refine gseq fun N5 hN5 => ?_
    refine greg ?_
    refine gop (y_move (v := .string _) rfl) rfl rfl rfl ?_
    refine gop (y_eqls rfl rfl) rfl rfl rfl ?_
    refine gops_nil ?_
    refine hN5 _ _ ?_
    refine gfrom [(0, .string _), (1, .string _), (2, .int _ _), (3, .int _ _), (15, .bool _)] ⟨rfl, rfl, rfl, rfl, rfl, trivial⟩ fun σ => ?_
    refine gcond (b := _) rfl (fun hc15 => ?_) (fun hc15 => ?_)
    · 
       simp at hc15
    · 
      refine gskip ?_
      refine hN4 _ _ ?_
      refine gfrom [(0, .string _), (1, .string _), (2, .int _ _), (3, .int _ _)] ⟨rfl, rfl, rfl, rfl, trivial⟩ fun σ => ?_
      refine gseq fun N6 hN6 => ?_
      refine gseq fun N7 hN7 => ?_
      refine greg ?_
      refine gop (y_move (v := .int _ _) rfl) rfl rfl rfl ?_
      refine gop (y_lss rfl rfl) rfl rfl rfl ?_
      refine gops_nil ?_
      refine hN7 _ _ ?_
      refine gfrom [(0, .string _), (1, .string _), (2, .int _ _), (3, .int _ _), (20, .bool _)] ⟨rfl, rfl, rfl, rfl, rfl, trivial⟩ fun σ => ?_
      refine gcond (b := _) rfl (fun hc20 => ?_) (fun hc20 => ?_)
      · 
        replace hc20 := of_decide_eq_true hc20
        refine greg ?_
        refine gop (y_move (v := .string _) rfl) rfl rfl rfl ?_
        refine gop (y_move (v := .string _) rfl) rfl rfl rfl ?_
        refine gop_pure (e_call (vs := [.string _, .string _]) Tryd.func89 rfl (by kernel_rfl) rfl) (fun w hM => sCount_any w _) rfl rfl rfl ?_
        refine gop (y_add rfl rfl ⟨by omega, by omega⟩) rfl rfl rfl ?_
        refine gop (y_assign (v := .int _ _) rfl) rfl rfl rfl ?_
        refine gops_nil ?_
        refine hN6 _ _ ?_
        refine gfrom [(0, .string _), (1, .string _), (2, .int _ _), (3, .int _ _)] ⟨rfl, rfl, rfl, rfl, trivial⟩ fun σ => ?_
        refine gseq fun N8 hN8 => ?_
        refine greg ?_
        refine gop (y_move (v := .int _ _) rfl) rfl rfl rfl ?_
        refine gop (y_move (v := .string _) rfl) rfl rfl rfl ?_
        refine gop (y_lens Tryd.underlying9 rfl) rfl rfl rfl ?_
        refine gop (y_add rfl rfl ⟨by omega, by omega⟩) rfl rfl rfl ?_
        refine gop (y_min_l rfl rfl (show ((slashes s : Nat) : Int) + 1 ≤ (s.size : Int) + 1 by omega)) rfl rfl rfl ?_
        refine gop (y_assign (v := .int _ _) rfl) rfl rfl rfl ?_
        refine gops_nil ?_
        refine hN8 _ _ ?_
        refine gfrom [(0, .string _), (1, .string _), (2, .int _ _), (3, .int _ _)] ⟨rfl, rfl, rfl, rfl, trivial⟩ fun σ => ?_
        refine gseq fun N9 hN9 => ?_
        refine greg ?_
        refine gop (y_move (v := .int _ _) rfl) rfl rfl rfl ?_
        refine gop_make (f := strCells) (bytes := 16) (z := .string .empty) (ByteArray.empty) Tryd.underlying37 (by kernel_rfl) rfl rfl rfl (k := slashes s + 1) rfl rfl (by omega) (by simp [maxLen]; omega) rfl (fun b31 hb31 => ?_)
        refine gop (y_assign (v := .slice (some _) _ _) rfl) rfl rfl rfl ?_
        refine gops_nil ?_
        refine hN9 _ _ ?_
        refine gT [rowl _ _ _ _ _ _] rfl ?_
        refine gfrom [(0, .string _), (1, .string _), (2, .int _ _), (3, .int _ _), (9, .slice (some _) _ _)] ⟨rfl, rfl, rfl, rfl, rfl, trivial⟩ fun σ => ?_
        refine gseq fun N10 hN10 => ?_
        refine greg ?_
        refine gop (y_move (v := .int _ _) rfl) rfl rfl rfl ?_
        refine gop (y_sub rfl rfl ⟨by omega, by omega⟩) rfl rfl rfl ?_
        refine gop (y_assign (v := .int _ _) rfl) rfl rfl rfl ?_
        refine gops_nil ?_
        refine hN10 _ _ ?_
        refine gfrom [(0, .string _), (1, .string _), (2, .int _ _), (3, .int _ _), (9, .slice (some _) _ _)] ⟨rfl, rfl, rfl, rfl, rfl, trivial⟩ fun σ => ?_
        refine gseq fun N11 hN11 => ?_
        refine greg ?_
        refine gop (y_assign (v := .int _ _) rfl) rfl rfl rfl ?_
        refine gops_nil ?_
        refine hN11 _ _ ?_
        refine gfrom [(0, .string _), (1, .string _), (2, .int _ _), (3, .int _ _), (9, .slice (some _) _ _), (10, .int _ _)] ⟨rfl, rfl, rfl, rfl, rfl, rfl, trivial⟩ fun σ => ?_
        refine gseq fun N12 hN12 => ?_
        refine gblock ?_
        refine gfrom2 [(0, .string _), (10, .int _ _)] [(1, .string _), (2, .int _ _), (3, .int _ _), (9, .slice (some _) _ _)] ⟨rfl, rfl, trivial⟩ ⟨rfl, rfl, rfl, rfl, trivial⟩ fun σ => ?_
        refine gloop2 (G := Nat × ByteArray × List ByteArray) (fun (i, sc, pre) => i = pre.length ∧ pre ++ cutS sc = cutS s ∧ slashes sc + pre.length = slashes s ∧ sc.size ≤ s.size) (fun (i, sc, pre) => slashes s - pre.length) (fun (i, sc, pre) => [(0, .string sc), (10, .int .i64 (i : Int))]) (fun (i, sc, pre) => [(0, rowl strCells w.heap.size 9 1 (.slice (some ⟨b31, 0, none⟩) (slashes s + 1) (slashes s + 1)) (pre ++ List.replicate (slashes s + 1 - pre.length) ByteArray.empty))]) ((0, s, [])) ?h0 ⟨rfl, rfl, trivial⟩ ⟨rfl, rfl, rfl, rfl, trivial⟩ rfl ?round
        case h0 => exact ⟨rfl, rfl, rfl, Nat.le_refl _⟩
        case round =>
          rintro ⟨i, sc, pre⟩ hφ σ
          obtain ⟨hi, hp1, hp2, hp3⟩ := hφ
          refine gT [rowl _ _ _ _ _ _] rfl ?_
          refine gseq fun N13 hN13 => ?_
          refine gseq fun N14 hN14 => ?_
          refine greg ?_
          refine gop (y_move (v := .int _ _) rfl) rfl rfl rfl ?_
          refine gop (y_move (v := .int _ _) rfl) rfl rfl rfl ?_
          refine gop (y_lss rfl rfl) rfl rfl rfl ?_
          refine gops_nil ?_
          refine hN14 _ _ ?_
          refine gfrom [(0, .string _), (1, .string _), (2, .int _ _), (3, .int _ _), (9, .slice (some _) _ _), (10, .int _ _), (36, .bool _)] ⟨rfl, rfl, rfl, rfl, rfl, rfl, rfl, trivial⟩ fun σ => ?_
          refine gcond (b := _) rfl (fun hc36 => ?_) (fun hc36 => ?_)
          · 
            replace hc36 := of_decide_eq_true hc36
            obtain ⟨m, hm1, hm2, hm3, hm4⟩ := idx_hit (s := sc) (by have h0 : ((i : Nat) : Int) < ((slashes s : Nat) : Int) + 1 - 1 := hc36; omega)
            refine gskip ?_
            refine hN13 _ _ ?_
            refine gfrom [(0, .string _), (1, .string _), (2, .int _ _), (3, .int _ _), (9, .slice (some _) _ _), (10, .int _ _)] ⟨rfl, rfl, rfl, rfl, rfl, rfl, trivial⟩ fun σ => ?_
            refine gblock ?_
            refine gseq fun N15 hN15 => ?_
            refine greg ?_
            refine gop (y_move (v := .string _) rfl) rfl rfl rfl ?_
            refine gop (y_move (v := .string _) rfl) rfl rfl rfl ?_
            refine gop_pure (e_call (vs := [.string _, .string _]) Tryd.func90 rfl (by kernel_rfl) rfl) (fun w hM => sIndex_any w _) rfl rfl rfl ?_
            refine gop (y_assign (v := .int _ _) rfl) rfl rfl rfl ?_
            refine gops_nil ?_
            refine hN15 _ _ ?_
            refine gfrom [(0, .string _), (1, .string _), (2, .int _ _), (3, .int _ _), (9, .slice (some _) _ _), (10, .int _ _), (11, .int _ _)] ⟨rfl, rfl, rfl, rfl, rfl, rfl, rfl, trivial⟩ fun σ => ?_
            refine gseq fun N16 hN16 => ?_
            refine gseq fun N17 hN17 => ?_
            refine greg ?_
            refine gop (y_move (v := .int _ _) rfl) rfl rfl rfl ?_
            refine gop (y_lss rfl rfl) rfl rfl rfl ?_
            refine gops_nil ?_
            refine hN17 _ _ ?_
            refine gfrom [(0, .string _), (1, .string _), (2, .int _ _), (3, .int _ _), (9, .slice (some _) _ _), (10, .int _ _), (11, .int _ _), (41, .bool _)] ⟨rfl, rfl, rfl, rfl, rfl, rfl, rfl, rfl, trivial⟩ fun σ => ?_
            refine gcond (b := _) rfl (fun hc41 => ?_) (fun hc41 => ?_)
            · 
               rw [hm1] at hc41; exact absurd hc41 (by simp)
            · 
              replace hc41 := of_decide_eq_false hc41
              refine gskip ?_
              refine hN16 _ _ ?_
              refine gfrom [(0, .string _), (1, .string _), (2, .int _ _), (3, .int _ _), (9, .slice (some _) _ _), (10, .int _ _), (11, .int _ _)] ⟨rfl, rfl, rfl, rfl, rfl, rfl, rfl, trivial⟩ fun σ => ?_
              refine gseq fun N18 hN18 => ?_
              refine greg ?_
              refine gop (y_move (v := .slice (some _) _ _) rfl) rfl rfl rfl ?_
              refine gop (y_move (v := .int _ _) rfl) rfl rfl rfl ?_
              refine gop (y_move (v := .string _) rfl) rfl rfl rfl ?_
              refine gop (y_move (v := .int _ _) rfl) rfl rfl rfl ?_
              refine gop (y_move (v := .int _ _) rfl) rfl rfl rfl ?_
              refine gop (y_add rfl rfl ⟨by omega, by omega⟩) rfl rfl rfl ?_
              refine gop (y_strslice_hi Tryd.underlying9 rfl rfl (by omega) (by omega)) rfl rfl rfl ?_
              refine gop (y_indexAddr (m := i) Tryd.underlying37 Tryd.sizeOf9 rfl rfl (by omega) (by omega) (by omega)) rfl rfl rfl ?_
              refine gop_store_row 0 (f := strCells) (l := pre ++ List.replicate (slashes s + 1 - pre.length) ByteArray.empty) (k := i) (o := 0) (v := .string _) (a := ByteArray.empty) (a' := sc.extract 0 m) (fun _ => rfl) rfl rfl rfl Tryd.sizeOf9 rfl rfl rfl rfl (by simp; omega) (by rw [hi, List.getElem?_append_right (Nat.le_refl _), Nat.sub_self, List.getElem?_replicate, if_pos (by omega)]) (Nat.le_of_ble_eq_true rfl) (by rw [hm1]; rfl) rfl ?_
              refine gops_nil ?_
              refine hN18 _ _ ?_
              refine gT [rowl _ _ _ _ _ _] rfl ?_
              refine gfrom [(0, .string _), (1, .string _), (2, .int _ _), (3, .int _ _), (9, .slice (some _) _ _), (10, .int _ _), (11, .int _ _)] ⟨rfl, rfl, rfl, rfl, rfl, rfl, rfl, trivial⟩ fun σ => ?_
              refine gseq fun N19 hN19 => ?_
              refine greg ?_
              refine gop (y_move (v := .string _) rfl) rfl rfl rfl ?_
              refine gop (y_move (v := .int _ _) rfl) rfl rfl rfl ?_
              refine gop (y_move (v := .string _) rfl) rfl rfl rfl ?_
              refine gop (y_lens Tryd.underlying9 rfl) rfl rfl rfl ?_
              refine gop (y_add rfl rfl ⟨by omega, by omega⟩) rfl rfl rfl ?_
              refine gop (y_strslice_lo Tryd.underlying9 rfl rfl (by omega) (by omega)) rfl rfl rfl ?_
              refine gop (y_assign (v := .string _) rfl) rfl rfl rfl ?_
              refine gops_nil ?_
              refine hN19 _ _ ?_
              refine gfrom [(0, .string _), (1, .string _), (2, .int _ _), (3, .int _ _), (9, .slice (some _) _ _), (10, .int _ _)] ⟨rfl, rfl, rfl, rfl, rfl, rfl, trivial⟩ fun σ => ?_
              refine greg ?_
              refine gop (y_move (v := .int _ _) rfl) rfl rfl rfl ?_
              refine gop (y_add rfl rfl ⟨by omega, by omega⟩) rfl rfl rfl ?_
              refine gop (y_assign (v := .int _ _) rfl) rfl rfl rfl ?_
              refine gops_nil ?_
              rw [show (pre ++ List.replicate (slashes s + 1 - pre.length) ByteArray.empty).set i (sc.extract 0 m) = (pre ++ [sc.extract 0 m]) ++ List.replicate (slashes s + 1 - (pre ++ [sc.extract 0 m]).length) ByteArray.empty from by rw [hi]; exact set_pre (by omega)]
              refine gnext2 ((i + 1, sc.extract (Lib.indexByte sc.data.toList 47 + ((⟨#[47]⟩ : ByteArray).size : Int)).toNat sc.size, pre ++ [sc.extract 0 m])) (by show slashes s - (pre ++ [sc.extract 0 m]).length < slashes s - pre.length; simp; omega) (by rw [show (Lib.indexByte sc.data.toList 47 + ((⟨#[47]⟩ : ByteArray).size : Int)).toNat = m + 1 by omega]; exact ⟨by simp [hi], by rw [← hp1, hm3]; simp, by simp; omega, by simp; omega⟩) ⟨rfl, rfl, trivial⟩ ⟨rfl, rfl, rfl, rfl, trivial⟩ ⟨_, rfl⟩
          · 
            replace hc36 := of_decide_eq_false hc36
            have hpl : pre.length = slashes s := by have h0 : ¬ ((i : Nat) : Int) < ((slashes s : Nat) : Int) + 1 - 1 := hc36; omega
            refine gexit ?_
            refine hN12 _ _ ?_
            refine gfrom [(0, .string _), (9, .slice (some _) _ _), (10, .int _ _)] ⟨rfl, rfl, rfl, trivial⟩ fun σ => ?_
            refine gseq fun N20 hN20 => ?_
            refine greg ?_
            refine gop (y_move (v := .slice (some _) _ _) rfl) rfl rfl rfl ?_
            refine gop (y_move (v := .int _ _) rfl) rfl rfl rfl ?_
            refine gop (y_move (v := .string _) rfl) rfl rfl rfl ?_
            refine gop (y_indexAddr (m := i) Tryd.underlying37 Tryd.sizeOf9 rfl rfl (by omega) (by omega) (by omega)) rfl rfl rfl ?_
            refine gop_store_row 0 (f := strCells) (l := pre ++ List.replicate (slashes s + 1 - pre.length) ByteArray.empty) (k := i) (o := 0) (v := .string _) (a := ByteArray.empty) (a' := sc) (fun _ => rfl) rfl rfl rfl Tryd.sizeOf9 rfl rfl rfl rfl (by simp; omega) (by rw [hi, List.getElem?_append_right (Nat.le_refl _), Nat.sub_self, List.getElem?_replicate, if_pos (by omega)]) (Nat.le_of_ble_eq_true rfl) rfl rfl ?_
            refine gops_nil ?_
            refine hN20 _ _ ?_
            refine gT [rowl _ _ _ _ _ _] rfl ?_
            refine gfrom [(9, .slice (some _) _ _), (10, .int _ _)] ⟨rfl, rfl, trivial⟩ fun σ => ?_
            refine gseq fun N21 hN21 => ?_
            refine greg ?_
            refine gop (y_move (v := .slice (some _) _ _) rfl) rfl rfl rfl ?_
            refine gop (y_move (v := .int _ _) rfl) rfl rfl rfl ?_
            refine gop (y_add rfl rfl ⟨by omega, by omega⟩) rfl rfl rfl ?_
            refine gop (y_slice_hi Tryd.underlying37 Tryd.sizeOf9 rfl rfl (by omega) (by omega)) rfl rfl rfl ?_
            refine gop (y_assign (v := .slice _ _ _) rfl) rfl rfl rfl ?_
            refine gops_nil ?_
            refine hN21 _ _ ?_
            refine gfrom [(8, .slice _ _ _)] ⟨rfl, trivial⟩ fun σ => ?_
            refine gret fun w1 hM => ?_
            refine ⟨_, res1 rfl (rt (v := .slice _ _ _) rfl), ?_⟩
            have hl : (pre ++ List.replicate (slashes s + 1 - pre.length) ByteArray.empty).set i sc = cutS s := by rw [hi, set_pre (by omega), ← hp1, (idx_miss (s := sc) (by omega)).2, show slashes s + 1 - (pre ++ [sc]).length = 0 by simp; omega]; simp
            rw [hl] at hM
            have hi1 : i = slashes s := by omega
            subst hi1
            exact ⟨_, _, rfl, rfl, hM⟩
      · 
         exact absurd hc20 (by decide)
set_option maxHeartbeats 1000000 in
theorem split_any (w : World) (s : ByteArray) (hs : s.size ≤ 4000000) :
    Calls Tryd.prog 44 #[.string s, .string ⟨#[47]⟩] w fun e w' => ∃ v T', e = .returned v ∧ T' = [rowl strCells w.heap.size 9 1 v (cutS s)] ∧ Mem w T' w' := by
  refine gcalls Tryd.func44 rfl Tryd.ntmps44 (Nat.le_of_ble_eq_true rfl) ?_
  refine gfrom [(0, .string _), (1, .string _)] ⟨rfl, rfl, trivial⟩ fun σ => ?_
  refine gseq fun N1 hN1 => ?_
  refine greg ?_
  refine gop (y_assign (v := .slice _ _ _) rfl) rfl rfl rfl ?_
  refine gops_nil ?_
  refine hN1 _ _ ?_
  refine gfrom [(0, .string _), (1, .string _)] ⟨rfl, rfl, trivial⟩ fun σ => ?_
  refine gseq fun N2 hN2 => ?_
  refine greg ?_
  refine gop (y_move (v := .string _) rfl) rfl rfl rfl ?_
  refine gop (y_move (v := .string _) rfl) rfl rfl rfl ?_
  refine gop_got (fun v T' => ∃ lo, w.heap.size ≤ lo ∧ T' = [rowl strCells lo 9 1 v (cutS s)]) (e_call (vs := [.string _, .string _, _, _]) Tryd.func70 rfl (by kernel_rfl) rfl) (fun w hM => (genSplit_any w s hs).mono fun _ _ ⟨v, T1, h1, h2, h3⟩ => ⟨v, T1, h1, ⟨_, hM.low.size, h2⟩, h3⟩) rfl rfl rfl ?_
  rintro v7 _ ⟨lo7, hlo7, rfl⟩
  refine gops_fact (fun w hM => row_form (hM.ok _ (List.mem_of_getElem? (i := 0) rfl))) ?_
  rintro ⟨A7, c7, rfl, hc7, hm7, hn7⟩
  refine gop (y_assign (v := .slice A7 _ c7) rfl) rfl rfl rfl ?_
  refine gops_nil ?_
  refine hN2 _ _ ?_
  refine gT [rowl _ _ _ _ _ _] rfl ?_
  refine gfrom [(4, .slice A7 _ c7)] ⟨rfl, trivial⟩ fun σ => ?_
  refine gret fun w1 hM => ?_
  refine ⟨_, res1 rfl (rt (v := .slice A7 _ c7) rfl), ?_⟩
  exact ⟨_, _, rfl, rfl, weak_lower 0 rfl hlo7 _ hM⟩
end Go.Proofs.YtijpaljdclhehaaDoor
namespace Go.Proofs.YtijpaljdclhehaaDoor
open Go.RowKit Go.Cf
set_option maxRecDepth 10000
set_option maxHeartbeats 2000000 in
theorem splitSeq1_iters (s : ByteArray) (hs : s.size ≤ 4000000) (b1 b2 b3 : Nat) :
    Iters Tryd.prog 102 [.pointer (some ⟨b1, 0, none⟩), .pointer (some ⟨b2, 0, none⟩), .pointer (some ⟨b3, 0, none⟩)] (fun x : ByteArray => [.string x]) (cutS s)
      [box b1 (.cells #[.string ⟨#[47]⟩] 9), box b2 (.cells #[.string s] 9), box b3 (.cells #[.int .i64 0] 3)] := by
  intro w ι W l J Jx hM0 hY
  have h47 : (⟨#[47]⟩ : ByteArray).size = 1 := rfl
  refine gcallsI Tryd.func102 rfl Tryd.ntmps102 (Nat.le_of_ble_eq_true rfl) hM0 ?_
  refine gfrom [(0, .func _ _ _), (1, _), (2, _), (3, _)] ⟨rfl, rfl, rfl, rfl, trivial⟩ fun σ => ?_
  refine gseq fun N1 hN1 => ?_
  refine gseq fun N2 hN2 => ?_
  refine greg ?_
  refine gop (y_load Tryd.isAgg9 rfl (cell_box 1 rfl rfl)) rfl rfl rfl ?_
  refine gop (y_lens Tryd.underlying9 rfl) rfl rfl rfl ?_
  refine gop (y_eql rfl rfl) rfl rfl rfl ?_
  refine gops_nil ?_
  refine hN2 _ _ ?_
  refine gfrom [(0, .func _ _ _), (1, _), (2, _), (3, _), (11, .bool _)] ⟨rfl, rfl, rfl, rfl, rfl, trivial⟩ fun σ => ?_
  refine gcond (b := _) rfl (fun hc11 => ?_) (fun hc11 => ?_)
  · 
     exact absurd hc11 (by decide)
  · 
    replace hc11 := of_decide_eq_false hc11
    refine gskip ?_
    refine hN1 _ _ ?_
    refine gfrom [(0, .func _ _ _), (1, _), (2, _), (3, _)] ⟨rfl, rfl, rfl, rfl, trivial⟩ fun σ => ?_
    refine gseq fun N3 hN3 => ?_
    refine gblock ?_
    refine gfrom2 [] [(0, .func _ _ _), (1, _), (2, _), (3, _)] trivial ⟨rfl, rfl, rfl, rfl, trivial⟩ fun σ => ?_
    refine gloop2 (G := Nat × ByteArray) (fun (k, sc) => (cutS s).drop k = cutS sc ∧ k + slashes sc = slashes s ∧ sc.size ≤ s.size) (fun (k, sc) => slashes sc) (fun (k, sc) => []) (fun (k, sc) => [(0, J k), (2, box b2 (.cells #[.string sc] 9))]) ((0, s)) ?h0 trivial ⟨rfl, rfl, rfl, rfl, trivial⟩ rfl ?round
    case h0 => exact ⟨rfl, by simp, Nat.le_refl _⟩
    case round =>
      rintro ⟨k, sc⟩ hφ σ
      obtain ⟨hk1, hk2, hk3⟩ := hφ
      refine gT [_, box b1 _, box _ _, box b3 _] rfl ?_
      refine gblock ?_
      refine gseq fun N4 hN4 => ?_
      refine greg ?_
      refine gop (y_load Tryd.isAgg9 rfl (cell_box 2 rfl rfl)) rfl rfl rfl ?_
      refine gop (y_load Tryd.isAgg9 rfl (cell_box 1 rfl rfl)) rfl rfl rfl ?_
      refine gop_pure (e_call (vs := [.string _, .string _]) Tryd.func90 rfl (by kernel_rfl) rfl) (fun w hM => sIndex_any w _) rfl rfl rfl ?_
      refine gop (y_assign (v := .int _ _) rfl) rfl rfl rfl ?_
      refine gops_nil ?_
      refine hN4 _ _ ?_
      refine gfrom [(0, .func _ _ _), (1, _), (2, _), (3, _), (7, .int _ _)] ⟨rfl, rfl, rfl, rfl, rfl, trivial⟩ fun σ => ?_
      refine gseq fun N5 hN5 => ?_
      refine gseq fun N6 hN6 => ?_
      refine greg ?_
      refine gop (y_move (v := .int _ _) rfl) rfl rfl rfl ?_
      refine gop (y_lss rfl rfl) rfl rfl rfl ?_
      refine gops_nil ?_
      refine hN6 _ _ ?_
      refine gfrom [(0, .func _ _ _), (1, _), (2, _), (3, _), (7, .int _ _), (33, .bool _)] ⟨rfl, rfl, rfl, rfl, rfl, rfl, trivial⟩ fun σ => ?_
      refine gcond (b := _) rfl (fun hc33 => ?_) (fun hc33 => ?_)
      · 
        replace hc33 := of_decide_eq_true hc33
        have hs0 : slashes sc = 0 := by
          rcases Nat.eq_zero_or_pos (slashes sc) with h0 | h0
          · exact h0
          · obtain ⟨m, hm1, _⟩ := idx_hit h0; omega
        refine gexit ?_
        refine hN3 _ _ ?_
        refine gfrom [(0, .func _ _ _), (2, _)] ⟨rfl, rfl, trivial⟩ fun σ => ?_
        refine greg ?_
        refine gop (y_move (v := .func _ _ _) rfl) rfl rfl rfl ?_
        refine gop (y_load Tryd.isAgg9 rfl (cell_box 2 rfl rfl)) rfl rfl rfl ?_
        refine gop_yield (l := l) (k := k) (J := J) (Jx := Jx) (vs := [.string _]) rfl rfl rfl (fun r W1 hM1 => hY k sc r W1 (drop_head (hk1.trans (idx_miss hs0).2)).1 hM1) rfl (fun bY51 gY51 hY51 => ?_)
        refine gops_nil ?_
        intro w1 hM
        refine ⟨_, res0 rfl, ?_⟩
        cases bY51 with
        | false =>
          obtain ⟨iY, rfl⟩ : ∃ i, gY51 = Jx k i := hY51
          exact ⟨⟨_, rfl⟩, .inr ⟨k, iY, (List.getElem?_eq_some_iff.1 (drop_head (hk1.trans (idx_miss hs0).2)).1).1, hM.sub (List.singleton_sublist.2 (by simp))⟩⟩
        | true =>
          obtain rfl : gY51 = J (k + 1) := hY51
          exact ⟨⟨_, rfl⟩, .inl (by have h1 := drop_head (hk1.trans (idx_miss hs0).2); have h2 := (List.getElem?_eq_some_iff.1 h1.1).1; have h3 := List.drop_eq_nil_iff.1 h1.2; rw [show (cutS s).length = k + 1 by omega]; exact hM.sub (List.singleton_sublist.2 (by simp)))⟩
      · 
        replace hc33 := of_decide_eq_false hc33
        have hs0 : 0 < slashes sc := by
          rcases Nat.eq_zero_or_pos (slashes sc) with h0 | h0
          · have := (idx_miss h0).1; omega
          · exact h0
        obtain ⟨m, hm1, hm2, hm3, hm4⟩ := idx_hit hs0
        refine gskip ?_
        refine hN5 _ _ ?_
        refine gfrom [(0, .func _ _ _), (1, _), (2, _), (3, _), (7, .int _ _)] ⟨rfl, rfl, rfl, rfl, rfl, trivial⟩ fun σ => ?_
        refine gseq fun N7 hN7 => ?_
        refine greg ?_
        refine gop (y_load Tryd.isAgg9 rfl (cell_box 2 rfl rfl)) rfl rfl rfl ?_
        refine gop (y_move (v := .int _ _) rfl) rfl rfl rfl ?_
        refine gop (y_load Tryd.isAgg3 rfl (cell_box 3 rfl rfl)) rfl rfl rfl ?_
        refine gop (y_add rfl rfl ⟨by omega, by omega⟩) rfl rfl rfl ?_
        refine gop (y_strslice_hi Tryd.underlying9 rfl rfl (by omega) (by omega)) rfl rfl rfl ?_
        refine gop (y_assign (v := .string _) rfl) rfl rfl rfl ?_
        refine gops_nil ?_
        refine hN7 _ _ ?_
        refine gfrom [(0, .func _ _ _), (1, _), (2, _), (3, _), (7, .int _ _), (8, .string _)] ⟨rfl, rfl, rfl, rfl, rfl, rfl, trivial⟩ fun σ => ?_
        refine gseq fun N8 hN8 => ?_
        refine gseq fun N9 hN9 => ?_
        refine greg ?_
        refine gop (y_move (v := .func _ _ _) rfl) rfl rfl rfl ?_
        refine gop (y_move (v := .string _) rfl) rfl rfl rfl ?_
        refine gop_yield (l := l) (k := k) (J := J) (Jx := Jx) (vs := [.string _]) rfl rfl rfl (fun r W1 hM1 => hY k (sc.extract 0 (Lib.indexByte sc.data.toList 47 + 0).toNat) r W1 (by rw [show (Lib.indexByte sc.data.toList 47 + 0).toNat = m by omega]; exact (drop_head (hk1.trans hm3)).1) hM1) rfl (fun bY41 gY41 hY41 => ?_)
        refine gop (y_not rfl) rfl rfl rfl ?_
        refine gops_nil ?_
        refine hN9 _ _ ?_
        refine gT [_, box b1 _, box _ _, box b3 _] rfl ?_
        refine gfrom [(0, .func _ _ _), (1, _), (2, _), (3, _), (7, .int _ _), (42, .bool _)] ⟨rfl, rfl, rfl, rfl, rfl, rfl, trivial⟩ fun σ => ?_
        refine gcond (b := _) rfl (fun hc42 => ?_) (fun hc42 => ?_)
        · 
          obtain rfl : bY41 = false := by simpa using hc42
          obtain ⟨iY, rfl⟩ : ∃ i, gY41 = Jx k i := hY41
          refine gret fun w1 hM => ?_
          refine ⟨_, res0 rfl, ?_⟩
          exact ⟨⟨_, rfl⟩, .inr ⟨k, iY, (List.getElem?_eq_some_iff.1 (drop_head (hk1.trans hm3)).1).1, hM.sub (List.singleton_sublist.2 (by simp))⟩⟩
        · 
          obtain rfl : bY41 = true := by simpa using hc42
          obtain rfl : gY41 = J (k + 1) := hY41
          refine gskip ?_
          refine hN8 _ _ ?_
          refine gfrom [(0, .func _ _ _), (1, _), (2, _), (3, _), (7, .int _ _)] ⟨rfl, rfl, rfl, rfl, rfl, trivial⟩ fun σ => ?_
          refine greg ?_
          refine gop (y_load Tryd.isAgg9 rfl (cell_box 2 rfl rfl)) rfl rfl rfl ?_
          refine gop (y_move (v := .int _ _) rfl) rfl rfl rfl ?_
          refine gop (y_load Tryd.isAgg9 rfl (cell_box 1 rfl rfl)) rfl rfl rfl ?_
          refine gop (y_lens Tryd.underlying9 rfl) rfl rfl rfl ?_
          refine gop (y_add rfl rfl ⟨by omega, by omega⟩) rfl rfl rfl ?_
          refine gop (y_strslice_lo Tryd.underlying9 rfl rfl (by omega) (by omega)) rfl rfl rfl ?_
          refine gop_store 2 (v := .string _) (cs' := #[_]) rfl rfl Tryd.sizeOf9 rfl rfl rfl rfl (Nat.le_of_ble_eq_true rfl) rfl rfl ?_
          refine gops_nil ?_
          refine gnext2 ((k + 1, sc.extract (Lib.indexByte sc.data.toList 47 + ((⟨#[47]⟩ : ByteArray).size : Int)).toNat sc.size)) (by show slashes (sc.extract (Lib.indexByte sc.data.toList 47 + ((⟨#[47]⟩ : ByteArray).size : Int)).toNat sc.size) < slashes sc; rw [show (Lib.indexByte sc.data.toList 47 + ((⟨#[47]⟩ : ByteArray).size : Int)).toNat = m + 1 by omega]; omega) (by rw [show (Lib.indexByte sc.data.toList 47 + ((⟨#[47]⟩ : ByteArray).size : Int)).toNat = m + 1 by omega]; exact ⟨(drop_head (hk1.trans hm3)).2, by omega, by simp; omega⟩) trivial ⟨rfl, rfl, rfl, rfl, trivial⟩ ⟨_, rfl⟩
set_option maxHeartbeats 1000000 in
theorem splitSeq_any (w : World) (s : ByteArray) :
    Calls Tryd.prog 83 #[.string s, .string ⟨#[47]⟩, .int .i64 0] w fun e w' => ∃ v T', e = .returned v ∧ (∃ b1 b2 b3, v = .func (.func 102) #[] #[.pointer (some ⟨b1, 0, none⟩), .pointer (some ⟨b2, 0, none⟩), .pointer (some ⟨b3, 0, none⟩)] ∧ T' = [box b2 (.cells #[.string s] 9), box b1 (.cells #[.string ⟨#[47]⟩] 9), box b3 (.cells #[.int .i64 0] 3)]) ∧ Mem w T' w' := by
  refine gcalls Tryd.func83 rfl Tryd.ntmps83 (Nat.le_of_ble_eq_true rfl) ?_
  refine gfrom [(0, .string _), (1, .string _), (2, .int _ _)] ⟨rfl, rfl, rfl, trivial⟩ fun σ => ?_
  refine gseq fun N1 hN1 => ?_
  refine greg ?_
  refine gop_box (v := .string _) (cs := #[_]) rfl rfl rfl (fun b3 hb3 => ?_)
  refine gop_box (v := .string _) (cs := #[_]) rfl rfl rfl (fun b4 hb4 => ?_)
  refine gop_box (v := .int _ _) (cs := #[_]) rfl rfl rfl (fun b5 hb5 => ?_)
  refine gop (y_assign (v := .nilFunc) rfl) rfl rfl rfl ?_
  refine gops_nil ?_
  refine hN1 _ _ ?_
  refine gT [box b3 _, box b4 _, box b5 _] rfl ?_
  refine gfrom [(3, .pointer _), (4, .pointer _), (5, .pointer _)] ⟨rfl, rfl, rfl, trivial⟩ fun σ => ?_
  refine gseq fun N2 hN2 => ?_
  refine greg ?_
  refine gop (y_makeFunc (vs := [.pointer (some ⟨b4, 0, none⟩), .pointer (some ⟨b3, 0, none⟩), .pointer (some ⟨b5, 0, none⟩)]) rfl) rfl rfl rfl ?_
  refine gop (y_assign (v := .func (.func 102) #[] #[.pointer (some ⟨b4, 0, none⟩), .pointer (some ⟨b3, 0, none⟩), .pointer (some ⟨b5, 0, none⟩)]) rfl) rfl rfl rfl ?_
  refine gops_nil ?_
  refine hN2 _ _ ?_
  refine gfrom [(6, .func (.func 102) #[] #[.pointer (some ⟨b4, 0, none⟩), .pointer (some ⟨b3, 0, none⟩), .pointer (some ⟨b5, 0, none⟩)])] ⟨rfl, trivial⟩ fun σ => ?_
  refine gret fun w1 hM => ?_
  refine ⟨_, res1 rfl (rt (v := .func (.func 102) #[] #[.pointer (some ⟨b4, 0, none⟩), .pointer (some ⟨b3, 0, none⟩), .pointer (some ⟨b5, 0, none⟩)]) rfl), ?_⟩
  exact ⟨_, _, rfl, ⟨_, _, _, rfl, rfl⟩, hM⟩
set_option maxHeartbeats 1000000 in
theorem splitSeqX_any (w : World) (s : ByteArray) :
    Calls Tryd.prog 64 #[.string s, .string ⟨#[47]⟩] w fun e w' => ∃ v T', e = .returned v ∧ (∃ b1 b2 b3, v = .func (.func 102) #[] #[.pointer (some ⟨b1, 0, none⟩), .pointer (some ⟨b2, 0, none⟩), .pointer (some ⟨b3, 0, none⟩)] ∧ T' = [box b2 (.cells #[.string s] 9), box b1 (.cells #[.string ⟨#[47]⟩] 9), box b3 (.cells #[.int .i64 0] 3)]) ∧ Mem w T' w' := by
  refine gcalls Tryd.func64 rfl Tryd.ntmps64 (Nat.le_of_ble_eq_true rfl) ?_
  refine gfrom [(0, .string _), (1, .string _)] ⟨rfl, rfl, trivial⟩ fun σ => ?_
  refine gseq fun N1 hN1 => ?_
  refine greg ?_
  refine gop (y_assign (v := .nilFunc) rfl) rfl rfl rfl ?_
  refine gops_nil ?_
  refine hN1 _ _ ?_
  refine gfrom [(0, .string _), (1, .string _)] ⟨rfl, rfl, trivial⟩ fun σ => ?_
  refine gseq fun N2 hN2 => ?_
  refine greg ?_
  refine gop (y_move (v := .string _) rfl) rfl rfl rfl ?_
  refine gop (y_move (v := .string _) rfl) rfl rfl rfl ?_
  refine gop_got (fun v T' => ∃ b1 b2 b3, v = .func (.func 102) #[] #[.pointer (some ⟨b1, 0, none⟩), .pointer (some ⟨b2, 0, none⟩), .pointer (some ⟨b3, 0, none⟩)] ∧ T' = [box b2 (.cells #[.string s] 9), box b1 (.cells #[.string ⟨#[47]⟩] 9), box b3 (.cells #[.int .i64 0] 3)]) (e_call (vs := [.string _, .string _, _]) Tryd.func83 rfl (by kernel_rfl) rfl) (fun w hM => splitSeq_any w s) rfl rfl rfl ?_
  rintro _ _ ⟨b1, b2, b3, rfl, rfl⟩
  refine gop (y_assign (v := .func _ _ _) rfl) rfl rfl rfl ?_
  refine gops_nil ?_
  refine hN2 _ _ ?_
  refine gT [box b2 _, box b1 _, box b3 _] rfl ?_
  refine gfrom [(4, .func _ _ _)] ⟨rfl, trivial⟩ fun σ => ?_
  refine gret fun w1 hM => ?_
  refine ⟨_, res1 rfl (rt (v := .func _ _ _) rfl), ?_⟩
  exact ⟨_, _, rfl, ⟨_, _, _, rfl, rfl⟩, hM⟩
end Go.Proofs.YtijpaljdclhehaaDoor
namespace Go.Proofs.YtijpaljdclhehaaDoor
open Go.RowKit Go.Cf
set_option maxRecDepth 10000
theorem bd23_0_1 (x1 : Int) (x2 : Int) : Tryd.prog.built 23 [(0, .int .i64 x1), (1, .int .i64 x2)] = some #[.int .i64 x1, .int .i64 x2] := by kernel_rfl
theorem bd23_  : Tryd.prog.built 23 [] = some #[.int .i64 0, .int .i64 0] := by kernel_rfl
set_option maxHeartbeats 1000000 in
theorem validate_any (w : World) (s : ByteArray) : Calls Tryd.prog 38 #[.string s] w fun e w' => e = .returned (fv (patFault s)) ∧ Below w.heap.size w w' := by
  refine gcalls Tryd.func38 rfl Tryd.ntmps38 (Nat.le_of_ble_eq_true rfl) ?_
  refine gfrom [(0, .string _)] ⟨rfl, trivial⟩ fun σ => ?_
  refine gseq fun N1 hN1 => ?_
  refine greg ?_
  refine gop_alloc (cs := #[.int .i64 0, .int .i64 0]) Tryd.zeroValue23 rfl rfl (fun b2 hb2 => ?_)
  refine gops_nil ?_
  refine hN1 _ _ ?_
  refine gT [box b2 _] rfl ?_
  refine gfrom [(0, .string _), (2, .pointer _)] ⟨rfl, rfl, trivial⟩ fun σ => ?_
  refine gseq fun N2 hN2 => ?_
  refine gseq fun N3 hN3 => ?_
  refine greg ?_
  refine gop (y_move (v := .string _) rfl) rfl rfl rfl ?_
  refine gop (y_lens Tryd.underlying9 rfl) rfl rfl rfl ?_
  refine gop (y_gtr rfl rfl) rfl rfl rfl ?_
  refine gops_nil ?_
  refine hN3 _ _ ?_
  refine gfrom [(0, .string _), (2, .pointer _), (7, .bool _)] ⟨rfl, rfl, rfl, trivial⟩ fun σ => ?_
  refine gcond (b := _) rfl (fun hc7 => ?_) (fun hc7 => ?_)
  · 
    replace hc7 := of_decide_eq_true hc7
    refine gseq fun N4 hN4 => ?_
    refine greg ?_
    refine gop (y_build (vs := [(0, _), (1, _)]) (cells := #[_, _]) rfl (bd23_0_1 _ _)) rfl rfl rfl ?_
    refine gop_store 0 (v := .agg #[_, _]) (cs' := #[_, _]) rfl rfl Tryd.sizeOf23 rfl rfl rfl rfl (Nat.le_of_ble_eq_true rfl) rfl rfl ?_
    refine gops_nil ?_
    refine hN4 _ _ ?_
    refine gT [box b2 _] rfl ?_
    refine gfrom [(2, .pointer _)] ⟨rfl, trivial⟩ fun σ => ?_
    refine gret fun w1 hM => ?_
    refine ⟨_, res1 rfl (rc 0 (cs := [_, _]) hM rfl rfl Tryd.isAgg23 Tryd.sizeOf23 rfl), ?_⟩
    exact ⟨by unfold patFault patCode; rw [if_pos (show 60 < s.size by omega)]; rfl, hM.low⟩
  · 
    replace hc7 := of_decide_eq_false hc7
    refine gskip ?_
    refine hN2 _ _ ?_
    refine gfrom [(0, .string _), (2, .pointer _)] ⟨rfl, rfl, trivial⟩ fun σ => ?_
    refine gseqAB fun N5 hN5 => ?_
    refine greg ?_
    refine gop (y_move (v := .string _) rfl) rfl rfl rfl ?_
    refine gop_got (fun v T' => ∃ c1 c2 c3, v = .func (.func 102) #[] #[.pointer (some ⟨c1, 0, none⟩), .pointer (some ⟨c2, 0, none⟩), .pointer (some ⟨c3, 0, none⟩)] ∧ T' = [box c2 (.cells #[.string s] 9), box c1 (.cells #[.string ⟨#[47]⟩] 9), box c3 (.cells #[.int .i64 0] 3)]) (e_call (vs := [.string _, _]) Tryd.func64 rfl (by kernel_rfl) rfl) (fun w hM => splitSeqX_any w s) rfl rfl rfl ?_
    rintro _ _ ⟨c1, c2, c3, rfl, rfl⟩
    refine gops_nil ?_
    refine hN5 _ _ ?_
    refine gthen_T [box b2 _, box c2 _, box c1 _, box c3 _] rfl ?_
    refine gthen_from [(2, .pointer _), (10, .func _ _ _)] ⟨rfl, rfl, trivial⟩ fun σ => ?_
    refine grange (lb := [.pointer (some ⟨c1, 0, none⟩), .pointer (some ⟨c2, 0, none⟩), .pointer (some ⟨c3, 0, none⟩)]) (ps := [11]) (xs := cutS s) (fun k => [sure (∀ j (h : j < (cutS s).length), j < k → partCode (cutS s)[j] = 0), box b2 (.cells #[.int .i64 0, .int .i64 0] 23)]) (fun _ (_ : Unit) => [sure (partsCode (cutS s) ≠ 0), box b2 (.cells #[.int .i64 (partsCode (cutS s) : Nat), .int .i64 (-1)] 23)]) rfl (e_enter Tryd.func102 rfl (by kernel_rfl)) (splitSeq1_iters s (by omega) c1 c2 c3 _) (fun w hM => (hM.perm (List.Perm.cons _ (List.Perm.swap _ _ _))).sure (fun _ _ h => absurd h (by omega))) (by decide) (fun _ => rfl) ?round ?done ?stop
    case round =>
      intro lR k x q hx NR hNR
      have hxs : x.size ≤ 60 := cutS_size (List.mem_of_getElem? hx) (by omega)
      refine g_fact (fun w hM => hM.known 1 rfl) ?_
      intro hJ
      refine gfrom [(2, .pointer _), (10, .func _ _ _), (11, .string x)] ⟨rfl, rfl, rfl, trivial⟩ fun σ => ?_
      refine greg ?_
      refine gop (y_assign (v := .string x) rfl) rfl rfl rfl ?_
      refine gops_nil ?_
      refine hNR _ _ fun q2 => ?_
      refine gfrom [(2, .pointer _), (3, .string x), (10, .func _ _ _)] ⟨rfl, rfl, rfl, trivial⟩ fun σ => ?_
      refine gblock ?_
      refine gseq fun N6 hN6 => ?_
      refine greg ?_
      refine gop (y_move (v := .string x) rfl) rfl rfl rfl ?_
      refine gop_pure (e_call (vs := [.string x]) Tryd.func65 rfl (by kernel_rfl) rfl) (fun w hM => part_any w _ (by omega)) rfl rfl rfl ?_
      refine gop (y_assign (v := .int _ _) rfl) rfl rfl rfl ?_
      refine gops_nil ?_
      refine hN6 _ _ ?_
      refine gfrom [(2, .pointer _), (3, .string x), (4, .int _ _), (10, .func _ _ _)] ⟨rfl, rfl, rfl, rfl, trivial⟩ fun σ => ?_
      refine gseq fun N7 hN7 => ?_
      refine greg ?_
      refine gop (y_move (v := .int _ _) rfl) rfl rfl rfl ?_
      refine gop (y_neq rfl rfl) rfl rfl rfl ?_
      refine gops_nil ?_
      refine hN7 _ _ ?_
      refine gfrom [(2, .pointer _), (3, .string x), (4, .int _ _), (10, .func _ _ _), (15, .bool _)] ⟨rfl, rfl, rfl, rfl, rfl, trivial⟩ fun σ => ?_
      refine gcond (b := _) rfl (fun hc15 => ?_) (fun hc15 => ?_)
      · 
        replace hc15 := of_decide_eq_true hc15
        refine gseq fun N8 hN8 => ?_
        refine greg ?_
        refine gop (y_move (v := .int _ _) rfl) rfl rfl rfl ?_
        refine gop (y_build (vs := [(0, .int _ _), (1, _)]) (cells := #[_, _]) rfl (bd23_0_1 _ _)) rfl rfl rfl ?_
        refine gop_store 2 (v := .agg #[_, _]) (cs' := #[_, _]) rfl rfl Tryd.sizeOf23 rfl rfl rfl rfl (Nat.le_of_ble_eq_true rfl) rfl rfl ?_
        refine gops_nil ?_
        refine hN8 _ _ ?_
        refine gT [_, sure _, box b2 _] rfl ?_
        refine gfrom [(2, .pointer _)] ⟨rfl, trivial⟩ fun σ => ?_
        refine gret fun w1 hM => ?_
        refine ⟨(), ?_⟩
        have hpc := partsCode_hit hx hJ (by omega)
        rw [← hpc] at hM
        exact hM.resure 1 rfl (by rw [hpc]; omega)
      · 
        replace hc15 := Decidable.not_not.1 (of_decide_eq_false hc15)
        refine gskip ?_
        intro w1 hM
        exact hM.resure 1 rfl (fun j h hj => by rcases Nat.lt_succ_iff_lt_or_eq.1 hj with h1 | rfl; exact hJ j h h1; have h2 := List.getElem?_eq_some_iff.1 hx; rw [h2.2]; omega)
    case done =>
      intro D qD
      refine gfrom [(2, .pointer _)] ⟨rfl, trivial⟩ fun σ => ?_
      refine g_fact (fun w hM => hM.known 2 rfl) ?_
      intro hJ
      have hz : partsCode (cutS s) = 0 := partsCode_zero (fun j h => hJ j h h)
      refine gseq fun N9 hN9 => ?_
      refine greg ?_
      refine gop (y_build (vs := []) (cells := #[.int .i64 0, .int .i64 0]) rfl bd23_) rfl rfl rfl ?_
      refine gop_store 3 (v := .agg #[_, _]) (cs' := #[_, _]) rfl rfl Tryd.sizeOf23 rfl rfl rfl rfl (Nat.le_of_ble_eq_true rfl) rfl rfl ?_
      refine gops_nil ?_
      refine hN9 _ _ ?_
      refine gT [_, _, sure _, box b2 _] rfl ?_
      refine gfrom [(2, .pointer _)] ⟨rfl, trivial⟩ fun σ => ?_
      refine gret (fin_marked 0 rfl rfl fun w1 hM => ?_)
      refine ⟨_, res1 rfl (rc 3 (cs := [_, _]) hM rfl rfl Tryd.isAgg23 Tryd.sizeOf23 rfl), ?_⟩
      exact ⟨by unfold patFault patCode; rw [if_neg (show ¬ 60 < s.size by omega), hz]; rfl, hM.low⟩
    case stop =>
      rintro D qD k - hk w1 hM
      refine ⟨_, res1 rfl (rc 3 (cs := [_, _]) hM rfl rfl Tryd.isAgg23 Tryd.sizeOf23 rfl), ?_⟩
      have hne := hM.known 2 rfl
      have hpc : patCode s = partsCode (cutS s) := by unfold patCode; rw [if_neg (by omega)]
      exact ⟨by unfold patFault; rw [hpc, if_neg hne], hM.low⟩
set_option maxHeartbeats 2000000 in
theorem validPath_any (w : World) (s : ByteArray) : Calls Tryd.prog 42 #[.string s] w fun e w' => e = .returned (.bool (pathOk s)) ∧ Below w.heap.size w w' := by
  refine gcalls Tryd.func42 rfl Tryd.ntmps42 (Nat.le_of_ble_eq_true rfl) ?_
  refine gfrom [(0, .string _)] ⟨rfl, trivial⟩ fun σ => ?_
  refine gseq fun N1 hN1 => ?_
  refine greg ?_
  refine gop_alloc (cs := #[.bool false]) Tryd.zeroValue4 rfl rfl (fun b2 hb2 => ?_)
  refine gops_nil ?_
  refine hN1 _ _ ?_
  refine gT [box b2 _] rfl ?_
  refine gfrom [(0, .string _), (2, .pointer _)] ⟨rfl, rfl, trivial⟩ fun σ => ?_
  refine gseq fun N2 hN2 => ?_
  refine gseq fun N3 hN3 => ?_
  refine greg ?_
  refine gop (y_move (v := .string _) rfl) rfl rfl rfl ?_
  refine gop (y_lens Tryd.underlying9 rfl) rfl rfl rfl ?_
  refine gop (y_gtr rfl rfl) rfl rfl rfl ?_
  refine gops_nil ?_
  refine hN3 _ _ ?_
  refine gfrom [(0, .string _), (2, .pointer _), (7, .bool _)] ⟨rfl, rfl, rfl, trivial⟩ fun σ => ?_
  refine gcond (b := _) rfl (fun hc7 => ?_) (fun hc7 => ?_)
  · 
    replace hc7 := of_decide_eq_true hc7
    refine gseq fun N4 hN4 => ?_
    refine greg ?_
    refine gop_store 0 (v := .bool _) (cs' := #[_]) rfl rfl Tryd.sizeOf4 rfl rfl rfl rfl (Nat.le_of_ble_eq_true rfl) rfl rfl ?_
    refine gops_nil ?_
    refine hN4 _ _ ?_
    refine gT [box b2 _] rfl ?_
    refine gfrom [(2, .pointer _)] ⟨rfl, trivial⟩ fun σ => ?_
    refine gret fun w1 hM => ?_
    refine ⟨_, res1 rfl (rc1 0 hM rfl rfl Tryd.isAgg4), ?_⟩
    exact ⟨by rw [show pathOk s = false by unfold pathOk; rw [decide_eq_false (by omega), Bool.and_false]], hM.low⟩
  · 
    replace hc7 := of_decide_eq_false hc7
    refine gskip ?_
    refine hN2 _ _ ?_
    refine gfrom [(0, .string _), (2, .pointer _)] ⟨rfl, rfl, trivial⟩ fun σ => ?_
    refine gseqAB fun N5 hN5 => ?_
    refine greg ?_
    refine gop (y_move (v := .string _) rfl) rfl rfl rfl ?_
    refine gop_got (fun v T' => ∃ c1 c2 c3, v = .func (.func 102) #[] #[.pointer (some ⟨c1, 0, none⟩), .pointer (some ⟨c2, 0, none⟩), .pointer (some ⟨c3, 0, none⟩)] ∧ T' = [box c2 (.cells #[.string s] 9), box c1 (.cells #[.string ⟨#[47]⟩] 9), box c3 (.cells #[.int .i64 0] 3)]) (e_call (vs := [.string _, _]) Tryd.func64 rfl (by kernel_rfl) rfl) (fun w hM => splitSeqX_any w s) rfl rfl rfl ?_
    rintro _ _ ⟨c1, c2, c3, rfl, rfl⟩
    refine gops_nil ?_
    refine hN5 _ _ ?_
    refine gthen_T [box b2 _, box c2 _, box c1 _, box c3 _] rfl ?_
    refine gthen_from [(2, .pointer _), (9, .func _ _ _)] ⟨rfl, rfl, trivial⟩ fun σ => ?_
    refine grange (lb := [.pointer (some ⟨c1, 0, none⟩), .pointer (some ⟨c2, 0, none⟩), .pointer (some ⟨c3, 0, none⟩)]) (ps := [10]) (xs := cutS s) (fun k => [sure (∀ j (h : j < (cutS s).length), j < k → nameOk (cutS s)[j] = true), box b2 (.cells #[.bool false] 4)]) (fun _ (_ : Unit) => [sure (pathOk s = false), box b2 (.cells #[.bool false] 4)]) rfl (e_enter Tryd.func102 rfl (by kernel_rfl)) (splitSeq1_iters s (by omega) c1 c2 c3 _) (fun w hM => (hM.perm (List.Perm.cons _ (List.Perm.swap _ _ _))).sure (fun _ _ h => absurd h (by omega))) (by decide) (fun _ => rfl) ?round ?done ?stop
    case round =>
      intro lR k x q hx NR hNR
      have hxs : x.size ≤ 60 := cutS_size (List.mem_of_getElem? hx) (by omega)
      refine g_fact (fun w hM => hM.known 1 rfl) ?_
      intro hJ
      refine gfrom [(2, .pointer _), (9, .func _ _ _), (10, .string x)] ⟨rfl, rfl, rfl, trivial⟩ fun σ => ?_
      refine greg ?_
      refine gop (y_assign (v := .string x) rfl) rfl rfl rfl ?_
      refine gops_nil ?_
      refine hNR _ _ fun q2 => ?_
      refine gfrom [(2, .pointer _), (3, .string x), (9, .func _ _ _)] ⟨rfl, rfl, rfl, trivial⟩ fun σ => ?_
      refine gblock ?_
      refine gseq fun N6 hN6 => ?_
      refine gseq fun N7 hN7 => ?_
      refine greg ?_
      refine gop (y_move (v := .string x) rfl) rfl rfl rfl ?_
      refine gop (y_eqls rfl rfl) rfl rfl rfl ?_
      refine gop (y_move (v := .bool _) rfl) rfl rfl rfl ?_
      refine gop_if (want := false) rfl rfl rfl rfl rfl rfl (fun hg13 => ?_) (fun hg13 => ?_)
      · 
        have hg13d := hg13
        refine gop (y_bare (y_move (v := .string x) rfl)) rfl rfl rfl ?_
        refine gop_on rfl rfl rfl rfl hg13 ?_
        refine gop (y_bare (y_eqls rfl rfl)) rfl rfl rfl ?_
        refine gop (y_pick_f (v := .bool _) rfl hg13 rfl) rfl rfl rfl ?_
        refine gop (y_move (v := .bool _) rfl) rfl rfl rfl ?_
        refine gop_if (want := false) rfl rfl rfl rfl rfl rfl (fun hg17 => ?_) (fun hg17 => ?_)
        · 
          have hg17d := hg17
          refine gop (y_bare (y_move (v := .string x) rfl)) rfl rfl rfl ?_
          refine gop_on rfl rfl rfl rfl hg17 ?_
          refine gop (y_bare (y_eqls rfl rfl)) rfl rfl rfl ?_
          refine gop (y_pick_f (v := .bool _) rfl hg17 rfl) rfl rfl rfl ?_
          refine gops_nil ?_
          refine hN7 _ _ ?_
          refine gfrom [(2, .pointer _), (3, .string x), (9, .func _ _ _), (20, .bool _)] ⟨rfl, rfl, rfl, rfl, trivial⟩ fun σ => ?_
          refine gcond (b := _) rfl (fun hc20 => ?_) (fun hc20 => ?_)
          · 
            refine gseq fun N8 hN8 => ?_
            refine greg ?_
            refine gop_store 2 (v := .bool _) (cs' := #[_]) rfl rfl Tryd.sizeOf4 rfl rfl rfl rfl (Nat.le_of_ble_eq_true rfl) rfl rfl ?_
            refine gops_nil ?_
            refine hN8 _ _ ?_
            refine gT [_, sure _, box b2 _] rfl ?_
            refine gfrom [(2, .pointer _)] ⟨rfl, trivial⟩ fun σ => ?_
            refine gret fun w1 hM => ?_
            refine ⟨(), ?_⟩
            have hb : nameOk x = false := by simp_all [nameOk, strEq]
            have hp : pathOk s = false := by unfold pathOk; rw [Bool.and_eq_false_iff]; left; rw [List.all_eq_false]; exact ⟨x, List.mem_of_getElem? hx, by simp [hb]⟩
            exact hM.resure 1 rfl hp
          · 
            refine gskip ?_
            refine hN6 _ _ ?_
            refine gfrom [(2, .pointer _), (3, .string x), (9, .func _ _ _)] ⟨rfl, rfl, rfl, trivial⟩ fun σ => ?_
            refine gseq fun N9 hN9 => ?_
            refine greg ?_
            refine gop (y_move (v := .string x) rfl) rfl rfl rfl ?_
            refine gop (y_lens Tryd.underlying9 rfl) rfl rfl rfl ?_
            refine gop (y_move (v := .int _ _) rfl) rfl rfl rfl ?_
            refine gops_nil ?_
            refine hN9 _ _ ?_
            refine gfrom [(2, .pointer _), (3, .string x), (9, .func _ _ _), (22, .int _ _), (23, .int _ _)] ⟨rfl, rfl, rfl, rfl, rfl, trivial⟩ fun σ => ?_
            refine gblock ?_
            refine gfrom2 [(23, .int _ _)] [(2, .pointer _), (3, .string x), (9, .func _ _ _), (22, .int _ _)] ⟨rfl, trivial⟩ ⟨rfl, rfl, rfl, rfl, trivial⟩ fun σ => ?_
            refine gloop2 (G := Nat) (fun i => i ≤ x.size ∧ ∀ j, j < i → letterB (byteAt x j) = true) (fun i => x.size - i) (fun i => [(23, .int .i64 (i : Int))]) (fun i => []) (0) ?h0 ⟨rfl, trivial⟩ ⟨rfl, rfl, rfl, rfl, trivial⟩ rfl ?round
            case h0 => exact ⟨Nat.zero_le _, fun _ h => absurd h (by omega)⟩
            case round =>
              intro i hφ σ
              obtain ⟨hi, hz⟩ := hφ
              refine gseq fun N10 hN10 => ?_
              refine greg ?_
              refine gop (y_lss rfl rfl) rfl rfl rfl ?_
              refine gops_nil ?_
              refine hN10 _ _ ?_
              refine gfrom [(2, .pointer _), (3, .string x), (9, .func _ _ _), (22, .int _ _), (23, .int _ _), (24, .bool _)] ⟨rfl, rfl, rfl, rfl, rfl, rfl, trivial⟩ fun σ => ?_
              refine gseq fun N11 hN11 => ?_
              refine gcond (b := _) rfl (fun hc24 => ?_) (fun hc24 => ?_)
              · 
                replace hc24 := of_decide_eq_true hc24
                refine gskip ?_
                refine hN11 _ _ ?_
                refine gfrom [(2, .pointer _), (3, .string x), (9, .func _ _ _), (22, .int _ _), (23, .int _ _)] ⟨rfl, rfl, rfl, rfl, rfl, trivial⟩ fun σ => ?_
                refine gseq fun N12 hN12 => ?_
                refine gblock ?_
                refine gseq fun N13 hN13 => ?_
                refine greg ?_
                refine gop (y_move (v := .int _ _) rfl) rfl rfl rfl ?_
                refine gop (y_assign (v := .int _ _) rfl) rfl rfl rfl ?_
                refine gops_nil ?_
                refine hN13 _ _ ?_
                refine gfrom [(2, .pointer _), (3, .string x), (4, .int _ _), (9, .func _ _ _), (22, .int _ _), (23, .int _ _)] ⟨rfl, rfl, rfl, rfl, rfl, rfl, trivial⟩ fun σ => ?_
                refine gseq fun N14 hN14 => ?_
                refine greg ?_
                refine gop (y_move (v := .string x) rfl) rfl rfl rfl ?_
                refine gop (y_move (v := .int _ _) rfl) rfl rfl rfl ?_
                refine gop (y_stridx (m := i) Tryd.underlying9 rfl rfl (by omega) (by omega) (by omega)) rfl rfl rfl ?_
                refine gop_pure (e_call (vs := [.int _ _]) Tryd.func68 rfl (by kernel_rfl) rfl) (fun w hM => letter_any w _) rfl rfl rfl ?_
                refine gop (y_not rfl) rfl rfl rfl ?_
                refine gops_nil ?_
                refine hN14 _ _ ?_
                refine gfrom [(2, .pointer _), (3, .string x), (9, .func _ _ _), (22, .int _ _), (23, .int _ _), (30, .bool _)] ⟨rfl, rfl, rfl, rfl, rfl, rfl, trivial⟩ fun σ => ?_
                refine gcond (b := _) rfl (fun hc30 => ?_) (fun hc30 => ?_)
                · 
                  replace hc30 := not_t hc30
                  refine gseq fun N15 hN15 => ?_
                  refine greg ?_
                  refine gop_store 2 (v := .bool _) (cs' := #[_]) rfl rfl Tryd.sizeOf4 rfl rfl rfl rfl (Nat.le_of_ble_eq_true rfl) rfl rfl ?_
                  refine gops_nil ?_
                  refine hN15 _ _ ?_
                  refine gT [_, sure _, box b2 _] rfl ?_
                  refine gfrom [(2, .pointer _)] ⟨rfl, trivial⟩ fun σ => ?_
                  refine gret fun w1 hM => ?_
                  refine ⟨(), ?_⟩
                  have hb : nameOk x = false := by exact nameOk_bad (k := i) (by omega) (by simpa using hc30)
                  have hp : pathOk s = false := by unfold pathOk; rw [Bool.and_eq_false_iff]; left; rw [List.all_eq_false]; exact ⟨x, List.mem_of_getElem? hx, by simp [hb]⟩
                  exact hM.resure 1 rfl hp
                · 
                  replace hc30 := not_f hc30
                  refine gskip ?_
                  refine hN12 _ _ ?_
                  refine gfrom [(2, .pointer _), (3, .string x), (9, .func _ _ _), (22, .int _ _), (23, .int _ _)] ⟨rfl, rfl, rfl, rfl, rfl, trivial⟩ fun σ => ?_
                  refine greg ?_
                  refine gop (y_add rfl rfl ⟨by omega, by omega⟩) rfl rfl rfl ?_
                  refine gop (y_move (v := .int _ _) rfl) rfl rfl rfl ?_
                  refine gops_nil ?_
                  refine gnext2 (i + 1) (by omega) (⟨by omega, fun j hj => by rcases Nat.lt_succ_iff_lt_or_eq.1 hj with h1 | rfl; exact hz j h1; simpa using hc30⟩) ⟨rfl, trivial⟩ ⟨rfl, rfl, rfl, rfl, trivial⟩ ⟨_, rfl⟩
              · 
                replace hc24 := of_decide_eq_false hc24
                refine gexit ?_
                intro w1 hM
                have hok : nameOk x = true := by rw [nameOk_all (fun j hj => hz j (by omega))]; simp_all [strEq]
                exact hM.resure 1 rfl (fun j h hj => by rcases Nat.lt_succ_iff_lt_or_eq.1 hj with h1 | rfl; exact hJ j h h1; have h2 := List.getElem?_eq_some_iff.1 hx; rw [h2.2]; exact hok)
        · 
          have hg17d := hg17
          refine gop_off rfl rfl rfl rfl hg17 rfl rfl ?_
          refine gop (y_pick_t (v := .bool _) rfl hg17 rfl) rfl rfl rfl ?_
          refine gops_nil ?_
          refine hN7 _ _ ?_
          refine gfrom [(2, .pointer _), (3, .string x), (9, .func _ _ _), (20, .bool _)] ⟨rfl, rfl, rfl, rfl, trivial⟩ fun σ => ?_
          refine gcond (b := _) rfl (fun hc20 => ?_) (fun hc20 => ?_)
          · 
            refine gseq fun N16 hN16 => ?_
            refine greg ?_
            refine gop_store 2 (v := .bool _) (cs' := #[_]) rfl rfl Tryd.sizeOf4 rfl rfl rfl rfl (Nat.le_of_ble_eq_true rfl) rfl rfl ?_
            refine gops_nil ?_
            refine hN16 _ _ ?_
            refine gT [_, sure _, box b2 _] rfl ?_
            refine gfrom [(2, .pointer _)] ⟨rfl, trivial⟩ fun σ => ?_
            refine gret fun w1 hM => ?_
            refine ⟨(), ?_⟩
            have hb : nameOk x = false := by simp_all [nameOk, strEq]
            have hp : pathOk s = false := by unfold pathOk; rw [Bool.and_eq_false_iff]; left; rw [List.all_eq_false]; exact ⟨x, List.mem_of_getElem? hx, by simp [hb]⟩
            exact hM.resure 1 rfl hp
          · 
            cases hc20
      · 
        have hg13d := hg13
        refine gop_off rfl rfl rfl rfl hg13 rfl rfl ?_
        refine gop (y_pick_t (v := .bool _) rfl hg13 rfl) rfl rfl rfl ?_
        refine gop (y_move (v := .bool _) rfl) rfl rfl rfl ?_
        refine gop_off rfl rfl rfl rfl rfl rfl rfl ?_
        refine gop_off rfl rfl rfl rfl rfl rfl rfl ?_
        refine gop (y_pick_t (v := .bool _) rfl rfl rfl) rfl rfl rfl ?_
        refine gops_nil ?_
        refine hN7 _ _ ?_
        refine gfrom [(2, .pointer _), (3, .string x), (9, .func _ _ _), (20, .bool _)] ⟨rfl, rfl, rfl, rfl, trivial⟩ fun σ => ?_
        refine gcond (b := _) rfl (fun hc20 => ?_) (fun hc20 => ?_)
        · 
          refine gseq fun N17 hN17 => ?_
          refine greg ?_
          refine gop_store 2 (v := .bool _) (cs' := #[_]) rfl rfl Tryd.sizeOf4 rfl rfl rfl rfl (Nat.le_of_ble_eq_true rfl) rfl rfl ?_
          refine gops_nil ?_
          refine hN17 _ _ ?_
          refine gT [_, sure _, box b2 _] rfl ?_
          refine gfrom [(2, .pointer _)] ⟨rfl, trivial⟩ fun σ => ?_
          refine gret fun w1 hM => ?_
          refine ⟨(), ?_⟩
          have hb : nameOk x = false := by simp_all [nameOk, strEq]
          have hp : pathOk s = false := by unfold pathOk; rw [Bool.and_eq_false_iff]; left; rw [List.all_eq_false]; exact ⟨x, List.mem_of_getElem? hx, by simp [hb]⟩
          exact hM.resure 1 rfl hp
        · 
          cases hc20
    case done =>
      intro D qD
      refine gfrom [(2, .pointer _)] ⟨rfl, trivial⟩ fun σ => ?_
      refine g_fact (fun w hM => hM.known 2 rfl) ?_
      intro hJ
      have hz : pathOk s = true := by unfold pathOk; rw [List.all_eq_true.2 (fun x hx => by obtain ⟨j, hj, rfl⟩ := List.getElem_of_mem hx; exact hJ j hj hj), decide_eq_true (by omega)]; rfl
      refine gseq fun N18 hN18 => ?_
      refine greg ?_
      refine gop_store 3 (v := .bool _) (cs' := #[_]) rfl rfl Tryd.sizeOf4 rfl rfl rfl rfl (Nat.le_of_ble_eq_true rfl) rfl rfl ?_
      refine gops_nil ?_
      refine hN18 _ _ ?_
      refine gT [_, _, sure _, box b2 _] rfl ?_
      refine gfrom [(2, .pointer _)] ⟨rfl, trivial⟩ fun σ => ?_
      refine gret (fin_marked 0 rfl rfl fun w1 hM => ?_)
      refine ⟨_, res1 rfl (rc1 3 hM rfl rfl Tryd.isAgg4), ?_⟩
      exact ⟨by rw [hz], hM.low⟩
    case stop =>
      rintro D qD k - hk w1 hM
      refine ⟨_, res1 rfl (rc1 3 hM rfl rfl Tryd.isAgg4), ?_⟩
      have hne := hM.known 2 rfl
      exact ⟨by rw [hne], hM.low⟩
end Go.Proofs.YtijpaljdclhehaaDoor
namespace Go.Proofs.YtijpaljdclhehaaDoor
open Go.RowKit Go.Cf
set_option maxRecDepth 10000
set_option maxHeartbeats 1000000 in
theorem stars_any (w0 w : World) (b2 b5 g n cap base : Nat) (p : ByteArray) (l : List Bool) (fr : Reg) (hp : p.size ≤ 4000000) (hn : n = p.size + 1) (hl : n = l.length)
    (hfr : ∀ w1, fr.ok w1 → w1.cell? ⟨b2, 0, none⟩ = some (.string p) ∧ w1.cell? ⟨b5, 0, none⟩ = some (.slice (some ⟨g, 0, none⟩) n cap))
    (hM0 : Mem w0 [rowl boolCells base 4 1 (.slice (some ⟨g, 0, none⟩) (n) (cap)) (l), fr] w) :
    Calls Tryd.prog 105 #[.pointer (some ⟨b2, 0, none⟩), .pointer (some ⟨b5, 0, none⟩)] w fun e w' => e = .returned (.tuple #[]) ∧ Mem w0 [rowl boolCells base 4 1 (.slice (some ⟨g, 0, none⟩) (n) (cap)) (starsTo p l p.size), fr] w' := by
  refine gcallsT Tryd.func105 rfl Tryd.ntmps105 (Nat.le_of_ble_eq_true rfl) hM0 ?_
  refine gfrom [(0, .pointer (some _)), (1, .pointer (some _))] ⟨rfl, rfl, trivial⟩ fun σ => ?_
  refine gseq fun N1 hN1 => ?_
  refine greg ?_
  refine gop (y_load Tryd.isAgg9 rfl (fun w hM => (hfr w (hM.ok _ (List.mem_of_getElem? (i := 1) rfl))).1)) rfl rfl rfl ?_
  refine gop (y_lens Tryd.underlying9 rfl) rfl rfl rfl ?_
  refine gop (y_move (v := .int _ _) rfl) rfl rfl rfl ?_
  refine gops_nil ?_
  refine hN1 _ _ ?_
  refine gfrom [(0, .pointer (some _)), (1, .pointer (some _)), (4, .int _ _), (5, .int _ _)] ⟨rfl, rfl, rfl, rfl, trivial⟩ fun σ => ?_
  refine gblock ?_
  refine gfrom2 [(5, .int _ _)] [(0, .pointer (some _)), (1, .pointer (some _)), (4, .int _ _)] ⟨rfl, trivial⟩ ⟨rfl, rfl, rfl, trivial⟩ fun σ => ?_
  refine gloop2 (G := Nat) (fun i => i ≤ p.size) (fun i => p.size - i) (fun i => [(5, .int .i64 (i : Int))]) (fun i => [(0, rowl boolCells base 4 1 (.slice (some ⟨g, 0, none⟩) (n) (cap)) (starsTo p l i))]) (0) ?h0 ⟨rfl, trivial⟩ ⟨rfl, rfl, rfl, trivial⟩ rfl ?round
  case h0 => exact Nat.zero_le _
  case round =>
    intro i hφ σ
    have hi := hφ
    have hL : (starsTo p l i).length = n := by rw [starsTo_len]; exact hl.symm
    refine gT [rowl _ _ _ _ _ _, fr] rfl ?_
    refine gseq fun N2 hN2 => ?_
    refine greg ?_
    refine gop (y_lss rfl rfl) rfl rfl rfl ?_
    refine gops_nil ?_
    refine hN2 _ _ ?_
    refine gfrom [(0, .pointer (some _)), (1, .pointer (some _)), (4, .int _ _), (5, .int _ _), (6, .bool _)] ⟨rfl, rfl, rfl, rfl, rfl, trivial⟩ fun σ => ?_
    refine gseq fun N3 hN3 => ?_
    refine gcond (b := _) rfl (fun hc6 => ?_) (fun hc6 => ?_)
    · 
      replace hc6 := of_decide_eq_true hc6
      refine gskip ?_
      refine hN3 _ _ ?_
      refine gfrom [(0, .pointer (some _)), (1, .pointer (some _)), (4, .int _ _), (5, .int _ _)] ⟨rfl, rfl, rfl, rfl, trivial⟩ fun σ => ?_
      refine gseq fun N4 hN4 => ?_
      refine gblock ?_
      refine gseq fun N5 hN5 => ?_
      refine greg ?_
      refine gop (y_move (v := .int _ _) rfl) rfl rfl rfl ?_
      refine gop (y_assign (v := .int _ _) rfl) rfl rfl rfl ?_
      refine gops_nil ?_
      refine hN5 _ _ ?_
      refine gfrom [(0, .pointer (some _)), (1, .pointer (some _)), (2, .int _ _), (4, .int _ _), (5, .int _ _)] ⟨rfl, rfl, rfl, rfl, rfl, trivial⟩ fun σ => ?_
      refine gseq fun N6 hN6 => ?_
      refine greg ?_
      refine gop (y_load Tryd.isAgg9 rfl (fun w hM => (hfr w (hM.ok _ (List.mem_of_getElem? (i := 1) rfl))).1)) rfl rfl rfl ?_
      refine gop (y_move (v := .int _ _) rfl) rfl rfl rfl ?_
      refine gop (y_stridx (m := i) Tryd.underlying9 rfl rfl (by omega) (by omega) (by omega)) rfl rfl rfl ?_
      refine gop (y_eql rfl rfl) rfl rfl rfl ?_
      refine gop (y_move (v := .bool _) rfl) rfl rfl rfl ?_
      refine gop_if (want := true) rfl rfl rfl rfl rfl rfl (fun hg12 => ?_) (fun hg12 => ?_)
      · 
        have hg12d := of_decide_eq_true hg12
        refine gop (y_bare (y_load Tryd.isAgg82 rfl (fun w hM => (hfr w (hM.ok _ (List.mem_of_getElem? (i := 1) rfl))).2))) rfl rfl rfl ?_
        refine gop_on rfl rfl rfl rfl hg12 ?_
        refine gop (y_bare (y_move (v := .int _ _) rfl)) rfl rfl rfl ?_
        refine gop_on rfl rfl rfl rfl hg12 ?_
        refine gop (y_bare (y_indexAddr (m := i) Tryd.underlying82 Tryd.sizeOf4 rfl rfl (by omega) (by omega) (by omega))) rfl rfl rfl ?_
        refine gop_on rfl rfl rfl rfl hg12 ?_
        refine gop (y_bare (y_load Tryd.isAgg4 rfl (cells_rowl 0 (f := boolCells) (l := starsTo p l i) rfl hL.symm (fun _ => rfl) (List.getElem?_eq_getElem (show i < (starsTo p l i).length by omega)) 0 _ rfl))) rfl rfl rfl ?_
        refine gop (y_pick_t (v := .bool _) rfl hg12 rfl) rfl rfl rfl ?_
        refine gops_nil ?_
        refine hN6 _ _ ?_
        refine gfrom [(0, .pointer (some _)), (1, .pointer (some _)), (2, .int _ _), (4, .int _ _), (5, .int _ _), (17, .bool _)] ⟨rfl, rfl, rfl, rfl, rfl, rfl, trivial⟩ fun σ => ?_
        refine gcond (b := _) rfl (fun hc17 => ?_) (fun hc17 => ?_)
        · 
          refine greg ?_
          refine gop (y_load Tryd.isAgg82 rfl (fun w hM => (hfr w (hM.ok _ (List.mem_of_getElem? (i := 1) rfl))).2)) rfl rfl rfl ?_
          refine gop (y_move (v := .int _ _) rfl) rfl rfl rfl ?_
          refine gop (y_add rfl rfl ⟨by omega, by omega⟩) rfl rfl rfl ?_
          refine gop (y_indexAddr (m := i + 1) Tryd.underlying82 Tryd.sizeOf4 rfl rfl (by omega) (by omega) (by omega)) rfl rfl rfl ?_
          refine gop_store_row 0 (f := boolCells) (l := starsTo p l i) (k := i + 1) (o := 0) (v := .bool _) (a := (starsTo p l i)[i + 1]'(by omega)) (a' := true) (fun _ => rfl) rfl rfl rfl Tryd.sizeOf4 rfl rfl rfl rfl hL.symm (List.getElem?_eq_getElem (by omega)) (Nat.le_of_ble_eq_true rfl) rfl rfl ?_
          refine gops_nil ?_
          refine hN4 _ _ ?_
          refine gT [rowl _ _ _ _ _ _, fr] rfl ?_
          refine gfrom [(0, .pointer (some _)), (1, .pointer (some _)), (4, .int _ _), (5, .int _ _)] ⟨rfl, rfl, rfl, rfl, trivial⟩ fun σ => ?_
          refine greg ?_
          refine gop (y_add rfl rfl ⟨by omega, by omega⟩) rfl rfl rfl ?_
          refine gop (y_move (v := .int _ _) rfl) rfl rfl rfl ?_
          refine gops_nil ?_
          rw [starsTo_yes (by omega) (by rw [List.getElem?_eq_getElem (by omega), hc17])]
          refine gnext2 (i + 1) (by omega) (show i + 1 ≤ _ by omega) ⟨rfl, trivial⟩ ⟨rfl, rfl, rfl, trivial⟩ ⟨_, rfl⟩
        · 
          refine gskip ?_
          refine hN4 _ _ ?_
          refine gfrom [(0, .pointer (some _)), (1, .pointer (some _)), (4, .int _ _), (5, .int _ _)] ⟨rfl, rfl, rfl, rfl, trivial⟩ fun σ => ?_
          refine greg ?_
          refine gop (y_add rfl rfl ⟨by omega, by omega⟩) rfl rfl rfl ?_
          refine gop (y_move (v := .int _ _) rfl) rfl rfl rfl ?_
          refine gops_nil ?_
          rw [starsTo_no (k := i) (fun h => by have h2 := h.2; rw [List.getElem?_eq_getElem (by omega), hc17] at h2; cases h2)]
          refine gnext2 (i + 1) (by omega) (show i + 1 ≤ _ by omega) ⟨rfl, trivial⟩ ⟨rfl, rfl, rfl, trivial⟩ ⟨_, rfl⟩
      · 
        have hg12d := of_decide_eq_false hg12
        refine gop_off rfl rfl rfl rfl hg12 rfl rfl ?_
        refine gop_off rfl rfl rfl rfl hg12 rfl rfl ?_
        refine gop_off rfl rfl rfl rfl hg12 rfl rfl ?_
        refine gop (y_pick_f (v := .bool _) rfl hg12 rfl) rfl rfl rfl ?_
        refine gops_nil ?_
        refine hN6 _ _ ?_
        refine gfrom [(0, .pointer (some _)), (1, .pointer (some _)), (2, .int _ _), (4, .int _ _), (5, .int _ _), (17, .bool _)] ⟨rfl, rfl, rfl, rfl, rfl, rfl, trivial⟩ fun σ => ?_
        refine gcond (b := _) rfl (fun hc17 => ?_) (fun hc17 => ?_)
        · 
          cases hc17
        · 
          refine gskip ?_
          refine hN4 _ _ ?_
          refine gfrom [(0, .pointer (some _)), (1, .pointer (some _)), (4, .int _ _), (5, .int _ _)] ⟨rfl, rfl, rfl, rfl, trivial⟩ fun σ => ?_
          refine greg ?_
          refine gop (y_add rfl rfl ⟨by omega, by omega⟩) rfl rfl rfl ?_
          refine gop (y_move (v := .int _ _) rfl) rfl rfl rfl ?_
          refine gops_nil ?_
          rw [starsTo_no (k := i) (fun h => hg12d (by omega))]
          refine gnext2 (i + 1) (by omega) (show i + 1 ≤ _ by omega) ⟨rfl, trivial⟩ ⟨rfl, rfl, rfl, trivial⟩ ⟨_, rfl⟩
    · 
      replace hc6 := of_decide_eq_false hc6
      obtain rfl : i = p.size := by omega
      refine gexit ?_
      intro w1 hM
      refine ⟨_, res0 rfl, ?_⟩
      exact ⟨rfl, hM⟩
set_option maxHeartbeats 2000000 in
theorem name_any (w : World) (p s : ByteArray) (hp : p.size ≤ 4000000) (hs : s.size ≤ 4000000) : Calls Tryd.prog 87 #[.string p, .string s] w fun e w' => e = .returned (.bool (nameM p s)) ∧ Below w.heap.size w w' := by
  refine gcalls Tryd.func87 rfl Tryd.ntmps87 (Nat.le_of_ble_eq_true rfl) ?_
  refine gfrom [(0, .string _), (1, .string _)] ⟨rfl, rfl, trivial⟩ fun σ => ?_
  refine gseq fun N1 hN1 => ?_
  refine greg ?_
  refine gop_box (v := .string _) (cs := #[_]) rfl rfl rfl (fun b2 hb2 => ?_)
  refine gop (y_assign (v := .bool _) rfl) rfl rfl rfl ?_
  refine gops_nil ?_
  refine hN1 _ _ ?_
  refine gT [box b2 _] rfl ?_
  refine gfrom [(1, .string _), (2, .pointer _)] ⟨rfl, rfl, trivial⟩ fun σ => ?_
  refine gseq fun N2 hN2 => ?_
  refine greg ?_
  refine gop (y_load Tryd.isAgg9 rfl (cell_box 0 rfl rfl)) rfl rfl rfl ?_
  refine gop (y_lens Tryd.underlying9 rfl) rfl rfl rfl ?_
  refine gop (y_add rfl rfl ⟨by omega, by omega⟩) rfl rfl rfl ?_
  refine gop_make (f := boolCells) (bytes := 1) (z := .bool false) (false) Tryd.underlying82 (by kernel_rfl) rfl rfl rfl (k := p.size + 1) rfl rfl (by omega) (by simp [maxLen]; omega) rfl (fun b14 hb14 => ?_)
  refine gop_alloc (cs := #[.slice none 0 0]) Tryd.zeroValue82 rfl rfl (fun b5 hb5 => ?_)
  refine gop_store 2 (v := .slice (some _) _ _) (cs' := #[_]) rfl rfl Tryd.sizeOf82 rfl rfl rfl rfl (Nat.le_of_ble_eq_true rfl) rfl rfl ?_
  refine gops_nil ?_
  refine hN2 _ _ ?_
  refine gT [box b2 _, rowl _ _ _ _ _ _, box b5 _] rfl ?_
  refine gfrom [(1, .string _), (2, .pointer _), (5, .pointer _)] ⟨rfl, rfl, rfl, trivial⟩ fun σ => ?_
  refine gseq fun N3 hN3 => ?_
  refine greg ?_
  refine gop (y_load Tryd.isAgg82 rfl (cell_box 2 rfl rfl)) rfl rfl rfl ?_
  refine gop (y_indexAddr Tryd.underlying82 Tryd.sizeOf4 rfl rfl rfl (by omega) (by omega)) rfl rfl rfl ?_
  refine gop_store_row 1 (f := boolCells) (l := List.replicate (p.size + 1) false) (k := 0) (o := 0) (v := .bool _) (a := false) (a' := true) (fun _ => rfl) rfl rfl rfl Tryd.sizeOf4 rfl rfl rfl rfl (by simp) (by simp) (Nat.le_of_ble_eq_true rfl) rfl rfl ?_
  refine gops_nil ?_
  refine hN3 _ _ ?_
  refine gT [box b2 _, rowl _ _ _ _ _ _, box b5 _] rfl ?_
  refine gfrom [(1, .string _), (2, .pointer _), (5, .pointer _)] ⟨rfl, rfl, rfl, trivial⟩ fun σ => ?_
  refine gseq fun N4 hN4 => ?_
  refine greg ?_
  refine gop (y_makeFunc (vs := [.pointer (some ⟨b2, 0, none⟩), .pointer (some ⟨b5, 0, none⟩)]) rfl) rfl rfl rfl ?_
  refine gop (y_assign (v := .func (.func 105) #[] #[.pointer (some ⟨b2, 0, none⟩), .pointer (some ⟨b5, 0, none⟩)]) rfl) rfl rfl rfl ?_
  refine gops_nil ?_
  refine hN4 _ _ ?_
  refine gfrom [(1, .string _), (2, .pointer _), (5, .pointer _), (6, .func (.func 105) #[] #[.pointer (some ⟨b2, 0, none⟩), .pointer (some ⟨b5, 0, none⟩)])] ⟨rfl, rfl, rfl, rfl, trivial⟩ fun σ => ?_
  refine gseq fun N5 hN5 => ?_
  refine greg ?_
  refine gop (y_move (v := .func (.func 105) #[] #[.pointer (some ⟨b2, 0, none⟩), .pointer (some ⟨b5, 0, none⟩)]) rfl) rfl rfl rfl ?_
  refine gop_does1 1 (fun v r G => v = .tuple #[] ∧ r = rowl boolCells w.heap.size 4 1 (.slice (some ⟨b14, 0, none⟩) (p.size + 1) (p.size + 1)) (starsTo p (true :: List.replicate p.size false) p.size) ∧ G = []) (e_callv (vs := []) (cs := [.pointer (some ⟨b2, 0, none⟩), .pointer (some ⟨b5, 0, none⟩)]) rfl Tryd.func105 rfl (by kernel_rfl) rfl) rfl (fun w fr1 hfr hM => (stars_any _ w b2 b5 b14 _ _ _ p _ fr1 hp rfl (by simp) (fun w1 ho => ⟨box_cell (hfr 0 _ rfl (by decide) w1 ho) rfl, box_cell (hfr 2 _ rfl (by decide) w1 ho) rfl⟩) hM).mono fun _ _ ⟨he, hm⟩ => ⟨_, _, [], he, ⟨rfl, rfl, rfl⟩, hm⟩) rfl rfl rfl ?_
  rintro _ _ _ ⟨rfl, rfl, rfl⟩
  refine gops_nil ?_
  refine hN5 _ _ ?_
  refine gT [box b2 _, rowl _ _ _ _ _ _, box b5 _] rfl ?_
  refine gfrom [(1, .string _), (2, .pointer _), (5, .pointer _), (6, .func (.func 105) #[] #[.pointer (some ⟨b2, 0, none⟩), .pointer (some ⟨b5, 0, none⟩)])] ⟨rfl, rfl, rfl, rfl, trivial⟩ fun σ => ?_
  refine gseq fun N6 hN6 => ?_
  refine gseq fun N7 hN7 => ?_
  refine greg ?_
  refine gop (y_move (v := .string _) rfl) rfl rfl rfl ?_
  refine gop (y_lens Tryd.underlying9 rfl) rfl rfl rfl ?_
  refine gop (y_move (v := .int _ _) rfl) rfl rfl rfl ?_
  refine gops_nil ?_
  refine hN7 _ _ ?_
  refine gfrom [(1, .string _), (2, .pointer _), (5, .pointer _), (6, .func (.func 105) #[] #[.pointer (some ⟨b2, 0, none⟩), .pointer (some ⟨b5, 0, none⟩)]), (21, .int _ _), (22, .int _ _)] ⟨rfl, rfl, rfl, rfl, rfl, rfl, trivial⟩ fun σ => ?_
  refine gblock ?_
  refine gfrom2 [(22, .int _ _)] [(1, .string _), (2, .pointer _), (5, .pointer _), (6, .func (.func 105) #[] #[.pointer (some ⟨b2, 0, none⟩), .pointer (some ⟨b5, 0, none⟩)]), (21, .int _ _)] ⟨rfl, trivial⟩ ⟨rfl, rfl, rfl, rfl, rfl, trivial⟩ fun σ => ?_
  refine gloop2 (G := Nat × Nat) (fun (k, g) => k ≤ s.size) (fun (k, g) => s.size - k) (fun (k, g) => [(22, .int .i64 (k : Int))]) (fun (k, g) => [(1, rowl boolCells w.heap.size 4 1 (.slice (some ⟨g, 0, none⟩) (p.size + 1) (p.size + 1)) (nameRun p s k)), (2, box b5 (.cells #[.slice (some ⟨g, 0, none⟩) (p.size + 1) (p.size + 1)] 82))]) ((0, b14)) ?h0 ⟨rfl, trivial⟩ ⟨rfl, rfl, rfl, rfl, rfl, trivial⟩ rfl ?round
  case h0 => exact Nat.zero_le _
  case round =>
    rintro ⟨k, g⟩ hφ σ
    have hk : k ≤ s.size := hφ
    have hR := nameRun_len p s k
    refine gT [box b2 _, rowl _ _ _ _ _ _, box b5 _] rfl ?_
    refine gseq fun N8 hN8 => ?_
    refine greg ?_
    refine gop (y_lss rfl rfl) rfl rfl rfl ?_
    refine gops_nil ?_
    refine hN8 _ _ ?_
    refine gfrom [(1, .string _), (2, .pointer _), (5, .pointer _), (6, .func (.func 105) #[] #[.pointer (some ⟨b2, 0, none⟩), .pointer (some ⟨b5, 0, none⟩)]), (21, .int _ _), (22, .int _ _), (23, .bool _)] ⟨rfl, rfl, rfl, rfl, rfl, rfl, rfl, trivial⟩ fun σ => ?_
    refine gseq fun N9 hN9 => ?_
    refine gcond (b := _) rfl (fun hc23 => ?_) (fun hc23 => ?_)
    · 
      replace hc23 := of_decide_eq_true hc23
      refine gskip ?_
      refine hN9 _ _ ?_
      refine gfrom [(1, .string _), (2, .pointer _), (5, .pointer _), (6, .func (.func 105) #[] #[.pointer (some ⟨b2, 0, none⟩), .pointer (some ⟨b5, 0, none⟩)]), (21, .int _ _), (22, .int _ _)] ⟨rfl, rfl, rfl, rfl, rfl, rfl, trivial⟩ fun σ => ?_
      refine gseq fun N10 hN10 => ?_
      refine gblock ?_
      refine gseq fun N11 hN11 => ?_
      refine greg ?_
      refine gop (y_move (v := .int _ _) rfl) rfl rfl rfl ?_
      refine gop (y_assign (v := .int _ _) rfl) rfl rfl rfl ?_
      refine gops_nil ?_
      refine hN11 _ _ ?_
      refine gfrom [(1, .string _), (2, .pointer _), (5, .pointer _), (6, .func (.func 105) #[] #[.pointer (some ⟨b2, 0, none⟩), .pointer (some ⟨b5, 0, none⟩)]), (7, .int _ _), (21, .int _ _), (22, .int _ _)] ⟨rfl, rfl, rfl, rfl, rfl, rfl, rfl, trivial⟩ fun σ => ?_
      refine gseq fun N12 hN12 => ?_
      refine greg ?_
      refine gop (y_load Tryd.isAgg9 rfl (cell_box 0 rfl rfl)) rfl rfl rfl ?_
      refine gop (y_lens Tryd.underlying9 rfl) rfl rfl rfl ?_
      refine gop (y_add rfl rfl ⟨by omega, by omega⟩) rfl rfl rfl ?_
      refine gop_make (f := boolCells) (bytes := 1) (z := .bool false) (false) Tryd.underlying82 (by kernel_rfl) rfl rfl rfl (k := p.size + 1) rfl rfl (by omega) (by simp [maxLen]; omega) rfl (fun b28 hb28 => ?_)
      refine gop (y_assign (v := .slice (some _) _ _) rfl) rfl rfl rfl ?_
      refine gops_nil ?_
      refine hN12 _ _ ?_
      refine gT [box b2 _, rowl _ _ _ _ _ _, box b5 _, rowl _ _ _ _ _ _] rfl ?_
      refine gfrom [(1, .string _), (2, .pointer _), (5, .pointer _), (6, .func (.func 105) #[] #[.pointer (some ⟨b2, 0, none⟩), .pointer (some ⟨b5, 0, none⟩)]), (7, .int _ _), (8, .slice (some _) _ _), (21, .int _ _), (22, .int _ _)] ⟨rfl, rfl, rfl, rfl, rfl, rfl, rfl, rfl, trivial⟩ fun σ => ?_
      refine gseq fun N13 hN13 => ?_
      refine gseq fun N14 hN14 => ?_
      refine greg ?_
      refine gop (y_load Tryd.isAgg9 rfl (cell_box 0 rfl rfl)) rfl rfl rfl ?_
      refine gop (y_lens Tryd.underlying9 rfl) rfl rfl rfl ?_
      refine gop (y_move (v := .int _ _) rfl) rfl rfl rfl ?_
      refine gops_nil ?_
      refine hN14 _ _ ?_
      refine gfrom [(1, .string _), (2, .pointer _), (5, .pointer _), (6, .func (.func 105) #[] #[.pointer (some ⟨b2, 0, none⟩), .pointer (some ⟨b5, 0, none⟩)]), (7, .int _ _), (8, .slice (some _) _ _), (21, .int _ _), (22, .int _ _), (30, .int _ _), (31, .int _ _)] ⟨rfl, rfl, rfl, rfl, rfl, rfl, rfl, rfl, rfl, rfl, trivial⟩ fun σ => ?_
      refine gblock ?_
      refine gfrom2 [(31, .int _ _)] [(1, .string _), (2, .pointer _), (5, .pointer _), (6, .func (.func 105) #[] #[.pointer (some ⟨b2, 0, none⟩), .pointer (some ⟨b5, 0, none⟩)]), (7, .int _ _), (8, .slice (some _) _ _), (21, .int _ _), (22, .int _ _), (30, .int _ _)] ⟨rfl, trivial⟩ ⟨rfl, rfl, rfl, rfl, rfl, rfl, rfl, rfl, rfl, trivial⟩ fun σ => ?_
      refine gloop2 (G := Nat) (fun i => i ≤ p.size) (fun i => p.size - i) (fun i => [(31, .int .i64 (i : Int))]) (fun i => [(3, rowl boolCells w.heap.size 4 1 (.slice (some ⟨b28, 0, none⟩) (p.size + 1) (p.size + 1)) (nextTo p (byteAt s k) (nameRun p s k) i))]) (0) ?h0 ⟨rfl, trivial⟩ ⟨rfl, rfl, rfl, rfl, rfl, rfl, rfl, rfl, rfl, trivial⟩ rfl ?round
      case h0 => exact Nat.zero_le _
      case round =>
        intro i hφ σ
        have hi := hφ
        have hL : (nextTo p (byteAt s k) (nameRun p s k) i).length = p.size + 1 := nextTo_len _ _ _ _
        refine gT [box b2 _, rowl _ _ _ _ _ _, box b5 _, rowl _ _ _ _ _ _] rfl ?_
        refine gseq fun N15 hN15 => ?_
        refine greg ?_
        refine gop (y_lss rfl rfl) rfl rfl rfl ?_
        refine gops_nil ?_
        refine hN15 _ _ ?_
        refine gfrom [(1, .string _), (2, .pointer _), (5, .pointer _), (6, .func (.func 105) #[] #[.pointer (some ⟨b2, 0, none⟩), .pointer (some ⟨b5, 0, none⟩)]), (7, .int _ _), (8, .slice (some _) _ _), (21, .int _ _), (22, .int _ _), (30, .int _ _), (31, .int _ _), (32, .bool _)] ⟨rfl, rfl, rfl, rfl, rfl, rfl, rfl, rfl, rfl, rfl, rfl, trivial⟩ fun σ => ?_
        refine gseq fun N16 hN16 => ?_
        refine gcond (b := _) rfl (fun hc32 => ?_) (fun hc32 => ?_)
        · 
          replace hc32 := of_decide_eq_true hc32
          refine gskip ?_
          refine hN16 _ _ ?_
          refine gfrom [(1, .string _), (2, .pointer _), (5, .pointer _), (6, .func (.func 105) #[] #[.pointer (some ⟨b2, 0, none⟩), .pointer (some ⟨b5, 0, none⟩)]), (7, .int _ _), (8, .slice (some _) _ _), (21, .int _ _), (22, .int _ _), (30, .int _ _), (31, .int _ _)] ⟨rfl, rfl, rfl, rfl, rfl, rfl, rfl, rfl, rfl, rfl, trivial⟩ fun σ => ?_
          refine gseq fun N17 hN17 => ?_
          refine gblock ?_
          refine gseq fun N18 hN18 => ?_
          refine greg ?_
          refine gop (y_move (v := .int _ _) rfl) rfl rfl rfl ?_
          refine gop (y_assign (v := .int _ _) rfl) rfl rfl rfl ?_
          refine gops_nil ?_
          refine hN18 _ _ ?_
          refine gfrom [(1, .string _), (2, .pointer _), (5, .pointer _), (6, .func (.func 105) #[] #[.pointer (some ⟨b2, 0, none⟩), .pointer (some ⟨b5, 0, none⟩)]), (7, .int _ _), (8, .slice (some _) _ _), (9, .int _ _), (21, .int _ _), (22, .int _ _), (30, .int _ _), (31, .int _ _)] ⟨rfl, rfl, rfl, rfl, rfl, rfl, rfl, rfl, rfl, rfl, rfl, trivial⟩ fun σ => ?_
          refine gseq fun N19 hN19 => ?_
          refine greg ?_
          refine gop (y_load Tryd.isAgg9 rfl (cell_box 0 rfl rfl)) rfl rfl rfl ?_
          refine gop (y_move (v := .int _ _) rfl) rfl rfl rfl ?_
          refine gop (y_stridx (m := i) Tryd.underlying9 rfl rfl (by omega) (by omega) (by omega)) rfl rfl rfl ?_
          refine gop (y_assign (v := .int _ _) rfl) rfl rfl rfl ?_
          refine gops_nil ?_
          refine hN19 _ _ ?_
          refine gfrom [(1, .string _), (2, .pointer _), (5, .pointer _), (6, .func (.func 105) #[] #[.pointer (some ⟨b2, 0, none⟩), .pointer (some ⟨b5, 0, none⟩)]), (7, .int _ _), (8, .slice (some _) _ _), (9, .int _ _), (10, .int _ _), (21, .int _ _), (22, .int _ _), (30, .int _ _), (31, .int _ _)] ⟨rfl, rfl, rfl, rfl, rfl, rfl, rfl, rfl, rfl, rfl, rfl, rfl, trivial⟩ fun σ => ?_
          refine gblock ?_
          refine gseq fun N20 hN20 => ?_
          refine greg ?_
          refine gop (y_load Tryd.isAgg82 rfl (cell_box 2 rfl rfl)) rfl rfl rfl ?_
          refine gop (y_move (v := .int _ _) rfl) rfl rfl rfl ?_
          refine gop (y_indexAddr (m := i) Tryd.underlying82 Tryd.sizeOf4 rfl rfl (by omega) (by omega) (by omega)) rfl rfl rfl ?_
          refine gop (y_load Tryd.isAgg4 rfl (cells_rowl 1 (f := boolCells) (l := nameRun p s k) rfl (nameRun_len p s k).symm (fun _ => rfl) (List.getElem?_eq_getElem (show i < (nameRun p s k).length by omega)) 0 _ rfl)) rfl rfl rfl ?_
          refine gop (y_not rfl) rfl rfl rfl ?_
          refine gop (y_assign (v := .bool _) rfl) rfl rfl rfl ?_
          refine gops_nil ?_
          refine hN20 _ _ ?_
          refine gfrom [(1, .string _), (2, .pointer _), (5, .pointer _), (6, .func (.func 105) #[] #[.pointer (some ⟨b2, 0, none⟩), .pointer (some ⟨b5, 0, none⟩)]), (7, .int _ _), (8, .slice (some _) _ _), (9, .int _ _), (10, .int _ _), (21, .int _ _), (22, .int _ _), (30, .int _ _), (31, .int _ _), (37, .bool _)] ⟨rfl, rfl, rfl, rfl, rfl, rfl, rfl, rfl, rfl, rfl, rfl, rfl, rfl, trivial⟩ fun σ => ?_
          refine gcond (b := _) rfl (fun hc37 => ?_) (fun hc37 => ?_)
          · 
            replace hc37 := not_t hc37
            refine gskip ?_
            refine hN17 _ _ ?_
            refine gfrom [(1, .string _), (2, .pointer _), (5, .pointer _), (6, .func (.func 105) #[] #[.pointer (some ⟨b2, 0, none⟩), .pointer (some ⟨b5, 0, none⟩)]), (7, .int _ _), (8, .slice (some _) _ _), (21, .int _ _), (22, .int _ _), (30, .int _ _), (31, .int _ _)] ⟨rfl, rfl, rfl, rfl, rfl, rfl, rfl, rfl, rfl, rfl, trivial⟩ fun σ => ?_
            refine greg ?_
            refine gop (y_add rfl rfl ⟨by omega, by omega⟩) rfl rfl rfl ?_
            refine gop (y_move (v := .int _ _) rfl) rfl rfl rfl ?_
            refine gops_nil ?_
            rw [nextTo_off (i := i) (by rw [List.getElem?_eq_getElem (by omega), hc37])]
            refine gnext2 (i + 1) (by omega) (show i + 1 ≤ _ by omega) ⟨rfl, trivial⟩ ⟨rfl, rfl, rfl, rfl, rfl, rfl, rfl, rfl, rfl, trivial⟩ ⟨_, rfl⟩
          · 
            replace hc37 := not_f hc37
            refine gseq fun N21 hN21 => ?_
            refine greg ?_
            refine gop (y_move (v := .int _ _) rfl) rfl rfl rfl ?_
            refine gop (y_eql rfl rfl) rfl rfl rfl ?_
            refine gop (y_assign (v := .bool _) rfl) rfl rfl rfl ?_
            refine gops_nil ?_
            refine hN21 _ _ ?_
            refine gfrom [(1, .string _), (2, .pointer _), (5, .pointer _), (6, .func (.func 105) #[] #[.pointer (some ⟨b2, 0, none⟩), .pointer (some ⟨b5, 0, none⟩)]), (7, .int _ _), (8, .slice (some _) _ _), (9, .int _ _), (10, .int _ _), (21, .int _ _), (22, .int _ _), (30, .int _ _), (31, .int _ _), (43, .bool _)] ⟨rfl, rfl, rfl, rfl, rfl, rfl, rfl, rfl, rfl, rfl, rfl, rfl, rfl, trivial⟩ fun σ => ?_
            refine gcond (b := _) rfl (fun hc43 => ?_) (fun hc43 => ?_)
            · 
              replace hc43 := of_decide_eq_true hc43
              refine greg ?_
              refine gop (y_move (v := .slice (some _) _ _) rfl) rfl rfl rfl ?_
              refine gop (y_move (v := .int _ _) rfl) rfl rfl rfl ?_
              refine gop (y_indexAddr (m := i) Tryd.underlying82 Tryd.sizeOf4 rfl rfl (by omega) (by omega) (by omega)) rfl rfl rfl ?_
              refine gop_store_row 3 (f := boolCells) (l := nextTo p (byteAt s k) (nameRun p s k) i) (k := i) (o := 0) (v := .bool _) (a := (nextTo p (byteAt s k) (nameRun p s k) i)[i]'(by omega)) (a' := true) (fun _ => rfl) rfl rfl rfl Tryd.sizeOf4 rfl rfl rfl rfl hL.symm (List.getElem?_eq_getElem (by omega)) (Nat.le_of_ble_eq_true rfl) rfl rfl ?_
              refine gops_nil ?_
              refine hN17 _ _ ?_
              refine gT [box b2 _, rowl _ _ _ _ _ _, box b5 _, rowl _ _ _ _ _ _] rfl ?_
              refine gfrom [(1, .string _), (2, .pointer _), (5, .pointer _), (6, .func (.func 105) #[] #[.pointer (some ⟨b2, 0, none⟩), .pointer (some ⟨b5, 0, none⟩)]), (7, .int _ _), (8, .slice (some _) _ _), (21, .int _ _), (22, .int _ _), (30, .int _ _), (31, .int _ _)] ⟨rfl, rfl, rfl, rfl, rfl, rfl, rfl, rfl, rfl, rfl, trivial⟩ fun σ => ?_
              refine greg ?_
              refine gop (y_add rfl rfl ⟨by omega, by omega⟩) rfl rfl rfl ?_
              refine gop (y_move (v := .int _ _) rfl) rfl rfl rfl ?_
              refine gops_nil ?_
              rw [nextTo_star (by rw [List.getElem?_eq_getElem (by omega), hc37]) (by omega)]
              refine gnext2 (i + 1) (by omega) (show i + 1 ≤ _ by omega) ⟨rfl, trivial⟩ ⟨rfl, rfl, rfl, rfl, rfl, rfl, rfl, rfl, rfl, trivial⟩ ⟨_, rfl⟩
            · 
              replace hc43 := of_decide_eq_false hc43
              refine gseq fun N22 hN22 => ?_
              refine greg ?_
              refine gop (y_move (v := .int _ _) rfl) rfl rfl rfl ?_
              refine gop (y_eql rfl rfl) rfl rfl rfl ?_
              refine gop (y_move (v := .bool _) rfl) rfl rfl rfl ?_
              refine gop_if (want := false) rfl rfl rfl rfl rfl rfl (fun hg52 => ?_) (fun hg52 => ?_)
              · 
                have hg52d := of_decide_eq_false hg52
                refine gop (y_bare (y_move (v := .int _ _) rfl)) rfl rfl rfl ?_
                refine gop_on rfl rfl rfl rfl hg52 ?_
                refine gop (y_bare (y_move (v := .string _) rfl)) rfl rfl rfl ?_
                refine gop_on rfl rfl rfl rfl hg52 ?_
                refine gop (y_bare (y_move (v := .int _ _) rfl)) rfl rfl rfl ?_
                refine gop_on rfl rfl rfl rfl hg52 ?_
                refine gop (y_bare (y_stridx (m := k) Tryd.underlying9 rfl rfl (by omega) (by omega) (by omega))) rfl rfl rfl ?_
                refine gop_on rfl rfl rfl rfl hg52 ?_
                refine gop (y_bare (y_eql rfl rfl)) rfl rfl rfl ?_
                refine gop (y_pick_f (v := .bool _) rfl hg52 rfl) rfl rfl rfl ?_
                refine gop (y_assign (v := .bool _) rfl) rfl rfl rfl ?_
                refine gops_nil ?_
                refine hN22 _ _ ?_
                refine gfrom [(1, .string _), (2, .pointer _), (5, .pointer _), (6, .func (.func 105) #[] #[.pointer (some ⟨b2, 0, none⟩), .pointer (some ⟨b5, 0, none⟩)]), (7, .int _ _), (8, .slice (some _) _ _), (9, .int _ _), (21, .int _ _), (22, .int _ _), (30, .int _ _), (31, .int _ _), (49, .bool _)] ⟨rfl, rfl, rfl, rfl, rfl, rfl, rfl, rfl, rfl, rfl, rfl, rfl, trivial⟩ fun σ => ?_
                refine gcond (b := _) rfl (fun hc49 => ?_) (fun hc49 => ?_)
                · 
                  replace hc49 := of_decide_eq_true hc49
                  refine greg ?_
                  refine gop (y_move (v := .slice (some _) _ _) rfl) rfl rfl rfl ?_
                  refine gop (y_move (v := .int _ _) rfl) rfl rfl rfl ?_
                  refine gop (y_add rfl rfl ⟨by omega, by omega⟩) rfl rfl rfl ?_
                  refine gop (y_indexAddr (m := i + 1) Tryd.underlying82 Tryd.sizeOf4 rfl rfl (by omega) (by omega) (by omega)) rfl rfl rfl ?_
                  refine gop_store_row 3 (f := boolCells) (l := nextTo p (byteAt s k) (nameRun p s k) i) (k := i + 1) (o := 0) (v := .bool _) (a := (nextTo p (byteAt s k) (nameRun p s k) i)[i + 1]'(by omega)) (a' := true) (fun _ => rfl) rfl rfl rfl Tryd.sizeOf4 rfl rfl rfl rfl hL.symm (List.getElem?_eq_getElem (by omega)) (Nat.le_of_ble_eq_true rfl) rfl rfl ?_
                  refine gops_nil ?_
                  refine hN17 _ _ ?_
                  refine gT [box b2 _, rowl _ _ _ _ _ _, box b5 _, rowl _ _ _ _ _ _] rfl ?_
                  refine gfrom [(1, .string _), (2, .pointer _), (5, .pointer _), (6, .func (.func 105) #[] #[.pointer (some ⟨b2, 0, none⟩), .pointer (some ⟨b5, 0, none⟩)]), (7, .int _ _), (8, .slice (some _) _ _), (21, .int _ _), (22, .int _ _), (30, .int _ _), (31, .int _ _)] ⟨rfl, rfl, rfl, rfl, rfl, rfl, rfl, rfl, rfl, rfl, trivial⟩ fun σ => ?_
                  refine greg ?_
                  refine gop (y_add rfl rfl ⟨by omega, by omega⟩) rfl rfl rfl ?_
                  refine gop (y_move (v := .int _ _) rfl) rfl rfl rfl ?_
                  refine gops_nil ?_
                  rw [nextTo_char (by rw [List.getElem?_eq_getElem (by omega), hc37]) (by omega) (.inr (by omega))]
                  refine gnext2 (i + 1) (by omega) (show i + 1 ≤ _ by omega) ⟨rfl, trivial⟩ ⟨rfl, rfl, rfl, rfl, rfl, rfl, rfl, rfl, rfl, trivial⟩ ⟨_, rfl⟩
                · 
                  replace hc49 := of_decide_eq_false hc49
                  refine gskip ?_
                  refine hN17 _ _ ?_
                  refine gfrom [(1, .string _), (2, .pointer _), (5, .pointer _), (6, .func (.func 105) #[] #[.pointer (some ⟨b2, 0, none⟩), .pointer (some ⟨b5, 0, none⟩)]), (7, .int _ _), (8, .slice (some _) _ _), (21, .int _ _), (22, .int _ _), (30, .int _ _), (31, .int _ _)] ⟨rfl, rfl, rfl, rfl, rfl, rfl, rfl, rfl, rfl, rfl, trivial⟩ fun σ => ?_
                  refine greg ?_
                  refine gop (y_add rfl rfl ⟨by omega, by omega⟩) rfl rfl rfl ?_
                  refine gop (y_move (v := .int _ _) rfl) rfl rfl rfl ?_
                  refine gops_nil ?_
                  rw [nextTo_miss (i := i) (by rw [List.getElem?_eq_getElem (by omega), hc37]) (by omega) (by omega)]
                  refine gnext2 (i + 1) (by omega) (show i + 1 ≤ _ by omega) ⟨rfl, trivial⟩ ⟨rfl, rfl, rfl, rfl, rfl, rfl, rfl, rfl, rfl, trivial⟩ ⟨_, rfl⟩
              · 
                have hg52d := of_decide_eq_true hg52
                refine gop_off rfl rfl rfl rfl hg52 rfl rfl ?_
                refine gop_off rfl rfl rfl rfl hg52 rfl rfl ?_
                refine gop_off rfl rfl rfl rfl hg52 rfl rfl ?_
                refine gop_off rfl rfl rfl rfl hg52 rfl rfl ?_
                refine gop (y_pick_t (v := .bool _) rfl hg52 rfl) rfl rfl rfl ?_
                refine gop (y_assign (v := .bool _) rfl) rfl rfl rfl ?_
                refine gops_nil ?_
                refine hN22 _ _ ?_
                refine gfrom [(1, .string _), (2, .pointer _), (5, .pointer _), (6, .func (.func 105) #[] #[.pointer (some ⟨b2, 0, none⟩), .pointer (some ⟨b5, 0, none⟩)]), (7, .int _ _), (8, .slice (some _) _ _), (9, .int _ _), (21, .int _ _), (22, .int _ _), (30, .int _ _), (31, .int _ _), (49, .bool _)] ⟨rfl, rfl, rfl, rfl, rfl, rfl, rfl, rfl, rfl, rfl, rfl, rfl, trivial⟩ fun σ => ?_
                refine gcond (b := _) rfl (fun hc49 => ?_) (fun hc49 => ?_)
                · 
                  refine greg ?_
                  refine gop (y_move (v := .slice (some _) _ _) rfl) rfl rfl rfl ?_
                  refine gop (y_move (v := .int _ _) rfl) rfl rfl rfl ?_
                  refine gop (y_add rfl rfl ⟨by omega, by omega⟩) rfl rfl rfl ?_
                  refine gop (y_indexAddr (m := i + 1) Tryd.underlying82 Tryd.sizeOf4 rfl rfl (by omega) (by omega) (by omega)) rfl rfl rfl ?_
                  refine gop_store_row 3 (f := boolCells) (l := nextTo p (byteAt s k) (nameRun p s k) i) (k := i + 1) (o := 0) (v := .bool _) (a := (nextTo p (byteAt s k) (nameRun p s k) i)[i + 1]'(by omega)) (a' := true) (fun _ => rfl) rfl rfl rfl Tryd.sizeOf4 rfl rfl rfl rfl hL.symm (List.getElem?_eq_getElem (by omega)) (Nat.le_of_ble_eq_true rfl) rfl rfl ?_
                  refine gops_nil ?_
                  refine hN17 _ _ ?_
                  refine gT [box b2 _, rowl _ _ _ _ _ _, box b5 _, rowl _ _ _ _ _ _] rfl ?_
                  refine gfrom [(1, .string _), (2, .pointer _), (5, .pointer _), (6, .func (.func 105) #[] #[.pointer (some ⟨b2, 0, none⟩), .pointer (some ⟨b5, 0, none⟩)]), (7, .int _ _), (8, .slice (some _) _ _), (21, .int _ _), (22, .int _ _), (30, .int _ _), (31, .int _ _)] ⟨rfl, rfl, rfl, rfl, rfl, rfl, rfl, rfl, rfl, rfl, trivial⟩ fun σ => ?_
                  refine greg ?_
                  refine gop (y_add rfl rfl ⟨by omega, by omega⟩) rfl rfl rfl ?_
                  refine gop (y_move (v := .int _ _) rfl) rfl rfl rfl ?_
                  refine gops_nil ?_
                  rw [nextTo_char (by rw [List.getElem?_eq_getElem (by omega), hc37]) (by omega) (.inl (by omega))]
                  refine gnext2 (i + 1) (by omega) (show i + 1 ≤ _ by omega) ⟨rfl, trivial⟩ ⟨rfl, rfl, rfl, rfl, rfl, rfl, rfl, rfl, rfl, trivial⟩ ⟨_, rfl⟩
                · 
                  cases hc49
        · 
          replace hc32 := of_decide_eq_false hc32
          obtain rfl : i = p.size := by omega
          refine gexit ?_
          refine hN13 _ _ ?_
          refine gfrom [(1, .string _), (2, .pointer _), (5, .pointer _), (6, .func (.func 105) #[] #[.pointer (some ⟨b2, 0, none⟩), .pointer (some ⟨b5, 0, none⟩)]), (8, .slice (some _) _ _), (21, .int _ _), (22, .int _ _)] ⟨rfl, rfl, rfl, rfl, rfl, rfl, rfl, trivial⟩ fun σ => ?_
          refine gseq fun N23 hN23 => ?_
          refine greg ?_
          refine gop (y_move (v := .slice (some _) _ _) rfl) rfl rfl rfl ?_
          refine gop_store 2 (v := .slice (some _) _ _) (cs' := #[_]) rfl rfl Tryd.sizeOf82 rfl rfl rfl rfl (Nat.le_of_ble_eq_true rfl) rfl rfl ?_
          refine gops_nil ?_
          refine hN23 _ _ ?_
          refine gT [box b2 _, rowl _ _ _ _ _ _, box b5 _, rowl _ _ _ _ _ _] rfl ?_
          refine gfrom [(1, .string _), (2, .pointer _), (5, .pointer _), (6, .func (.func 105) #[] #[.pointer (some ⟨b2, 0, none⟩), .pointer (some ⟨b5, 0, none⟩)]), (21, .int _ _), (22, .int _ _)] ⟨rfl, rfl, rfl, rfl, rfl, rfl, trivial⟩ fun σ => ?_
          refine greg ?_
          refine gop (y_move (v := .func (.func 105) #[] #[.pointer (some ⟨b2, 0, none⟩), .pointer (some ⟨b5, 0, none⟩)]) rfl) rfl rfl rfl ?_
          refine gop_does1 3 (fun v r G => v = .tuple #[] ∧ r = rowl boolCells w.heap.size 4 1 (.slice (some ⟨b28, 0, none⟩) (p.size + 1) (p.size + 1)) (starsTo p (nextTo p (byteAt s k) (nameRun p s k) p.size) p.size) ∧ G = []) (e_callv (vs := []) (cs := [.pointer (some ⟨b2, 0, none⟩), .pointer (some ⟨b5, 0, none⟩)]) rfl Tryd.func105 rfl (by kernel_rfl) rfl) rfl (fun w fr1 hfr hM => (stars_any _ w b2 b5 b28 _ _ _ p _ fr1 hp rfl (by rw [nextTo_len]) (fun w1 ho => ⟨box_cell (hfr 0 _ rfl (by decide) w1 ho) rfl, box_cell (hfr 2 _ rfl (by decide) w1 ho) rfl⟩) hM).mono fun _ _ ⟨he, hm⟩ => ⟨_, _, [], he, ⟨rfl, rfl, rfl⟩, hm⟩) rfl rfl rfl ?_
          rintro _ _ _ ⟨rfl, rfl, rfl⟩
          refine gops_nil ?_
          refine hN10 _ _ ?_
          refine gT [box b2 _, rowl _ _ _ _ _ _, box b5 _, rowl _ _ _ _ _ _] rfl ?_
          refine gfrom [(1, .string _), (2, .pointer _), (5, .pointer _), (6, .func (.func 105) #[] #[.pointer (some ⟨b2, 0, none⟩), .pointer (some ⟨b5, 0, none⟩)]), (21, .int _ _), (22, .int _ _)] ⟨rfl, rfl, rfl, rfl, rfl, rfl, trivial⟩ fun σ => ?_
          refine greg ?_
          refine gop (y_add rfl rfl ⟨by omega, by omega⟩) rfl rfl rfl ?_
          refine gop (y_move (v := .int _ _) rfl) rfl rfl rfl ?_
          refine gops_nil ?_
          refine fin_mem _ (weak_perm (List.Perm.cons _ (List.reverse_perm _).symm)) ?_
          refine gnext2 ((k + 1, b28)) (by show s.size - (k + 1) < s.size - k; omega) (show k + 1 ≤ _ by omega) ⟨rfl, trivial⟩ ⟨rfl, rfl, rfl, rfl, rfl, trivial⟩ ⟨_, rfl⟩
    · 
      replace hc23 := of_decide_eq_false hc23
      obtain rfl : k = s.size := by omega
      refine gexit ?_
      refine hN6 _ _ ?_
      refine gfrom [(2, .pointer _), (5, .pointer _)] ⟨rfl, rfl, trivial⟩ fun σ => ?_
      refine gseq fun N24 hN24 => ?_
      refine greg ?_
      refine gop (y_load Tryd.isAgg82 rfl (cell_box 2 rfl rfl)) rfl rfl rfl ?_
      refine gop (y_load Tryd.isAgg9 rfl (cell_box 0 rfl rfl)) rfl rfl rfl ?_
      refine gop (y_lens Tryd.underlying9 rfl) rfl rfl rfl ?_
      refine gop (y_indexAddr (m := p.size) Tryd.underlying82 Tryd.sizeOf4 rfl rfl (by omega) (by omega) (by omega)) rfl rfl rfl ?_
      refine gop (y_load Tryd.isAgg4 rfl (cells_rowl 1 (f := boolCells) (l := nameRun p s s.size) rfl (nameRun_len p s _).symm (fun _ => rfl) (List.getElem?_eq_getElem (show p.size < (nameRun p s s.size).length by omega)) 0 _ rfl)) rfl rfl rfl ?_
      refine gop (y_assign (v := .bool _) rfl) rfl rfl rfl ?_
      refine gops_nil ?_
      refine hN24 _ _ ?_
      refine gfrom [(4, .bool _)] ⟨rfl, trivial⟩ fun σ => ?_
      refine gret fun w1 hM => ?_
      refine ⟨_, res1 rfl (rt (v := .bool _) rfl), ?_⟩
      exact ⟨by rw [nameM, List.getElem?_eq_getElem (by omega)]; rfl, hM.low⟩
end Go.Proofs.YtijpaljdclhehaaDoor
namespace Go.Proofs.YtijpaljdclhehaaDoor
open Go.RowKit Go.Cf
set_option maxRecDepth 10000
abbrev ek2 (k : Nat × Nat) : Value := .agg #[.int .i64 k.1, .int .i64 k.2]
abbrev ek3 (k : Nat × Nat × Nat) : Value := .agg #[.int .i64 k.1, .int .i64 k.2.1, .int .i64 k.2.2]
theorem ck2 (em : Bool) (k : Nat × Nat) (w : World) : (Instr.checkKey em 10000 69 (ek2 k)).run Tryd.prog w = .ok () w := by
  kernel_rfl
theorem ck3 (em : Bool) (k : Nat × Nat × Nat) (w : World) : (Instr.checkKey em 10000 89 (ek3 k)).run Tryd.prog w = .ok () w := by
  kernel_rfl
theorem eq3 (a b c a' b' c' : Int) (w : World) : (Op.equal 89 (.agg #[.int .i64 a, .int .i64 b, .int .i64 c]) (.agg #[.int .i64 a', .int .i64 b', .int .i64 c'])).run Tryd.prog w = .ok (decide (a = a') && decide (b = b') && decide (c = c')) w := by
  show (Op.equalIn (9999 + 1) 89 _ _).run _ _ = _
  rw [run_equalIn_agg _ _ _ _ _ (by kernel_rfl) (by kernel_rfl)]
  simp [Tryd.underlying89, Program.fieldsOf, go_sem]
  (repeat' split) <;> simp_all
theorem eq2 (a b a' b' : Int) (w : World) : (Op.equal 69 (.agg #[.int .i64 a, .int .i64 b]) (.agg #[.int .i64 a', .int .i64 b'])).run Tryd.prog w = .ok (decide (a = a') && decide (b = b')) w := by
  obtain ⟨i, hi⟩ := info_of_underlying Tryd.underlying3
  show (Op.equalIn (9999 + 1) 69 _ _).run _ _ = _
  rw [run_equalIn_array _ _ _ _ Tryd.underlying69 hi]
  have h1 : Tryd.prog.cellsOf 3 = 1 := by kernel_rfl
  have h2 : List.range 2 = [0, 1] := rfl
  rw [h1, h2]
  simp [Op.eqItems, go_sem]
  (repeat' split) <;> simp_all
theorem sm2 (k : Nat × Nat) : Instr.sameBits 10000 (ek2 k) (ek2 k) = true := by
  simp [Instr.sameBits]
theorem sm3 (k : Nat × Nat × Nat) : Instr.sameBits 10000 (ek3 k) (ek3 k) = true := by
  simp [Instr.sameBits]
theorem key2 : Key Tryd.prog 69 ek2 where
  wide := by kernel_rfl
  check := fun em k w => ck2 em k w
  eq := fun k k' w => by
    rw [eq2]
    congr 1
    rw [Bool.eq_iff_iff]; simp [Prod.ext_iff]; omega
  same := sm2
theorem key3 : Key Tryd.prog 89 ek3 where
  wide := by kernel_rfl
  check := fun em k w => ck3 em k w
  eq := fun k k' w => by
    rw [eq3]
    congr 1
    rw [Bool.eq_iff_iff]; simp [Prod.ext_iff]; omega
  same := sm3
end Go.Proofs.YtijpaljdclhehaaDoor
namespace Go.Proofs.YtijpaljdclhehaaDoor
open Go.RowKit Go.Cf
set_option maxRecDepth 10000
theorem bd69_0_1 (x1 : Int) (x2 : Int) : Tryd.prog.built 69 [(0, .int .i64 x1), (1, .int .i64 x2)] = some #[.int .i64 x1, .int .i64 x2] := by kernel_rfl
theorem eg23 (op : BinOp) (x y : Operand) (xs ys : Array Value) (w : World) : (eqGuard op 23 x y (.agg xs) (.agg ys)).run Tryd.prog w = .ok () w := run_eqGuard_agg w op 23 x y xs ys (by kernel_rfl)
theorem ne23 (a0 b0 : Int) (a1 b1 : Int) (w : World) : (binOp .neq 23 (.agg #[.int .i64 a0, .int .i64 a1]) (.agg #[.int .i64 b0, .int .i64 b1])).run Tryd.prog w = .ok (.bool (!(decide (a0 = b0) && decide (a1 = b1)))) w := by
  simp [run_neq_struct, run_equalIn_agg, Tryd.underlying23, Tryd.stoodInHeld23, Program.fieldsOf, go_sem]
  (repeat' split) <;> simp_all
set_option maxHeartbeats 4000000 in
theorem walk1_any (P N : List ByteArray) (A1 A2 : Option Addr) (c1 c2 mb b5 b2 b3 b6 : Nat) (hPs : ∀ x ∈ P, x.size ≤ 4000000) (hNs : ∀ x ∈ N, x.size ≤ 4000000) (hPl : P.length ≤ 4000001) (hNl : N.length ≤ 4000001) (w0 : World)
    (hP : Rdl w0 0 1 strCells A1 P) (hN : Rdl w0 0 1 strCells A2 N) (m : Nat) : ∀ (i j : Nat) (w : World) (l : List ((Nat × Nat) × Bool)) (fr : Reg),
    (∀ w1, fr.ok w1 → w1.cell? ⟨b5, 0, none⟩ = some (.map (some mb)) ∧ w1.cell? ⟨b2, 0, none⟩ = some (.slice A1 P.length c1) ∧ w1.cell? ⟨b3, 0, none⟩ = some (.slice A2 N.length c2) ∧ w1.cell? ⟨b6, 0, none⟩ = some (.func (.func 86) #[] #[.pointer (some ⟨b5, 0, none⟩), .pointer (some ⟨b2, 0, none⟩), .pointer (some ⟨b3, 0, none⟩), .pointer (some ⟨b6, 0, none⟩)])) → P.length - i + (N.length - j) = m → i ≤ P.length → j ≤ N.length → MemoOk (wkAt P N) l → Mem w0 [mapr ek2 Value.bool mb l, fr] w →
    Calls Tryd.prog 86 #[.int .i64 (i : Int), .int .i64 (j : Int), .pointer (some ⟨b5, 0, none⟩), .pointer (some ⟨b2, 0, none⟩), .pointer (some ⟨b3, 0, none⟩), .pointer (some ⟨b6, 0, none⟩)] w fun e w' => e = .returned (.bool (wkAt P N i j)) ∧ ∃ l', MemoOk (wkAt P N) l' ∧ Mem w0 [mapr ek2 Value.bool mb l', fr] w' := by
  refine Nat.strongRecOn m ?_
  intro m ih i j w l fr hF hm hi hj hl hM0
  refine gcallsT Tryd.func86 rfl Tryd.ntmps86 (Nat.le_of_ble_eq_true rfl) hM0 ?_
  refine gfrom [(0, .int _ _), (1, .int _ _), (2, .pointer (some _)), (3, .pointer (some _)), (4, .pointer (some _)), (5, .pointer (some _))] ⟨rfl, rfl, rfl, rfl, rfl, rfl, trivial⟩ fun σ => ?_
  refine gseq fun N1 hN1 => ?_
  refine greg ?_
  refine gop (y_assign (v := .bool _) rfl) rfl rfl rfl ?_
  refine gops_nil ?_
  refine hN1 _ _ ?_
  refine gfrom [(0, .int _ _), (1, .int _ _), (2, .pointer (some _)), (3, .pointer (some _)), (4, .pointer (some _)), (5, .pointer (some _))] ⟨rfl, rfl, rfl, rfl, rfl, rfl, trivial⟩ fun σ => ?_
  refine gseq fun N2 hN2 => ?_
  refine gseq fun N3 hN3 => ?_
  refine greg ?_
  refine gop (y_load Tryd.isAgg66 rfl (fun w hM => (hF w (hM.ok _ (List.mem_of_getElem? (i := 1) rfl))).1)) rfl rfl rfl ?_
  refine gop (y_move (v := .int _ _) rfl) rfl rfl rfl ?_
  refine gop (y_move (v := .int _ _) rfl) rfl rfl rfl ?_
  refine gop (y_build (vs := [(0, .int _ _), (1, .int _ _)]) (cells := #[_, _]) rfl (bd69_0_1 _ _)) rfl rfl rfl ?_
  refine gop (y_lookup 0 (c := true) (v0 := .bool false) (u := .tuple #[.bool ((Go.Cf.look l (i, j)).getD false), .bool (Go.Cf.look l (i, j)).isSome]) key2 Tryd.underlying66 Tryd.zeroValue4 rfl (i, j) rfl rfl (by cases Go.Cf.look l (i, j) <;> rfl)) rfl rfl rfl ?_
  refine gop (y_move (v := .tuple #[.bool _, .bool _]) rfl) rfl rfl rfl ?_
  refine gop (y_extract (v := .bool _) rfl rfl) rfl rfl rfl ?_
  refine gop (y_extract (v := .bool _) rfl rfl) rfl rfl rfl ?_
  refine gop (y_assign (v := .bool _) rfl) rfl rfl rfl ?_
  refine gop (y_assign (v := .bool _) rfl) rfl rfl rfl ?_
  refine gops_nil ?_
  refine hN3 _ _ ?_
  refine gfrom [(0, .int _ _), (1, .int _ _), (2, .pointer (some _)), (3, .pointer (some _)), (4, .pointer (some _)), (5, .pointer (some _)), (9, .bool _), (10, .bool _)] ⟨rfl, rfl, rfl, rfl, rfl, rfl, rfl, rfl, trivial⟩ fun σ => ?_
  refine gseq fun N4 hN4 => ?_
  refine greg ?_
  refine gop (y_move (v := .bool _) rfl) rfl rfl rfl ?_
  refine gops_nil ?_
  refine hN4 _ _ ?_
  refine gfrom [(0, .int _ _), (1, .int _ _), (2, .pointer (some _)), (3, .pointer (some _)), (4, .pointer (some _)), (5, .pointer (some _)), (9, .bool _), (20, .bool _)] ⟨rfl, rfl, rfl, rfl, rfl, rfl, rfl, rfl, trivial⟩ fun σ => ?_
  refine gcond (b := _) rfl (fun hc20 => ?_) (fun hc20 => ?_)
  · 
    refine gseq fun N5 hN5 => ?_
    refine greg ?_
    refine gop (y_move (v := .bool _) rfl) rfl rfl rfl ?_
    refine gop (y_assign (v := .bool _) rfl) rfl rfl rfl ?_
    refine gops_nil ?_
    refine hN5 _ _ ?_
    refine gfrom [(8, .bool _)] ⟨rfl, trivial⟩ fun σ => ?_
    refine gret fun w1 hM => ?_
    refine ⟨_, res1 rfl (rt (v := .bool _) rfl), ?_⟩
    exact ⟨by rw [memo_hit hl hc20], l, hl, hM⟩
  · 
    refine gskip ?_
    refine hN2 _ _ ?_
    refine gfrom [(0, .int _ _), (1, .int _ _), (2, .pointer (some _)), (3, .pointer (some _)), (4, .pointer (some _)), (5, .pointer (some _))] ⟨rfl, rfl, rfl, rfl, rfl, rfl, trivial⟩ fun σ => ?_
    refine gseq fun N6 hN6 => ?_
    refine greg ?_
    refine gop (y_assign (v := .bool _) rfl) rfl rfl rfl ?_
    refine gops_nil ?_
    refine hN6 _ _ ?_
    refine gfrom [(0, .int _ _), (1, .int _ _), (2, .pointer (some _)), (3, .pointer (some _)), (4, .pointer (some _)), (5, .pointer (some _))] ⟨rfl, rfl, rfl, rfl, rfl, rfl, trivial⟩ fun σ => ?_
    refine gseq fun N7 hN7 => ?_
    refine gfrom [(0, .int _ _), (1, .int _ _), (2, .pointer (some _)), (3, .pointer (some _)), (4, .pointer (some _)), (5, .pointer (some _))] ⟨rfl, rfl, rfl, rfl, rfl, rfl, trivial⟩ fun σ => ?_
    refine gcut3 (Lf := [(0, .int _ _), (1, .int _ _), (2, .pointer (some _))]) (G := List ((Nat × Nat) × Bool)) (fun l1 => MemoOk (wkAt P N) l1) (fun l1 => [(11, .bool (wkAt P N i j))]) (fun l1 => [(0, mapr ek2 Value.bool mb l1)]) ⟨rfl, rfl, rfl, trivial⟩ ?_ ?_
    ·
      refine gblock ?_
      refine gseq fun N8 hN8 => ?_
      refine greg ?_
      refine gop (y_move (v := .int _ _) rfl) rfl rfl rfl ?_
      refine gop (y_load Tryd.isAgg37 rfl (fun w hM => (hF w (hM.ok _ (List.mem_of_getElem? (i := 1) rfl))).2.1)) rfl rfl rfl ?_
      refine gop (y_len Tryd.underlying37 rfl) rfl rfl rfl ?_
      refine gop (y_eql rfl rfl) rfl rfl rfl ?_
      refine gop (y_assign (v := .bool _) rfl) rfl rfl rfl ?_
      refine gops_nil ?_
      refine hN8 _ _ ?_
      refine gfrom [(0, .int _ _), (1, .int _ _), (2, .pointer (some _)), (3, .pointer (some _)), (4, .pointer (some _)), (5, .pointer (some _)), (45, .bool _)] ⟨rfl, rfl, rfl, rfl, rfl, rfl, rfl, trivial⟩ fun σ => ?_
      refine gcond (b := _) rfl (fun hc45 => ?_) (fun hc45 => ?_)
      · 
        replace hc45 := of_decide_eq_true hc45
        obtain rfl : i = P.length := by omega
        refine greg ?_
        refine gop (y_move (v := .int _ _) rfl) rfl rfl rfl ?_
        refine gop (y_load Tryd.isAgg37 rfl (fun w hM => (hF w (hM.ok _ (List.mem_of_getElem? (i := 1) rfl))).2.2.1)) rfl rfl rfl ?_
        refine gop (y_len Tryd.underlying37 rfl) rfl rfl rfl ?_
        refine gop (y_eql rfl rfl) rfl rfl rfl ?_
        refine gop (y_assign (v := .bool _) rfl) rfl rfl rfl ?_
        refine gops_nil ?_
        refine gcut3_end (l) (hl) ⟨congrArg Value.bool (wk_end hj).symm, trivial⟩ ⟨rfl, rfl, rfl, trivial⟩ ⟨_, rfl⟩
      · 
        replace hc45 := of_decide_eq_false hc45
        have hi1 : i < P.length := by omega
        obtain ⟨ad1, rfl, -, hca⟩ := hP.at_ hi1
        refine gseq fun N9 hN9 => ?_
        refine greg ?_
        refine gop (y_load Tryd.isAgg37 rfl (fun w hM => (hF w (hM.ok _ (List.mem_of_getElem? (i := 1) rfl))).2.1)) rfl rfl rfl ?_
        refine gop (y_move (v := .int _ _) rfl) rfl rfl rfl ?_
        refine gop (y_indexAddr (m := i) Tryd.underlying37 Tryd.sizeOf9 rfl rfl (by omega) (by omega) (by omega)) rfl rfl rfl ?_
        refine gop (y_load Tryd.isAgg9 rfl (cell_base (hca 0 _ rfl))) rfl rfl rfl ?_
        refine gop (y_eqls rfl rfl) rfl rfl rfl ?_
        refine gop (y_assign (v := .bool _) rfl) rfl rfl rfl ?_
        refine gops_nil ?_
        refine hN9 _ _ ?_
        refine gfrom [(0, .int _ _), (1, .int _ _), (2, .pointer (some _)), (3, .pointer (some _)), (4, .pointer (some _)), (5, .pointer (some _)), (54, .bool _)] ⟨rfl, rfl, rfl, rfl, rfl, rfl, rfl, trivial⟩ fun σ => ?_
        refine gcond (b := _) rfl (fun hc54 => ?_) (fun hc54 => ?_)
        · 
          refine greg ?_
          refine gop (y_load Tryd.isAgg67 rfl (fun w hM => (hF w (hM.ok _ (List.mem_of_getElem? (i := 1) rfl))).2.2.2)) rfl rfl rfl ?_
          refine gop (y_move (v := .int _ _) rfl) rfl rfl rfl ?_
          refine gop (y_add rfl rfl ⟨by omega, by omega⟩) rfl rfl rfl ?_
          refine gop (y_move (v := .int _ _) rfl) rfl rfl rfl ?_
          refine gop_does1 0 (fun v r G => ∃ l1, v = .bool (wkAt P N (i + 1) (j)) ∧ r = mapr ek2 Value.bool mb l1 ∧ MemoOk (wkAt P N) l1 ∧ G = []) (e_callv (vs := [.int _ _, .int _ _]) (cs := [.pointer (some ⟨b5, 0, none⟩), .pointer (some ⟨b2, 0, none⟩), .pointer (some ⟨b3, 0, none⟩), .pointer (some ⟨b6, 0, none⟩)]) rfl Tryd.func86 rfl (by kernel_rfl) rfl) rfl (fun w fr1 hfr hM => (ih (P.length - (i + 1) + (N.length - (j))) (by omega) (i + 1) (j) w _ fr1 (fun w1 ho => hF w1 (hfr 1 _ rfl (by decide) w1 ho)) rfl (by omega) (by omega) hl hM).mono fun _ _ ⟨he, l1, h1, h2⟩ => ⟨_, _, [], he, ⟨l1, rfl, rfl, h1, rfl⟩, h2⟩) rfl rfl rfl ?_
          rintro _ _ _ ⟨l1, rfl, rfl, hl1, rfl⟩
          refine gop (y_move (v := .bool _) rfl) rfl rfl rfl ?_
          refine gop_if (want := false) rfl rfl rfl rfl rfl rfl (fun hg65 => ?_) (fun hg65 => ?_)
          · 
            have hg65d := hg65
            refine gop (y_bare (y_move (v := .int _ _) rfl)) rfl rfl rfl ?_
            refine gop_on rfl rfl rfl rfl hg65 ?_
            refine gop (y_bare (y_load Tryd.isAgg37 rfl (fun w hM => (hF w (hM.ok _ (List.mem_of_getElem? (i := 1) rfl))).2.2.1))) rfl rfl rfl ?_
            refine gop_on rfl rfl rfl rfl hg65 ?_
            refine gop (y_bare (y_len Tryd.underlying37 rfl)) rfl rfl rfl ?_
            refine gop_on rfl rfl rfl rfl hg65 ?_
            refine gop (y_bare (y_lss rfl rfl)) rfl rfl rfl ?_
            refine gop_on rfl rfl rfl rfl hg65 ?_
            refine gop (y_bare (y_move (v := .bool _) rfl)) rfl rfl rfl ?_
            refine gop_if (want := true) rfl rfl rfl rfl rfl rfl (fun hg70 => ?_) (fun hg70 => ?_)
            · 
              have hg70d := of_decide_eq_true hg70
              refine gop (y_bare (y_load Tryd.isAgg67 rfl (fun w hM => (hF w (hM.ok _ (List.mem_of_getElem? (i := 1) rfl))).2.2.2))) rfl rfl rfl ?_
              refine gop_on rfl rfl rfl rfl hg70 ?_
              refine gop (y_bare (y_move (v := .int _ _) rfl)) rfl rfl rfl ?_
              refine gop_on rfl rfl rfl rfl hg70 ?_
              refine gop (y_bare (y_move (v := .int _ _) rfl)) rfl rfl rfl ?_
              refine gop_on rfl rfl rfl rfl hg70 ?_
              refine gop (y_bare (y_add rfl rfl ⟨by omega, by omega⟩)) rfl rfl rfl ?_
              refine gop_on rfl rfl rfl rfl hg70 ?_
              refine gop_does1 0 (fun v r G => ∃ l1, v = .bool (wkAt P N (i) (j + 1)) ∧ r = mapr ek2 Value.bool mb l1 ∧ MemoOk (wkAt P N) l1 ∧ G = []) (e_callv (vs := [.int _ _, .int _ _]) (cs := [.pointer (some ⟨b5, 0, none⟩), .pointer (some ⟨b2, 0, none⟩), .pointer (some ⟨b3, 0, none⟩), .pointer (some ⟨b6, 0, none⟩)]) rfl Tryd.func86 rfl (by kernel_rfl) rfl) rfl (fun w fr1 hfr hM => (ih (P.length - (i) + (N.length - (j + 1))) (by omega) (i) (j + 1) w _ fr1 (fun w1 ho => hF w1 (hfr 1 _ rfl (by decide) w1 ho)) rfl (by omega) (by omega) hl1 hM).mono fun _ _ ⟨he, l1, h1, h2⟩ => ⟨_, _, [], he, ⟨l1, rfl, rfl, h1, rfl⟩, h2⟩) rfl rfl rfl ?_
              rintro _ _ _ ⟨l2, rfl, rfl, hl2, rfl⟩
              refine gop_on rfl rfl rfl rfl hg65 ?_
              refine gop (y_bare (y_pick_t (v := .bool _) rfl hg70 rfl)) rfl rfl rfl ?_
              refine gop (y_pick_f (v := .bool _) rfl hg65 rfl) rfl rfl rfl ?_
              refine gop (y_assign (v := .bool _) rfl) rfl rfl rfl ?_
              refine gops_nil ?_
              refine gcut3_end (l2) (hl2) ⟨congrArg Value.bool (wk_star2 hi1 hc54 hg65d (by omega)).symm, trivial⟩ ⟨rfl, rfl, rfl, trivial⟩ ⟨_, rfl⟩
            · 
              have hg70d := of_decide_eq_false hg70
              refine gop_off rfl rfl rfl rfl hg70 rfl rfl ?_
              refine gop_off rfl rfl rfl rfl hg70 rfl rfl ?_
              refine gop_off rfl rfl rfl rfl hg70 rfl rfl ?_
              refine gop_off rfl rfl rfl rfl hg70 rfl rfl ?_
              refine gop_on rfl rfl rfl rfl hg65 ?_
              refine gop (y_bare (y_pick_f (v := .bool _) rfl hg70 rfl)) rfl rfl rfl ?_
              refine gop (y_pick_f (v := .bool _) rfl hg65 rfl) rfl rfl rfl ?_
              refine gop (y_assign (v := .bool _) rfl) rfl rfl rfl ?_
              refine gops_nil ?_
              refine gcut3_end (l1) (hl1) ⟨congrArg Value.bool (wk_star3 hi1 hc54 hg65d (by omega)).symm, trivial⟩ ⟨rfl, rfl, rfl, trivial⟩ ⟨_, rfl⟩
          · 
            have hg65d := hg65
            refine gop_off rfl rfl rfl rfl hg65 rfl rfl ?_
            refine gop_off rfl rfl rfl rfl hg65 rfl rfl ?_
            refine gop_off rfl rfl rfl rfl hg65 rfl rfl ?_
            refine gop_off rfl rfl rfl rfl hg65 rfl rfl ?_
            refine gop_offu rfl rfl rfl rfl rfl rfl ?_
            refine gop_offu rfl rfl rfl rfl rfl rfl ?_
            refine gop_offu rfl rfl rfl rfl rfl rfl ?_
            refine gop_offu rfl rfl rfl rfl rfl rfl ?_
            refine gop_offu rfl rfl rfl rfl rfl rfl ?_
            refine gop_off rfl rfl rfl rfl hg65 rfl rfl ?_
            refine gop (y_pick_t (v := .bool _) rfl hg65 rfl) rfl rfl rfl ?_
            refine gop (y_assign (v := .bool _) rfl) rfl rfl rfl ?_
            refine gops_nil ?_
            refine gcut3_end (l1) (hl1) ⟨congrArg Value.bool (wk_star1 hi1 hc54 (by simpa using hg65d)).symm, trivial⟩ ⟨rfl, rfl, rfl, trivial⟩ ⟨_, rfl⟩
        · 
          refine greg_e0 [21] (by kernel_rfl) ?_
          refine ge_take 0 (TK := [mapr _ _ _ _, fr]) rfl (by kernel_rfl) (by kernel_rfl) (by kernel_rfl) #[false, true, true, false, false, false, false, false, false, false, false, false, false, false, false, false, false, false, false, false, false, false, false, false] (by kernel_rfl) rfl (y_move (v := .int _ _) rfl) rfl rfl rfl (weak_refl) (listed' := #[true, false, false, false, false, false, false, false, false, false, false, false, false, false, false, false, false, false, false, false, false, false, false, false]) rfl ?_
          refine ge_take 1 (TK := [mapr _ _ _ _, fr]) rfl (by kernel_rfl) (by kernel_rfl) (by kernel_rfl) #[true, false, false, false, false, false, false, false, false, false, false, false, false, false, false, false, false, false, false, false, false, false, false, false] (by kernel_rfl) rfl (y_load Tryd.isAgg37 rfl (fun w hM => (hF w (hM.ok _ (List.mem_of_getElem? (i := 1) rfl))).2.2.1)) rfl rfl rfl (weak_refl) (listed' := #[true, true, false, false, false, false, false, false, false, false, false, false, false, false, false, false, false, false, false, false, false, false, false, false]) rfl ?_
          refine ge_take 2 (TK := [mapr _ _ _ _, fr]) rfl (by kernel_rfl) (by kernel_rfl) (by kernel_rfl) #[true, true, false, false, false, false, false, false, false, false, false, false, false, false, false, false, false, false, false, false, false, false, false, false] (by kernel_rfl) rfl (y_len Tryd.underlying37 rfl) rfl rfl rfl (weak_refl) (listed' := #[true, true, true, false, false, false, false, false, false, false, false, false, false, false, false, false, false, false, false, false, false, false, false, false]) rfl ?_
          refine ge_take 3 (TK := [mapr _ _ _ _, fr]) rfl (by kernel_rfl) (by kernel_rfl) (by kernel_rfl) #[true, true, true, false, false, false, false, false, false, false, false, false, false, false, false, false, false, false, false, false, false, false, false, false] (by kernel_rfl) rfl (y_lss rfl rfl) rfl rfl rfl (weak_refl) (listed' := #[true, true, true, true, false, false, false, false, false, false, false, false, false, false, false, false, false, false, false, false, false, false, false, false]) rfl ?_
          refine ge_take 4 (TK := [mapr _ _ _ _, fr]) rfl (by kernel_rfl) (by kernel_rfl) (by kernel_rfl) #[true, true, true, true, false, false, false, false, false, false, false, false, false, false, false, false, false, false, false, false, false, false, false, false] (by kernel_rfl) rfl (y_move (v := .bool _) rfl) rfl rfl rfl (weak_refl) (listed' := #[true, true, true, true, true, false, false, false, false, false, false, false, false, false, false, false, false, false, false, false, false, false, false, false]) rfl ?_
          refine ge_dec 26 true rfl (fun hg26 => ?_) (fun hg26 => ?_)
          · 
            have hg26d := of_decide_eq_true hg26
            have hj1 : j < N.length := by omega
            obtain ⟨ad2, rfl, -, hcb⟩ := hN.at_ hj1
            refine ge_take_on 5 (TK := [mapr _ _ _ _, fr]) rfl (by kernel_rfl) (by kernel_rfl) (by kernel_rfl) #[true, true, true, true, true, false, true, false, false, true, true, true, true, false, false, false, false, false, false, false, false, false, false, false] (by kernel_rfl) rfl rfl rfl rfl rfl hg26 (y_bare (y_load Tryd.isAgg37 rfl (fun w hM => (hF w (hM.ok _ (List.mem_of_getElem? (i := 1) rfl))).2.1))) rfl rfl (weak_refl) (listed' := #[true, true, true, true, true, true, false, false, false, false, false, false, false, false, false, false, false, false, false, false, false, false, false, false]) rfl ?_
            refine ge_take_on 6 (TK := [mapr _ _ _ _, fr]) rfl (by kernel_rfl) (by kernel_rfl) (by kernel_rfl) #[true, true, true, true, true, true, false, false, false, true, true, true, true, false, false, false, false, false, false, false, false, false, false, false] (by kernel_rfl) rfl rfl rfl rfl rfl hg26 (y_bare (y_move (v := .int _ _) rfl)) rfl rfl (weak_refl) (listed' := #[true, true, true, true, true, true, true, false, false, false, false, false, false, false, false, false, false, false, false, false, false, false, false, false]) rfl ?_
            refine ge_take_on 7 (TK := [mapr _ _ _ _, fr]) rfl (by kernel_rfl) (by kernel_rfl) (by kernel_rfl) #[true, true, true, true, true, true, true, false, false, true, true, true, true, false, false, false, false, false, false, false, false, false, false, false] (by kernel_rfl) rfl rfl rfl rfl rfl hg26 (y_bare (y_indexAddr (m := i) Tryd.underlying37 Tryd.sizeOf9 rfl rfl (by omega) (by omega) (by omega))) rfl rfl (weak_refl) (listed' := #[true, true, true, true, true, true, true, true, false, false, false, false, false, false, false, false, false, false, false, false, false, false, false, false]) rfl ?_
            refine ge_take_on 8 (TK := [mapr _ _ _ _, fr]) rfl (by kernel_rfl) (by kernel_rfl) (by kernel_rfl) #[true, true, true, true, true, true, true, true, false, true, true, true, true, false, false, false, false, false, false, false, false, false, false, false] (by kernel_rfl) rfl rfl rfl rfl rfl hg26 (y_bare (y_load Tryd.isAgg9 rfl (cell_base (hca 0 _ rfl)))) rfl rfl (weak_refl) (listed' := #[true, true, true, true, true, true, true, true, true, false, false, false, false, false, false, false, false, false, false, false, false, false, false, false]) rfl ?_
            refine ge_take_on 9 (TK := [mapr _ _ _ _, fr]) rfl (by kernel_rfl) (by kernel_rfl) (by kernel_rfl) #[true, true, true, true, true, true, true, true, true, false, true, false, false, false, false, false, false, false, false, false, false, false, false, false] (by kernel_rfl) rfl rfl rfl rfl rfl hg26 (y_bare (y_load Tryd.isAgg37 rfl (fun w hM => (hF w (hM.ok _ (List.mem_of_getElem? (i := 1) rfl))).2.2.1))) rfl rfl (weak_refl) (listed' := #[true, true, true, true, true, true, true, true, true, true, false, false, false, false, false, false, false, false, false, false, false, false, false, false]) rfl ?_
            refine ge_take_on 10 (TK := [mapr _ _ _ _, fr]) rfl (by kernel_rfl) (by kernel_rfl) (by kernel_rfl) #[true, true, true, true, true, true, true, true, true, true, false, false, false, false, false, false, false, false, false, false, false, false, false, false] (by kernel_rfl) rfl rfl rfl rfl rfl hg26 (y_bare (y_move (v := .int _ _) rfl)) rfl rfl (weak_refl) (listed' := #[true, true, true, true, true, true, true, true, true, true, true, false, false, false, false, false, false, false, false, false, false, false, false, false]) rfl ?_
            refine ge_take_on 11 (TK := [mapr _ _ _ _, fr]) rfl (by kernel_rfl) (by kernel_rfl) (by kernel_rfl) #[true, true, true, true, true, true, true, true, true, true, true, false, false, false, false, false, false, false, false, false, false, false, false, false] (by kernel_rfl) rfl rfl rfl rfl rfl hg26 (y_bare (y_indexAddr (m := j) Tryd.underlying37 Tryd.sizeOf9 rfl rfl (by omega) (by omega) (by omega))) rfl rfl (weak_refl) (listed' := #[true, true, true, true, true, true, true, true, true, true, true, true, false, false, false, false, false, false, false, false, false, false, false, false]) rfl ?_
            refine ge_take_on 12 (TK := [mapr _ _ _ _, fr]) rfl (by kernel_rfl) (by kernel_rfl) (by kernel_rfl) #[true, true, true, true, true, true, true, true, true, true, true, true, false, false, false, false, false, false, false, false, false, false, false, false] (by kernel_rfl) rfl rfl rfl rfl rfl hg26 (y_bare (y_load Tryd.isAgg9 rfl (cell_base (hcb 0 _ rfl)))) rfl rfl (weak_refl) (listed' := #[true, true, true, true, true, true, true, true, true, true, true, true, true, false, false, false, false, false, false, false, false, false, false, false]) rfl ?_
            refine ge_one 13 (k' := 0) (listed' := #[true, true, true, true, true, true, true, true, true, true, true, true, true, true, false, false, false, false, false, false, false, false, false, false]) (by kernel_rfl) rfl rfl rfl ?_
            refine gop_on rfl rfl rfl rfl hg26 ?_
            refine gop_pure (e_call (vs := [.string _, .string _]) Tryd.func87 rfl (by kernel_rfl) rfl) (fun w hM => name_any w _ _ (hPs _ (List.getElem_mem hi1)) (hNs _ (List.getElem_mem hj1))) rfl rfl rfl ?_
            refine gops_nil ?_
            refine ge_fin (TK := [mapr _ _ _ _, fr]) rfl (weak_refl) ?_
            refine ge_take 14 (TK := [mapr _ _ _ _, fr]) rfl (by kernel_rfl) (by kernel_rfl) (by kernel_rfl) #[true, true, true, true, true, true, true, true, true, true, true, true, true, true, false, false, false, false, false, false, false, false, false, false] (by kernel_rfl) rfl (y_pick_t (v := .bool _) rfl hg26 rfl) rfl rfl rfl (weak_refl) (listed' := #[true, true, true, true, true, true, true, true, true, true, true, true, true, true, true, false, false, false, false, false, false, false, false, false]) rfl ?_
            refine ge_take 15 (TK := [mapr _ _ _ _, fr]) rfl (by kernel_rfl) (by kernel_rfl) (by kernel_rfl) #[true, true, true, true, true, true, true, true, true, true, true, true, true, true, true, false, false, false, false, false, false, false, false, false] (by kernel_rfl) rfl (y_move (v := .bool _) rfl) rfl rfl rfl (weak_refl) (listed' := #[true, true, true, true, true, true, true, true, true, true, true, true, true, true, true, true, false, false, false, false, false, false, false, false]) rfl ?_
            refine ge_dec 37 true rfl (fun hg37 => ?_) (fun hg37 => ?_)
            · 
              have hg37d := hg37
              refine ge_take_on 16 (TK := [mapr _ _ _ _, fr]) rfl (by kernel_rfl) (by kernel_rfl) (by kernel_rfl) #[true, true, true, true, true, true, true, true, true, true, true, true, true, true, true, true, false, true, true, true, true, false, false, false] (by kernel_rfl) rfl rfl rfl rfl rfl hg37 (y_bare (y_load Tryd.isAgg67 rfl (fun w hM => (hF w (hM.ok _ (List.mem_of_getElem? (i := 1) rfl))).2.2.2))) rfl rfl (weak_refl) (listed' := #[true, true, true, true, true, true, true, true, true, true, true, true, true, true, true, true, true, false, false, false, false, false, false, false]) rfl ?_
              refine ge_take_on 17 (TK := [mapr _ _ _ _, fr]) rfl (by kernel_rfl) (by kernel_rfl) (by kernel_rfl) #[true, true, true, true, true, true, true, true, true, true, true, true, true, true, true, true, true, false, false, true, true, false, false, false] (by kernel_rfl) rfl rfl rfl rfl rfl hg37 (y_bare (y_move (v := .int _ _) rfl)) rfl rfl (weak_refl) (listed' := #[true, true, true, true, true, true, true, true, true, true, true, true, true, true, true, true, true, true, false, false, false, false, false, false]) rfl ?_
              refine ge_take_on 18 (TK := [mapr _ _ _ _, fr]) rfl (by kernel_rfl) (by kernel_rfl) (by kernel_rfl) #[true, true, true, true, true, true, true, true, true, true, true, true, true, true, true, true, true, true, false, true, true, false, false, false] (by kernel_rfl) rfl rfl rfl rfl rfl hg37 (y_bare (y_add rfl rfl ⟨by omega, by omega⟩)) rfl rfl (weak_refl) (listed' := #[true, true, true, true, true, true, true, true, true, true, true, true, true, true, true, true, true, true, true, false, false, false, false, false]) rfl ?_
              refine ge_take_on 19 (TK := [mapr _ _ _ _, fr]) rfl (by kernel_rfl) (by kernel_rfl) (by kernel_rfl) #[true, true, true, true, true, true, true, true, true, true, true, true, true, true, true, true, true, true, true, false, false, false, false, false] (by kernel_rfl) rfl rfl rfl rfl rfl hg37 (y_bare (y_move (v := .int _ _) rfl)) rfl rfl (weak_refl) (listed' := #[true, true, true, true, true, true, true, true, true, true, true, true, true, true, true, true, true, true, true, true, false, false, false, false]) rfl ?_
              refine ge_take_on 20 (TK := [mapr _ _ _ _, fr]) rfl (by kernel_rfl) (by kernel_rfl) (by kernel_rfl) #[true, true, true, true, true, true, true, true, true, true, true, true, true, true, true, true, true, true, true, true, false, false, false, false] (by kernel_rfl) rfl rfl rfl rfl rfl hg37 (y_bare (y_add rfl rfl ⟨by omega, by omega⟩)) rfl rfl (weak_refl) (listed' := #[true, true, true, true, true, true, true, true, true, true, true, true, true, true, true, true, true, true, true, true, true, false, false, false]) rfl ?_
              refine ge_one 21 (k' := 1) (listed' := #[true, true, true, true, true, true, true, true, true, true, true, true, true, true, true, true, true, true, true, true, true, true, false, false]) (by kernel_rfl) rfl rfl rfl ?_
              refine gop_on rfl rfl rfl rfl hg37 ?_
              refine gop_does1 0 (fun v r G => ∃ l1, v = .bool (wkAt P N (i + 1) (j + 1)) ∧ r = mapr ek2 Value.bool mb l1 ∧ MemoOk (wkAt P N) l1 ∧ G = []) (e_callv (vs := [.int _ _, .int _ _]) (cs := [.pointer (some ⟨b5, 0, none⟩), .pointer (some ⟨b2, 0, none⟩), .pointer (some ⟨b3, 0, none⟩), .pointer (some ⟨b6, 0, none⟩)]) rfl Tryd.func86 rfl (by kernel_rfl) rfl) rfl (fun w fr1 hfr hM => (ih (P.length - (i + 1) + (N.length - (j + 1))) (by omega) (i + 1) (j + 1) w _ fr1 (fun w1 ho => hF w1 (hfr 1 _ rfl (by decide) w1 ho)) rfl (by omega) (by omega) hl hM).mono fun _ _ ⟨he, l1, h1, h2⟩ => ⟨_, _, [], he, ⟨l1, rfl, rfl, h1, rfl⟩, h2⟩) rfl rfl rfl ?_
              rintro _ _ _ ⟨l1, rfl, rfl, hl1, rfl⟩
              refine gops_nil ?_
              refine ge_fin (TK := []) rfl (weak_nil) ?_
              refine ge_take 22 (TK := []) rfl (by kernel_rfl) (by kernel_rfl) (by kernel_rfl) #[true, true, true, true, true, true, true, true, true, true, true, true, true, true, true, true, true, true, true, true, true, true, false, false] (by kernel_rfl) rfl (y_pick_t (v := .bool _) rfl hg37 rfl) rfl rfl rfl (weak_nil) (listed' := #[true, true, true, true, true, true, true, true, true, true, true, true, true, true, true, true, true, true, true, true, true, true, true, false]) rfl ?_
              refine ge_take 23 (TK := []) rfl (by kernel_rfl) (by kernel_rfl) (by kernel_rfl) #[true, true, true, true, true, true, true, true, true, true, true, true, true, true, true, true, true, true, true, true, true, true, true, false] (by kernel_rfl) rfl (y_assign (v := .bool _) rfl) rfl rfl rfl (weak_nil) (listed' := #[true, true, true, true, true, true, true, true, true, true, true, true, true, true, true, true, true, true, true, true, true, true, true, true]) rfl ?_
              refine ge_done (by kernel_rfl) ?_
              refine gcut3_end (l1) (hl1) ⟨congrArg Value.bool (by rw [wk_name hi1 hc54 hj1, hg37d, Bool.true_and]), trivial⟩ ⟨rfl, rfl, rfl, trivial⟩ ⟨_, rfl⟩
            · 
              have hg37d := hg37
              refine ge_take_off 16 (TK := [mapr _ _ _ _, fr]) rfl (by kernel_rfl) (by kernel_rfl) (by kernel_rfl) #[true, true, true, true, true, true, true, true, true, true, true, true, true, true, true, true, false, true, true, true, true, false, false, false] (by kernel_rfl) rfl rfl rfl rfl rfl (off_of hg37) rfl rfl (weak_refl) (listed' := #[true, true, true, true, true, true, true, true, true, true, true, true, true, true, true, true, true, false, false, false, false, false, false, false]) rfl ?_
              refine ge_take_off 17 (TK := [mapr _ _ _ _, fr]) rfl (by kernel_rfl) (by kernel_rfl) (by kernel_rfl) #[true, true, true, true, true, true, true, true, true, true, true, true, true, true, true, true, true, false, false, true, true, false, false, false] (by kernel_rfl) rfl rfl rfl rfl rfl (off_of hg37) rfl rfl (weak_refl) (listed' := #[true, true, true, true, true, true, true, true, true, true, true, true, true, true, true, true, true, true, false, false, false, false, false, false]) rfl ?_
              refine ge_take_off 18 (TK := [mapr _ _ _ _, fr]) rfl (by kernel_rfl) (by kernel_rfl) (by kernel_rfl) #[true, true, true, true, true, true, true, true, true, true, true, true, true, true, true, true, true, true, false, true, true, false, false, false] (by kernel_rfl) rfl rfl rfl rfl rfl (off_of hg37) rfl rfl (weak_refl) (listed' := #[true, true, true, true, true, true, true, true, true, true, true, true, true, true, true, true, true, true, true, false, false, false, false, false]) rfl ?_
              refine ge_take_off 19 (TK := [mapr _ _ _ _, fr]) rfl (by kernel_rfl) (by kernel_rfl) (by kernel_rfl) #[true, true, true, true, true, true, true, true, true, true, true, true, true, true, true, true, true, true, true, false, false, false, false, false] (by kernel_rfl) rfl rfl rfl rfl rfl (off_of hg37) rfl rfl (weak_refl) (listed' := #[true, true, true, true, true, true, true, true, true, true, true, true, true, true, true, true, true, true, true, true, false, false, false, false]) rfl ?_
              refine ge_take_off 20 (TK := [mapr _ _ _ _, fr]) rfl (by kernel_rfl) (by kernel_rfl) (by kernel_rfl) #[true, true, true, true, true, true, true, true, true, true, true, true, true, true, true, true, true, true, true, true, false, false, false, false] (by kernel_rfl) rfl rfl rfl rfl rfl (off_of hg37) rfl rfl (weak_refl) (listed' := #[true, true, true, true, true, true, true, true, true, true, true, true, true, true, true, true, true, true, true, true, true, false, false, false]) rfl ?_
              refine ge_one 21 (k' := 1) (listed' := #[true, true, true, true, true, true, true, true, true, true, true, true, true, true, true, true, true, true, true, true, true, true, false, false]) (by kernel_rfl) rfl rfl rfl ?_
              refine gop_off rfl rfl rfl rfl hg37 rfl rfl ?_
              refine gops_nil ?_
              refine ge_fin (TK := []) rfl (weak_nil) ?_
              refine ge_take 22 (TK := []) rfl (by kernel_rfl) (by kernel_rfl) (by kernel_rfl) #[true, true, true, true, true, true, true, true, true, true, true, true, true, true, true, true, true, true, true, true, true, true, false, false] (by kernel_rfl) rfl (y_pick_f (v := .bool _) rfl hg37 rfl) rfl rfl rfl (weak_nil) (listed' := #[true, true, true, true, true, true, true, true, true, true, true, true, true, true, true, true, true, true, true, true, true, true, true, false]) rfl ?_
              refine ge_take 23 (TK := []) rfl (by kernel_rfl) (by kernel_rfl) (by kernel_rfl) #[true, true, true, true, true, true, true, true, true, true, true, true, true, true, true, true, true, true, true, true, true, true, true, false] (by kernel_rfl) rfl (y_assign (v := .bool _) rfl) rfl rfl rfl (weak_nil) (listed' := #[true, true, true, true, true, true, true, true, true, true, true, true, true, true, true, true, true, true, true, true, true, true, true, true]) rfl ?_
              refine ge_done (by kernel_rfl) ?_
              refine gcut3_end (l) (hl) ⟨congrArg Value.bool (by rw [wk_name hi1 hc54 hj1, hg37d]; rfl), trivial⟩ ⟨rfl, rfl, rfl, trivial⟩ ⟨_, rfl⟩
          · 
            have hg26d := of_decide_eq_false hg26
            refine ge_take_off 5 (TK := [mapr _ _ _ _, fr]) rfl (by kernel_rfl) (by kernel_rfl) (by kernel_rfl) #[true, true, true, true, true, false, true, false, false, true, true, true, true, false, false, false, false, false, false, false, false, false, false, false] (by kernel_rfl) rfl rfl rfl rfl rfl (off_of hg26) rfl rfl (weak_refl) (listed' := #[true, true, true, true, true, true, false, false, false, false, false, false, false, false, false, false, false, false, false, false, false, false, false, false]) rfl ?_
            refine ge_take_off 6 (TK := [mapr _ _ _ _, fr]) rfl (by kernel_rfl) (by kernel_rfl) (by kernel_rfl) #[true, true, true, true, true, true, false, false, false, true, true, true, true, false, false, false, false, false, false, false, false, false, false, false] (by kernel_rfl) rfl rfl rfl rfl rfl (off_of hg26) rfl rfl (weak_refl) (listed' := #[true, true, true, true, true, true, true, false, false, false, false, false, false, false, false, false, false, false, false, false, false, false, false, false]) rfl ?_
            refine ge_take_off 7 (TK := [mapr _ _ _ _, fr]) rfl (by kernel_rfl) (by kernel_rfl) (by kernel_rfl) #[true, true, true, true, true, true, true, false, false, true, true, true, true, false, false, false, false, false, false, false, false, false, false, false] (by kernel_rfl) rfl rfl rfl rfl rfl (off_of hg26) rfl rfl (weak_refl) (listed' := #[true, true, true, true, true, true, true, true, false, false, false, false, false, false, false, false, false, false, false, false, false, false, false, false]) rfl ?_
            refine ge_take_off 8 (TK := [mapr _ _ _ _, fr]) rfl (by kernel_rfl) (by kernel_rfl) (by kernel_rfl) #[true, true, true, true, true, true, true, true, false, true, true, true, true, false, false, false, false, false, false, false, false, false, false, false] (by kernel_rfl) rfl rfl rfl rfl rfl (off_of hg26) rfl rfl (weak_refl) (listed' := #[true, true, true, true, true, true, true, true, true, false, false, false, false, false, false, false, false, false, false, false, false, false, false, false]) rfl ?_
            refine ge_take_off 9 (TK := [mapr _ _ _ _, fr]) rfl (by kernel_rfl) (by kernel_rfl) (by kernel_rfl) #[true, true, true, true, true, true, true, true, true, false, true, false, false, false, false, false, false, false, false, false, false, false, false, false] (by kernel_rfl) rfl rfl rfl rfl rfl (off_of hg26) rfl rfl (weak_refl) (listed' := #[true, true, true, true, true, true, true, true, true, true, false, false, false, false, false, false, false, false, false, false, false, false, false, false]) rfl ?_
            refine ge_take_off 10 (TK := [mapr _ _ _ _, fr]) rfl (by kernel_rfl) (by kernel_rfl) (by kernel_rfl) #[true, true, true, true, true, true, true, true, true, true, false, false, false, false, false, false, false, false, false, false, false, false, false, false] (by kernel_rfl) rfl rfl rfl rfl rfl (off_of hg26) rfl rfl (weak_refl) (listed' := #[true, true, true, true, true, true, true, true, true, true, true, false, false, false, false, false, false, false, false, false, false, false, false, false]) rfl ?_
            refine ge_take_off 11 (TK := [mapr _ _ _ _, fr]) rfl (by kernel_rfl) (by kernel_rfl) (by kernel_rfl) #[true, true, true, true, true, true, true, true, true, true, true, false, false, false, false, false, false, false, false, false, false, false, false, false] (by kernel_rfl) rfl rfl rfl rfl rfl (off_of hg26) rfl rfl (weak_refl) (listed' := #[true, true, true, true, true, true, true, true, true, true, true, true, false, false, false, false, false, false, false, false, false, false, false, false]) rfl ?_
            refine ge_take_off 12 (TK := [mapr _ _ _ _, fr]) rfl (by kernel_rfl) (by kernel_rfl) (by kernel_rfl) #[true, true, true, true, true, true, true, true, true, true, true, true, false, false, false, false, false, false, false, false, false, false, false, false] (by kernel_rfl) rfl rfl rfl rfl rfl (off_of hg26) rfl rfl (weak_refl) (listed' := #[true, true, true, true, true, true, true, true, true, true, true, true, true, false, false, false, false, false, false, false, false, false, false, false]) rfl ?_
            refine ge_one 13 (k' := 0) (listed' := #[true, true, true, true, true, true, true, true, true, true, true, true, true, true, false, false, false, false, false, false, false, false, false, false]) (by kernel_rfl) rfl rfl rfl ?_
            refine gop_off rfl rfl rfl rfl hg26 rfl rfl ?_
            refine gops_nil ?_
            refine ge_fin (TK := [mapr _ _ _ _, fr]) rfl (weak_refl) ?_
            refine ge_take 14 (TK := [mapr _ _ _ _, fr]) rfl (by kernel_rfl) (by kernel_rfl) (by kernel_rfl) #[true, true, true, true, true, true, true, true, true, true, true, true, true, true, false, false, false, false, false, false, false, false, false, false] (by kernel_rfl) rfl (y_pick_f (v := .bool _) rfl hg26 rfl) rfl rfl rfl (weak_refl) (listed' := #[true, true, true, true, true, true, true, true, true, true, true, true, true, true, true, false, false, false, false, false, false, false, false, false]) rfl ?_
            refine ge_take 15 (TK := [mapr _ _ _ _, fr]) rfl (by kernel_rfl) (by kernel_rfl) (by kernel_rfl) #[true, true, true, true, true, true, true, true, true, true, true, true, true, true, true, false, false, false, false, false, false, false, false, false] (by kernel_rfl) rfl (y_move (v := .bool _) rfl) rfl rfl rfl (weak_refl) (listed' := #[true, true, true, true, true, true, true, true, true, true, true, true, true, true, true, true, false, false, false, false, false, false, false, false]) rfl ?_
            refine ge_take_off 16 (TK := [mapr _ _ _ _, fr]) rfl (by kernel_rfl) (by kernel_rfl) (by kernel_rfl) #[true, true, true, true, true, true, true, true, true, true, true, true, true, true, true, true, false, true, true, true, true, false, false, false] (by kernel_rfl) rfl rfl rfl rfl rfl (off_of rfl) rfl rfl (weak_refl) (listed' := #[true, true, true, true, true, true, true, true, true, true, true, true, true, true, true, true, true, false, false, false, false, false, false, false]) rfl ?_
            refine ge_take_off 17 (TK := [mapr _ _ _ _, fr]) rfl (by kernel_rfl) (by kernel_rfl) (by kernel_rfl) #[true, true, true, true, true, true, true, true, true, true, true, true, true, true, true, true, true, false, false, true, true, false, false, false] (by kernel_rfl) rfl rfl rfl rfl rfl (off_of rfl) rfl rfl (weak_refl) (listed' := #[true, true, true, true, true, true, true, true, true, true, true, true, true, true, true, true, true, true, false, false, false, false, false, false]) rfl ?_
            refine ge_take_off 18 (TK := [mapr _ _ _ _, fr]) rfl (by kernel_rfl) (by kernel_rfl) (by kernel_rfl) #[true, true, true, true, true, true, true, true, true, true, true, true, true, true, true, true, true, true, false, true, true, false, false, false] (by kernel_rfl) rfl rfl rfl rfl rfl (off_of rfl) rfl rfl (weak_refl) (listed' := #[true, true, true, true, true, true, true, true, true, true, true, true, true, true, true, true, true, true, true, false, false, false, false, false]) rfl ?_
            refine ge_take_off 19 (TK := [mapr _ _ _ _, fr]) rfl (by kernel_rfl) (by kernel_rfl) (by kernel_rfl) #[true, true, true, true, true, true, true, true, true, true, true, true, true, true, true, true, true, true, true, false, false, false, false, false] (by kernel_rfl) rfl rfl rfl rfl rfl (off_of rfl) rfl rfl (weak_refl) (listed' := #[true, true, true, true, true, true, true, true, true, true, true, true, true, true, true, true, true, true, true, true, false, false, false, false]) rfl ?_
            refine ge_take_off 20 (TK := [mapr _ _ _ _, fr]) rfl (by kernel_rfl) (by kernel_rfl) (by kernel_rfl) #[true, true, true, true, true, true, true, true, true, true, true, true, true, true, true, true, true, true, true, true, false, false, false, false] (by kernel_rfl) rfl rfl rfl rfl rfl (off_of rfl) rfl rfl (weak_refl) (listed' := #[true, true, true, true, true, true, true, true, true, true, true, true, true, true, true, true, true, true, true, true, true, false, false, false]) rfl ?_
            refine ge_one 21 (k' := 1) (listed' := #[true, true, true, true, true, true, true, true, true, true, true, true, true, true, true, true, true, true, true, true, true, true, false, false]) (by kernel_rfl) rfl rfl rfl ?_
            refine gop_off rfl rfl rfl rfl rfl rfl rfl ?_
            refine gops_nil ?_
            refine ge_fin (TK := []) rfl (weak_nil) ?_
            refine ge_take 22 (TK := []) rfl (by kernel_rfl) (by kernel_rfl) (by kernel_rfl) #[true, true, true, true, true, true, true, true, true, true, true, true, true, true, true, true, true, true, true, true, true, true, false, false] (by kernel_rfl) rfl (y_pick_f (v := .bool _) rfl rfl rfl) rfl rfl rfl (weak_nil) (listed' := #[true, true, true, true, true, true, true, true, true, true, true, true, true, true, true, true, true, true, true, true, true, true, true, false]) rfl ?_
            refine ge_take 23 (TK := []) rfl (by kernel_rfl) (by kernel_rfl) (by kernel_rfl) #[true, true, true, true, true, true, true, true, true, true, true, true, true, true, true, true, true, true, true, true, true, true, true, false] (by kernel_rfl) rfl (y_assign (v := .bool _) rfl) rfl rfl rfl (weak_nil) (listed' := #[true, true, true, true, true, true, true, true, true, true, true, true, true, true, true, true, true, true, true, true, true, true, true, true]) rfl ?_
            refine ge_done (by kernel_rfl) ?_
            refine gcut3_end (l) (hl) ⟨congrArg Value.bool (wk_name0 hi1 hc54 (by omega)).symm, trivial⟩ ⟨rfl, rfl, rfl, trivial⟩ ⟨_, rfl⟩
    ·
      intro l1 hcut σ
      refine hN7 _ _ ?_
      have hl1 := hcut
      refine gseq fun N10 hN10 => ?_
      refine greg ?_
      refine gop (y_load Tryd.isAgg66 rfl (fun w hM => (hF w (hM.ok _ (List.mem_of_getElem? (i := 1) rfl))).1)) rfl rfl rfl ?_
      refine gop (y_move (v := .int _ _) rfl) rfl rfl rfl ?_
      refine gop (y_move (v := .int _ _) rfl) rfl rfl rfl ?_
      refine gop (y_build (vs := [(0, .int _ _), (1, .int _ _)]) (cells := #[_, _]) rfl (bd69_0_1 _ _)) rfl rfl rfl ?_
      refine gop (y_move (v := .bool _) rfl) rfl rfl rfl ?_
      refine gop_mapUpdate 0 key2 Tryd.underlying66 rfl ((i, j)) (_) rfl rfl rfl rfl rfl ?_
      refine gops_nil ?_
      refine hN10 _ _ ?_
      refine gT [mapr _ _ _ _, fr] rfl ?_
      refine gfrom [(11, .bool _)] ⟨rfl, trivial⟩ fun σ => ?_
      refine gseq fun N11 hN11 => ?_
      refine greg ?_
      refine gop (y_move (v := .bool _) rfl) rfl rfl rfl ?_
      refine gop (y_assign (v := .bool _) rfl) rfl rfl rfl ?_
      refine gops_nil ?_
      refine hN11 _ _ ?_
      refine gfrom [(8, .bool _)] ⟨rfl, trivial⟩ fun σ => ?_
      refine gret fun w1 hM => ?_
      refine ⟨_, res1 rfl (rt (v := .bool _) rfl), ?_⟩
      exact ⟨rfl, _, memo_put hl1 i j, hM⟩
set_option maxHeartbeats 1000000 in
theorem walk_any (w : World) (P N : List ByteArray) (A1 A2 : Option Addr) (c1 c2 : Nat) (hPs : ∀ x ∈ P, x.size ≤ 4000000) (hNs : ∀ x ∈ N, x.size ≤ 4000000) (hPl : P.length ≤ 4000001) (hNl : N.length ≤ 4000001) (hP : Rdl w 0 1 strCells A1 P) (hN : Rdl w 0 1 strCells A2 N) : Calls Tryd.prog 69 #[.slice A1 P.length c1, .slice A2 N.length c2] w fun e w' => e = .returned (.bool (wkAt P N 0 0)) ∧ Below w.heap.size w w' := by
  refine gcalls Tryd.func69 rfl Tryd.ntmps69 (Nat.le_of_ble_eq_true rfl) ?_
  refine gfrom [(0, .slice _ _ _), (1, .slice _ _ _)] ⟨rfl, rfl, trivial⟩ fun σ => ?_
  refine gseq fun N1 hN1 => ?_
  refine greg ?_
  refine gop_box (v := .slice _ _ _) (cs := #[_]) rfl rfl rfl (fun b2 hb2 => ?_)
  refine gop_box (v := .slice _ _ _) (cs := #[_]) rfl rfl rfl (fun b3 hb3 => ?_)
  refine gop (y_assign (v := .bool _) rfl) rfl rfl rfl ?_
  refine gops_nil ?_
  refine hN1 _ _ ?_
  refine gT [box b2 _, box b3 _] rfl ?_
  refine gfrom [(2, .pointer _), (3, .pointer _)] ⟨rfl, rfl, trivial⟩ fun σ => ?_
  refine gseq fun N2 hN2 => ?_
  refine greg ?_
  refine gop_makeMap ek2 Value.bool rfl (fun b7 hb7 => ?_)
  refine gop_alloc (cs := #[.map none]) Tryd.zeroValue66 rfl rfl (fun b5 hb5 => ?_)
  refine gop_store 3 (v := .map (some b7)) (cs' := #[_]) rfl rfl Tryd.sizeOf66 rfl rfl rfl rfl (Nat.le_of_ble_eq_true rfl) rfl rfl ?_
  refine gops_nil ?_
  refine hN2 _ _ ?_
  refine gT [box b2 _, box b3 _, mapr _ _ _ _, box b5 _] rfl ?_
  refine gfrom [(2, .pointer _), (3, .pointer _), (5, .pointer _)] ⟨rfl, rfl, rfl, trivial⟩ fun σ => ?_
  refine gseq fun N3 hN3 => ?_
  refine greg ?_
  refine gop_alloc (cs := #[.nilFunc]) Tryd.zeroValue67 rfl rfl (fun b6 hb6 => ?_)
  refine gops_nil ?_
  refine hN3 _ _ ?_
  refine gT [box b2 _, box b3 _, mapr _ _ _ _, box b5 _, box b6 _] rfl ?_
  refine gfrom [(2, .pointer _), (3, .pointer _), (5, .pointer _), (6, .pointer _)] ⟨rfl, rfl, rfl, rfl, trivial⟩ fun σ => ?_
  refine gseq fun N4 hN4 => ?_
  refine greg ?_
  refine gop (y_makeFunc (vs := [.pointer (some ⟨b5, 0, none⟩), .pointer (some ⟨b2, 0, none⟩), .pointer (some ⟨b3, 0, none⟩), .pointer (some ⟨b6, 0, none⟩)]) rfl) rfl rfl rfl ?_
  refine gop_store 4 (v := .func (.func 86) #[] #[.pointer (some ⟨b5, 0, none⟩), .pointer (some ⟨b2, 0, none⟩), .pointer (some ⟨b3, 0, none⟩), .pointer (some ⟨b6, 0, none⟩)]) (cs' := #[_]) rfl rfl Tryd.sizeOf67 rfl rfl rfl rfl (Nat.le_of_ble_eq_true rfl) rfl rfl ?_
  refine gops_nil ?_
  refine hN4 _ _ ?_
  refine gT [box b2 _, box b3 _, mapr _ _ _ _, box b5 _, box b6 _] rfl ?_
  refine gfrom [(6, .pointer _)] ⟨rfl, trivial⟩ fun σ => ?_
  refine gseq fun N5 hN5 => ?_
  refine greg ?_
  refine gop (y_load Tryd.isAgg67 rfl (cell_box 4 rfl rfl)) rfl rfl rfl ?_
  refine gop_does1 2 (fun v r G => ∃ l1, v = .bool (wkAt P N 0 0) ∧ r = mapr ek2 Value.bool b7 l1 ∧ G = []) (e_callv (vs := [.int _ _, .int _ _]) (cs := [.pointer (some ⟨b5, 0, none⟩), .pointer (some ⟨b2, 0, none⟩), .pointer (some ⟨b3, 0, none⟩), .pointer (some ⟨b6, 0, none⟩)]) rfl Tryd.func86 rfl (by kernel_rfl) rfl) rfl (fun w fr1 hfr hM => (walk1_any P N _ _ _ _ b7 b5 b2 b3 b6 hPs hNs hPl hNl _ hP hN _ 0 0 w [] fr1 (fun w1 ho => ⟨box_cell (hfr 3 _ rfl (by decide) w1 ho) rfl, box_cell (hfr 0 _ rfl (by decide) w1 ho) rfl, box_cell (hfr 1 _ rfl (by decide) w1 ho) rfl, box_cell (hfr 4 _ rfl (by decide) w1 ho) rfl⟩) rfl (Nat.zero_le _) (Nat.zero_le _) (memo_nil _) hM).mono fun _ _ ⟨he, l1, h1, h2⟩ => ⟨_, _, [], he, ⟨l1, rfl, rfl, rfl⟩, h2⟩) rfl rfl rfl ?_
  rintro _ _ _ ⟨l1, rfl, rfl, rfl⟩
  refine gop (y_assign (v := .bool _) rfl) rfl rfl rfl ?_
  refine gops_nil ?_
  refine hN5 _ _ ?_
  refine gT [box b2 _, box b3 _, mapr _ _ _ _, box b5 _, box b6 _] rfl ?_
  refine gfrom [(4, .bool _)] ⟨rfl, trivial⟩ fun σ => ?_
  refine gret fun w1 hM => ?_
  refine ⟨_, res1 rfl (rt (v := .bool _) rfl), ?_⟩
  exact ⟨rfl, hM.low⟩
set_option maxHeartbeats 1000000 in
theorem matches_any (w : World) (p s : ByteArray) (hp : p.size ≤ 4000000) (hs : s.size ≤ 4000000) : Calls Tryd.prog 43 #[.string p, .string s] w fun e w' => e = .returned (.bool (wk (cutS p) (cutS s))) ∧ Below w.heap.size w w' := by
  have hc1 := cutS_len p
  have hc2 := cutS_len s
  refine gcalls Tryd.func43 rfl Tryd.ntmps43 (Nat.le_of_ble_eq_true rfl) ?_
  refine gfrom [(0, .string _), (1, .string _)] ⟨rfl, rfl, trivial⟩ fun σ => ?_
  refine gseq fun N1 hN1 => ?_
  refine greg ?_
  refine gop (y_assign (v := .bool _) rfl) rfl rfl rfl ?_
  refine gops_nil ?_
  refine hN1 _ _ ?_
  refine gfrom [(0, .string _), (1, .string _)] ⟨rfl, rfl, trivial⟩ fun σ => ?_
  refine gseq fun N2 hN2 => ?_
  refine greg ?_
  refine gop (y_move (v := .string _) rfl) rfl rfl rfl ?_
  refine gop_got (fun v T' => ∃ lo, w.heap.size ≤ lo ∧ T' = [rowl strCells lo 9 1 v (cutS p)]) (e_call (vs := [.string _, _]) Tryd.func44 rfl (by kernel_rfl) rfl) (fun w hM => (split_any w p hp).mono fun _ _ ⟨v, T1, h1, h2, h3⟩ => ⟨v, T1, h1, ⟨_, hM.low.size, h2⟩, h3⟩) rfl rfl rfl ?_
  rintro v6 _ ⟨lo6, hlo6, rfl⟩
  refine gops_fact (fun w hM => row_form (hM.ok _ (List.mem_of_getElem? (i := 0) rfl))) ?_
  rintro ⟨A6, c6, rfl, hc6, hm6, hn6⟩
  refine gop (y_move (v := .string _) rfl) rfl rfl rfl ?_
  refine gop_got (fun v T' => ∃ lo, w.heap.size ≤ lo ∧ T' = [rowl strCells lo 9 1 v (cutS s)]) (e_call (vs := [.string _, _]) Tryd.func44 rfl (by kernel_rfl) rfl) (fun w hM => (split_any w s hs).mono fun _ _ ⟨v, T1, h1, h2, h3⟩ => ⟨v, T1, h1, ⟨_, hM.low.size, h2⟩, h3⟩) rfl rfl rfl ?_
  rintro v8 _ ⟨lo8, hlo8, rfl⟩
  refine gops_fact (fun w hM => row_form (hM.ok _ (List.mem_of_getElem? (i := 1) rfl))) ?_
  rintro ⟨A8, c8, rfl, hc8, hm8, hn8⟩
  refine gop_pure (e_call (vs := [.slice A6 _ c6, .slice A8 _ c8]) Tryd.func69 rfl (by kernel_rfl) rfl) (fun w hM => walk_any w (cutS p) (cutS s) _ _ _ _ (fun _ h => cutS_size h hp) (fun _ h => cutS_size h hs) (by omega) (by omega) ((row_rdl (f := strCells) (fun _ => rfl) (hM.ok _ (List.mem_of_getElem? (i := 0) rfl))).mono (Nat.zero_le _)) ((row_rdl (f := strCells) (fun _ => rfl) (hM.ok _ (List.mem_of_getElem? (i := 1) rfl))).mono (Nat.zero_le _))) rfl rfl rfl ?_
  refine gop (y_assign (v := .bool _) rfl) rfl rfl rfl ?_
  refine gops_nil ?_
  refine hN2 _ _ ?_
  refine gT [rowl _ _ _ _ _ _, rowl _ _ _ _ _ _] rfl ?_
  refine gfrom [(4, .bool _)] ⟨rfl, trivial⟩ fun σ => ?_
  refine gret fun w1 hM => ?_
  refine ⟨_, res1 rfl (rt (v := .bool _) rfl), ?_⟩
  exact ⟨rfl, hM.low⟩
set_option maxHeartbeats 1000000 in
theorem match_any (w : World) (p s : ByteArray) : Calls Tryd.prog 14 #[.string p, .string s] w fun e w' => e = .returned (.tuple #[.bool (matchV p s), fv (matchF p s)]) ∧ Below w.heap.size w w' := by
  refine gcalls Tryd.func14 rfl Tryd.ntmps14 (Nat.le_of_ble_eq_true rfl) ?_
  refine gfrom [(0, .string _), (1, .string _)] ⟨rfl, rfl, trivial⟩ fun σ => ?_
  refine gseq fun N1 hN1 => ?_
  refine greg ?_
  refine gop (y_assign (v := .bool _) rfl) rfl rfl rfl ?_
  refine gop_alloc (cs := #[.int .i64 0, .int .i64 0]) Tryd.zeroValue23 rfl rfl (fun b5 hb5 => ?_)
  refine gops_nil ?_
  refine hN1 _ _ ?_
  refine gT [box b5 _] rfl ?_
  refine gfrom [(0, .string _), (1, .string _), (5, .pointer _)] ⟨rfl, rfl, rfl, trivial⟩ fun σ => ?_
  refine gseq fun N2 hN2 => ?_
  refine gseq fun N3 hN3 => ?_
  refine greg ?_
  refine gop (y_move (v := .string _) rfl) rfl rfl rfl ?_
  refine gop_pure (e_call (vs := [.string _]) Tryd.func38 rfl (by kernel_rfl) rfl) (fun w hM => validate_any w _) rfl rfl rfl ?_
  refine gop_alloc (cs := #[.int .i64 0, .int .i64 0]) Tryd.zeroValue23 rfl rfl (fun b6 hb6 => ?_)
  refine gop_store 1 (v := .agg #[_, _]) (cs' := #[_, _]) rfl rfl Tryd.sizeOf23 rfl rfl rfl rfl (Nat.le_of_ble_eq_true rfl) rfl rfl ?_
  refine gops_nil ?_
  refine hN3 _ _ ?_
  refine gT [box b5 _, box b6 _] rfl ?_
  refine gfrom [(0, .string _), (1, .string _), (5, .pointer _), (6, .pointer _)] ⟨rfl, rfl, rfl, rfl, trivial⟩ fun σ => ?_
  refine gseq fun N4 hN4 => ?_
  refine greg ?_
  refine gop (y_loads (cs := [_, _]) Tryd.isAgg23 Tryd.sizeOf23 rfl rfl (cells_box 1 rfl)) rfl rfl rfl ?_
  refine gop (y_build (vs := []) (cells := #[.int .i64 0, .int .i64 0]) rfl bd23_) rfl rfl rfl ?_
  refine gop (y_bin (vx := .agg #[_, _]) (vy := .agg #[_, _]) rfl rfl (fun w => eg23 _ _ _ _ _ w) (fun w => ne23 _ _ _ _ w)) rfl rfl rfl ?_
  refine gops_nil ?_
  refine hN4 _ _ ?_
  refine gfrom [(0, .string _), (1, .string _), (5, .pointer _), (6, .pointer _), (11, .bool _)] ⟨rfl, rfl, rfl, rfl, rfl, trivial⟩ fun σ => ?_
  refine gcond (b := _) rfl (fun hc11 => ?_) (fun hc11 => ?_)
  · 
    replace hc11 := fault_ne.1 hc11
    refine gseq fun N5 hN5 => ?_
    refine greg_e1 [] [(0, room b5 23 2)] (by kernel_rfl) ?_
    refine ge_take 0 (TK := [room b5 23 2, box b6 _]) rfl (by kernel_rfl) (by kernel_rfl) (by kernel_rfl) #[false, true, false] (by kernel_rfl) rfl (y_loads (cs := [_, _]) Tryd.isAgg23 Tryd.sizeOf23 rfl rfl (cells_box 1 rfl)) rfl rfl rfl (weak_room 0 rfl rfl) (listed' := #[true, false, false]) rfl ?_
    refine ge_take 1 (TK := [room b5 23 2, box b6 _]) rfl (by kernel_rfl) (by kernel_rfl) (by kernel_rfl) #[true, false, false] (by kernel_rfl) rfl (y_assign (v := .bool _) rfl) rfl rfl rfl (weak_room 0 rfl rfl) (listed' := #[true, true, false]) rfl ?_
    refine ge_one 2 (k' := 0) (listed' := #[true, true, true]) (by kernel_rfl) rfl rfl rfl ?_
    refine gop_store 0 (v := .agg #[_, _]) (cs' := #[_, _]) rfl rfl Tryd.sizeOf23 rfl rfl rfl rfl (Nat.le_of_ble_eq_true rfl) rfl rfl ?_
    refine gops_nil ?_
    refine ge_fin (TK := [room b5 23 2, box b6 _]) rfl (weak_room 0 rfl rfl) ?_
    refine ge_done (by kernel_rfl) ?_
    refine hN5 _ _ ?_
    refine gT [box b5 _, box b6 _] rfl ?_
    refine gfrom [(4, .bool _), (5, .pointer _)] ⟨rfl, rfl, trivial⟩ fun σ => ?_
    refine gret fun w1 hM => ?_
    refine ⟨_, res2 rfl (rt (v := .bool _) rfl) (rc 0 (cs := [_, _]) hM rfl rfl Tryd.isAgg23 Tryd.sizeOf23 rfl), ?_⟩
    exact ⟨by rw [matchV, matchF, if_neg (fun h => hc11 h.1), if_pos hc11], hM.low⟩
  · 
    replace hc11 := fault_eq.1 hc11
    have hp60 := patFault_size hc11
    refine gskip ?_
    refine hN2 _ _ ?_
    refine gfrom [(0, .string _), (1, .string _), (5, .pointer _)] ⟨rfl, rfl, rfl, trivial⟩ fun σ => ?_
    refine gseq fun N6 hN6 => ?_
    refine gseq fun N7 hN7 => ?_
    refine greg ?_
    refine gop (y_move (v := .string _) rfl) rfl rfl rfl ?_
    refine gop_pure (e_call (vs := [.string _]) Tryd.func42 rfl (by kernel_rfl) rfl) (fun w hM => validPath_any w _) rfl rfl rfl ?_
    refine gop (y_not rfl) rfl rfl rfl ?_
    refine gops_nil ?_
    refine hN7 _ _ ?_
    refine gfrom [(0, .string _), (1, .string _), (5, .pointer _), (15, .bool _)] ⟨rfl, rfl, rfl, rfl, trivial⟩ fun σ => ?_
    refine gcond (b := _) rfl (fun hc15 => ?_) (fun hc15 => ?_)
    · 
      replace hc15 := not_t hc15
      refine gseq fun N8 hN8 => ?_
      refine greg ?_
      refine gop (y_build (vs := [(0, _), (1, _)]) (cells := #[_, _]) rfl (bd23_0_1 _ _)) rfl rfl rfl ?_
      refine gop (y_assign (v := .bool _) rfl) rfl rfl rfl ?_
      refine gop_store 0 (v := .agg #[_, _]) (cs' := #[_, _]) rfl rfl Tryd.sizeOf23 rfl rfl rfl rfl (Nat.le_of_ble_eq_true rfl) rfl rfl ?_
      refine gops_nil ?_
      refine hN8 _ _ ?_
      refine gT [box b5 _, box b6 _] rfl ?_
      refine gfrom [(4, .bool _), (5, .pointer _)] ⟨rfl, rfl, trivial⟩ fun σ => ?_
      refine gret fun w1 hM => ?_
      refine ⟨_, res2 rfl (rt (v := .bool _) rfl) (rc 0 (cs := [_, _]) hM rfl rfl Tryd.isAgg23 Tryd.sizeOf23 rfl), ?_⟩
      exact ⟨by rw [matchV, matchF, if_neg (fun h => absurd h.2 (by simp [hc15])), if_neg (fun h => h hc11), hc15]; rfl, hM.low⟩
    · 
      replace hc15 := not_f hc15
      have hs60 := pathOk_size hc15
      refine gskip ?_
      refine hN6 _ _ ?_
      refine gfrom [(0, .string _), (1, .string _), (5, .pointer _)] ⟨rfl, rfl, rfl, trivial⟩ fun σ => ?_
      refine gseq fun N9 hN9 => ?_
      refine greg ?_
      refine gop (y_move (v := .string _) rfl) rfl rfl rfl ?_
      refine gop (y_move (v := .string _) rfl) rfl rfl rfl ?_
      refine gop_pure (e_call (vs := [.string _, .string _]) Tryd.func43 rfl (by kernel_rfl) rfl) (fun w hM => matches_any w _ _ (by omega) (by omega)) rfl rfl rfl ?_
      refine gop (y_build (vs := []) (cells := #[.int .i64 0, .int .i64 0]) rfl bd23_) rfl rfl rfl ?_
      refine gop (y_assign (v := .bool _) rfl) rfl rfl rfl ?_
      refine gop_store 0 (v := .agg #[_, _]) (cs' := #[_, _]) rfl rfl Tryd.sizeOf23 rfl rfl rfl rfl (Nat.le_of_ble_eq_true rfl) rfl rfl ?_
      refine gops_nil ?_
      refine hN9 _ _ ?_
      refine gT [box b5 _, box b6 _] rfl ?_
      refine gfrom [(4, .bool _), (5, .pointer _)] ⟨rfl, rfl, trivial⟩ fun σ => ?_
      refine gret fun w1 hM => ?_
      refine ⟨_, res2 rfl (rt (v := .bool _) rfl) (rc 0 (cs := [_, _]) hM rfl rfl Tryd.isAgg23 Tryd.sizeOf23 rfl), ?_⟩
      exact ⟨by rw [matchV, matchF, if_pos ⟨hc11, hc15⟩, if_neg (fun h => h hc11), hc15]; rfl, hM.low⟩
end Go.Proofs.YtijpaljdclhehaaDoor
namespace Go.Proofs.YtijpaljdclhehaaDoor
open Go.RowKit Go.Cf
set_option maxRecDepth 10000
theorem fa89_0 (a : Addr) (w : World) : (Instr.fieldAt 89 (.pointer (some a)) 0).run Tryd.prog w = .ok (.pointer (some (a.add 0))) w := by kernel_rfl
theorem fa89_1 (a : Addr) (w : World) : (Instr.fieldAt 89 (.pointer (some a)) 1).run Tryd.prog w = .ok (.pointer (some (a.add 1))) w := by kernel_rfl
theorem fa89_2 (a : Addr) (w : World) : (Instr.fieldAt 89 (.pointer (some a)) 2).run Tryd.prog w = .ok (.pointer (some (a.add 2))) w := by kernel_rfl
theorem bd89_0_1_2 (x1 : Int) (x2 : Int) (x3 : Int) : Tryd.prog.built 89 [(0, .int .i64 x1), (1, .int .i64 x2), (2, .int .i64 x3)] = some #[.int .i64 x1, .int .i64 x2, .int .i64 x3] := by kernel_rfl
theorem el89 : Elem Tryd.prog 89 3 24 := elem_of (z := .agg #[.int .i64 0, .int .i64 0, .int .i64 0]) (by kernel_rfl) rfl (by decide)
set_option maxHeartbeats 1000000 in
theorem wild_any (w : World) (c : Nat) : Calls Tryd.prog 91 #[.int .u8 (c : Int)] w fun e w' => e = .returned (.bool (wildB c)) ∧ Below w.heap.size w w' := by
  refine gcalls Tryd.func91 rfl Tryd.ntmps91 (Nat.le_of_ble_eq_true rfl) ?_
  refine gfrom [(0, .int _ _)] ⟨rfl, trivial⟩ fun σ => ?_
  refine gseq fun N1 hN1 => ?_
  refine greg ?_
  refine gop (y_assign (v := .bool _) rfl) rfl rfl rfl ?_
  refine gops_nil ?_
  refine hN1 _ _ ?_
  refine gfrom [(0, .int _ _)] ⟨rfl, trivial⟩ fun σ => ?_
  refine gseq fun N2 hN2 => ?_
  refine greg ?_
  refine gop (y_move (v := .int _ _) rfl) rfl rfl rfl ?_
  refine gop (y_eql rfl rfl) rfl rfl rfl ?_
  refine gop (y_move (v := .bool _) rfl) rfl rfl rfl ?_
  refine gop_if (want := false) rfl rfl rfl rfl rfl rfl (fun hg5 => ?_) (fun hg5 => ?_)
  · 
    have hg5d := of_decide_eq_false hg5
    refine gop (y_bare (y_move (v := .int _ _) rfl)) rfl rfl rfl ?_
    refine gop_on rfl rfl rfl rfl hg5 ?_
    refine gop (y_bare (y_eql rfl rfl)) rfl rfl rfl ?_
    refine gop (y_pick_f (v := .bool _) rfl hg5 rfl) rfl rfl rfl ?_
    refine gop (y_assign (v := .bool _) rfl) rfl rfl rfl ?_
    refine gops_nil ?_
    refine hN2 _ _ ?_
    refine gfrom [(2, .bool _)] ⟨rfl, trivial⟩ fun σ => ?_
    refine gret fun w1 hM => ?_
    refine ⟨_, res1 rfl (rt (v := .bool _) rfl), ?_⟩
    exact ⟨by unfold wildB; first | rw [decide_eq_true (show c = 42 by omega)]; rfl | (rw [decide_eq_false (show ¬ c = 42 by omega), Bool.false_or]; exact congrArg (fun b => Ending.returned (Value.bool b)) (decide_eq_decide.2 (by omega))), hM.low⟩
  · 
    have hg5d := of_decide_eq_true hg5
    refine gop_off rfl rfl rfl rfl hg5 rfl rfl ?_
    refine gop (y_pick_t (v := .bool _) rfl hg5 rfl) rfl rfl rfl ?_
    refine gop (y_assign (v := .bool _) rfl) rfl rfl rfl ?_
    refine gops_nil ?_
    refine hN2 _ _ ?_
    refine gfrom [(2, .bool _)] ⟨rfl, trivial⟩ fun σ => ?_
    refine gret fun w1 hM => ?_
    refine ⟨_, res1 rfl (rt (v := .bool _) rfl), ?_⟩
    exact ⟨by unfold wildB; first | rw [decide_eq_true (show c = 42 by omega)]; rfl | (rw [decide_eq_false (show ¬ c = 42 by omega), Bool.false_or]; exact congrArg (fun b => Ending.returned (Value.bool b)) (decide_eq_decide.2 (by omega))), hM.low⟩
set_option maxHeartbeats 4000000 in
theorem next_any (w : World) (p q : ByteArray) (i j d : Nat) (hp : p.size ≤ 4000000) (hq : q.size ≤ 4000000) (hi : i ≤ p.size) (hj : j ≤ q.size) (hd : d ≤ 3) :
    Calls Tryd.prog 71 #[.string p, .string q, .agg #[.int .i64 (i : Int), .int .i64 (j : Int), .int .i64 (d : Int)]] w fun e w' => ∃ v T', e = .returned v ∧ T' = [rowl placeCells w.heap.size 89 3 v (nextL p q (i, j, d))] ∧ Mem w T' w' := by
  have hla := nxA_len p (i, j, d)
  have hlb := nxB_len q (i, j, d)
  refine gcalls Tryd.func71 rfl Tryd.ntmps71 (Nat.le_of_ble_eq_true rfl) ?_
  refine gfrom [(0, .string _), (1, .string _), (2, .agg #[_, _, _])] ⟨rfl, rfl, rfl, trivial⟩ fun σ => ?_
  refine gnilrow placeCells 89 3 ?_
  refine gseq fun N1 hN1 => ?_
  refine greg ?_
  refine gop_box (v := .agg #[_, _, _]) (cs := #[_, _, _]) rfl rfl rfl (fun b5 hb5 => ?_)
  refine gop (y_assign (v := .slice _ _ _) rfl) rfl rfl rfl ?_
  refine gops_nil ?_
  refine hN1 _ _ ?_
  refine gT [rowl _ _ _ _ _ _, box b5 _] rfl ?_
  refine gfrom [(0, .string _), (1, .string _), (5, .pointer _)] ⟨rfl, rfl, rfl, trivial⟩ fun σ => ?_
  refine gseq fun N2 hN2 => ?_
  refine greg ?_
  refine gop (y_assign (v := .slice _ _ _) rfl) rfl rfl rfl ?_
  refine gops_nil ?_
  refine hN2 _ _ ?_
  refine gfrom [(0, .string _), (1, .string _), (5, .pointer _), (7, .slice _ _ _)] ⟨rfl, rfl, rfl, rfl, trivial⟩ fun σ => ?_
  refine gseq fun N3 hN3 => ?_
  refine greg_q (by kernel_rfl) (by kernel_rfl) ?_
  refine gq (y_fieldAddr_box fa89_0 rfl) rfl rfl rfl ?_
  refine gq (y_load Tryd.isAgg3 rfl (cell_box 1 rfl rfl)) rfl rfl rfl ?_
  refine gq (y_move (v := .string _) rfl) rfl rfl rfl ?_
  refine gq (y_lens Tryd.underlying9 rfl) rfl rfl rfl ?_
  refine gq (y_lss rfl rfl) rfl rfl rfl ?_
  refine gq (y_fieldAddr_box fa89_1 rfl) rfl rfl rfl ?_
  refine gq (y_load Tryd.isAgg3 rfl (cell_box 1 rfl rfl)) rfl rfl rfl ?_
  refine gq (y_move (v := .string _) rfl) rfl rfl rfl ?_
  refine gq (y_lens Tryd.underlying9 rfl) rfl rfl rfl ?_
  refine gq (y_lss rfl rfl) rfl rfl rfl ?_
  refine gq (y_assign (v := .bool _) rfl) rfl rfl rfl ?_
  refine gq (y_assign (v := .bool _) rfl) rfl rfl rfl ?_
  refine gqs_nil ?_
  refine hN3 _ _ ?_
  refine gfrom [(0, .string _), (1, .string _), (5, .pointer _), (7, .slice _ _ _), (8, .bool _), (9, .bool _)] ⟨rfl, rfl, rfl, rfl, rfl, rfl, trivial⟩ fun σ => ?_
  refine gseq fun N4 hN4 => ?_
  refine gfrom [(0, .string _), (1, .string _), (5, .pointer _), (7, .slice _ _ _), (8, .bool _), (9, .bool _)] ⟨rfl, rfl, rfl, rfl, rfl, rfl, trivial⟩ fun σ => ?_
  refine gcut3 (Lf := [(0, .string _), (1, .string _), (5, .pointer _), (8, .bool _), (9, .bool _)]) (G := Option Addr × Nat × List Pl) (fun (A, c, l) => l = nxA p (i, j, d)) (fun (A, c, l) => [(7, .slice A l.length c)]) (fun (A, c, l) => [(0, rowl placeCells w.heap.size 89 3 (.slice A (l).length c) (l))]) ⟨rfl, rfl, rfl, rfl, rfl, trivial⟩ ?_ ?_
  ·
    refine gseq fun N5 hN5 => ?_
    refine greg ?_
    refine gop (y_move (v := .bool _) rfl) rfl rfl rfl ?_
    refine gop (y_move (v := .bool _) rfl) rfl rfl rfl ?_
    refine gop_if (want := true) rfl rfl rfl rfl rfl rfl (fun hg25 => ?_) (fun hg25 => ?_)
    · 
      have hg25d := of_decide_eq_true hg25
      refine gop (y_bare (y_move (v := .string _) rfl)) rfl rfl rfl ?_
      refine gop_on rfl rfl rfl rfl hg25 ?_
      refine gop (y_bare (y_fieldAddr_box fa89_0 rfl)) rfl rfl rfl ?_
      refine gop_on rfl rfl rfl rfl hg25 ?_
      refine gop (y_bare (y_load Tryd.isAgg3 rfl (cell_box 1 rfl rfl))) rfl rfl rfl ?_
      refine gop_on rfl rfl rfl rfl hg25 ?_
      refine gop (y_bare (y_stridx (m := i) Tryd.underlying9 rfl rfl (by omega) (by omega) (by omega))) rfl rfl rfl ?_
      refine gop_on rfl rfl rfl rfl hg25 ?_
      refine gop (y_bare (y_eql rfl rfl)) rfl rfl rfl ?_
      refine gop (y_pick_t (v := .bool _) rfl hg25 rfl) rfl rfl rfl ?_
      refine gops_nil ?_
      refine hN5 _ _ ?_
      refine gfrom [(0, .string _), (1, .string _), (5, .pointer _), (7, .slice _ _ _), (8, .bool _), (9, .bool _), (31, .bool _)] ⟨rfl, rfl, rfl, rfl, rfl, rfl, rfl, trivial⟩ fun σ => ?_
      refine gcond (b := _) rfl (fun hc31 => ?_) (fun hc31 => ?_)
      · 
        replace hc31 := of_decide_eq_true hc31
        refine greg ?_
        refine gop (y_move (v := .slice _ _ _) rfl) rfl rfl rfl ?_
        refine gop (y_fieldAddr_box fa89_0 rfl) rfl rfl rfl ?_
        refine gop (y_load Tryd.isAgg3 rfl (cell_box 1 rfl rfl)) rfl rfl rfl ?_
        refine gop (y_add rfl rfl ⟨by omega, by omega⟩) rfl rfl rfl ?_
        refine gop (y_fieldAddr_box fa89_1 rfl) rfl rfl rfl ?_
        refine gop (y_load Tryd.isAgg3 rfl (cell_box 1 rfl rfl)) rfl rfl rfl ?_
        refine gop (y_fieldAddr_box fa89_2 rfl) rfl rfl rfl ?_
        refine gop (y_load Tryd.isAgg3 rfl (cell_box 1 rfl rfl)) rfl rfl rfl ?_
        refine gop (y_build (vs := [(0, .int _ _), (1, .int _ _), (2, .int _ _)]) (cells := #[_, _, _]) rfl (bd89_0_1_2 _ _ _)) rfl rfl rfl ?_
        refine gop_lit (vs := [.agg #[_, _, _]]) (cells := #[_, _, _]) Tryd.underlying90 Tryd.sizeOf89 Tryd.zeroValue89 rfl (by decide) (by decide) rfl rfl rfl rfl (fun b41 hb41 => ?_)
        refine gop_append 0 (f := placeCells) (l2 := [(i + 1, j, d)]) Tryd.underlying90 el89 wide_place (v := .slice _ _ _) rfl rfl rfl rfl (fun h => by cases h) (by simp [maxLen] <;> omega) (by simp <;> omega) (src_box 2 rfl rfl) rfl (fun v42 => ?_)
        refine gops_fact (fun w hM => own_form (hM.own 0 rfl)) ?_
        rintro ⟨A42, c42, rfl, hc42, hm42⟩
        refine gop (y_assign (v := .slice A42 _ c42) rfl) rfl rfl rfl ?_
        refine gops_nil ?_
        refine gcut3_end ((A42, c42, [(i + 1, j, d)])) (by show _ = nxA p (i, j, d); rw [nxA, if_pos ⟨by show i < p.size; omega, by show byteAt p i = 42; omega⟩]) ⟨rfl, trivial⟩ ⟨rfl, rfl, rfl, rfl, rfl, trivial⟩ ⟨_, rfl⟩
      · 
        replace hc31 := of_decide_eq_false hc31
        refine gskip ?_
        refine gcut3_end ((none, 0, [])) (by show _ = nxA p (i, j, d); rw [nxA, if_neg (by show ¬ (i < p.size ∧ byteAt p i = 42); omega)]) ⟨rfl, trivial⟩ ⟨rfl, rfl, rfl, rfl, rfl, trivial⟩ ⟨_, rfl⟩
    · 
      have hg25d := of_decide_eq_false hg25
      refine gop_off rfl rfl rfl rfl hg25 rfl rfl ?_
      refine gop_off rfl rfl rfl rfl hg25 rfl rfl ?_
      refine gop_off rfl rfl rfl rfl hg25 rfl rfl ?_
      refine gop_off rfl rfl rfl rfl hg25 rfl rfl ?_
      refine gop (y_pick_f (v := .bool _) rfl hg25 rfl) rfl rfl rfl ?_
      refine gops_nil ?_
      refine hN5 _ _ ?_
      refine gfrom [(0, .string _), (1, .string _), (5, .pointer _), (7, .slice _ _ _), (8, .bool _), (9, .bool _), (31, .bool _)] ⟨rfl, rfl, rfl, rfl, rfl, rfl, rfl, trivial⟩ fun σ => ?_
      refine gcond (b := _) rfl (fun hc31 => ?_) (fun hc31 => ?_)
      · 
        cases hc31
      · 
        refine gskip ?_
        refine gcut3_end ((none, 0, [])) (by show _ = nxA p (i, j, d); rw [nxA, if_neg (by show ¬ (i < p.size ∧ byteAt p i = 42); omega)]) ⟨rfl, trivial⟩ ⟨rfl, rfl, rfl, rfl, rfl, trivial⟩ ⟨_, rfl⟩
  ·
    rintro ⟨A, c, l⟩ hcut σ
    refine hN4 _ _ ?_
    have hcut : l = nxA p (i, j, d) := hcut
    subst hcut
    refine gseq fun N6 hN6 => ?_
    refine gT [rowl _ _ _ _ _ _, box b5 _] rfl ?_
    refine gfrom [(0, .string _), (1, .string _), (5, .pointer _), (7, .slice A _ c), (8, .bool _), (9, .bool _)] ⟨rfl, rfl, rfl, rfl, rfl, rfl, trivial⟩ fun σ => ?_
    refine gcut3 (Lf := [(0, .string _), (1, .string _), (5, .pointer _), (8, .bool _), (9, .bool _)]) (G := Option Addr × Nat × List Pl) (fun (A, c, l) => l = nxA p (i, j, d) ++ nxB q (i, j, d)) (fun (A, c, l) => [(7, .slice A l.length c)]) (fun (A, c, l) => [(0, rowl placeCells w.heap.size 89 3 (.slice A (l).length c) (l))]) ⟨rfl, rfl, rfl, rfl, rfl, trivial⟩ ?_ ?_
    ·
      refine gseq fun N7 hN7 => ?_
      refine greg ?_
      refine gop (y_move (v := .bool _) rfl) rfl rfl rfl ?_
      refine gop (y_move (v := .bool _) rfl) rfl rfl rfl ?_
      refine gop_if (want := true) rfl rfl rfl rfl rfl rfl (fun hg44 => ?_) (fun hg44 => ?_)
      · 
        have hg44d := of_decide_eq_true hg44
        refine gop (y_bare (y_move (v := .string _) rfl)) rfl rfl rfl ?_
        refine gop_on rfl rfl rfl rfl hg44 ?_
        refine gop (y_bare (y_fieldAddr_box fa89_1 rfl)) rfl rfl rfl ?_
        refine gop_on rfl rfl rfl rfl hg44 ?_
        refine gop (y_bare (y_load Tryd.isAgg3 rfl (cell_box 1 rfl rfl))) rfl rfl rfl ?_
        refine gop_on rfl rfl rfl rfl hg44 ?_
        refine gop (y_bare (y_stridx (m := j) Tryd.underlying9 rfl rfl (by omega) (by omega) (by omega))) rfl rfl rfl ?_
        refine gop_on rfl rfl rfl rfl hg44 ?_
        refine gop (y_bare (y_eql rfl rfl)) rfl rfl rfl ?_
        refine gop (y_pick_t (v := .bool _) rfl hg44 rfl) rfl rfl rfl ?_
        refine gops_nil ?_
        refine hN7 _ _ ?_
        refine gfrom [(0, .string _), (1, .string _), (5, .pointer _), (7, .slice A _ c), (8, .bool _), (9, .bool _), (50, .bool _)] ⟨rfl, rfl, rfl, rfl, rfl, rfl, rfl, trivial⟩ fun σ => ?_
        refine gcond (b := _) rfl (fun hc50 => ?_) (fun hc50 => ?_)
        · 
          replace hc50 := of_decide_eq_true hc50
          refine greg ?_
          refine gop (y_move (v := .slice A _ c) rfl) rfl rfl rfl ?_
          refine gop (y_fieldAddr_box fa89_0 rfl) rfl rfl rfl ?_
          refine gop (y_load Tryd.isAgg3 rfl (cell_box 1 rfl rfl)) rfl rfl rfl ?_
          refine gop (y_fieldAddr_box fa89_1 rfl) rfl rfl rfl ?_
          refine gop (y_load Tryd.isAgg3 rfl (cell_box 1 rfl rfl)) rfl rfl rfl ?_
          refine gop (y_add rfl rfl ⟨by omega, by omega⟩) rfl rfl rfl ?_
          refine gop (y_fieldAddr_box fa89_2 rfl) rfl rfl rfl ?_
          refine gop (y_load Tryd.isAgg3 rfl (cell_box 1 rfl rfl)) rfl rfl rfl ?_
          refine gop (y_build (vs := [(0, .int _ _), (1, .int _ _), (2, .int _ _)]) (cells := #[_, _, _]) rfl (bd89_0_1_2 _ _ _)) rfl rfl rfl ?_
          refine gop_lit (vs := [.agg #[_, _, _]]) (cells := #[_, _, _]) Tryd.underlying90 Tryd.sizeOf89 Tryd.zeroValue89 rfl (by decide) (by decide) rfl rfl rfl rfl (fun b60 hb60 => ?_)
          refine gop_append 0 (f := placeCells) (l2 := [(i, j + 1, d)]) Tryd.underlying90 el89 wide_place (v := .slice A _ c) rfl rfl rfl rfl (fun h => by cases h) (by simp [maxLen] <;> omega) (by simp <;> omega) (src_box 2 rfl rfl) rfl (fun v61 => ?_)
          refine gops_fact (fun w hM => own_form (hM.own 0 rfl)) ?_
          rintro ⟨A61, c61, rfl, hc61, hm61⟩
          refine gop (y_assign (v := .slice A61 _ c61) rfl) rfl rfl rfl ?_
          refine gops_nil ?_
          refine gcut3_end ((A61, c61, nxA p (i, j, d) ++ [(i, j + 1, d)])) (by show _ = _ ++ nxB q (i, j, d); rw [nxB, if_pos ⟨by show j < q.size; omega, by show byteAt q j = 42; omega⟩]) ⟨rfl, trivial⟩ ⟨rfl, rfl, rfl, rfl, rfl, trivial⟩ ⟨_, rfl⟩
        · 
          replace hc50 := of_decide_eq_false hc50
          refine gskip ?_
          refine gcut3_end ((A, c, nxA p (i, j, d))) (by show _ = _ ++ nxB q (i, j, d); rw [nxB, if_neg (by show ¬ (j < q.size ∧ byteAt q j = 42); omega), List.append_nil]) ⟨rfl, trivial⟩ ⟨rfl, rfl, rfl, rfl, rfl, trivial⟩ ⟨_, rfl⟩
      · 
        have hg44d := of_decide_eq_false hg44
        refine gop_off rfl rfl rfl rfl hg44 rfl rfl ?_
        refine gop_off rfl rfl rfl rfl hg44 rfl rfl ?_
        refine gop_off rfl rfl rfl rfl hg44 rfl rfl ?_
        refine gop_off rfl rfl rfl rfl hg44 rfl rfl ?_
        refine gop (y_pick_f (v := .bool _) rfl hg44 rfl) rfl rfl rfl ?_
        refine gops_nil ?_
        refine hN7 _ _ ?_
        refine gfrom [(0, .string _), (1, .string _), (5, .pointer _), (7, .slice A _ c), (8, .bool _), (9, .bool _), (50, .bool _)] ⟨rfl, rfl, rfl, rfl, rfl, rfl, rfl, trivial⟩ fun σ => ?_
        refine gcond (b := _) rfl (fun hc50 => ?_) (fun hc50 => ?_)
        · 
          cases hc50
        · 
          refine gskip ?_
          refine gcut3_end ((A, c, nxA p (i, j, d))) (by show _ = _ ++ nxB q (i, j, d); rw [nxB, if_neg (by show ¬ (j < q.size ∧ byteAt q j = 42); omega), List.append_nil]) ⟨rfl, trivial⟩ ⟨rfl, rfl, rfl, rfl, rfl, trivial⟩ ⟨_, rfl⟩
    ·
      rintro ⟨A, c, l⟩ hcut σ
      refine hN6 _ _ ?_
      have hcut : l = nxA p (i, j, d) ++ nxB q (i, j, d) := hcut
      subst hcut
      refine gseq fun N8 hN8 => ?_
      refine gseq fun N9 hN9 => ?_
      refine greg ?_
      refine gop (y_move (v := .bool _) rfl) rfl rfl rfl ?_
      refine gop (y_not rfl) rfl rfl rfl ?_
      refine gop (y_move (v := .bool _) rfl) rfl rfl rfl ?_
      refine gop_if (want := false) rfl rfl rfl rfl rfl rfl (fun hg64 => ?_) (fun hg64 => ?_)
      · 
        have hg64d := not_f hg64
        replace hg64d := of_decide_eq_true hg64d
        refine gop (y_bare (y_move (v := .bool _) rfl)) rfl rfl rfl ?_
        refine gop_on rfl rfl rfl rfl hg64 ?_
        refine gop (y_bare (y_not rfl)) rfl rfl rfl ?_
        refine gop (y_pick_f (v := .bool _) rfl hg64 rfl) rfl rfl rfl ?_
        refine gops_nil ?_
        refine hN9 _ _ ?_
        refine gT [rowl _ _ _ _ _ _, box b5 _] rfl ?_
        refine gfrom [(0, .string _), (1, .string _), (5, .pointer _), (7, .slice A _ c), (67, .bool _)] ⟨rfl, rfl, rfl, rfl, rfl, trivial⟩ fun σ => ?_
        refine gcond (b := _) rfl (fun hc67 => ?_) (fun hc67 => ?_)
        · 
          replace hc67 := not_t hc67
          try replace hc67 := of_decide_eq_false hc67
          refine gseq fun N10 hN10 => ?_
          refine greg ?_
          refine gop (y_move (v := .slice A _ c) rfl) rfl rfl rfl ?_
          refine gop (y_assign (v := .slice A _ c) rfl) rfl rfl rfl ?_
          refine gops_nil ?_
          refine hN10 _ _ ?_
          refine gfrom [(6, .slice A _ c)] ⟨rfl, trivial⟩ fun σ => ?_
          refine gret fun w1 hM => ?_
          refine ⟨_, res1 rfl (rt (v := .slice A _ c) rfl), ?_⟩
          have hC : nxC p q (i, j, d) = [] := by rw [nxC, if_neg (by rintro ⟨h1, h2, -⟩; change i < p.size at h1; change j < q.size at h2; omega)]
          have hL : nxA p (i, j, d) ++ nxB q (i, j, d) = nextL p q (i, j, d) := by rw [nextL, hC, List.append_nil]
          exact ⟨_, _, rfl, by rw [← hL], weak_take (T' := [_]) rfl _ hM⟩
        · 
          replace hc67 := not_f hc67
          replace hc67 := of_decide_eq_true hc67
          refine gskip ?_
          refine hN8 _ _ ?_
          refine gfrom [(0, .string _), (1, .string _), (5, .pointer _), (7, .slice A _ c)] ⟨rfl, rfl, rfl, rfl, trivial⟩ fun σ => ?_
          refine gseq fun N11 hN11 => ?_
          refine greg_q (by kernel_rfl) (by kernel_rfl) ?_
          refine gq (y_move (v := .string _) rfl) rfl rfl rfl ?_
          refine gq (y_fieldAddr_box fa89_0 rfl) rfl rfl rfl ?_
          refine gq (y_load Tryd.isAgg3 rfl (cell_box 1 rfl rfl)) rfl rfl rfl ?_
          refine gq (y_stridx (m := i) Tryd.underlying9 rfl rfl (by omega) (by omega) (by omega)) rfl rfl rfl ?_
          refine gq (y_move (v := .string _) rfl) rfl rfl rfl ?_
          refine gq (y_fieldAddr_box fa89_1 rfl) rfl rfl rfl ?_
          refine gq (y_load Tryd.isAgg3 rfl (cell_box 1 rfl rfl)) rfl rfl rfl ?_
          refine gq (y_stridx (m := j) Tryd.underlying9 rfl rfl (by omega) (by omega) (by omega)) rfl rfl rfl ?_
          refine gq (y_assign (v := .int _ _) rfl) rfl rfl rfl ?_
          refine gq (y_assign (v := .int _ _) rfl) rfl rfl rfl ?_
          refine gqs_nil ?_
          refine hN11 _ _ ?_
          refine gfrom [(5, .pointer _), (7, .slice A _ c), (10, .int _ _), (11, .int _ _)] ⟨rfl, rfl, rfl, rfl, trivial⟩ fun σ => ?_
          refine gseq fun N12 hN12 => ?_
          refine greg ?_
          refine gop (y_assign (v := .func (.func 91) #[] #[]) rfl) rfl rfl rfl ?_
          refine gops_nil ?_
          refine hN12 _ _ ?_
          refine gfrom [(5, .pointer _), (7, .slice A _ c), (10, .int _ _), (11, .int _ _), (12, .func (.func 91) #[] #[])] ⟨rfl, rfl, rfl, rfl, rfl, trivial⟩ fun σ => ?_
          refine gseq fun N13 hN13 => ?_
          refine gfrom [(5, .pointer _), (7, .slice A _ c), (10, .int _ _), (11, .int _ _), (12, .func (.func 91) #[] #[])] ⟨rfl, rfl, rfl, rfl, rfl, trivial⟩ fun σ => ?_
          refine gcut3 (Lf := [(5, .pointer _), (7, .slice A _ c), (10, .int _ _), (11, .int _ _)]) (G := Unit) (fun g => fits p q (i, j, d)) (fun g => []) (fun g => []) ⟨rfl, rfl, rfl, rfl, trivial⟩ ?_ ?_
          ·
            refine gseq fun N14 hN14 => ?_
            refine greg ?_
            refine gop (y_move (v := .func (.func 91) #[] #[]) rfl) rfl rfl rfl ?_
            refine gop (y_move (v := .int _ _) rfl) rfl rfl rfl ?_
            refine gop_pure (e_callv (vs := [.int _ _]) (cs := []) rfl Tryd.func91 rfl (by kernel_rfl) rfl) (fun w hM => wild_any w _) rfl rfl rfl ?_
            refine gop (y_not rfl) rfl rfl rfl ?_
            refine gop (y_move (v := .bool _) rfl) rfl rfl rfl ?_
            refine gop_if (want := true) rfl rfl rfl rfl rfl rfl (fun hg81 => ?_) (fun hg81 => ?_)
            · 
              have hg81d := not_t hg81
              refine gop (y_bare (y_move (v := .func (.func 91) #[] #[]) rfl)) rfl rfl rfl ?_
              refine gop_on rfl rfl rfl rfl hg81 ?_
              refine gop (y_bare (y_move (v := .int _ _) rfl)) rfl rfl rfl ?_
              refine gop_on rfl rfl rfl rfl hg81 ?_
              refine gop_pure (e_callv (vs := [.int _ _]) (cs := []) rfl Tryd.func91 rfl (by kernel_rfl) rfl) (fun w hM => wild_any w _) rfl rfl rfl ?_
              refine gop_on rfl rfl rfl rfl hg81 ?_
              refine gop (y_bare (y_not rfl)) rfl rfl rfl ?_
              refine gop (y_pick_t (v := .bool _) rfl hg81 rfl) rfl rfl rfl ?_
              refine gop (y_move (v := .bool _) rfl) rfl rfl rfl ?_
              refine gop_if (want := true) rfl rfl rfl rfl rfl rfl (fun hg87 => ?_) (fun hg87 => ?_)
              · 
                have hg87d := not_t hg87
                refine gop (y_bare (y_move (v := .int _ _) rfl)) rfl rfl rfl ?_
                refine gop_on rfl rfl rfl rfl hg87 ?_
                refine gop (y_bare (y_move (v := .int _ _) rfl)) rfl rfl rfl ?_
                refine gop_on rfl rfl rfl rfl hg87 ?_
                refine gop (y_bare (y_neq rfl rfl)) rfl rfl rfl ?_
                refine gop (y_pick_t (v := .bool _) rfl hg87 rfl) rfl rfl rfl ?_
                refine gops_nil ?_
                refine hN14 _ _ ?_
                refine gfrom [(5, .pointer _), (7, .slice A _ c), (10, .int _ _), (11, .int _ _), (91, .bool _)] ⟨rfl, rfl, rfl, rfl, rfl, trivial⟩ fun σ => ?_
                refine gcond (b := _) rfl (fun hc91 => ?_) (fun hc91 => ?_)
                · 
                  replace hc91 := of_decide_eq_true hc91
                  refine gseq fun N15 hN15 => ?_
                  refine greg ?_
                  refine gop (y_move (v := .slice A _ c) rfl) rfl rfl rfl ?_
                  refine gop (y_assign (v := .slice A _ c) rfl) rfl rfl rfl ?_
                  refine gops_nil ?_
                  refine hN15 _ _ ?_
                  refine gfrom [(6, .slice A _ c)] ⟨rfl, trivial⟩ fun σ => ?_
                  refine gret fun w1 hM => ?_
                  refine ⟨_, res1 rfl (rt (v := .slice A _ c) rfl), ?_⟩
                  have hC : nxC p q (i, j, d) = [] := by rw [nxC, if_neg (by rintro ⟨-, -, h⟩; rcases h with h | h | h; simp_all; simp_all; exact hc91 (by change byteAt p i = byteAt q j at h; omega))]
                  have hL : nxA p (i, j, d) ++ nxB q (i, j, d) = nextL p q (i, j, d) := by rw [nextL, hC, List.append_nil]
                  exact ⟨_, _, rfl, by rw [← hL], weak_take (T' := [_]) rfl _ hM⟩
                · 
                  replace hc91 := Decidable.not_not.1 (of_decide_eq_false hc91)
                  refine gskip ?_
                  refine gcut3_end (()) (.inr (.inr (show byteAt p i = byteAt q j by omega))) trivial ⟨rfl, rfl, rfl, rfl, trivial⟩ ⟨_, rfl⟩
              · 
                have hg87d := not_f hg87
                refine gop_off rfl rfl rfl rfl hg87 rfl rfl ?_
                refine gop_off rfl rfl rfl rfl hg87 rfl rfl ?_
                refine gop (y_pick_f (v := .bool _) rfl hg87 rfl) rfl rfl rfl ?_
                refine gops_nil ?_
                refine hN14 _ _ ?_
                refine gfrom [(5, .pointer _), (7, .slice A _ c), (10, .int _ _), (11, .int _ _), (91, .bool _)] ⟨rfl, rfl, rfl, rfl, rfl, trivial⟩ fun σ => ?_
                refine gcond (b := _) rfl (fun hc91 => ?_) (fun hc91 => ?_)
                · 
                  cases hc91
                · 
                  refine gskip ?_
                  refine gcut3_end (()) (.inr (.inl (by simpa using hg87d))) trivial ⟨rfl, rfl, rfl, rfl, trivial⟩ ⟨_, rfl⟩
            · 
              have hg81d := not_f hg81
              refine gop_off rfl rfl rfl rfl hg81 rfl rfl ?_
              refine gop_off rfl rfl rfl rfl hg81 rfl rfl ?_
              refine gop_off rfl rfl rfl rfl hg81 rfl rfl ?_
              refine gop (y_pick_f (v := .bool _) rfl hg81 rfl) rfl rfl rfl ?_
              refine gop (y_move (v := .bool _) rfl) rfl rfl rfl ?_
              refine gop_off rfl rfl rfl rfl rfl rfl rfl ?_
              refine gop_off rfl rfl rfl rfl rfl rfl rfl ?_
              refine gop_off rfl rfl rfl rfl rfl rfl rfl ?_
              refine gop (y_pick_f (v := .bool _) rfl rfl rfl) rfl rfl rfl ?_
              refine gops_nil ?_
              refine hN14 _ _ ?_
              refine gfrom [(5, .pointer _), (7, .slice A _ c), (10, .int _ _), (11, .int _ _), (91, .bool _)] ⟨rfl, rfl, rfl, rfl, rfl, trivial⟩ fun σ => ?_
              refine gcond (b := _) rfl (fun hc91 => ?_) (fun hc91 => ?_)
              · 
                cases hc91
              · 
                refine gskip ?_
                refine gcut3_end (()) (.inl (by simpa using hg81d)) trivial ⟨rfl, rfl, rfl, rfl, trivial⟩ ⟨_, rfl⟩
          ·
            intro g hcut σ
            refine hN13 _ _ ?_
            have hfit : fits p q (i, j, d) := hcut
            refine gseq fun N16 hN16 => ?_
            refine greg ?_
            refine gop (y_loads (cs := [_, _, _]) Tryd.isAgg89 Tryd.sizeOf89 rfl rfl (cells_box 1 rfl)) rfl rfl rfl ?_
            refine gop_alloc (cs := #[.int .i64 0, .int .i64 0, .int .i64 0]) Tryd.zeroValue89 rfl rfl (fun b13 hb13 => ?_)
            refine gop_store 2 (v := .agg #[_, _, _]) (cs' := #[_, _, _]) rfl rfl Tryd.sizeOf89 rfl rfl rfl rfl (Nat.le_of_ble_eq_true rfl) rfl rfl ?_
            refine gops_nil ?_
            refine hN16 _ _ ?_
            refine gT [rowl _ _ _ _ _ _, box b5 _, box b13 _] rfl ?_
            refine gfrom [(5, .pointer _), (7, .slice A _ c), (10, .int _ _), (11, .int _ _), (13, .pointer _)] ⟨rfl, rfl, rfl, rfl, rfl, trivial⟩ fun σ => ?_
            refine gseq fun N17 hN17 => ?_
            refine gfrom [(5, .pointer _), (7, .slice A _ c), (10, .int _ _), (11, .int _ _), (13, .pointer _)] ⟨rfl, rfl, rfl, rfl, rfl, trivial⟩ fun σ => ?_
            refine gcut3 (Lf := [(5, .pointer _), (7, .slice A _ c), (10, .int _ _), (11, .int _ _), (13, .pointer _)]) (G := Nat) (fun i1 => i1 = nxI p (i, j, d)) (fun i1 => []) (fun i1 => [(2, box b13 (.cells #[.int .i64 ((i1 : Nat) : Int), .int .i64 ((j : Nat) : Int), .int .i64 ((d : Nat) : Int)] 89))]) ⟨rfl, rfl, rfl, rfl, rfl, trivial⟩ ?_ ?_
            ·
              refine gseq fun N18 hN18 => ?_
              refine greg ?_
              refine gop (y_move (v := .int _ _) rfl) rfl rfl rfl ?_
              refine gop (y_neq rfl rfl) rfl rfl rfl ?_
              refine gops_nil ?_
              refine hN18 _ _ ?_
              refine gfrom [(5, .pointer _), (7, .slice A _ c), (10, .int _ _), (11, .int _ _), (13, .pointer _), (95, .bool _)] ⟨rfl, rfl, rfl, rfl, rfl, rfl, trivial⟩ fun σ => ?_
              refine gcond (b := _) rfl (fun hc95 => ?_) (fun hc95 => ?_)
              · 
                replace hc95 := of_decide_eq_true hc95
                refine greg ?_
                refine gop (y_fieldAddr_box fa89_0 rfl) rfl rfl rfl ?_
                refine gop (y_load Tryd.isAgg3 rfl (cell_box 2 rfl rfl)) rfl rfl rfl ?_
                refine gop (y_add rfl rfl ⟨by omega, by omega⟩) rfl rfl rfl ?_
                refine gop (y_fieldAddr_box fa89_0 rfl) rfl rfl rfl ?_
                refine gop_store 2 (v := .int _ _) (cs' := #[_, _, _]) rfl rfl Tryd.sizeOf3 rfl rfl rfl rfl (Nat.le_of_ble_eq_true rfl) rfl rfl ?_
                refine gops_nil ?_
                refine gcut3_end (i + 1) (by show _ = nxI p (i, j, d); rw [nxI, if_neg (by show ¬ byteAt p i = 42; omega)]) trivial ⟨rfl, rfl, rfl, rfl, rfl, trivial⟩ ⟨_, rfl⟩
              · 
                replace hc95 := Decidable.not_not.1 (of_decide_eq_false hc95)
                refine gskip ?_
                refine gcut3_end (i) (by show _ = nxI p (i, j, d); rw [nxI, if_pos (by show byteAt p i = 42; omega)]) trivial ⟨rfl, rfl, rfl, rfl, rfl, trivial⟩ ⟨_, rfl⟩
            ·
              intro i1 hcut σ
              refine hN17 _ _ ?_
              have hi1 : i1 = nxI p (i, j, d) := hcut
              refine gseq fun N19 hN19 => ?_
              refine gT [rowl _ _ _ _ _ _, box b5 _, box b13 _] rfl ?_
              refine gfrom [(5, .pointer _), (7, .slice A _ c), (10, .int _ _), (11, .int _ _), (13, .pointer _)] ⟨rfl, rfl, rfl, rfl, rfl, trivial⟩ fun σ => ?_
              refine gcut3 (Lf := [(5, .pointer _), (7, .slice A _ c), (10, .int _ _), (11, .int _ _), (13, .pointer _)]) (G := Nat) (fun j1 => j1 = nxJ q (i, j, d)) (fun j1 => []) (fun j1 => [(2, box b13 (.cells #[.int .i64 ((i1 : Nat) : Int), .int .i64 ((j1 : Nat) : Int), .int .i64 ((d : Nat) : Int)] 89))]) ⟨rfl, rfl, rfl, rfl, rfl, trivial⟩ ?_ ?_
              ·
                refine gseq fun N20 hN20 => ?_
                refine greg ?_
                refine gop (y_move (v := .int _ _) rfl) rfl rfl rfl ?_
                refine gop (y_neq rfl rfl) rfl rfl rfl ?_
                refine gops_nil ?_
                refine hN20 _ _ ?_
                refine gfrom [(5, .pointer _), (7, .slice A _ c), (10, .int _ _), (11, .int _ _), (13, .pointer _), (101, .bool _)] ⟨rfl, rfl, rfl, rfl, rfl, rfl, trivial⟩ fun σ => ?_
                refine gcond (b := _) rfl (fun hc101 => ?_) (fun hc101 => ?_)
                · 
                  replace hc101 := of_decide_eq_true hc101
                  refine greg ?_
                  refine gop (y_fieldAddr_box fa89_1 rfl) rfl rfl rfl ?_
                  refine gop (y_load Tryd.isAgg3 rfl (cell_box 2 rfl rfl)) rfl rfl rfl ?_
                  refine gop (y_add rfl rfl ⟨by omega, by omega⟩) rfl rfl rfl ?_
                  refine gop (y_fieldAddr_box fa89_1 rfl) rfl rfl rfl ?_
                  refine gop_store 2 (v := .int _ _) (cs' := #[_, _, _]) rfl rfl Tryd.sizeOf3 rfl rfl rfl rfl (Nat.le_of_ble_eq_true rfl) rfl rfl ?_
                  refine gops_nil ?_
                  refine gcut3_end (j + 1) (by show _ = nxJ q (i, j, d); rw [nxJ, if_neg (by show ¬ byteAt q j = 42; omega)]) trivial ⟨rfl, rfl, rfl, rfl, rfl, trivial⟩ ⟨_, rfl⟩
                · 
                  replace hc101 := Decidable.not_not.1 (of_decide_eq_false hc101)
                  refine gskip ?_
                  refine gcut3_end (j) (by show _ = nxJ q (i, j, d); rw [nxJ, if_pos (by show byteAt q j = 42; omega)]) trivial ⟨rfl, rfl, rfl, rfl, rfl, trivial⟩ ⟨_, rfl⟩
              ·
                intro j1 hcut σ
                refine hN19 _ _ ?_
                have hj1 : j1 = nxJ q (i, j, d) := hcut
                refine gseq fun N21 hN21 => ?_
                refine gT [rowl _ _ _ _ _ _, box b5 _, box b13 _] rfl ?_
                refine gfrom [(5, .pointer _), (7, .slice A _ c), (10, .int _ _), (11, .int _ _), (13, .pointer _)] ⟨rfl, rfl, rfl, rfl, rfl, trivial⟩ fun σ => ?_
                refine gcut3 (Lf := [(7, .slice A _ c), (13, .pointer _)]) (G := Nat) (fun d1 => d1 = nxD p q (i, j, d)) (fun d1 => []) (fun d1 => [(2, box b13 (.cells #[.int .i64 ((i1 : Nat) : Int), .int .i64 ((j1 : Nat) : Int), .int .i64 ((d1 : Nat) : Int)] 89))]) ⟨rfl, rfl, trivial⟩ ?_ ?_
                ·
                  refine gseq fun N22 hN22 => ?_
                  refine greg ?_
                  refine gop (y_move (v := .int _ _) rfl) rfl rfl rfl ?_
                  refine gop (y_eql rfl rfl) rfl rfl rfl ?_
                  refine gop (y_move (v := .bool _) rfl) rfl rfl rfl ?_
                  refine gop_if (want := false) rfl rfl rfl rfl rfl rfl (fun hg108 => ?_) (fun hg108 => ?_)
                  · 
                    have hg108d := of_decide_eq_false hg108
                    refine gop (y_bare (y_move (v := .int _ _) rfl)) rfl rfl rfl ?_
                    refine gop_on rfl rfl rfl rfl hg108 ?_
                    refine gop (y_bare (y_eql rfl rfl)) rfl rfl rfl ?_
                    refine gop (y_pick_f (v := .bool _) rfl hg108 rfl) rfl rfl rfl ?_
                    refine gops_nil ?_
                    refine hN22 _ _ ?_
                    refine gfrom [(5, .pointer _), (7, .slice A _ c), (13, .pointer _), (111, .bool _)] ⟨rfl, rfl, rfl, rfl, trivial⟩ fun σ => ?_
                    refine gcond (b := _) rfl (fun hc111 => ?_) (fun hc111 => ?_)
                    · 
                      replace hc111 := of_decide_eq_true hc111
                      refine greg ?_
                      refine gop (y_fieldAddr_box fa89_2 rfl) rfl rfl rfl ?_
                      refine gop (y_load Tryd.isAgg3 rfl (cell_box 1 rfl rfl)) rfl rfl rfl ?_
                      refine gop (y_add rfl rfl ⟨by omega, by omega⟩) rfl rfl rfl ?_
                      refine gop (y_min_nat (a := d + 1) (b := 3) rfl rfl) rfl rfl rfl ?_
                      refine gop (y_fieldAddr_box fa89_2 rfl) rfl rfl rfl ?_
                      refine gop_store 2 (v := .int _ _) (cs' := #[_, _, _]) rfl rfl Tryd.sizeOf3 rfl rfl rfl rfl (Nat.le_of_ble_eq_true rfl) rfl rfl ?_
                      refine gops_nil ?_
                      refine gcut3_end (min (d + 1) 3) (by show _ = nxD p q (i, j, d); rw [nxD, if_pos (by show byteAt p i = 46 ∨ byteAt q j = 46; omega)]) trivial ⟨rfl, rfl, trivial⟩ ⟨_, rfl⟩
                    · 
                      replace hc111 := of_decide_eq_false hc111
                      refine greg ?_
                      refine gop (y_fieldAddr_box fa89_2 rfl) rfl rfl rfl ?_
                      refine gop_store 2 (v := .int _ _) (cs' := #[_, _, _]) rfl rfl Tryd.sizeOf3 rfl rfl rfl rfl (Nat.le_of_ble_eq_true rfl) rfl rfl ?_
                      refine gops_nil ?_
                      refine gcut3_end (3) (by show _ = nxD p q (i, j, d); rw [nxD, if_neg (by show ¬ (byteAt p i = 46 ∨ byteAt q j = 46); omega)]) trivial ⟨rfl, rfl, trivial⟩ ⟨_, rfl⟩
                  · 
                    have hg108d := of_decide_eq_true hg108
                    refine gop_off rfl rfl rfl rfl hg108 rfl rfl ?_
                    refine gop (y_pick_t (v := .bool _) rfl hg108 rfl) rfl rfl rfl ?_
                    refine gops_nil ?_
                    refine hN22 _ _ ?_
                    refine gfrom [(5, .pointer _), (7, .slice A _ c), (13, .pointer _), (111, .bool _)] ⟨rfl, rfl, rfl, rfl, trivial⟩ fun σ => ?_
                    refine gcond (b := _) rfl (fun hc111 => ?_) (fun hc111 => ?_)
                    · 
                      refine greg ?_
                      refine gop (y_fieldAddr_box fa89_2 rfl) rfl rfl rfl ?_
                      refine gop (y_load Tryd.isAgg3 rfl (cell_box 1 rfl rfl)) rfl rfl rfl ?_
                      refine gop (y_add rfl rfl ⟨by omega, by omega⟩) rfl rfl rfl ?_
                      refine gop (y_min_nat (a := d + 1) (b := 3) rfl rfl) rfl rfl rfl ?_
                      refine gop (y_fieldAddr_box fa89_2 rfl) rfl rfl rfl ?_
                      refine gop_store 2 (v := .int _ _) (cs' := #[_, _, _]) rfl rfl Tryd.sizeOf3 rfl rfl rfl rfl (Nat.le_of_ble_eq_true rfl) rfl rfl ?_
                      refine gops_nil ?_
                      refine gcut3_end (min (d + 1) 3) (by show _ = nxD p q (i, j, d); rw [nxD, if_pos (by show byteAt p i = 46 ∨ byteAt q j = 46; omega)]) trivial ⟨rfl, rfl, trivial⟩ ⟨_, rfl⟩
                    · 
                      cases hc111
                ·
                  intro d1 hcut σ
                  refine hN21 _ _ ?_
                  have hd1 : d1 = nxD p q (i, j, d) := hcut
                  refine gseq fun N23 hN23 => ?_
                  refine greg ?_
                  refine gop (y_move (v := .slice A _ c) rfl) rfl rfl rfl ?_
                  refine gop (y_loads (cs := [_, _, _]) Tryd.isAgg89 Tryd.sizeOf89 rfl rfl (cells_box 2 rfl)) rfl rfl rfl ?_
                  refine gop_lit (vs := [.agg #[_, _, _]]) (cells := #[_, _, _]) Tryd.underlying90 Tryd.sizeOf89 Tryd.zeroValue89 rfl (by decide) (by decide) rfl rfl rfl rfl (fun b120 hb120 => ?_)
                  refine gop_append 0 (f := placeCells) (l2 := [(i1, j1, d1)]) Tryd.underlying90 el89 wide_place (v := .slice A _ c) rfl rfl rfl rfl (fun h => by cases h) (by simp [maxLen] <;> omega) (by simp <;> omega) (src_box 3 rfl rfl) rfl (fun v121 => ?_)
                  refine gops_fact (fun w hM => own_form (hM.own 0 rfl)) ?_
                  rintro ⟨A121, c121, rfl, hc121, hm121⟩
                  refine gop (y_assign (v := .slice A121 _ c121) rfl) rfl rfl rfl ?_
                  refine gops_nil ?_
                  refine hN23 _ _ ?_
                  refine gT [rowl _ _ _ _ _ _, box b5 _, box b13 _, box b120 _] rfl ?_
                  refine gfrom [(6, .slice A121 _ c121)] ⟨rfl, trivial⟩ fun σ => ?_
                  refine gret fun w1 hM => ?_
                  refine ⟨_, res1 rfl (rt (v := .slice A121 _ c121) rfl), ?_⟩
                  have hC : nxC p q (i, j, d) = [(i1, j1, d1)] := by rw [nxC, if_pos ⟨by show i < p.size; omega, by show j < q.size; omega, hfit⟩, hi1, hj1, hd1]
                  have hL : nxA p (i, j, d) ++ nxB q (i, j, d) ++ [(i1, j1, d1)] = nextL p q (i, j, d) := by rw [nextL, hC]
                  exact ⟨_, _, rfl, by rw [← hL], weak_take (T' := [_]) rfl _ hM⟩
      · 
        have hg64d := not_t hg64
        replace hg64d := of_decide_eq_false hg64d
        refine gop_off rfl rfl rfl rfl hg64 rfl rfl ?_
        refine gop (y_pick_t (v := .bool _) rfl hg64 rfl) rfl rfl rfl ?_
        refine gops_nil ?_
        refine hN9 _ _ ?_
        refine gT [rowl _ _ _ _ _ _, box b5 _] rfl ?_
        refine gfrom [(0, .string _), (1, .string _), (5, .pointer _), (7, .slice A _ c), (67, .bool _)] ⟨rfl, rfl, rfl, rfl, rfl, trivial⟩ fun σ => ?_
        refine gcond (b := _) rfl (fun hc67 => ?_) (fun hc67 => ?_)
        · 
          try replace hc67 := of_decide_eq_false hc67
          refine gseq fun N24 hN24 => ?_
          refine greg ?_
          refine gop (y_move (v := .slice A _ c) rfl) rfl rfl rfl ?_
          refine gop (y_assign (v := .slice A _ c) rfl) rfl rfl rfl ?_
          refine gops_nil ?_
          refine hN24 _ _ ?_
          refine gfrom [(6, .slice A _ c)] ⟨rfl, trivial⟩ fun σ => ?_
          refine gret fun w1 hM => ?_
          refine ⟨_, res1 rfl (rt (v := .slice A _ c) rfl), ?_⟩
          have hC : nxC p q (i, j, d) = [] := by rw [nxC, if_neg (by rintro ⟨h1, h2, -⟩; change i < p.size at h1; change j < q.size at h2; omega)]
          have hL : nxA p (i, j, d) ++ nxB q (i, j, d) = nextL p q (i, j, d) := by rw [nextL, hC, List.append_nil]
          exact ⟨_, _, rfl, by rw [← hL], weak_take (T' := [_]) rfl _ hM⟩
        · 
          cases hc67
end Go.Proofs.YtijpaljdclhehaaDoor
namespace Go.Proofs.YtijpaljdclhehaaDoor
open Go.RowKit Go.Cf
set_option maxRecDepth 10000
theorem bd89_  : Tryd.prog.built 89 [] = some #[.int .i64 0, .int .i64 0, .int .i64 0] := by kernel_rfl
set_option maxHeartbeats 4000000 in
theorem common_any (w : World) (p q : ByteArray) (hp : p.size ≤ 60) (hq : q.size ≤ 60) : Calls Tryd.prog 46 #[.string p, .string q] w fun e w' => e = .returned (.bool (commonB p q)) ∧ Below w.heap.size w w' := by
  refine gcalls Tryd.func46 rfl Tryd.ntmps46 (Nat.le_of_ble_eq_true rfl) ?_
  refine gfrom [(0, .string _), (1, .string _)] ⟨rfl, rfl, trivial⟩ fun σ => ?_
  refine gseq fun N1 hN1 => ?_
  refine greg ?_
  refine gop (y_assign (v := .bool _) rfl) rfl rfl rfl ?_
  refine gops_nil ?_
  refine hN1 _ _ ?_
  refine gfrom [(0, .string _), (1, .string _)] ⟨rfl, rfl, trivial⟩ fun σ => ?_
  refine gseq fun N2 hN2 => ?_
  refine greg ?_
  refine gop_makeMap ek3 Value.bool rfl (fun b8 hb8 => ?_)
  refine gop (y_assign (v := .map (some b8)) rfl) rfl rfl rfl ?_
  refine gops_nil ?_
  refine hN2 _ _ ?_
  refine gT [mapr _ _ _ _] rfl ?_
  refine gfrom [(0, .string _), (1, .string _), (5, .map (some b8))] ⟨rfl, rfl, rfl, trivial⟩ fun σ => ?_
  refine gseq fun N3 hN3 => ?_
  refine greg ?_
  refine gop (y_build (vs := []) (cells := #[.int .i64 0, .int .i64 0, .int .i64 0]) rfl bd89_) rfl rfl rfl ?_
  refine gop_lit (vs := [.agg #[_, _, _]]) (cells := #[_, _, _]) Tryd.underlying90 Tryd.sizeOf89 Tryd.zeroValue89 rfl (by decide) (by decide) rfl rfl rfl rfl (fun b10 hb10 => ?_)
  refine gops_mem _ (weak_boxrow 1 (size := 3) (f := placeCells) (l := [(0, 0, 0)]) rfl (fun _ => rfl) rfl (by simp [maxLen])) ?_
  refine gop (y_assign (v := .slice (some _) _ _) rfl) rfl rfl rfl ?_
  refine gops_nil ?_
  refine hN3 _ _ ?_
  refine gT [mapr _ _ _ _, rowl _ _ _ _ _ _] rfl ?_
  refine gfrom [(0, .string _), (1, .string _), (5, .map (some b8)), (6, .slice (some _) _ _)] ⟨rfl, rfl, rfl, rfl, trivial⟩ fun σ => ?_
  refine gseq fun N4 hN4 => ?_
  refine gblock ?_
  refine gfrom2 [(6, .slice (some _) _ _)] [(0, .string _), (1, .string _), (5, .map (some b8))] ⟨rfl, trivial⟩ ⟨rfl, rfl, rfl, trivial⟩ fun σ => ?_
  refine gloop2 (G := Option Addr × Nat × List Pl × List Pl) (fun (A, c, l, S) => Dfs p q l S) (fun (A, c, l, S) => 4 * (14884 - S.length) + l.length) (fun (A, c, l, S) => [(6, .slice A l.length c)]) (fun (A, c, l, S) => [(0, mapr ek3 Value.bool b8 (S.map fun y => (y, true))), (1, rowl placeCells w.heap.size 89 3 (.slice A l.length c) l)]) ((some ⟨b10, 0, none⟩, 1, [(0, 0, 0)], [])) ?h0 ⟨rfl, trivial⟩ ⟨rfl, rfl, rfl, trivial⟩ rfl ?round
  case h0 => exact Dfs.first
  case round =>
    rintro ⟨A, c, l, S⟩ hφ σ
    have hD : Dfs p q l S := hφ
    have hSl := hD.seen hp hq
    refine gT [mapr _ _ _ _, rowl _ _ _ _ _ _] rfl ?_
    refine gseq fun N5 hN5 => ?_
    refine gseq fun N6 hN6 => ?_
    refine greg ?_
    refine gop (y_move (v := .slice A _ c) rfl) rfl rfl rfl ?_
    refine gop (y_len Tryd.underlying90 rfl) rfl rfl rfl ?_
    refine gop (y_gtr rfl rfl) rfl rfl rfl ?_
    refine gops_nil ?_
    refine hN6 _ _ ?_
    refine gfrom [(0, .string _), (1, .string _), (5, .map (some b8)), (6, .slice A _ c), (13, .bool _)] ⟨rfl, rfl, rfl, rfl, rfl, trivial⟩ fun σ => ?_
    refine gcond (b := _) rfl (fun hc13 => ?_) (fun hc13 => ?_)
    · 
      replace hc13 := of_decide_eq_true hc13
      have hl0 : 0 < l.length := by omega
      obtain ⟨l1, x, rfl⟩ : ∃ l1 x, l = l1 ++ [x] := ⟨l.dropLast, l.getLast (List.ne_nil_of_length_pos hl0), (List.dropLast_concat_getLast _).symm⟩
      have hok := (hD.reach x (.inl (by simp))).ok
      have hln := hD.len
      have hnl := nextL_len p q x
      simp only [List.length_append, List.length_cons, List.length_nil] at hln
      refine g_fact (fun w hM => own_some (hM.own 1 rfl) hl0) ?_
      rintro ⟨rg1, cg1, hvg, hcap, -⟩
      simp only [Value.slice.injEq] at hvg
      obtain ⟨rfl, -, rfl⟩ := hvg
      have hlx : (l1 ++ [x]).length = l1.length + 1 := by simp
      refine gskip ?_
      refine hN5 _ _ ?_
      refine gfrom [(0, .string _), (1, .string _), (5, .map (some b8)), (6, .slice (some ⟨rg1, 0, none⟩) _ _)] ⟨rfl, rfl, rfl, rfl, trivial⟩ fun σ => ?_
      refine gblock ?_
      refine gseq fun N7 hN7 => ?_
      refine greg ?_
      refine gop (y_move (v := .slice (some ⟨rg1, 0, none⟩) _ _) rfl) rfl rfl rfl ?_
      refine gop (y_move (v := .slice (some ⟨rg1, 0, none⟩) _ _) rfl) rfl rfl rfl ?_
      refine gop (y_len Tryd.underlying90 rfl) rfl rfl rfl ?_
      refine gop (y_sub rfl rfl ⟨by omega, by omega⟩) rfl rfl rfl ?_
      refine gop (y_indexAddr (m := l1.length) Tryd.underlying90 Tryd.sizeOf89 rfl rfl (by omega) (by omega) (by omega)) rfl rfl rfl ?_
      refine gop (y_loads (cs := [_, _, _]) Tryd.isAgg89 Tryd.sizeOf89 rfl rfl (cells_rowp 1 (f := placeCells) (l := l1 ++ [x]) rfl rfl (fun _ => rfl) (show (l1 ++ [x])[l1.length]? = some x by simp))) rfl rfl rfl ?_
      refine gop_alloc (cs := #[.int .i64 0, .int .i64 0, .int .i64 0]) Tryd.zeroValue89 rfl rfl (fun b7 hb7 => ?_)
      refine gop_store 2 (v := .agg #[_, _, _]) (cs' := #[_, _, _]) rfl rfl Tryd.sizeOf89 rfl rfl rfl rfl (Nat.le_of_ble_eq_true rfl) rfl rfl ?_
      refine gops_nil ?_
      refine hN7 _ _ ?_
      refine gT [mapr _ _ _ _, rowl _ _ _ _ _ _, box b7 _] rfl ?_
      refine gfrom [(0, .string _), (1, .string _), (5, .map (some b8)), (6, .slice (some ⟨rg1, 0, none⟩) _ _), (7, .pointer _)] ⟨rfl, rfl, rfl, rfl, rfl, trivial⟩ fun σ => ?_
      refine gseq fun N8 hN8 => ?_
      refine greg ?_
      refine gop (y_move (v := .slice (some ⟨rg1, 0, none⟩) _ _) rfl) rfl rfl rfl ?_
      refine gop (y_move (v := .slice (some ⟨rg1, 0, none⟩) _ _) rfl) rfl rfl rfl ?_
      refine gop (y_len Tryd.underlying90 rfl) rfl rfl rfl ?_
      refine gop (y_sub rfl rfl ⟨by omega, by omega⟩) rfl rfl rfl ?_
      refine gop (y_trunc (m := l1.length) Tryd.underlying90 Tryd.sizeOf89 rfl rfl (by omega) (by omega) (by omega)) rfl rfl rfl ?_
      refine gops_mem _ (weak_trunc 1 (size := 3) (f := placeCells) (l := l1) (m := [x]) rfl (fun _ => rfl)) ?_
      refine gop (y_assign (v := .slice _ _ _) rfl) rfl rfl rfl ?_
      refine gops_nil ?_
      refine hN8 _ _ ?_
      refine gT [mapr _ _ _ _, rowl _ _ _ _ _ _, box b7 _] rfl ?_
      refine gfrom [(0, .string _), (1, .string _), (5, .map (some b8)), (6, .slice _ _ _), (7, .pointer _)] ⟨rfl, rfl, rfl, rfl, rfl, trivial⟩ fun σ => ?_
      refine gseq fun N9 hN9 => ?_
      refine gseq fun N10 hN10 => ?_
      refine greg ?_
      refine gop (y_move (v := .map (some b8)) rfl) rfl rfl rfl ?_
      refine gop (y_loads (cs := [_, _, _]) Tryd.isAgg89 Tryd.sizeOf89 rfl rfl (cells_box 2 rfl)) rfl rfl rfl ?_
      refine gop (y_lookup 0 (c := false) (v0 := .bool false) (u := .bool (decide (x ∈ S))) key3 Tryd.underlying87 Tryd.zeroValue4 rfl x rfl rfl (look_seen S x)) rfl rfl rfl ?_
      refine gops_nil ?_
      refine hN10 _ _ ?_
      refine gfrom [(0, .string _), (1, .string _), (5, .map (some b8)), (6, .slice _ _ _), (7, .pointer _), (27, .bool _)] ⟨rfl, rfl, rfl, rfl, rfl, rfl, trivial⟩ fun σ => ?_
      refine gcond (b := _) rfl (fun hc27 => ?_) (fun hc27 => ?_)
      · 
        replace hc27 := of_decide_eq_true hc27
        refine gexit ?_
        refine gnext2 ((some ⟨rg1, 0, none⟩, c, l1, S)) (by show 4 * (14884 - S.length) + l1.length < 4 * (14884 - S.length) + (l1 ++ [x]).length; simp) (hD.skip hc27) ⟨rfl, trivial⟩ ⟨rfl, rfl, rfl, trivial⟩ ⟨_, rfl⟩
      · 
        replace hc27 := of_decide_eq_false hc27
        refine gskip ?_
        refine hN9 _ _ ?_
        refine gfrom [(0, .string _), (1, .string _), (5, .map (some b8)), (6, .slice _ _ _), (7, .pointer _)] ⟨rfl, rfl, rfl, rfl, rfl, trivial⟩ fun σ => ?_
        refine gseq fun N11 hN11 => ?_
        refine greg ?_
        refine gop (y_move (v := .map (some b8)) rfl) rfl rfl rfl ?_
        refine gop (y_loads (cs := [_, _, _]) Tryd.isAgg89 Tryd.sizeOf89 rfl rfl (cells_box 2 rfl)) rfl rfl rfl ?_
        refine gop_mapUpdate 0 key3 Tryd.underlying87 rfl (x) (true) rfl rfl rfl rfl rfl ?_
        refine gops_nil ?_
        refine hN11 _ _ ?_
        refine gT [mapr _ _ _ _, rowl _ _ _ _ _ _, box b7 _] rfl ?_
        refine gfrom [(0, .string _), (1, .string _), (5, .map (some b8)), (6, .slice _ _ _), (7, .pointer _)] ⟨rfl, rfl, rfl, rfl, rfl, trivial⟩ fun σ => ?_
        refine gseq fun N12 hN12 => ?_
        refine gseq fun N13 hN13 => ?_
        refine greg ?_
        refine gop (y_fieldAddr_box fa89_0 rfl) rfl rfl rfl ?_
        refine gop (y_load Tryd.isAgg3 rfl (cell_box 2 rfl rfl)) rfl rfl rfl ?_
        refine gop (y_move (v := .string _) rfl) rfl rfl rfl ?_
        refine gop (y_lens Tryd.underlying9 rfl) rfl rfl rfl ?_
        refine gop (y_eql rfl rfl) rfl rfl rfl ?_
        refine gop (y_move (v := .bool _) rfl) rfl rfl rfl ?_
        refine gop_if (want := true) rfl rfl rfl rfl rfl rfl (fun hg35 => ?_) (fun hg35 => ?_)
        · 
          have hg35d := of_decide_eq_true hg35
          refine gop (y_bare (y_fieldAddr_box fa89_1 rfl)) rfl rfl rfl ?_
          refine gop_on rfl rfl rfl rfl hg35 ?_
          refine gop (y_bare (y_load Tryd.isAgg3 rfl (cell_box 2 rfl rfl))) rfl rfl rfl ?_
          refine gop_on rfl rfl rfl rfl hg35 ?_
          refine gop (y_bare (y_move (v := .string _) rfl)) rfl rfl rfl ?_
          refine gop_on rfl rfl rfl rfl hg35 ?_
          refine gop (y_bare (y_lens Tryd.underlying9 rfl)) rfl rfl rfl ?_
          refine gop_on rfl rfl rfl rfl hg35 ?_
          refine gop (y_bare (y_eql rfl rfl)) rfl rfl rfl ?_
          refine gop (y_pick_t (v := .bool _) rfl hg35 rfl) rfl rfl rfl ?_
          refine gop (y_move (v := .bool _) rfl) rfl rfl rfl ?_
          refine gop_if (want := true) rfl rfl rfl rfl rfl rfl (fun hg42 => ?_) (fun hg42 => ?_)
          · 
            have hg42d := of_decide_eq_true hg42
            refine gop (y_bare (y_fieldAddr_box fa89_2 rfl)) rfl rfl rfl ?_
            refine gop_on rfl rfl rfl rfl hg42 ?_
            refine gop (y_bare (y_load Tryd.isAgg3 rfl (cell_box 2 rfl rfl))) rfl rfl rfl ?_
            refine gop_on rfl rfl rfl rfl hg42 ?_
            refine gop (y_bare (y_eql rfl rfl)) rfl rfl rfl ?_
            refine gop (y_pick_t (v := .bool _) rfl hg42 rfl) rfl rfl rfl ?_
            refine gops_nil ?_
            refine hN13 _ _ ?_
            refine gfrom [(0, .string _), (1, .string _), (5, .map (some b8)), (6, .slice _ _ _), (7, .pointer _), (46, .bool _)] ⟨rfl, rfl, rfl, rfl, rfl, rfl, trivial⟩ fun σ => ?_
            refine gcond (b := _) rfl (fun hc46 => ?_) (fun hc46 => ?_)
            · 
              replace hc46 := of_decide_eq_true hc46
              refine gseq fun N14 hN14 => ?_
              refine greg ?_
              refine gop (y_assign (v := .bool _) rfl) rfl rfl rfl ?_
              refine gops_nil ?_
              refine hN14 _ _ ?_
              refine gfrom [(4, .bool _)] ⟨rfl, trivial⟩ fun σ => ?_
              refine gret fun w1 hM => ?_
              refine ⟨_, res1 rfl (rt (v := .bool _) rfl), ?_⟩
              exact ⟨by rw [hD.hit (by obtain ⟨x1, x2, x3⟩ := x; simp_all [goalP]; omega)], hM.low⟩
            · 
              replace hc46 := of_decide_eq_false hc46
              refine gskip ?_
              refine hN12 _ _ ?_
              refine gfrom [(0, .string _), (1, .string _), (5, .map (some b8)), (6, .slice _ _ _), (7, .pointer _)] ⟨rfl, rfl, rfl, rfl, rfl, trivial⟩ fun σ => ?_
              refine greg ?_
              refine gop (y_move (v := .slice _ _ _) rfl) rfl rfl rfl ?_
              refine gop (y_move (v := .string _) rfl) rfl rfl rfl ?_
              refine gop (y_move (v := .string _) rfl) rfl rfl rfl ?_
              refine gop (y_loads (cs := [_, _, _]) Tryd.isAgg89 Tryd.sizeOf89 rfl rfl (cells_box 2 rfl)) rfl rfl rfl ?_
              refine gop_got (fun v T' => ∃ lo, w.heap.size ≤ lo ∧ T' = [rowl placeCells lo 89 3 v (nextL p q x)]) (e_call (vs := [.string _, .string _, .agg #[_, _, _]]) Tryd.func71 rfl (by kernel_rfl) rfl) (fun w hM => (next_any w p q x.1 x.2.1 x.2.2 (by omega) (by omega) hok.1 hok.2.1 hok.2.2).mono fun _ _ ⟨v, T1, h1, h2, h3⟩ => ⟨v, T1, h1, ⟨_, hM.low.size, h2⟩, h3⟩) rfl rfl rfl ?_
              rintro v51 _ ⟨lo51, hlo51, rfl⟩
              refine gops_fact (fun w hM => row_form (hM.ok _ (List.mem_of_getElem? (i := 3) rfl))) ?_
              rintro ⟨A51, c51, rfl, hc51, hm51, hn51⟩
              refine gop_append 1 (f := placeCells) (l2 := nextL p q x) Tryd.underlying90 el89 wide_place (v := .slice _ _ _) rfl rfl rfl rfl hn51 (by unfold maxLen; omega) (by omega) (src_row 3 rfl (fun _ => rfl)) rfl (fun v52 => ?_)
              refine gops_fact (fun w hM => own_form (hM.own 1 rfl)) ?_
              rintro ⟨A52, c52, rfl, hc52, hm52⟩
              refine gop (y_assign (v := .slice A52 _ c52) rfl) rfl rfl rfl ?_
              refine gops_nil ?_
              rw [put_seen S x hc27]
              have hT := hD.take hc27 (fun e => by subst e; simp_all [goalP])
              refine gnext2 ((A52, c52, l1 ++ nextL p q x, S ++ [x])) (by show 4 * (14884 - (S ++ [x]).length) + (l1 ++ nextL p q x).length < 4 * (14884 - S.length) + (l1 ++ [x]).length; have h5 := hT.seen hp hq; simp only [List.length_append, List.length_cons, List.length_nil] at h5 ⊢; omega) (hT) ⟨rfl, trivial⟩ ⟨rfl, rfl, rfl, trivial⟩ ⟨_, rfl⟩
          · 
            have hg42d := of_decide_eq_false hg42
            refine gop_off rfl rfl rfl rfl hg42 rfl rfl ?_
            refine gop_off rfl rfl rfl rfl hg42 rfl rfl ?_
            refine gop (y_pick_f (v := .bool _) rfl hg42 rfl) rfl rfl rfl ?_
            refine gops_nil ?_
            refine hN13 _ _ ?_
            refine gfrom [(0, .string _), (1, .string _), (5, .map (some b8)), (6, .slice _ _ _), (7, .pointer _), (46, .bool _)] ⟨rfl, rfl, rfl, rfl, rfl, rfl, trivial⟩ fun σ => ?_
            refine gcond (b := _) rfl (fun hc46 => ?_) (fun hc46 => ?_)
            · 
              cases hc46
            · 
              refine gskip ?_
              refine hN12 _ _ ?_
              refine gfrom [(0, .string _), (1, .string _), (5, .map (some b8)), (6, .slice _ _ _), (7, .pointer _)] ⟨rfl, rfl, rfl, rfl, rfl, trivial⟩ fun σ => ?_
              refine greg ?_
              refine gop (y_move (v := .slice _ _ _) rfl) rfl rfl rfl ?_
              refine gop (y_move (v := .string _) rfl) rfl rfl rfl ?_
              refine gop (y_move (v := .string _) rfl) rfl rfl rfl ?_
              refine gop (y_loads (cs := [_, _, _]) Tryd.isAgg89 Tryd.sizeOf89 rfl rfl (cells_box 2 rfl)) rfl rfl rfl ?_
              refine gop_got (fun v T' => ∃ lo, w.heap.size ≤ lo ∧ T' = [rowl placeCells lo 89 3 v (nextL p q x)]) (e_call (vs := [.string _, .string _, .agg #[_, _, _]]) Tryd.func71 rfl (by kernel_rfl) rfl) (fun w hM => (next_any w p q x.1 x.2.1 x.2.2 (by omega) (by omega) hok.1 hok.2.1 hok.2.2).mono fun _ _ ⟨v, T1, h1, h2, h3⟩ => ⟨v, T1, h1, ⟨_, hM.low.size, h2⟩, h3⟩) rfl rfl rfl ?_
              rintro v51 _ ⟨lo51, hlo51, rfl⟩
              refine gops_fact (fun w hM => row_form (hM.ok _ (List.mem_of_getElem? (i := 3) rfl))) ?_
              rintro ⟨A51, c51, rfl, hc51, hm51, hn51⟩
              refine gop_append 1 (f := placeCells) (l2 := nextL p q x) Tryd.underlying90 el89 wide_place (v := .slice _ _ _) rfl rfl rfl rfl hn51 (by unfold maxLen; omega) (by omega) (src_row 3 rfl (fun _ => rfl)) rfl (fun v52 => ?_)
              refine gops_fact (fun w hM => own_form (hM.own 1 rfl)) ?_
              rintro ⟨A52, c52, rfl, hc52, hm52⟩
              refine gop (y_assign (v := .slice A52 _ c52) rfl) rfl rfl rfl ?_
              refine gops_nil ?_
              rw [put_seen S x hc27]
              have hT := hD.take hc27 (fun e => by subst e; simp_all [goalP])
              refine gnext2 ((A52, c52, l1 ++ nextL p q x, S ++ [x])) (by show 4 * (14884 - (S ++ [x]).length) + (l1 ++ nextL p q x).length < 4 * (14884 - S.length) + (l1 ++ [x]).length; have h5 := hT.seen hp hq; simp only [List.length_append, List.length_cons, List.length_nil] at h5 ⊢; omega) (hT) ⟨rfl, trivial⟩ ⟨rfl, rfl, rfl, trivial⟩ ⟨_, rfl⟩
        · 
          have hg35d := of_decide_eq_false hg35
          refine gop_off rfl rfl rfl rfl hg35 rfl rfl ?_
          refine gop_off rfl rfl rfl rfl hg35 rfl rfl ?_
          refine gop_off rfl rfl rfl rfl hg35 rfl rfl ?_
          refine gop_off rfl rfl rfl rfl hg35 rfl rfl ?_
          refine gop (y_pick_f (v := .bool _) rfl hg35 rfl) rfl rfl rfl ?_
          refine gop (y_move (v := .bool _) rfl) rfl rfl rfl ?_
          refine gop_off rfl rfl rfl rfl rfl rfl rfl ?_
          refine gop_off rfl rfl rfl rfl rfl rfl rfl ?_
          refine gop_off rfl rfl rfl rfl rfl rfl rfl ?_
          refine gop (y_pick_f (v := .bool _) rfl rfl rfl) rfl rfl rfl ?_
          refine gops_nil ?_
          refine hN13 _ _ ?_
          refine gfrom [(0, .string _), (1, .string _), (5, .map (some b8)), (6, .slice _ _ _), (7, .pointer _), (46, .bool _)] ⟨rfl, rfl, rfl, rfl, rfl, rfl, trivial⟩ fun σ => ?_
          refine gcond (b := _) rfl (fun hc46 => ?_) (fun hc46 => ?_)
          · 
            cases hc46
          · 
            refine gskip ?_
            refine hN12 _ _ ?_
            refine gfrom [(0, .string _), (1, .string _), (5, .map (some b8)), (6, .slice _ _ _), (7, .pointer _)] ⟨rfl, rfl, rfl, rfl, rfl, trivial⟩ fun σ => ?_
            refine greg ?_
            refine gop (y_move (v := .slice _ _ _) rfl) rfl rfl rfl ?_
            refine gop (y_move (v := .string _) rfl) rfl rfl rfl ?_
            refine gop (y_move (v := .string _) rfl) rfl rfl rfl ?_
            refine gop (y_loads (cs := [_, _, _]) Tryd.isAgg89 Tryd.sizeOf89 rfl rfl (cells_box 2 rfl)) rfl rfl rfl ?_
            refine gop_got (fun v T' => ∃ lo, w.heap.size ≤ lo ∧ T' = [rowl placeCells lo 89 3 v (nextL p q x)]) (e_call (vs := [.string _, .string _, .agg #[_, _, _]]) Tryd.func71 rfl (by kernel_rfl) rfl) (fun w hM => (next_any w p q x.1 x.2.1 x.2.2 (by omega) (by omega) hok.1 hok.2.1 hok.2.2).mono fun _ _ ⟨v, T1, h1, h2, h3⟩ => ⟨v, T1, h1, ⟨_, hM.low.size, h2⟩, h3⟩) rfl rfl rfl ?_
            rintro v51 _ ⟨lo51, hlo51, rfl⟩
            refine gops_fact (fun w hM => row_form (hM.ok _ (List.mem_of_getElem? (i := 3) rfl))) ?_
            rintro ⟨A51, c51, rfl, hc51, hm51, hn51⟩
            refine gop_append 1 (f := placeCells) (l2 := nextL p q x) Tryd.underlying90 el89 wide_place (v := .slice _ _ _) rfl rfl rfl rfl hn51 (by unfold maxLen; omega) (by omega) (src_row 3 rfl (fun _ => rfl)) rfl (fun v52 => ?_)
            refine gops_fact (fun w hM => own_form (hM.own 1 rfl)) ?_
            rintro ⟨A52, c52, rfl, hc52, hm52⟩
            refine gop (y_assign (v := .slice A52 _ c52) rfl) rfl rfl rfl ?_
            refine gops_nil ?_
            rw [put_seen S x hc27]
            have hT := hD.take hc27 (fun e => by subst e; simp_all [goalP])
            refine gnext2 ((A52, c52, l1 ++ nextL p q x, S ++ [x])) (by show 4 * (14884 - (S ++ [x]).length) + (l1 ++ nextL p q x).length < 4 * (14884 - S.length) + (l1 ++ [x]).length; have h5 := hT.seen hp hq; simp only [List.length_append, List.length_cons, List.length_nil] at h5 ⊢; omega) (hT) ⟨rfl, trivial⟩ ⟨rfl, rfl, rfl, trivial⟩ ⟨_, rfl⟩
    · 
      replace hc13 := of_decide_eq_false hc13
      obtain rfl : l = [] := List.eq_nil_of_length_eq_zero (by omega)
      refine gexit ?_
      refine hN4 _ _ ?_
      refine gfrom [] trivial fun σ => ?_
      refine gseq fun N15 hN15 => ?_
      refine greg ?_
      refine gop (y_assign (v := .bool _) rfl) rfl rfl rfl ?_
      refine gops_nil ?_
      refine hN15 _ _ ?_
      refine gfrom [(4, .bool _)] ⟨rfl, trivial⟩ fun σ => ?_
      refine gret fun w1 hM => ?_
      refine ⟨_, res1 rfl (rt (v := .bool _) rfl), ?_⟩
      exact ⟨by rw [hD.miss], hM.low⟩
end Go.Proofs.YtijpaljdclhehaaDoor
