/-
  GlobFunctionsMatchSpec: for all patterns and paths the law returns true (the tied card of the second form: what is read is of bulk at most 1048576).
-/
import Derived.Test.YtijpaljdclhehaaDoorP27e
import Derived.Deep.DeepHandedRow
import Derived.Laws.Externs
import Derived.Laws.IdiomStrings
import Derived.Lib.LaidTab
import Derived.Test.YtijpaljdclhehaaDoorCards
import Derived.Test.YtijpaljdclhehaaDoorRows
import Derived.Test.YtijpaljdclhehaaDoorTie
namespace Go.Proofs.YtijpaljdclhehaaDoor
open Go.RowKit Go.Cf
set_option maxRecDepth 10000
set_option maxHeartbeats 8000000 in
theorem refOverlap_any (w : World) (a b : ByteArray) (ha : a.size ≤ 60) (hb : b.size ≤ 60) : Calls Tryd.prog 41 #[.string a, .string b] w fun e w' => e = .returned (.bool (ov (cutS a) (cutS b))) ∧ Below w.heap.size w w' := by
  have hcA := cutS_len a
  have hcB := cutS_len b
  refine gcalls Tryd.func41 rfl Tryd.ntmps41 (Nat.le_of_ble_eq_true rfl) ?_
  refine gfrom [(0, .string _), (1, .string _)] ⟨rfl, rfl, trivial⟩ fun σ => ?_
  refine gseq fun N1 hN1 => ?_
  refine greg ?_
  refine gop (y_assign (v := .bool _) rfl) rfl rfl rfl ?_
  refine gops_nil ?_
  refine hN1 _ _ ?_
  refine gfrom [(0, .string _), (1, .string _)] ⟨rfl, rfl, trivial⟩ fun σ => ?_
  refine gseq fun N2 hN2 => ?_
  refine greg ?_
  refine gop (y_move (v := .string _) rfl) rfl rfl rfl ?_
  refine gop_got (fun v T' => ∃ lo, w.heap.size ≤ lo ∧ T' = [rowl strCells lo 9 1 v (cutS a)]) (e_call (vs := [.string _]) Tryd.func47 rfl (by kernel_rfl) rfl) (fun w hM => (cut_any w a (by omega)).mono fun _ _ ⟨v, T1, h1, h2, h3⟩ => ⟨v, T1, h1, ⟨_, hM.low.size, h2⟩, h3⟩) rfl rfl rfl ?_
  rintro v11 _ ⟨lo11, hlo11, rfl⟩
  refine gops_fact (fun w hM => row_form (hM.ok _ (List.mem_of_getElem? (i := 0) rfl))) ?_
  rintro ⟨A11, c11, rfl, hc11, hm11, hn11⟩
  refine gops_fact (fun w hM => own_some (hM.own 0 rfl) (cutS_pos a)) ?_
  rintro ⟨rg0, cg0, hvg, -, -⟩
  simp only [Value.slice.injEq] at hvg
  obtain ⟨rfl, -, rfl⟩ := hvg
  refine gop (y_assign (v := .slice (some ⟨rg0, 0, none⟩) _ _) rfl) rfl rfl rfl ?_
  refine gops_nil ?_
  refine hN2 _ _ ?_
  refine gT [rowl _ _ _ _ _ _] rfl ?_
  refine gfrom [(1, .string _), (5, .slice (some ⟨rg0, 0, none⟩) _ _)] ⟨rfl, rfl, trivial⟩ fun σ => ?_
  refine gseq fun N3 hN3 => ?_
  refine greg ?_
  refine gop (y_move (v := .string _) rfl) rfl rfl rfl ?_
  refine gop_got (fun v T' => ∃ lo, w.heap.size ≤ lo ∧ T' = [rowl strCells lo 9 1 v (cutS b)]) (e_call (vs := [.string _]) Tryd.func47 rfl (by kernel_rfl) rfl) (fun w hM => (cut_any w b (by omega)).mono fun _ _ ⟨v, T1, h1, h2, h3⟩ => ⟨v, T1, h1, ⟨_, hM.low.size, h2⟩, h3⟩) rfl rfl rfl ?_
  rintro v13 _ ⟨lo13, hlo13, rfl⟩
  refine gops_fact (fun w hM => row_form (hM.ok _ (List.mem_of_getElem? (i := 1) rfl))) ?_
  rintro ⟨A13, c13, rfl, hc13, hm13, hn13⟩
  refine gops_fact (fun w hM => own_some (hM.own 1 rfl) (cutS_pos b)) ?_
  rintro ⟨rg1, cg1, hvg, -, -⟩
  simp only [Value.slice.injEq] at hvg
  obtain ⟨rfl, -, rfl⟩ := hvg
  refine gop (y_assign (v := .slice (some ⟨rg1, 0, none⟩) _ _) rfl) rfl rfl rfl ?_
  refine gops_nil ?_
  refine hN3 _ _ ?_
  refine gT [rowl _ _ _ _ _ _, rowl _ _ _ _ _ _] rfl ?_
  refine gfrom [(5, .slice (some ⟨rg0, 0, none⟩) _ _), (6, .slice (some ⟨rg1, 0, none⟩) _ _)] ⟨rfl, rfl, trivial⟩ fun σ => ?_
  refine gseq fun N4 hN4 => ?_
  refine greg ?_
  refine gop_alloc (cs := ((List.replicate 3844 false).flatMap boolCells).toArray) zvTab2 rfl rfl (fun b7 hb7 => ?_)
  refine gops_nil ?_
  refine hN4 _ _ ?_
  refine gT [rowl _ _ _ _ _ _, rowl _ _ _ _ _ _, box b7 _] rfl ?_
  refine gfrom [(5, .slice (some ⟨rg0, 0, none⟩) _ _), (6, .slice (some ⟨rg1, 0, none⟩) _ _), (7, .pointer _)] ⟨rfl, rfl, rfl, trivial⟩ fun σ => ?_
  refine gseq fun N5 hN5 => ?_
  refine greg ?_
  refine gop (y_indexAddr_arr (m := 0) Tryd.underlying84 Tryd.sizeOf83 rfl rfl rfl (by omega) (by omega)) rfl rfl rfl ?_
  refine gop (y_indexAddr_arr (m := 0) Tryd.underlying83 Tryd.sizeOf4 rfl rfl rfl (by omega) (by omega)) rfl rfl rfl ?_
  refine gop_store_el 2 (f := boolCells) (size := 1) (k := 0) (o := 0) (v := .bool _) (a := false) (a' := true) (fun _ => rfl) rfl (by omega) rfl Tryd.sizeOf4 rfl rfl rfl rfl (rep_first rfl) (by omega) rfl rfl ?_
  refine gops_nil ?_
  refine hN5 _ _ ?_
  refine gT [rowl _ _ _ _ _ _, rowl _ _ _ _ _ _, box b7 _] rfl ?_
  refine gfrom [(5, .slice (some ⟨rg0, 0, none⟩) _ _), (6, .slice (some ⟨rg1, 0, none⟩) _ _), (7, .pointer _)] ⟨rfl, rfl, rfl, trivial⟩ fun σ => ?_
  refine gseq fun N6 hN6 => ?_
  refine gseq fun N7 hN7 => ?_
  refine greg ?_
  refine gop (y_assign (v := .int _ _) rfl) rfl rfl rfl ?_
  refine gops_nil ?_
  refine hN7 _ _ ?_
  refine gfrom [(5, .slice (some ⟨rg0, 0, none⟩) _ _), (6, .slice (some ⟨rg1, 0, none⟩) _ _), (7, .pointer _), (8, .int _ _)] ⟨rfl, rfl, rfl, rfl, trivial⟩ fun σ => ?_
  refine gblock ?_
  refine gfrom2 [(8, .int _ _)] [(5, .slice (some ⟨rg0, 0, none⟩) _ _), (6, .slice (some ⟨rg1, 0, none⟩) _ _), (7, .pointer _)] ⟨rfl, trivial⟩ ⟨rfl, rfl, rfl, trivial⟩ fun σ => ?_
  refine gloop2 (G := Nat × List Bool) (fun (i, l) => i ≤ (cutS a).length + 1 ∧ Fwd2 (cutS a) (cutS b) l (i * 62)) (fun (i, l) => (cutS a).length + 1 - i) (fun (i, l) => [(8, .int .i64 (i : Int))]) (fun (i, l) => [(2, box b7 (.cells ((l).flatMap boolCells).toArray 84))]) ((0, (List.replicate 3844 false).set 0 true)) ?h0 ⟨rfl, trivial⟩ ⟨rfl, rfl, rfl, trivial⟩ rfl ?round
  case h0 => exact ⟨Nat.zero_le _, Fwd2.begin_ (by omega) (by omega)⟩
  case round =>
    rintro ⟨i, l⟩ hφ σ
    obtain ⟨hi, hF⟩ := hφ
    refine gT [rowl _ _ _ _ _ _, rowl _ _ _ _ _ _, box b7 _] rfl ?_
    refine gseq fun N8 hN8 => ?_
    refine gseq fun N9 hN9 => ?_
    refine greg ?_
    refine gop (y_move (v := .int _ _) rfl) rfl rfl rfl ?_
    refine gop (y_move (v := .slice (some ⟨rg0, 0, none⟩) _ _) rfl) rfl rfl rfl ?_
    refine gop (y_len Tryd.underlying37 rfl) rfl rfl rfl ?_
    refine gop (y_leq rfl rfl) rfl rfl rfl ?_
    refine gops_nil ?_
    refine hN9 _ _ ?_
    refine gfrom [(5, .slice (some ⟨rg0, 0, none⟩) _ _), (6, .slice (some ⟨rg1, 0, none⟩) _ _), (7, .pointer _), (8, .int _ _), (19, .bool _)] ⟨rfl, rfl, rfl, rfl, rfl, trivial⟩ fun σ => ?_
    refine gcond (b := _) rfl (fun hc19 => ?_) (fun hc19 => ?_)
    · 
      replace hc19 := of_decide_eq_true hc19
      refine gskip ?_
      refine hN8 _ _ ?_
      refine gfrom [(5, .slice (some ⟨rg0, 0, none⟩) _ _), (6, .slice (some ⟨rg1, 0, none⟩) _ _), (7, .pointer _), (8, .int _ _)] ⟨rfl, rfl, rfl, rfl, trivial⟩ fun σ => ?_
      refine gseq fun N10 hN10 => ?_
      refine gblock ?_
      refine gseq fun N11 hN11 => ?_
      refine greg ?_
      refine gop (y_assign (v := .int _ _) rfl) rfl rfl rfl ?_
      refine gops_nil ?_
      refine hN11 _ _ ?_
      refine gfrom [(5, .slice (some ⟨rg0, 0, none⟩) _ _), (6, .slice (some ⟨rg1, 0, none⟩) _ _), (7, .pointer _), (8, .int _ _), (9, .int _ _)] ⟨rfl, rfl, rfl, rfl, rfl, trivial⟩ fun σ => ?_
      refine gblock ?_
      refine gfrom2 [(9, .int _ _)] [(5, .slice (some ⟨rg0, 0, none⟩) _ _), (6, .slice (some ⟨rg1, 0, none⟩) _ _), (7, .pointer _), (8, .int _ _)] ⟨rfl, trivial⟩ ⟨rfl, rfl, rfl, rfl, trivial⟩ fun σ => ?_
      refine gloop2 (G := Nat × List Bool) (fun (j, l2) => j ≤ (cutS b).length + 1 ∧ Fwd2 (cutS a) (cutS b) l2 (idx2 (i, j))) (fun (j, l2) => (cutS b).length + 1 - j) (fun (j, l2) => [(9, .int .i64 (j : Int))]) (fun (j, l2) => [(2, box b7 (.cells ((l2).flatMap boolCells).toArray 84))]) ((0, l)) ?h0 ⟨rfl, trivial⟩ ⟨rfl, rfl, rfl, rfl, trivial⟩ rfl ?round
      case h0 => exact ⟨Nat.zero_le _, Fwd2.enter hF⟩
      case round =>
        rintro ⟨j, l2⟩ hφ σ
        obtain ⟨hj, hF2⟩ := hφ
        refine gT [rowl _ _ _ _ _ _, rowl _ _ _ _ _ _, box b7 _] rfl ?_
        refine gseq fun N12 hN12 => ?_
        refine gseq fun N13 hN13 => ?_
        refine greg ?_
        refine gop (y_move (v := .int _ _) rfl) rfl rfl rfl ?_
        refine gop (y_move (v := .slice (some ⟨rg1, 0, none⟩) _ _) rfl) rfl rfl rfl ?_
        refine gop (y_len Tryd.underlying37 rfl) rfl rfl rfl ?_
        refine gop (y_leq rfl rfl) rfl rfl rfl ?_
        refine gops_nil ?_
        refine hN13 _ _ ?_
        refine gfrom [(5, .slice (some ⟨rg0, 0, none⟩) _ _), (6, .slice (some ⟨rg1, 0, none⟩) _ _), (7, .pointer _), (8, .int _ _), (9, .int _ _), (25, .bool _)] ⟨rfl, rfl, rfl, rfl, rfl, rfl, trivial⟩ fun σ => ?_
        refine gcond (b := _) rfl (fun hc25 => ?_) (fun hc25 => ?_)
        · 
          replace hc25 := of_decide_eq_true hc25
          have hok : okPq (cutS a) (cutS b) (i, j) := ⟨by show i ≤ _; omega, by show j ≤ _; omega⟩
          have hn2 : idx2 (i, j) < l2.length := by rw [hF2.len]; exact hF2.lt _ hok
          refine gskip ?_
          refine hN12 _ _ ?_
          refine gfrom [(5, .slice (some ⟨rg0, 0, none⟩) _ _), (6, .slice (some ⟨rg1, 0, none⟩) _ _), (7, .pointer _), (8, .int _ _), (9, .int _ _)] ⟨rfl, rfl, rfl, rfl, rfl, trivial⟩ fun σ => ?_
          refine gseq fun N14 hN14 => ?_
          refine gblock ?_
          refine gseq fun N15 hN15 => ?_
          refine gseq fun N16 hN16 => ?_
          refine greg ?_
          refine gop (y_move (v := .int _ _) rfl) rfl rfl rfl ?_
          refine gop (y_move (v := .int _ _) rfl) rfl rfl rfl ?_
          refine gop (y_indexAddr_arr (m := i) Tryd.underlying84 Tryd.sizeOf83 rfl rfl rfl (by omega) (by omega)) rfl rfl rfl ?_
          refine gop (y_indexAddr_arr (m := j) Tryd.underlying83 Tryd.sizeOf4 rfl rfl rfl (by omega) (by omega)) rfl rfl rfl ?_
          refine gop (y_load Tryd.isAgg4 rfl (cell_flat1 2 (k := idx2 (i, j)) rfl (List.getElem?_eq_getElem hn2) (by simp only [idx2]; omega))) rfl rfl rfl ?_
          refine gop (y_not rfl) rfl rfl rfl ?_
          refine gops_nil ?_
          refine hN16 _ _ ?_
          refine gfrom [(5, .slice (some ⟨rg0, 0, none⟩) _ _), (6, .slice (some ⟨rg1, 0, none⟩) _ _), (7, .pointer _), (8, .int _ _), (9, .int _ _), (33, .bool _)] ⟨rfl, rfl, rfl, rfl, rfl, rfl, trivial⟩ fun σ => ?_
          refine gcond (b := _) rfl (fun hc33 => ?_) (fun hc33 => ?_)
          · 
            replace hc33 := not_t hc33
            have hF4 := Fwd2.no hF2 hok (by rw [List.getElem?_eq_getElem hn2, hc33])
            refine gexit ?_
            refine hN14 _ _ ?_
            refine gfrom [(5, .slice (some ⟨rg0, 0, none⟩) _ _), (6, .slice (some ⟨rg1, 0, none⟩) _ _), (7, .pointer _), (8, .int _ _), (9, .int _ _)] ⟨rfl, rfl, rfl, rfl, rfl, trivial⟩ fun σ => ?_
            refine greg ?_
            refine gop (y_move (v := .int _ _) rfl) rfl rfl rfl ?_
            refine gop (y_add rfl rfl ⟨by omega, by omega⟩) rfl rfl rfl ?_
            refine gop (y_assign (v := .int _ _) rfl) rfl rfl rfl ?_
            refine gops_nil ?_
            refine gnext2 ((j + 1, l2)) (by show (cutS b).length + 1 - (j + 1) < (cutS b).length + 1 - j; omega) (⟨by show j + 1 ≤ _; omega, hF4⟩) ⟨rfl, trivial⟩ ⟨rfl, rfl, rfl, rfl, trivial⟩ ⟨_, rfl⟩
          · 
            replace hc33 := not_f hc33
            have hR0 : Rnd2 (cutS a) (cutS b) (i, j) [] l2 := Rnd.first hF2 (by rw [List.getElem?_eq_getElem hn2, hc33])
            refine gskip ?_
            refine hN15 _ _ ?_
            refine gfrom [(5, .slice (some ⟨rg0, 0, none⟩) _ _), (6, .slice (some ⟨rg1, 0, none⟩) _ _), (7, .pointer _), (8, .int _ _), (9, .int _ _)] ⟨rfl, rfl, rfl, rfl, rfl, trivial⟩ fun σ => ?_
            refine gseq fun N17 hN17 => ?_
            refine gfrom [(5, .slice (some ⟨rg0, 0, none⟩) _ _), (6, .slice (some ⟨rg1, 0, none⟩) _ _), (7, .pointer _), (8, .int _ _), (9, .int _ _)] ⟨rfl, rfl, rfl, rfl, rfl, trivial⟩ fun σ => ?_
            refine gcut3 (Lf := [(5, .slice (some ⟨rg0, 0, none⟩) _ _), (6, .slice (some ⟨rg1, 0, none⟩) _ _), (7, .pointer _), (8, .int _ _), (9, .int _ _)]) (G := List Bool) (fun la => Rnd2 (cutS a) (cutS b) (i, j) (ovA (cutS a) (i, j)) la) (fun la => []) (fun la => [(2, box b7 (.cells ((la).flatMap boolCells).toArray 84))]) ⟨rfl, rfl, rfl, rfl, rfl, trivial⟩ ?_ ?_
            ·
              refine gseq fun N18 hN18 => ?_
              refine greg ?_
              refine gop (y_move (v := .int _ _) rfl) rfl rfl rfl ?_
              refine gop (y_move (v := .slice (some ⟨rg0, 0, none⟩) _ _) rfl) rfl rfl rfl ?_
              refine gop (y_len Tryd.underlying37 rfl) rfl rfl rfl ?_
              refine gop (y_lss rfl rfl) rfl rfl rfl ?_
              refine gop (y_move (v := .bool _) rfl) rfl rfl rfl ?_
              refine gop_if (want := true) rfl rfl rfl rfl rfl rfl (fun hg38 => ?_) (fun hg38 => ?_)
              · 
                have hg38d := of_decide_eq_true hg38
                have hi1 : i < (cutS a).length := by omega
                refine gop (y_bare (y_move (v := .slice (some ⟨rg0, 0, none⟩) _ _) rfl)) rfl rfl rfl ?_
                refine gop_on rfl rfl rfl rfl hg38 ?_
                refine gop (y_bare (y_move (v := .int _ _) rfl)) rfl rfl rfl ?_
                refine gop_on rfl rfl rfl rfl hg38 ?_
                refine gop (y_bare (y_indexAddr (m := i) Tryd.underlying37 Tryd.sizeOf9 rfl rfl (by omega) (by omega) (by omega))) rfl rfl rfl ?_
                refine gop_on rfl rfl rfl rfl hg38 ?_
                refine gop (y_bare (y_load Tryd.isAgg9 rfl (cells_rowl 0 (f := strCells) (l := cutS a) rfl rfl (fun _ => rfl) (List.getElem?_eq_getElem hi1) 0 _ rfl))) rfl rfl rfl ?_
                refine gop_on rfl rfl rfl rfl hg38 ?_
                refine gop (y_bare (y_eqls rfl rfl)) rfl rfl rfl ?_
                refine gop (y_pick_t (v := .bool _) rfl hg38 rfl) rfl rfl rfl ?_
                refine gops_nil ?_
                refine hN18 _ _ ?_
                refine gfrom [(5, .slice (some ⟨rg0, 0, none⟩) _ _), (6, .slice (some ⟨rg1, 0, none⟩) _ _), (7, .pointer _), (8, .int _ _), (9, .int _ _), (44, .bool _)] ⟨rfl, rfl, rfl, rfl, rfl, rfl, trivial⟩ fun σ => ?_
                refine gcond (b := _) rfl (fun hc44 => ?_) (fun hc44 => ?_)
                · 
                  have hs : starW2 (cutS a) i = true := by rw [starW2_at hi1]; exact hc44
                  refine greg ?_
                  refine gop (y_move (v := .int _ _) rfl) rfl rfl rfl ?_
                  refine gop (y_add rfl rfl ⟨by omega, by omega⟩) rfl rfl rfl ?_
                  refine gop (y_move (v := .int _ _) rfl) rfl rfl rfl ?_
                  refine gop (y_indexAddr_arr (m := i + 1) Tryd.underlying84 Tryd.sizeOf83 rfl rfl rfl (by omega) (by omega)) rfl rfl rfl ?_
                  refine gop (y_indexAddr_arr (m := j) Tryd.underlying83 Tryd.sizeOf4 rfl rfl rfl (by omega) (by omega)) rfl rfl rfl ?_
                  refine gop_store_el 2 (f := boolCells) (size := 1) (k := idx2 (i + 1, j)) (o := 0) (v := .bool _) (a' := true) (fun _ => rfl) rfl (off2 (i + 1) (j) rfl) rfl Tryd.sizeOf4 rfl rfl rfl rfl (List.getElem?_eq_getElem (show idx2 (i + 1, j) < _ by rw [hF2.len]; show (i + 1) * 62 + (j) < _; omega)) (by omega) rfl rfl ?_
                  refine gops_nil ?_
                  refine gcut3_end (l2.set (idx2 (i + 1, j)) true) (Rnd2.a1 hR0 hok hi1 hs) trivial ⟨rfl, rfl, rfl, rfl, rfl, trivial⟩ ⟨_, rfl⟩
                · 
                  have hns : ¬ (i < (cutS a).length ∧ starW2 (cutS a) i = true) := by first | (rintro ⟨-, h8⟩; rw [starW2_at hi1] at h8; exact absurd h8 (by rw [show strEq (cutS a)[i] sStars = false from hc44]; simp)) | (rintro ⟨h8, -⟩; omega)
                  refine gskip ?_
                  refine gcut3_end (l2) (Rnd2.a0 hR0 hns) trivial ⟨rfl, rfl, rfl, rfl, rfl, trivial⟩ ⟨_, rfl⟩
              · 
                have hg38d := of_decide_eq_false hg38
                refine gop_off rfl rfl rfl rfl hg38 rfl rfl ?_
                refine gop_off rfl rfl rfl rfl hg38 rfl rfl ?_
                refine gop_off rfl rfl rfl rfl hg38 rfl rfl ?_
                refine gop_off rfl rfl rfl rfl hg38 rfl rfl ?_
                refine gop (y_pick_f (v := .bool _) rfl hg38 rfl) rfl rfl rfl ?_
                refine gops_nil ?_
                refine hN18 _ _ ?_
                refine gfrom [(5, .slice (some ⟨rg0, 0, none⟩) _ _), (6, .slice (some ⟨rg1, 0, none⟩) _ _), (7, .pointer _), (8, .int _ _), (9, .int _ _), (44, .bool _)] ⟨rfl, rfl, rfl, rfl, rfl, rfl, trivial⟩ fun σ => ?_
                refine gcond (b := _) rfl (fun hc44 => ?_) (fun hc44 => ?_)
                · 
                  cases hc44
                · 
                  have hns : ¬ (i < (cutS a).length ∧ starW2 (cutS a) i = true) := by first | (rintro ⟨-, h8⟩; rw [starW2_at hi1] at h8; exact absurd h8 (by rw [show strEq (cutS a)[i] sStars = false from hc44]; simp)) | (rintro ⟨h8, -⟩; omega)
                  refine gskip ?_
                  refine gcut3_end (l2) (Rnd2.a0 hR0 hns) trivial ⟨rfl, rfl, rfl, rfl, rfl, trivial⟩ ⟨_, rfl⟩
            ·
              intro la hcut σ
              refine hN17 _ _ ?_
              have hRa := hcut
              refine gseq fun N19 hN19 => ?_
              refine gT [rowl _ _ _ _ _ _, rowl _ _ _ _ _ _, box b7 _] rfl ?_
              refine gfrom [(5, .slice (some ⟨rg0, 0, none⟩) _ _), (6, .slice (some ⟨rg1, 0, none⟩) _ _), (7, .pointer _), (8, .int _ _), (9, .int _ _)] ⟨rfl, rfl, rfl, rfl, rfl, trivial⟩ fun σ => ?_
              refine gcut3 (Lf := [(5, .slice (some ⟨rg0, 0, none⟩) _ _), (6, .slice (some ⟨rg1, 0, none⟩) _ _), (7, .pointer _), (8, .int _ _), (9, .int _ _)]) (G := List Bool) (fun lb => Rnd2 (cutS a) (cutS b) (i, j) (ovA (cutS a) (i, j) ++ ovB (cutS b) (i, j)) lb) (fun lb => []) (fun lb => [(2, box b7 (.cells ((lb).flatMap boolCells).toArray 84))]) ⟨rfl, rfl, rfl, rfl, rfl, trivial⟩ ?_ ?_
              ·
                refine gseq fun N20 hN20 => ?_
                refine greg ?_
                refine gop (y_move (v := .int _ _) rfl) rfl rfl rfl ?_
                refine gop (y_move (v := .slice (some ⟨rg1, 0, none⟩) _ _) rfl) rfl rfl rfl ?_
                refine gop (y_len Tryd.underlying37 rfl) rfl rfl rfl ?_
                refine gop (y_lss rfl rfl) rfl rfl rfl ?_
                refine gop (y_move (v := .bool _) rfl) rfl rfl rfl ?_
                refine gop_if (want := true) rfl rfl rfl rfl rfl rfl (fun hg54 => ?_) (fun hg54 => ?_)
                · 
                  have hg54d := of_decide_eq_true hg54
                  have hj1 : j < (cutS b).length := by omega
                  refine gop (y_bare (y_move (v := .slice (some ⟨rg1, 0, none⟩) _ _) rfl)) rfl rfl rfl ?_
                  refine gop_on rfl rfl rfl rfl hg54 ?_
                  refine gop (y_bare (y_move (v := .int _ _) rfl)) rfl rfl rfl ?_
                  refine gop_on rfl rfl rfl rfl hg54 ?_
                  refine gop (y_bare (y_indexAddr (m := j) Tryd.underlying37 Tryd.sizeOf9 rfl rfl (by omega) (by omega) (by omega))) rfl rfl rfl ?_
                  refine gop_on rfl rfl rfl rfl hg54 ?_
                  refine gop (y_bare (y_load Tryd.isAgg9 rfl (cells_rowl 1 (f := strCells) (l := cutS b) rfl rfl (fun _ => rfl) (List.getElem?_eq_getElem hj1) 0 _ rfl))) rfl rfl rfl ?_
                  refine gop_on rfl rfl rfl rfl hg54 ?_
                  refine gop (y_bare (y_eqls rfl rfl)) rfl rfl rfl ?_
                  refine gop (y_pick_t (v := .bool _) rfl hg54 rfl) rfl rfl rfl ?_
                  refine gops_nil ?_
                  refine hN20 _ _ ?_
                  refine gfrom [(5, .slice (some ⟨rg0, 0, none⟩) _ _), (6, .slice (some ⟨rg1, 0, none⟩) _ _), (7, .pointer _), (8, .int _ _), (9, .int _ _), (60, .bool _)] ⟨rfl, rfl, rfl, rfl, rfl, rfl, trivial⟩ fun σ => ?_
                  refine gcond (b := _) rfl (fun hc60 => ?_) (fun hc60 => ?_)
                  · 
                    have hs : starW2 (cutS b) j = true := by rw [starW2_at hj1]; exact hc60
                    refine greg ?_
                    refine gop (y_move (v := .int _ _) rfl) rfl rfl rfl ?_
                    refine gop (y_move (v := .int _ _) rfl) rfl rfl rfl ?_
                    refine gop (y_add rfl rfl ⟨by omega, by omega⟩) rfl rfl rfl ?_
                    refine gop (y_indexAddr_arr (m := i) Tryd.underlying84 Tryd.sizeOf83 rfl rfl rfl (by omega) (by omega)) rfl rfl rfl ?_
                    refine gop (y_indexAddr_arr (m := j + 1) Tryd.underlying83 Tryd.sizeOf4 rfl rfl rfl (by omega) (by omega)) rfl rfl rfl ?_
                    refine gop_store_el 2 (f := boolCells) (size := 1) (k := idx2 (i, j + 1)) (o := 0) (v := .bool _) (a' := true) (fun _ => rfl) rfl (off2 (i) (j + 1) rfl) rfl Tryd.sizeOf4 rfl rfl rfl rfl (List.getElem?_eq_getElem (show idx2 (i, j + 1) < _ by rw [hRa.tab.len]; show (i) * 62 + (j + 1) < _; omega)) (by omega) rfl rfl ?_
                    refine gops_nil ?_
                    refine gcut3_end (la.set (idx2 (i, j + 1)) true) (Rnd2.b1 hRa hok hj1 hs) trivial ⟨rfl, rfl, rfl, rfl, rfl, trivial⟩ ⟨_, rfl⟩
                  · 
                    have hns : ¬ (j < (cutS b).length ∧ starW2 (cutS b) j = true) := by first | (rintro ⟨-, h8⟩; rw [starW2_at hj1] at h8; exact absurd h8 (by rw [show strEq (cutS b)[j] sStars = false from hc60]; simp)) | (rintro ⟨h8, -⟩; omega)
                    refine gskip ?_
                    refine gcut3_end (la) (Rnd2.b0 hRa hns) trivial ⟨rfl, rfl, rfl, rfl, rfl, trivial⟩ ⟨_, rfl⟩
                · 
                  have hg54d := of_decide_eq_false hg54
                  refine gop_off rfl rfl rfl rfl hg54 rfl rfl ?_
                  refine gop_off rfl rfl rfl rfl hg54 rfl rfl ?_
                  refine gop_off rfl rfl rfl rfl hg54 rfl rfl ?_
                  refine gop_off rfl rfl rfl rfl hg54 rfl rfl ?_
                  refine gop (y_pick_f (v := .bool _) rfl hg54 rfl) rfl rfl rfl ?_
                  refine gops_nil ?_
                  refine hN20 _ _ ?_
                  refine gfrom [(5, .slice (some ⟨rg0, 0, none⟩) _ _), (6, .slice (some ⟨rg1, 0, none⟩) _ _), (7, .pointer _), (8, .int _ _), (9, .int _ _), (60, .bool _)] ⟨rfl, rfl, rfl, rfl, rfl, rfl, trivial⟩ fun σ => ?_
                  refine gcond (b := _) rfl (fun hc60 => ?_) (fun hc60 => ?_)
                  · 
                    cases hc60
                  · 
                    have hns : ¬ (j < (cutS b).length ∧ starW2 (cutS b) j = true) := by first | (rintro ⟨-, h8⟩; rw [starW2_at hj1] at h8; exact absurd h8 (by rw [show strEq (cutS b)[j] sStars = false from hc60]; simp)) | (rintro ⟨h8, -⟩; omega)
                    refine gskip ?_
                    refine gcut3_end (la) (Rnd2.b0 hRa hns) trivial ⟨rfl, rfl, rfl, rfl, rfl, trivial⟩ ⟨_, rfl⟩
              ·
                intro lb hcut σ
                refine hN19 _ _ ?_
                have hRb := hcut
                refine gseq fun N21 hN21 => ?_
                refine gseq fun N22 hN22 => ?_
                refine greg ?_
                refine gop (y_move (v := .int _ _) rfl) rfl rfl rfl ?_
                refine gop (y_move (v := .slice (some ⟨rg0, 0, none⟩) _ _) rfl) rfl rfl rfl ?_
                refine gop (y_len Tryd.underlying37 rfl) rfl rfl rfl ?_
                refine gop (y_eql rfl rfl) rfl rfl rfl ?_
                refine gop (y_move (v := .bool _) rfl) rfl rfl rfl ?_
                refine gop_if (want := false) rfl rfl rfl rfl rfl rfl (fun hg70 => ?_) (fun hg70 => ?_)
                · 
                  have hg70d := of_decide_eq_false hg70
                  refine gop (y_bare (y_move (v := .int _ _) rfl)) rfl rfl rfl ?_
                  refine gop_on rfl rfl rfl rfl hg70 ?_
                  refine gop (y_bare (y_move (v := .slice (some ⟨rg1, 0, none⟩) _ _) rfl)) rfl rfl rfl ?_
                  refine gop_on rfl rfl rfl rfl hg70 ?_
                  refine gop (y_bare (y_len Tryd.underlying37 rfl)) rfl rfl rfl ?_
                  refine gop_on rfl rfl rfl rfl hg70 ?_
                  refine gop (y_bare (y_eql rfl rfl)) rfl rfl rfl ?_
                  refine gop (y_pick_f (v := .bool _) rfl hg70 rfl) rfl rfl rfl ?_
                  refine gops_nil ?_
                  refine hN22 _ _ ?_
                  refine gT [rowl _ _ _ _ _ _, rowl _ _ _ _ _ _, box b7 _] rfl ?_
                  refine gfrom [(5, .slice (some ⟨rg0, 0, none⟩) _ _), (6, .slice (some ⟨rg1, 0, none⟩) _ _), (7, .pointer _), (8, .int _ _), (9, .int _ _), (75, .bool _)] ⟨rfl, rfl, rfl, rfl, rfl, rfl, trivial⟩ fun σ => ?_
                  refine gcond (b := _) rfl (fun hc75 => ?_) (fun hc75 => ?_)
                  · 
                    replace hc75 := of_decide_eq_true hc75
                    have hF4 := Rnd2.stop hRb hok (by omega)
                    refine gexit ?_
                    refine hN14 _ _ ?_
                    refine gfrom [(5, .slice (some ⟨rg0, 0, none⟩) _ _), (6, .slice (some ⟨rg1, 0, none⟩) _ _), (7, .pointer _), (8, .int _ _), (9, .int _ _)] ⟨rfl, rfl, rfl, rfl, rfl, trivial⟩ fun σ => ?_
                    refine greg ?_
                    refine gop (y_move (v := .int _ _) rfl) rfl rfl rfl ?_
                    refine gop (y_add rfl rfl ⟨by omega, by omega⟩) rfl rfl rfl ?_
                    refine gop (y_assign (v := .int _ _) rfl) rfl rfl rfl ?_
                    refine gops_nil ?_
                    refine gnext2 ((j + 1, lb)) (by show (cutS b).length + 1 - (j + 1) < (cutS b).length + 1 - j; omega) (⟨by show j + 1 ≤ _; omega, hF4⟩) ⟨rfl, trivial⟩ ⟨rfl, rfl, rfl, rfl, trivial⟩ ⟨_, rfl⟩
                  · 
                    replace hc75 := of_decide_eq_false hc75
                    have hi1 : i < (cutS a).length := by omega
                    have hj1 : j < (cutS b).length := by omega
                    refine gskip ?_
                    refine hN21 _ _ ?_
                    refine gfrom [(5, .slice (some ⟨rg0, 0, none⟩) _ _), (6, .slice (some ⟨rg1, 0, none⟩) _ _), (7, .pointer _), (8, .int _ _), (9, .int _ _)] ⟨rfl, rfl, rfl, rfl, rfl, trivial⟩ fun σ => ?_
                    refine gseq fun N23 hN23 => ?_
                    refine gfrom [(5, .slice (some ⟨rg0, 0, none⟩) _ _), (6, .slice (some ⟨rg1, 0, none⟩) _ _), (7, .pointer _), (8, .int _ _), (9, .int _ _)] ⟨rfl, rfl, rfl, rfl, rfl, trivial⟩ fun σ => ?_
                    refine gcut3 (Lf := [(5, .slice (some ⟨rg0, 0, none⟩) _ _), (6, .slice (some ⟨rg1, 0, none⟩) _ _), (7, .pointer _), (8, .int _ _), (9, .int _ _)]) (G := List Bool) (fun lc => Rnd2 (cutS a) (cutS b) (i, j) (ovA (cutS a) (i, j) ++ ovB (cutS b) (i, j) ++ ovC (cutS a) (cutS b) (i, j)) lc) (fun lc => []) (fun lc => [(2, box b7 (.cells ((lc).flatMap boolCells).toArray 84))]) ⟨rfl, rfl, rfl, rfl, rfl, trivial⟩ ?_ ?_
                    ·
                      refine gseq fun N24 hN24 => ?_
                      refine greg ?_
                      refine gop (y_move (v := .slice (some ⟨rg0, 0, none⟩) _ _) rfl) rfl rfl rfl ?_
                      refine gop (y_move (v := .int _ _) rfl) rfl rfl rfl ?_
                      refine gop (y_indexAddr (m := i) Tryd.underlying37 Tryd.sizeOf9 rfl rfl (by omega) (by omega) (by omega)) rfl rfl rfl ?_
                      refine gop (y_load Tryd.isAgg9 rfl (cells_rowl 0 (f := strCells) (l := cutS a) rfl rfl (fun _ => rfl) (List.getElem?_eq_getElem hi1) 0 _ rfl)) rfl rfl rfl ?_
                      refine gop (y_eqls rfl rfl) rfl rfl rfl ?_
                      refine gop (y_move (v := .bool _) rfl) rfl rfl rfl ?_
                      refine gop_if (want := true) rfl rfl rfl rfl rfl rfl (fun hg81 => ?_) (fun hg81 => ?_)
                      · 
                        have hg81d := hg81
                        refine gop (y_bare (y_move (v := .slice (some ⟨rg1, 0, none⟩) _ _) rfl)) rfl rfl rfl ?_
                        refine gop_on rfl rfl rfl rfl hg81 ?_
                        refine gop (y_bare (y_move (v := .int _ _) rfl)) rfl rfl rfl ?_
                        refine gop_on rfl rfl rfl rfl hg81 ?_
                        refine gop (y_bare (y_indexAddr (m := j) Tryd.underlying37 Tryd.sizeOf9 rfl rfl (by omega) (by omega) (by omega))) rfl rfl rfl ?_
                        refine gop_on rfl rfl rfl rfl hg81 ?_
                        refine gop (y_bare (y_load Tryd.isAgg9 rfl (cells_rowl 1 (f := strCells) (l := cutS b) rfl rfl (fun _ => rfl) (List.getElem?_eq_getElem hj1) 0 _ rfl))) rfl rfl rfl ?_
                        refine gop_on rfl rfl rfl rfl hg81 ?_
                        refine gop (y_bare (y_neqs rfl rfl)) rfl rfl rfl ?_
                        refine gop (y_pick_t (v := .bool _) rfl hg81 rfl) rfl rfl rfl ?_
                        refine gops_nil ?_
                        refine hN24 _ _ ?_
                        refine gfrom [(5, .slice (some ⟨rg0, 0, none⟩) _ _), (6, .slice (some ⟨rg1, 0, none⟩) _ _), (7, .pointer _), (8, .int _ _), (9, .int _ _), (87, .bool _)] ⟨rfl, rfl, rfl, rfl, rfl, rfl, trivial⟩ fun σ => ?_
                        refine gcond (b := _) rfl (fun hc87 => ?_) (fun hc87 => ?_)
                        · 
                          have hsP : starW2 (cutS a) i = true := by rw [starW2_at hi1]; exact hg81d
                          have hsQ : starW2 (cutS b) j = false := by rw [starW2_at hj1]; have h8 : (!strEq (cutS b)[j] sStars) = true := hc87; simpa using h8
                          refine greg ?_
                          refine gop (y_move (v := .int _ _) rfl) rfl rfl rfl ?_
                          refine gop (y_move (v := .int _ _) rfl) rfl rfl rfl ?_
                          refine gop (y_add rfl rfl ⟨by omega, by omega⟩) rfl rfl rfl ?_
                          refine gop (y_indexAddr_arr (m := i) Tryd.underlying84 Tryd.sizeOf83 rfl rfl rfl (by omega) (by omega)) rfl rfl rfl ?_
                          refine gop (y_indexAddr_arr (m := j + 1) Tryd.underlying83 Tryd.sizeOf4 rfl rfl rfl (by omega) (by omega)) rfl rfl rfl ?_
                          refine gop_store_el 2 (f := boolCells) (size := 1) (k := idx2 (i, j + 1)) (o := 0) (v := .bool _) (a' := true) (fun _ => rfl) rfl (off2 (i) (j + 1) rfl) rfl Tryd.sizeOf4 rfl rfl rfl rfl (List.getElem?_eq_getElem (show idx2 (i, j + 1) < _ by rw [hRb.tab.len]; show (i) * 62 + (j + 1) < _; omega)) (by omega) rfl rfl ?_
                          refine gops_nil ?_
                          refine gcut3_end (lb.set (idx2 (i, j + 1)) true) (Rnd2.c1 hRb hok hi1 hj1 hsP hsQ) trivial ⟨rfl, rfl, rfl, rfl, rfl, trivial⟩ ⟨_, rfl⟩
                        · 
                          have hns : ¬ (starW2 (cutS a) i = true ∧ starW2 (cutS b) j = false) := by rintro ⟨h8, h9⟩; rw [starW2_at hi1] at h8; rw [starW2_at hj1] at h9; first | (have h7 : (!strEq (cutS b)[j] sStars) = false := hc87; rw [h9] at h7; cases h7) | (rw [show strEq (cutS a)[i] sStars = false from hg81d] at h8; cases h8)
                          refine gskip ?_
                          refine gcut3_end (lb) (Rnd2.c0 hRb hns) trivial ⟨rfl, rfl, rfl, rfl, rfl, trivial⟩ ⟨_, rfl⟩
                      · 
                        have hg81d := hg81
                        refine gop_off rfl rfl rfl rfl hg81 rfl rfl ?_
                        refine gop_off rfl rfl rfl rfl hg81 rfl rfl ?_
                        refine gop_off rfl rfl rfl rfl hg81 rfl rfl ?_
                        refine gop_off rfl rfl rfl rfl hg81 rfl rfl ?_
                        refine gop (y_pick_f (v := .bool _) rfl hg81 rfl) rfl rfl rfl ?_
                        refine gops_nil ?_
                        refine hN24 _ _ ?_
                        refine gfrom [(5, .slice (some ⟨rg0, 0, none⟩) _ _), (6, .slice (some ⟨rg1, 0, none⟩) _ _), (7, .pointer _), (8, .int _ _), (9, .int _ _), (87, .bool _)] ⟨rfl, rfl, rfl, rfl, rfl, rfl, trivial⟩ fun σ => ?_
                        refine gcond (b := _) rfl (fun hc87 => ?_) (fun hc87 => ?_)
                        · 
                          cases hc87
                        · 
                          have hns : ¬ (starW2 (cutS a) i = true ∧ starW2 (cutS b) j = false) := by rintro ⟨h8, h9⟩; rw [starW2_at hi1] at h8; rw [starW2_at hj1] at h9; first | (have h7 : (!strEq (cutS b)[j] sStars) = false := hc87; rw [h9] at h7; cases h7) | (rw [show strEq (cutS a)[i] sStars = false from hg81d] at h8; cases h8)
                          refine gskip ?_
                          refine gcut3_end (lb) (Rnd2.c0 hRb hns) trivial ⟨rfl, rfl, rfl, rfl, rfl, trivial⟩ ⟨_, rfl⟩
                    ·
                      intro lc hcut σ
                      refine hN23 _ _ ?_
                      have hRc := hcut
                      refine gseq fun N25 hN25 => ?_
                      refine gT [rowl _ _ _ _ _ _, rowl _ _ _ _ _ _, box b7 _] rfl ?_
                      refine gfrom [(5, .slice (some ⟨rg0, 0, none⟩) _ _), (6, .slice (some ⟨rg1, 0, none⟩) _ _), (7, .pointer _), (8, .int _ _), (9, .int _ _)] ⟨rfl, rfl, rfl, rfl, rfl, trivial⟩ fun σ => ?_
                      refine gcut3 (Lf := [(5, .slice (some ⟨rg0, 0, none⟩) _ _), (6, .slice (some ⟨rg1, 0, none⟩) _ _), (7, .pointer _), (8, .int _ _), (9, .int _ _)]) (G := List Bool) (fun ld => Rnd2 (cutS a) (cutS b) (i, j) (ovA (cutS a) (i, j) ++ ovB (cutS b) (i, j) ++ ovC (cutS a) (cutS b) (i, j) ++ ovD (cutS a) (cutS b) (i, j)) ld) (fun ld => []) (fun ld => [(2, box b7 (.cells ((ld).flatMap boolCells).toArray 84))]) ⟨rfl, rfl, rfl, rfl, rfl, trivial⟩ ?_ ?_
                      ·
                        refine gseq fun N26 hN26 => ?_
                        refine greg ?_
                        refine gop (y_move (v := .slice (some ⟨rg0, 0, none⟩) _ _) rfl) rfl rfl rfl ?_
                        refine gop (y_move (v := .int _ _) rfl) rfl rfl rfl ?_
                        refine gop (y_indexAddr (m := i) Tryd.underlying37 Tryd.sizeOf9 rfl rfl (by omega) (by omega) (by omega)) rfl rfl rfl ?_
                        refine gop (y_load Tryd.isAgg9 rfl (cells_rowl 0 (f := strCells) (l := cutS a) rfl rfl (fun _ => rfl) (List.getElem?_eq_getElem hi1) 0 _ rfl)) rfl rfl rfl ?_
                        refine gop (y_neqs rfl rfl) rfl rfl rfl ?_
                        refine gop (y_move (v := .bool _) rfl) rfl rfl rfl ?_
                        refine gop_if (want := true) rfl rfl rfl rfl rfl rfl (fun hg98 => ?_) (fun hg98 => ?_)
                        · 
                          have hg98d := hg98
                          refine gop (y_bare (y_move (v := .slice (some ⟨rg1, 0, none⟩) _ _) rfl)) rfl rfl rfl ?_
                          refine gop_on rfl rfl rfl rfl hg98 ?_
                          refine gop (y_bare (y_move (v := .int _ _) rfl)) rfl rfl rfl ?_
                          refine gop_on rfl rfl rfl rfl hg98 ?_
                          refine gop (y_bare (y_indexAddr (m := j) Tryd.underlying37 Tryd.sizeOf9 rfl rfl (by omega) (by omega) (by omega))) rfl rfl rfl ?_
                          refine gop_on rfl rfl rfl rfl hg98 ?_
                          refine gop (y_bare (y_load Tryd.isAgg9 rfl (cells_rowl 1 (f := strCells) (l := cutS b) rfl rfl (fun _ => rfl) (List.getElem?_eq_getElem hj1) 0 _ rfl))) rfl rfl rfl ?_
                          refine gop_on rfl rfl rfl rfl hg98 ?_
                          refine gop (y_bare (y_eqls rfl rfl)) rfl rfl rfl ?_
                          refine gop (y_pick_t (v := .bool _) rfl hg98 rfl) rfl rfl rfl ?_
                          refine gops_nil ?_
                          refine hN26 _ _ ?_
                          refine gfrom [(5, .slice (some ⟨rg0, 0, none⟩) _ _), (6, .slice (some ⟨rg1, 0, none⟩) _ _), (7, .pointer _), (8, .int _ _), (9, .int _ _), (104, .bool _)] ⟨rfl, rfl, rfl, rfl, rfl, rfl, trivial⟩ fun σ => ?_
                          refine gcond (b := _) rfl (fun hc104 => ?_) (fun hc104 => ?_)
                          · 
                            have hsP : starW2 (cutS a) i = false := by rw [starW2_at hi1]; have h8 : (!strEq (cutS a)[i] sStars) = true := hg98d; simpa using h8
                            have hsQ : starW2 (cutS b) j = true := by rw [starW2_at hj1]; exact hc104
                            refine greg ?_
                            refine gop (y_move (v := .int _ _) rfl) rfl rfl rfl ?_
                            refine gop (y_add rfl rfl ⟨by omega, by omega⟩) rfl rfl rfl ?_
                            refine gop (y_move (v := .int _ _) rfl) rfl rfl rfl ?_
                            refine gop (y_indexAddr_arr (m := i + 1) Tryd.underlying84 Tryd.sizeOf83 rfl rfl rfl (by omega) (by omega)) rfl rfl rfl ?_
                            refine gop (y_indexAddr_arr (m := j) Tryd.underlying83 Tryd.sizeOf4 rfl rfl rfl (by omega) (by omega)) rfl rfl rfl ?_
                            refine gop_store_el 2 (f := boolCells) (size := 1) (k := idx2 (i + 1, j)) (o := 0) (v := .bool _) (a' := true) (fun _ => rfl) rfl (off2 (i + 1) (j) rfl) rfl Tryd.sizeOf4 rfl rfl rfl rfl (List.getElem?_eq_getElem (show idx2 (i + 1, j) < _ by rw [hRc.tab.len]; show (i + 1) * 62 + (j) < _; omega)) (by omega) rfl rfl ?_
                            refine gops_nil ?_
                            refine gcut3_end (lc.set (idx2 (i + 1, j)) true) (Rnd2.d1 hRc hok hi1 hj1 hsP hsQ) trivial ⟨rfl, rfl, rfl, rfl, rfl, trivial⟩ ⟨_, rfl⟩
                          · 
                            have hns : ¬ (starW2 (cutS a) i = false ∧ starW2 (cutS b) j = true) := by rintro ⟨h8, h9⟩; rw [starW2_at hi1] at h8; rw [starW2_at hj1] at h9; first | (have h7 : (!strEq (cutS a)[i] sStars) = false := hg98d; rw [h8] at h7; cases h7) | (rw [show strEq (cutS b)[j] sStars = false from hc104] at h9; cases h9)
                            refine gskip ?_
                            refine gcut3_end (lc) (Rnd2.d0 hRc hns) trivial ⟨rfl, rfl, rfl, rfl, rfl, trivial⟩ ⟨_, rfl⟩
                        · 
                          have hg98d := hg98
                          refine gop_off rfl rfl rfl rfl hg98 rfl rfl ?_
                          refine gop_off rfl rfl rfl rfl hg98 rfl rfl ?_
                          refine gop_off rfl rfl rfl rfl hg98 rfl rfl ?_
                          refine gop_off rfl rfl rfl rfl hg98 rfl rfl ?_
                          refine gop (y_pick_f (v := .bool _) rfl hg98 rfl) rfl rfl rfl ?_
                          refine gops_nil ?_
                          refine hN26 _ _ ?_
                          refine gfrom [(5, .slice (some ⟨rg0, 0, none⟩) _ _), (6, .slice (some ⟨rg1, 0, none⟩) _ _), (7, .pointer _), (8, .int _ _), (9, .int _ _), (104, .bool _)] ⟨rfl, rfl, rfl, rfl, rfl, rfl, trivial⟩ fun σ => ?_
                          refine gcond (b := _) rfl (fun hc104 => ?_) (fun hc104 => ?_)
                          · 
                            cases hc104
                          · 
                            have hns : ¬ (starW2 (cutS a) i = false ∧ starW2 (cutS b) j = true) := by rintro ⟨h8, h9⟩; rw [starW2_at hi1] at h8; rw [starW2_at hj1] at h9; first | (have h7 : (!strEq (cutS a)[i] sStars) = false := hg98d; rw [h8] at h7; cases h7) | (rw [show strEq (cutS b)[j] sStars = false from hc104] at h9; cases h9)
                            refine gskip ?_
                            refine gcut3_end (lc) (Rnd2.d0 hRc hns) trivial ⟨rfl, rfl, rfl, rfl, rfl, trivial⟩ ⟨_, rfl⟩
                      ·
                        intro ld hcut σ
                        refine hN25 _ _ ?_
                        have hRd := hcut
                        refine gseq fun N27 hN27 => ?_
                        refine greg_q (by kernel_rfl) (by kernel_rfl) ?_
                        refine gq (y_move (v := .slice (some ⟨rg0, 0, none⟩) _ _) rfl) rfl rfl rfl ?_
                        refine gq (y_move (v := .int _ _) rfl) rfl rfl rfl ?_
                        refine gq (y_indexAddr (m := i) Tryd.underlying37 Tryd.sizeOf9 rfl rfl (by omega) (by omega) (by omega)) rfl rfl rfl ?_
                        refine gq (y_load Tryd.isAgg9 rfl (cells_rowl 0 (f := strCells) (l := cutS a) rfl rfl (fun _ => rfl) (List.getElem?_eq_getElem hi1) 0 _ rfl)) rfl rfl rfl ?_
                        refine gq (y_neqs rfl rfl) rfl rfl rfl ?_
                        refine gq (y_move (v := .bool _) rfl) rfl rfl rfl ?_
                        refine gq_if (want := true) rfl rfl rfl rfl rfl rfl (fun hg115 => ?_) (fun hg115 => ?_)
                        · 
                          have hg115d := hg115
                          refine gq (y_bare (y_move (v := .slice (some ⟨rg1, 0, none⟩) _ _) rfl)) rfl rfl rfl ?_
                          refine gq_on rfl rfl rfl rfl hg115 ?_
                          refine gq (y_bare (y_move (v := .int _ _) rfl)) rfl rfl rfl ?_
                          refine gq_on rfl rfl rfl rfl hg115 ?_
                          refine gq (y_bare (y_indexAddr (m := j) Tryd.underlying37 Tryd.sizeOf9 rfl rfl (by omega) (by omega) (by omega))) rfl rfl rfl ?_
                          refine gq_on rfl rfl rfl rfl hg115 ?_
                          refine gq (y_bare (y_load Tryd.isAgg9 rfl (cells_rowl 1 (f := strCells) (l := cutS b) rfl rfl (fun _ => rfl) (List.getElem?_eq_getElem hj1) 0 _ rfl))) rfl rfl rfl ?_
                          refine gq_on rfl rfl rfl rfl hg115 ?_
                          refine gq (y_bare (y_neqs rfl rfl)) rfl rfl rfl ?_
                          refine gq (y_pick_t (v := .bool _) rfl hg115 rfl) rfl rfl rfl ?_
                          refine gq (y_move (v := .bool _) rfl) rfl rfl rfl ?_
                          refine gq_if (want := true) rfl rfl rfl rfl rfl rfl (fun hg122 => ?_) (fun hg122 => ?_)
                          · 
                            have hg122d := hg122
                            refine gq (y_bare (y_move (v := .slice (some ⟨rg0, 0, none⟩) _ _) rfl)) rfl rfl rfl ?_
                            refine gq_on rfl rfl rfl rfl hg122 ?_
                            refine gq (y_bare (y_move (v := .int _ _) rfl)) rfl rfl rfl ?_
                            refine gq_on rfl rfl rfl rfl hg122 ?_
                            refine gq (y_bare (y_indexAddr (m := i) Tryd.underlying37 Tryd.sizeOf9 rfl rfl (by omega) (by omega) (by omega))) rfl rfl rfl ?_
                            refine gq_on rfl rfl rfl rfl hg122 ?_
                            refine gq (y_bare (y_load Tryd.isAgg9 rfl (cells_rowl 0 (f := strCells) (l := cutS a) rfl rfl (fun _ => rfl) (List.getElem?_eq_getElem hi1) 0 _ rfl))) rfl rfl rfl ?_
                            refine gq_on rfl rfl rfl rfl hg122 ?_
                            refine gq (y_bare (y_move (v := .slice (some ⟨rg1, 0, none⟩) _ _) rfl)) rfl rfl rfl ?_
                            refine gq_on rfl rfl rfl rfl hg122 ?_
                            refine gq (y_bare (y_move (v := .int _ _) rfl)) rfl rfl rfl ?_
                            refine gq_on rfl rfl rfl rfl hg122 ?_
                            refine gq (y_bare (y_indexAddr (m := j) Tryd.underlying37 Tryd.sizeOf9 rfl rfl (by omega) (by omega) (by omega))) rfl rfl rfl ?_
                            refine gq_on rfl rfl rfl rfl hg122 ?_
                            refine gq (y_bare (y_load Tryd.isAgg9 rfl (cells_rowl 1 (f := strCells) (l := cutS b) rfl rfl (fun _ => rfl) (List.getElem?_eq_getElem hj1) 0 _ rfl))) rfl rfl rfl ?_
                            refine gq_on rfl rfl rfl rfl hg122 ?_
                            refine gq_pure (e_call (vs := [.string _, .string _]) Tryd.func67 rfl (by kernel_rfl) rfl) (fun w hM => partsMeet_any w _ _ (cutS_size (List.getElem_mem hi1) ha) (cutS_size (List.getElem_mem hj1) hb)) rfl rfl rfl ?_
                            refine gq (y_pick_t (v := .bool _) rfl hg122 rfl) rfl rfl rfl ?_
                            refine gqs_nil ?_
                            refine hN27 _ _ ?_
                            refine gT [rowl _ _ _ _ _ _, rowl _ _ _ _ _ _, box b7 _] rfl ?_
                            refine gfrom [(5, .slice (some ⟨rg0, 0, none⟩) _ _), (6, .slice (some ⟨rg1, 0, none⟩) _ _), (7, .pointer _), (8, .int _ _), (9, .int _ _), (132, .bool _)] ⟨rfl, rfl, rfl, rfl, rfl, rfl, trivial⟩ fun σ => ?_
                            refine gcond (b := _) rfl (fun hc132 => ?_) (fun hc132 => ?_)
                            · 
                              have hsP : starW2 (cutS a) i = false := by rw [starW2_at hi1]; have h8 : (!strEq (cutS a)[i] sStars) = true := hg115d; simpa using h8
                              have hsQ : starW2 (cutS b) j = false := by rw [starW2_at hj1]; have h8 : (!strEq (cutS b)[j] sStars) = true := hg122d; simpa using h8
                              have hF4 := Rnd2.e1 hRd hok hi1 hj1 hsP hsQ hc132
                              refine greg ?_
                              refine gop (y_move (v := .int _ _) rfl) rfl rfl rfl ?_
                              refine gop (y_add rfl rfl ⟨by omega, by omega⟩) rfl rfl rfl ?_
                              refine gop (y_move (v := .int _ _) rfl) rfl rfl rfl ?_
                              refine gop (y_add rfl rfl ⟨by omega, by omega⟩) rfl rfl rfl ?_
                              refine gop (y_indexAddr_arr (m := i + 1) Tryd.underlying84 Tryd.sizeOf83 rfl rfl rfl (by omega) (by omega)) rfl rfl rfl ?_
                              refine gop (y_indexAddr_arr (m := j + 1) Tryd.underlying83 Tryd.sizeOf4 rfl rfl rfl (by omega) (by omega)) rfl rfl rfl ?_
                              refine gop_store_el 2 (f := boolCells) (size := 1) (k := idx2 (i + 1, j + 1)) (o := 0) (v := .bool _) (a' := true) (fun _ => rfl) rfl (off2 (i + 1) (j + 1) rfl) rfl Tryd.sizeOf4 rfl rfl rfl rfl (List.getElem?_eq_getElem (show idx2 (i + 1, j + 1) < _ by rw [hRd.tab.len]; show (i + 1) * 62 + (j + 1) < _; omega)) (by omega) rfl rfl ?_
                              refine gops_nil ?_
                              refine hN14 _ _ ?_
                              refine gT [rowl _ _ _ _ _ _, rowl _ _ _ _ _ _, box b7 _] rfl ?_
                              refine gfrom [(5, .slice (some ⟨rg0, 0, none⟩) _ _), (6, .slice (some ⟨rg1, 0, none⟩) _ _), (7, .pointer _), (8, .int _ _), (9, .int _ _)] ⟨rfl, rfl, rfl, rfl, rfl, trivial⟩ fun σ => ?_
                              refine greg ?_
                              refine gop (y_move (v := .int _ _) rfl) rfl rfl rfl ?_
                              refine gop (y_add rfl rfl ⟨by omega, by omega⟩) rfl rfl rfl ?_
                              refine gop (y_assign (v := .int _ _) rfl) rfl rfl rfl ?_
                              refine gops_nil ?_
                              refine gnext2 ((j + 1, ld.set (idx2 (i + 1, j + 1)) true)) (by show (cutS b).length + 1 - (j + 1) < (cutS b).length + 1 - j; omega) (⟨by show j + 1 ≤ _; omega, hF4⟩) ⟨rfl, trivial⟩ ⟨rfl, rfl, rfl, rfl, trivial⟩ ⟨_, rfl⟩
                            · 
                              have hF4 := Rnd2.e0 hRd hok hi1 hj1 (by rintro ⟨h7, h8, h9⟩; rw [starW2_at hi1] at h7; rw [starW2_at hj1] at h8; first | (have h6 : (!strEq (cutS a)[i] sStars) = false := hg115d; rw [h7] at h6; cases h6) | (have h6 : (!strEq (cutS b)[j] sStars) = false := hg122d; rw [h8] at h6; cases h6) | (rw [show commonB (cutS a)[i] (cutS b)[j] = false from hc132] at h9; cases h9))
                              refine gskip ?_
                              refine hN14 _ _ ?_
                              refine gfrom [(5, .slice (some ⟨rg0, 0, none⟩) _ _), (6, .slice (some ⟨rg1, 0, none⟩) _ _), (7, .pointer _), (8, .int _ _), (9, .int _ _)] ⟨rfl, rfl, rfl, rfl, rfl, trivial⟩ fun σ => ?_
                              refine greg ?_
                              refine gop (y_move (v := .int _ _) rfl) rfl rfl rfl ?_
                              refine gop (y_add rfl rfl ⟨by omega, by omega⟩) rfl rfl rfl ?_
                              refine gop (y_assign (v := .int _ _) rfl) rfl rfl rfl ?_
                              refine gops_nil ?_
                              refine gnext2 ((j + 1, ld)) (by show (cutS b).length + 1 - (j + 1) < (cutS b).length + 1 - j; omega) (⟨by show j + 1 ≤ _; omega, hF4⟩) ⟨rfl, trivial⟩ ⟨rfl, rfl, rfl, rfl, trivial⟩ ⟨_, rfl⟩
                          · 
                            have hg122d := hg122
                            refine gq_off rfl rfl rfl rfl hg122 rfl rfl ?_
                            refine gq_off rfl rfl rfl rfl hg122 rfl rfl ?_
                            refine gq_off rfl rfl rfl rfl hg122 rfl rfl ?_
                            refine gq_off rfl rfl rfl rfl hg122 rfl rfl ?_
                            refine gq_off rfl rfl rfl rfl hg122 rfl rfl ?_
                            refine gq_off rfl rfl rfl rfl hg122 rfl rfl ?_
                            refine gq_off rfl rfl rfl rfl hg122 rfl rfl ?_
                            refine gq_off rfl rfl rfl rfl hg122 rfl rfl ?_
                            refine gq (y_pick_f (v := .bool _) rfl hg122 rfl) rfl rfl rfl ?_
                            refine gqs_nil ?_
                            refine hN27 _ _ ?_
                            refine gT [rowl _ _ _ _ _ _, rowl _ _ _ _ _ _, box b7 _] rfl ?_
                            refine gfrom [(5, .slice (some ⟨rg0, 0, none⟩) _ _), (6, .slice (some ⟨rg1, 0, none⟩) _ _), (7, .pointer _), (8, .int _ _), (9, .int _ _), (132, .bool _)] ⟨rfl, rfl, rfl, rfl, rfl, rfl, trivial⟩ fun σ => ?_
                            refine gcond (b := _) rfl (fun hc132 => ?_) (fun hc132 => ?_)
                            · 
                              cases hc132
                            · 
                              have hF4 := Rnd2.e0 hRd hok hi1 hj1 (by rintro ⟨h7, h8, h9⟩; rw [starW2_at hi1] at h7; rw [starW2_at hj1] at h8; first | (have h6 : (!strEq (cutS a)[i] sStars) = false := hg115d; rw [h7] at h6; cases h6) | (have h6 : (!strEq (cutS b)[j] sStars) = false := hg122d; rw [h8] at h6; cases h6) | (rw [show commonB (cutS a)[i] (cutS b)[j] = false from hc132] at h9; cases h9))
                              refine gskip ?_
                              refine hN14 _ _ ?_
                              refine gfrom [(5, .slice (some ⟨rg0, 0, none⟩) _ _), (6, .slice (some ⟨rg1, 0, none⟩) _ _), (7, .pointer _), (8, .int _ _), (9, .int _ _)] ⟨rfl, rfl, rfl, rfl, rfl, trivial⟩ fun σ => ?_
                              refine greg ?_
                              refine gop (y_move (v := .int _ _) rfl) rfl rfl rfl ?_
                              refine gop (y_add rfl rfl ⟨by omega, by omega⟩) rfl rfl rfl ?_
                              refine gop (y_assign (v := .int _ _) rfl) rfl rfl rfl ?_
                              refine gops_nil ?_
                              refine gnext2 ((j + 1, ld)) (by show (cutS b).length + 1 - (j + 1) < (cutS b).length + 1 - j; omega) (⟨by show j + 1 ≤ _; omega, hF4⟩) ⟨rfl, trivial⟩ ⟨rfl, rfl, rfl, rfl, trivial⟩ ⟨_, rfl⟩
                        · 
                          have hg115d := hg115
                          refine gq_off rfl rfl rfl rfl hg115 rfl rfl ?_
                          refine gq_off rfl rfl rfl rfl hg115 rfl rfl ?_
                          refine gq_off rfl rfl rfl rfl hg115 rfl rfl ?_
                          refine gq_off rfl rfl rfl rfl hg115 rfl rfl ?_
                          refine gq (y_pick_f (v := .bool _) rfl hg115 rfl) rfl rfl rfl ?_
                          refine gq (y_move (v := .bool _) rfl) rfl rfl rfl ?_
                          refine gq_off rfl rfl rfl rfl rfl rfl rfl ?_
                          refine gq_off rfl rfl rfl rfl rfl rfl rfl ?_
                          refine gq_off rfl rfl rfl rfl rfl rfl rfl ?_
                          refine gq_off rfl rfl rfl rfl rfl rfl rfl ?_
                          refine gq_off rfl rfl rfl rfl rfl rfl rfl ?_
                          refine gq_off rfl rfl rfl rfl rfl rfl rfl ?_
                          refine gq_off rfl rfl rfl rfl rfl rfl rfl ?_
                          refine gq_off rfl rfl rfl rfl rfl rfl rfl ?_
                          refine gq_off rfl rfl rfl rfl rfl rfl rfl ?_
                          refine gq (y_pick_f (v := .bool _) rfl rfl rfl) rfl rfl rfl ?_
                          refine gqs_nil ?_
                          refine hN27 _ _ ?_
                          refine gT [rowl _ _ _ _ _ _, rowl _ _ _ _ _ _, box b7 _] rfl ?_
                          refine gfrom [(5, .slice (some ⟨rg0, 0, none⟩) _ _), (6, .slice (some ⟨rg1, 0, none⟩) _ _), (7, .pointer _), (8, .int _ _), (9, .int _ _), (132, .bool _)] ⟨rfl, rfl, rfl, rfl, rfl, rfl, trivial⟩ fun σ => ?_
                          refine gcond (b := _) rfl (fun hc132 => ?_) (fun hc132 => ?_)
                          · 
                            cases hc132
                          · 
                            have hF4 := Rnd2.e0 hRd hok hi1 hj1 (by rintro ⟨h7, h8, h9⟩; rw [starW2_at hi1] at h7; rw [starW2_at hj1] at h8; first | (have h6 : (!strEq (cutS a)[i] sStars) = false := hg115d; rw [h7] at h6; cases h6) | (have h6 : (!strEq (cutS b)[j] sStars) = false := hg122d; rw [h8] at h6; cases h6) | (rw [show commonB (cutS a)[i] (cutS b)[j] = false from hc132] at h9; cases h9))
                            refine gskip ?_
                            refine hN14 _ _ ?_
                            refine gfrom [(5, .slice (some ⟨rg0, 0, none⟩) _ _), (6, .slice (some ⟨rg1, 0, none⟩) _ _), (7, .pointer _), (8, .int _ _), (9, .int _ _)] ⟨rfl, rfl, rfl, rfl, rfl, trivial⟩ fun σ => ?_
                            refine greg ?_
                            refine gop (y_move (v := .int _ _) rfl) rfl rfl rfl ?_
                            refine gop (y_add rfl rfl ⟨by omega, by omega⟩) rfl rfl rfl ?_
                            refine gop (y_assign (v := .int _ _) rfl) rfl rfl rfl ?_
                            refine gops_nil ?_
                            refine gnext2 ((j + 1, ld)) (by show (cutS b).length + 1 - (j + 1) < (cutS b).length + 1 - j; omega) (⟨by show j + 1 ≤ _; omega, hF4⟩) ⟨rfl, trivial⟩ ⟨rfl, rfl, rfl, rfl, trivial⟩ ⟨_, rfl⟩
                · 
                  have hg70d := of_decide_eq_true hg70
                  refine gop_off rfl rfl rfl rfl hg70 rfl rfl ?_
                  refine gop_off rfl rfl rfl rfl hg70 rfl rfl ?_
                  refine gop_off rfl rfl rfl rfl hg70 rfl rfl ?_
                  refine gop (y_pick_t (v := .bool _) rfl hg70 rfl) rfl rfl rfl ?_
                  refine gops_nil ?_
                  refine hN22 _ _ ?_
                  refine gT [rowl _ _ _ _ _ _, rowl _ _ _ _ _ _, box b7 _] rfl ?_
                  refine gfrom [(5, .slice (some ⟨rg0, 0, none⟩) _ _), (6, .slice (some ⟨rg1, 0, none⟩) _ _), (7, .pointer _), (8, .int _ _), (9, .int _ _), (75, .bool _)] ⟨rfl, rfl, rfl, rfl, rfl, rfl, trivial⟩ fun σ => ?_
                  refine gcond (b := _) rfl (fun hc75 => ?_) (fun hc75 => ?_)
                  · 
                    have hF4 := Rnd2.stop hRb hok (by omega)
                    refine gexit ?_
                    refine hN14 _ _ ?_
                    refine gfrom [(5, .slice (some ⟨rg0, 0, none⟩) _ _), (6, .slice (some ⟨rg1, 0, none⟩) _ _), (7, .pointer _), (8, .int _ _), (9, .int _ _)] ⟨rfl, rfl, rfl, rfl, rfl, trivial⟩ fun σ => ?_
                    refine greg ?_
                    refine gop (y_move (v := .int _ _) rfl) rfl rfl rfl ?_
                    refine gop (y_add rfl rfl ⟨by omega, by omega⟩) rfl rfl rfl ?_
                    refine gop (y_assign (v := .int _ _) rfl) rfl rfl rfl ?_
                    refine gops_nil ?_
                    refine gnext2 ((j + 1, lb)) (by show (cutS b).length + 1 - (j + 1) < (cutS b).length + 1 - j; omega) (⟨by show j + 1 ≤ _; omega, hF4⟩) ⟨rfl, trivial⟩ ⟨rfl, rfl, rfl, rfl, trivial⟩ ⟨_, rfl⟩
                  · 
                    cases hc75
        · 
          replace hc25 := of_decide_eq_false hc25
          have hF1 := Fwd2.row hF2 (by omega)
          refine gexit ?_
          refine hN10 _ _ ?_
          refine gfrom [(5, .slice (some ⟨rg0, 0, none⟩) _ _), (6, .slice (some ⟨rg1, 0, none⟩) _ _), (7, .pointer _), (8, .int _ _)] ⟨rfl, rfl, rfl, rfl, trivial⟩ fun σ => ?_
          refine greg ?_
          refine gop (y_move (v := .int _ _) rfl) rfl rfl rfl ?_
          refine gop (y_add rfl rfl ⟨by omega, by omega⟩) rfl rfl rfl ?_
          refine gop (y_assign (v := .int _ _) rfl) rfl rfl rfl ?_
          refine gops_nil ?_
          refine gnext2 ((i + 1, l2)) (by show (cutS a).length + 1 - (i + 1) < (cutS a).length + 1 - i; omega) (⟨by show i + 1 ≤ _; omega, hF1⟩) ⟨rfl, trivial⟩ ⟨rfl, rfl, rfl, trivial⟩ ⟨_, rfl⟩
    · 
      replace hc19 := of_decide_eq_false hc19
      have hlt : (cutS a).length * 62 + (cutS b).length < l.length := by rw [hF.len]; omega
      have hA := Fwd2.all hF (by omega) (List.getElem?_eq_getElem hlt) (by omega)
      refine gexit ?_
      refine hN6 _ _ ?_
      refine gfrom [(5, .slice (some ⟨rg0, 0, none⟩) _ _), (6, .slice (some ⟨rg1, 0, none⟩) _ _), (7, .pointer _)] ⟨rfl, rfl, rfl, trivial⟩ fun σ => ?_
      refine gseq fun N28 hN28 => ?_
      refine greg ?_
      refine gop (y_move (v := .slice (some ⟨rg0, 0, none⟩) _ _) rfl) rfl rfl rfl ?_
      refine gop (y_len Tryd.underlying37 rfl) rfl rfl rfl ?_
      refine gop (y_move (v := .slice (some ⟨rg1, 0, none⟩) _ _) rfl) rfl rfl rfl ?_
      refine gop (y_len Tryd.underlying37 rfl) rfl rfl rfl ?_
      refine gop (y_indexAddr_arr (m := (cutS a).length) Tryd.underlying84 Tryd.sizeOf83 rfl rfl rfl (by omega) (by omega)) rfl rfl rfl ?_
      refine gop (y_indexAddr_arr (m := (cutS b).length) Tryd.underlying83 Tryd.sizeOf4 rfl rfl rfl (by omega) (by omega)) rfl rfl rfl ?_
      refine gop (y_load Tryd.isAgg4 rfl (cell_flat1 2 (k := (cutS a).length * 62 + (cutS b).length) rfl (List.getElem?_eq_getElem hlt) (by omega))) rfl rfl rfl ?_
      refine gop (y_assign (v := .bool _) rfl) rfl rfl rfl ?_
      refine gops_nil ?_
      refine hN28 _ _ ?_
      refine gfrom [(4, .bool _)] ⟨rfl, trivial⟩ fun σ => ?_
      refine gret fun w1 hM => ?_
      refine ⟨_, res1 rfl (rt (v := .bool _) rfl), ?_⟩
      exact ⟨by rw [hA], hM.low⟩
end Go.Proofs.YtijpaljdclhehaaDoor
namespace Go.Proofs.YtijpaljdclhehaaDoor
open Go.RowKit Go.Cf
set_option maxRecDepth 10000
theorem ex1 : matchV ⟨#[115, 114, 99, 47, 42, 42, 47, 42, 46, 103, 111]⟩ ⟨#[115, 114, 99, 47, 120, 47, 97, 46, 103, 111]⟩ = true ∧ (matchF ⟨#[115, 114, 99, 47, 42, 42, 47, 42, 46, 103, 111]⟩ ⟨#[115, 114, 99, 47, 120, 47, 97, 46, 103, 111]⟩).code = 0 := by decide +kernel
theorem ex2 : matchV ⟨#[42, 46, 103, 111]⟩ ⟨#[120, 47, 97, 46, 103, 111]⟩ = false ∧ (matchF ⟨#[42, 46, 103, 111]⟩ ⟨#[120, 47, 97, 46, 103, 111]⟩).code = 0 := by decide +kernel
theorem ex3 : overV ⟨#[97, 42, 47, 120]⟩ ⟨#[63, 98, 47, 42, 42]⟩ = true ∧ (overF ⟨#[97, 42, 47, 120]⟩ ⟨#[63, 98, 47, 42, 42]⟩).code = 0 := by decide +kernel
set_option maxHeartbeats 2000000 in
theorem globExample_any (w : World) : Calls Tryd.prog 16 #[] w fun e w' => e = .returned (.bool true) ∧ Below w.heap.size w w' := by
  refine gcalls Tryd.func16 rfl Tryd.ntmps16 (Nat.le_of_ble_eq_true rfl) ?_
  refine gfrom [] trivial fun σ => ?_
  refine gseq fun N1 hN1 => ?_
  refine greg ?_
  refine gop (y_assign (v := .bool _) rfl) rfl rfl rfl ?_
  refine gops_nil ?_
  refine hN1 _ _ ?_
  refine gfrom [] trivial fun σ => ?_
  refine gseq fun N2 hN2 => ?_
  refine greg ?_
  refine gop_pure (e_call (vs := [_, _]) Tryd.func14 rfl (by kernel_rfl) rfl) (fun w hM => match_any w _ _) rfl rfl rfl ?_
  refine gop (y_move (v := .tuple #[.bool _, .agg #[_, _]]) rfl) rfl rfl rfl ?_
  refine gop (y_extract (v := .bool _) rfl rfl) rfl rfl rfl ?_
  refine gop (y_extract (v := .agg #[_, _]) rfl rfl) rfl rfl rfl ?_
  refine gop_alloc (cs := #[.int .i64 0, .int .i64 0]) Tryd.zeroValue23 rfl rfl (fun b2 hb2 => ?_)
  refine gop (y_assign (v := .bool _) rfl) rfl rfl rfl ?_
  refine gop_store 0 (v := .agg #[_, _]) (cs' := #[_, _]) rfl rfl Tryd.sizeOf23 rfl rfl rfl rfl (Nat.le_of_ble_eq_true rfl) rfl rfl ?_
  refine gops_nil ?_
  refine hN2 _ _ ?_
  refine gT [box b2 _] rfl ?_
  refine gfrom [(1, .bool _), (2, .pointer _)] ⟨rfl, rfl, trivial⟩ fun σ => ?_
  refine gseq fun N3 hN3 => ?_
  refine greg ?_
  refine gop_pure (e_call (vs := [_, _]) Tryd.func14 rfl (by kernel_rfl) rfl) (fun w hM => match_any w _ _) rfl rfl rfl ?_
  refine gop (y_move (v := .tuple #[.bool _, .agg #[_, _]]) rfl) rfl rfl rfl ?_
  refine gop (y_extract (v := .bool _) rfl rfl) rfl rfl rfl ?_
  refine gop (y_extract (v := .agg #[_, _]) rfl rfl) rfl rfl rfl ?_
  refine gop_alloc (cs := #[.int .i64 0, .int .i64 0]) Tryd.zeroValue23 rfl rfl (fun b4 hb4 => ?_)
  refine gop (y_assign (v := .bool _) rfl) rfl rfl rfl ?_
  refine gop_store 1 (v := .agg #[_, _]) (cs' := #[_, _]) rfl rfl Tryd.sizeOf23 rfl rfl rfl rfl (Nat.le_of_ble_eq_true rfl) rfl rfl ?_
  refine gops_nil ?_
  refine hN3 _ _ ?_
  refine gT [box b2 _, box b4 _] rfl ?_
  refine gfrom [(1, .bool _), (2, .pointer _), (3, .bool _), (4, .pointer _)] ⟨rfl, rfl, rfl, rfl, trivial⟩ fun σ => ?_
  refine gseq fun N4 hN4 => ?_
  refine greg ?_
  refine gop_pure (e_call (vs := [_, _]) Tryd.func15 rfl (by kernel_rfl) rfl) (fun w hM => over_any w _ _) rfl rfl rfl ?_
  refine gop (y_move (v := .tuple #[.bool _, .agg #[_, _]]) rfl) rfl rfl rfl ?_
  refine gop (y_extract (v := .bool _) rfl rfl) rfl rfl rfl ?_
  refine gop (y_extract (v := .agg #[_, _]) rfl rfl) rfl rfl rfl ?_
  refine gop_alloc (cs := #[.int .i64 0, .int .i64 0]) Tryd.zeroValue23 rfl rfl (fun b6 hb6 => ?_)
  refine gop (y_assign (v := .bool _) rfl) rfl rfl rfl ?_
  refine gop_store 2 (v := .agg #[_, _]) (cs' := #[_, _]) rfl rfl Tryd.sizeOf23 rfl rfl rfl rfl (Nat.le_of_ble_eq_true rfl) rfl rfl ?_
  refine gops_nil ?_
  refine hN4 _ _ ?_
  refine gT [box b2 _, box b4 _, box b6 _] rfl ?_
  refine gfrom [(1, .bool _), (2, .pointer _), (3, .bool _), (4, .pointer _), (5, .bool _), (6, .pointer _)] ⟨rfl, rfl, rfl, rfl, rfl, rfl, trivial⟩ fun σ => ?_
  refine gseq fun N5 hN5 => ?_
  refine greg ?_
  refine gop (y_move (v := .bool _) rfl) rfl rfl rfl ?_
  refine gop (y_move (v := .bool _) rfl) rfl rfl rfl ?_
  refine gop_if (want := true) rfl rfl rfl rfl rfl rfl (fun hg20 => ?_) (fun hg20 => ?_)
  · 
    have hg20d := hg20
    refine gop (y_bare (y_move (v := .bool _) rfl)) rfl rfl rfl ?_
    refine gop_on rfl rfl rfl rfl hg20 ?_
    refine gop (y_bare (y_not rfl)) rfl rfl rfl ?_
    refine gop (y_pick_t (v := .bool _) rfl hg20 rfl) rfl rfl rfl ?_
    refine gop (y_move (v := .bool _) rfl) rfl rfl rfl ?_
    refine gop_if (want := true) rfl rfl rfl rfl rfl rfl (fun hg24 => ?_) (fun hg24 => ?_)
    · 
      have hg24d := not_t hg24
      refine gop (y_bare (y_move (v := .bool _) rfl)) rfl rfl rfl ?_
      refine gop (y_pick_t (v := .bool _) rfl hg24 rfl) rfl rfl rfl ?_
      refine gop (y_move (v := .bool _) rfl) rfl rfl rfl ?_
      refine gop_if (want := true) rfl rfl rfl rfl rfl rfl (fun hg27 => ?_) (fun hg27 => ?_)
      · 
        have hg27d := hg27
        refine gop (y_bare (y_fieldAddr_box fa23_0 rfl)) rfl rfl rfl ?_
        refine gop_on rfl rfl rfl rfl hg27 ?_
        refine gop (y_bare (y_load Tryd.isAgg3 rfl (cell_box 0 rfl rfl))) rfl rfl rfl ?_
        refine gop_on rfl rfl rfl rfl hg27 ?_
        refine gop (y_bare (y_eql rfl rfl)) rfl rfl rfl ?_
        refine gop (y_pick_t (v := .bool _) rfl hg27 rfl) rfl rfl rfl ?_
        refine gop (y_move (v := .bool _) rfl) rfl rfl rfl ?_
        refine gop_if (want := true) rfl rfl rfl rfl rfl rfl (fun hg32 => ?_) (fun hg32 => ?_)
        · 
          have hg32d := of_decide_eq_true hg32
          refine gop (y_bare (y_fieldAddr_box fa23_0 rfl)) rfl rfl rfl ?_
          refine gop_on rfl rfl rfl rfl hg32 ?_
          refine gop (y_bare (y_load Tryd.isAgg3 rfl (cell_box 1 rfl rfl))) rfl rfl rfl ?_
          refine gop_on rfl rfl rfl rfl hg32 ?_
          refine gop (y_bare (y_eql rfl rfl)) rfl rfl rfl ?_
          refine gop (y_pick_t (v := .bool _) rfl hg32 rfl) rfl rfl rfl ?_
          refine gop (y_move (v := .bool _) rfl) rfl rfl rfl ?_
          refine gop_if (want := true) rfl rfl rfl rfl rfl rfl (fun hg37 => ?_) (fun hg37 => ?_)
          · 
            have hg37d := of_decide_eq_true hg37
            refine gop (y_bare (y_fieldAddr_box fa23_0 rfl)) rfl rfl rfl ?_
            refine gop_on rfl rfl rfl rfl hg37 ?_
            refine gop (y_bare (y_load Tryd.isAgg3 rfl (cell_box 2 rfl rfl))) rfl rfl rfl ?_
            refine gop_on rfl rfl rfl rfl hg37 ?_
            refine gop (y_bare (y_eql rfl rfl)) rfl rfl rfl ?_
            refine gop (y_pick_t (v := .bool _) rfl hg37 rfl) rfl rfl rfl ?_
            refine gop (y_assign (v := .bool _) rfl) rfl rfl rfl ?_
            refine gops_nil ?_
            refine hN5 _ _ ?_
            refine gfrom [(0, .bool _)] ⟨rfl, trivial⟩ fun σ => ?_
            refine gret fun w1 hM => ?_
            refine ⟨_, res1 rfl (rt (v := .bool _) rfl), ?_⟩
            exact ⟨by rw [ex3.2]; rfl, hM.low⟩
          · 
             exact absurd ex2.2 (of_decide_eq_false hg37)
        · 
           exact absurd ex1.2 (of_decide_eq_false hg32)
      · 
         exact absurd (ex3.1.symm.trans hg27) (by decide)
    · 
       rw [ex2.1] at hg24; exact absurd hg24 (by decide)
  · 
     exact absurd (ex1.1.symm.trans hg20) (by decide)
end Go.Proofs.YtijpaljdclhehaaDoor
namespace Go.Cf
open Go.RowKit
def scanFrom {α : Type} (f : Nat → α → Int) : Nat → List α → Fault
  | _, [] => ⟨0, 0⟩
  | k, x :: l => if f k x = 0 then scanFrom f (k + 1) l else ⟨f k x, k⟩
def scan {α : Type} (f : Nat → α → Int) (l : List α) : Fault := scanFrom f 0 l
theorem scanFrom_ok {α : Type} (f : Nat → α → Int) : ∀ (l : List α) (m : Nat), (∀ j (h : j < l.length), f (m + j) l[j] = 0) → scanFrom f m l = ⟨0, 0⟩
  | [], _, _ => rfl
  | x :: l, m, h => by
    rw [scanFrom, if_pos (show f m x = 0 from h 0 (by simp))]
    exact scanFrom_ok f l (m + 1) fun j hj => by
      have := h (j + 1) (by simp; omega)
      rwa [show m + (j + 1) = m + 1 + j by omega, List.getElem_cons_succ] at this
theorem scanFrom_at {α : Type} (f : Nat → α → Int) : ∀ (l : List α) (m k : Nat) (hk : k < l.length), (∀ j (h : j < l.length), j < k → f (m + j) l[j] = 0) → f (m + k) l[k] ≠ 0 → scanFrom f m l = ⟨f (m + k) l[k], (m + k : Nat)⟩
  | [], _, _, hk, _, _ => absurd hk (by simp)
  | x :: l, m, 0, _, _, hne => by rw [scanFrom, if_neg (show f m x ≠ 0 from hne)]; rfl
  | x :: l, m, k + 1, hk, h, hne => by
    rw [scanFrom, if_pos (show f m x = 0 from h 0 (by simp) (by omega))]
    have := scanFrom_at f l (m + 1) k (by simpa using hk) (fun j hj hjk => by
      have := h (j + 1) (by simp; omega) (by omega)
      rwa [show m + (j + 1) = m + 1 + j by omega, List.getElem_cons_succ] at this) (by
      rwa [show m + (k + 1) = m + 1 + k by omega, List.getElem_cons_succ] at hne)
    rw [this, show m + (k + 1) = m + 1 + k by omega, List.getElem_cons_succ]
theorem scan_ok {α : Type} {f : Nat → α → Int} {l : List α} (h : ∀ j (h : j < l.length), f j l[j] = 0) : scan f l = ⟨0, 0⟩ := scanFrom_ok f l 0 fun j hj => by rw [Nat.zero_add]; exact h j hj
theorem scan_at {α : Type} {f : Nat → α → Int} {l : List α} {k : Nat} (hk : k < l.length) (h : ∀ j (h : j < l.length), j < k → f j l[j] = 0) (hne : f k l[k] ≠ 0) : scan f l = ⟨f k l[k], k⟩ := by
  have := scanFrom_at f l 0 k hk (fun j hj hjk => by rw [Nat.zero_add]; exact h j hj hjk) (by rwa [Nat.zero_add])
  rwa [Nat.zero_add] at this
theorem scan_code {α : Type} {f : Nat → α → Int} {l : List α} : (scan f l).code = 0 ↔ ∀ j (h : j < l.length), f j l[j] = 0 := by
  constructor
  · intro h0
    apply Classical.byContradiction
    intro hn
    have hex : ∃ k, ∃ h : k < l.length, f k l[k] ≠ 0 := Classical.byContradiction fun hc => hn fun j hj => Classical.byContradiction fun hx => hc ⟨j, hj, hx⟩
    obtain ⟨k, ⟨hk, hne⟩, hmin⟩ : ∃ k, (∃ h : k < l.length, f k l[k] ≠ 0) ∧ ∀ j, j < k → ¬ ∃ h : j < l.length, f j l[j] ≠ 0 := by
      clear h0 hn
      obtain ⟨k, hk⟩ := hex
      induction k using Nat.strongRecOn with
      | _ k ih =>
        by_cases hc : ∃ j, j < k ∧ ∃ h : j < l.length, f j l[j] ≠ 0
        · obtain ⟨j, hj, hp⟩ := hc; exact ih j hj hp
        · exact ⟨k, hk, fun j hj hp => hc ⟨j, hj, hp⟩⟩
    rw [scan_at hk (fun j hj hjk => Classical.byContradiction fun hx => hmin j hjk ⟨hj, hx⟩) hne] at h0
    exact hne h0
  · intro h; rw [scan_ok h]
theorem scan_code_eq {α : Type} {f : Nat → α → Int} {l : List α} (h : (scan f l).code = 0) : scan f l = ⟨0, 0⟩ := scan_ok (scan_code.1 h)
def lineCode (s : ByteArray) : Int := if 80 < s.size then 2 else if 0 ≤ firstIdx s 10 then 5 else 0
def linesF (l : List ByteArray) : Fault := if 120 < l.length then ⟨2, -1⟩ else scan (fun _ s => lineCode s) l
theorem linesF_code {l : List ByteArray} (h : (linesF l).code = 0) : linesF l = ⟨0, 0⟩ := by
  unfold linesF at h ⊢
  split
  · rename_i h1; rw [if_pos h1] at h; cases h
  · rename_i h1; rw [if_neg h1] at h; exact scan_code_eq h
theorem linesF_len {l : List ByteArray} (h : linesF l = ⟨0, 0⟩) : l.length ≤ 120 := by
  unfold linesF at h
  split at h
  · cases h
  · omega
structure Hunk where
  at_ : Int
  old : List ByteArray
  new : List ByteArray
def Hunk.end_ (h : Hunk) : Int := h.at_ + h.old.length
def prevEnd (hs : List Hunk) : Nat → Int
  | 0 => -1
  | k + 1 => match hs[k]? with
    | some h => h.end_
    | none => -1
structure VHunk (h : Hunk) (e : Int) : Prop where
  lo : 0 ≤ h.at_
  hi : h.at_ ≤ 120
  old : linesF h.old = ⟨0, 0⟩
  new : linesF h.new = ⟨0, 0⟩
  some_ : h.old.length + h.new.length ≠ 0
  past : e < h.at_
  end_ : h.end_ ≤ 120
theorem VHunk.oldLen {h : Hunk} {e : Int} (v : VHunk h e) : h.old.length ≤ 120 := linesF_len v.old
theorem VHunk.newLen {h : Hunk} {e : Int} (v : VHunk h e) : h.new.length ≤ 120 := linesF_len v.new
structure PV (hs : List Hunk) : Prop where
  len : hs.length ≤ 130
  at_ : ∀ k (h : k < hs.length), VHunk hs[k] (prevEnd hs k)
structure HB (h : Hunk) : Prop where
  lo : 0 ≤ h.at_
  hi : h.at_ ≤ 120
  old : h.old.length ≤ 120
  new : h.new.length ≤ 120
theorem PV.hb {hs : List Hunk} (v : PV hs) : ∀ k (h : k < hs.length), HB hs[k] := fun k h => ⟨(v.at_ k h).lo, (v.at_ k h).hi, (v.at_ k h).oldLen, (v.at_ k h).newLen⟩
theorem PV.each {hs : List Hunk} (v : PV hs) : ∀ h ∈ hs, HB h := fun h hh => by
  obtain ⟨k, hk, rfl⟩ := List.getElem_of_mem hh
  exact v.hb k hk
end Go.Cf
namespace Go.Cf
open Go.RowKit
structure HunkC where
  pl : Hunk
  oA : Option Addr
  oc : Nat
  nA : Option Addr
  nc : Nat
abbrev hunkCells (h : HunkC) : List Value := [.int .i64 h.pl.at_, .slice h.oA h.pl.old.length h.oc, .slice h.nA h.pl.new.length h.nc]
structure SB (A : Option Addr) (n c : Nat) (b : Nat) : Prop where
  len : n ≤ c
  max : c ≤ maxLen
  nil : A = none → c = 0
  bytes : n * b ≤ reachBytes
theorem SB.lit {a : Addr} {b : Nat} (n : Nat) (h : n ≤ 1000) (hb : b ≤ 1000) : SB (some a) n n b := by
  refine ⟨Nat.le_refl _, by unfold maxLen; omega, (fun h => by cases h), ?_⟩
  have : n * b ≤ 1000 * 1000 := Nat.mul_le_mul h hb
  unfold reachBytes; omega
structure HunkR (w : World) (lo : Nat) (h : HunkC) : Prop where
  old : Rdl w lo 1 strCells h.oA h.pl.old
  new : Rdl w lo 1 strCells h.nA h.pl.new
  ob : SB h.oA h.pl.old.length h.oc 16
  nb : SB h.nA h.pl.new.length h.nc 16
  at_ : In64 h.pl.at_
def Lasts (lo : Nat) (R : World → Prop) : Prop := ∀ w w', R w → (∀ p : Addr, lo ≤ p.block → p.block < w.heap.size → w'.cell? p = w.cell? p) → R w'
theorem Lasts.base {lo : Nat} {R : World → Prop} (h : Lasts lo R) {w0 w : World} {T : List Reg} (hR : R w0) (hM : Mem w0 T w) : R w := h w0 w hR fun _ _ hp => hM.low.cell hp
theorem HunkR.mono {w : World} {lo lo' : Nat} {h : HunkC} (hR : HunkR w lo h) (hl : lo' ≤ lo) : HunkR w lo' h := ⟨hR.old.mono hl, hR.new.mono hl, hR.ob, hR.nb, hR.at_⟩
structure PatR (w : World) (lo : Nat) (A : Option Addr) (c : Nat) (hs : List HunkC) : Prop where
  rd : Rdl w lo 3 hunkCells A hs
  each : ∀ h ∈ hs, HunkR w lo h
  sb : SB A hs.length c 56
theorem PatR.mono {w : World} {lo lo' : Nat} {A : Option Addr} {c : Nat} {hs : List HunkC} (hR : PatR w lo A c hs) (hl : lo' ≤ lo) : PatR w lo' A c hs := ⟨hR.rd.mono hl, fun h hh => (hR.each h hh).mono hl, hR.sb⟩
abbrev pls (hs : List HunkC) : List Hunk := hs.map HunkC.pl
structure PatC where
  A : Option Addr
  c : Nat
  hs : List HunkC
abbrev patCells (p : PatC) : List Value := [.slice p.A p.hs.length p.c]
abbrev PatC.pl (p : PatC) : List Hunk := pls p.hs
structure PatsR (w : World) (lo : Nat) (A : Option Addr) (ps : List PatC) : Prop where
  rd : Rdl w lo 1 patCells A ps
  each : ∀ p ∈ ps, PatR w lo p.A p.c p.hs
theorem PatsR.mono {w : World} {lo lo' : Nat} {A : Option Addr} {ps : List PatC} (hR : PatsR w lo A ps) (hl : lo' ≤ lo) : PatsR w lo' A ps := ⟨hR.rd.mono hl, fun h hh => (hR.each h hh).mono hl⟩
end Go.Cf
namespace Go.Cf
open Go.RowKit
def splitB : Bs → List Bs
  | [] => [[]]
  | c :: r => if c = 32 then [] :: splitB r else match splitB r with
    | h :: t => (c :: h) :: t
    | [] => [[c]]
def cutB (s : ByteArray) : List ByteArray := (splitB (bsOf s)).map baOf
end Go.Cf
namespace Go.Cf
open Go.RowKit
structure Rule where
  pat : ByteArray
  users : List Int
  deriving DecidableEq
structure RuleC where
  pl : Rule
  A : Option Addr
  c : Nat
abbrev ruleCells (a : RuleC) : List Value := [.string a.pl.pat, .slice a.A a.pl.users.length a.c]
structure RuleR (w : World) (lo : Nat) (a : RuleC) : Prop where
  rd : Rdl w lo 1 intCells a.A a.pl.users
  sb : SB a.A a.pl.users.length a.c 8
structure RulesR (w : World) (lo : Nat) (A : Option Addr) (c : Nat) (rs : List RuleC) : Prop where
  rd : Rdl w lo 2 ruleCells A rs
  each : ∀ a ∈ rs, RuleR w lo a
  sb : SB A rs.length c 40
theorem RuleR.mono {w : World} {lo lo' : Nat} {a : RuleC} (h : RuleR w lo a) (hl : lo' ≤ lo) : RuleR w lo' a := ⟨h.rd.mono hl, h.sb⟩
theorem RulesR.mono {w : World} {lo lo' : Nat} {A : Option Addr} {c : Nat} {rs : List RuleC} (h : RulesR w lo A c rs) (hl : lo' ≤ lo) : RulesR w lo' A c rs := ⟨h.rd.mono hl, fun a ha => (h.each a ha).mono hl, h.sb⟩
def uCode (last : Int) : List Int → Int
  | [] => 0
  | u :: l => if u < 0 ∨ 7 < u then 3 else if u ≤ last then 5 else uCode u l
def ruleCode (r : Rule) : Int := if patCode r.pat ≠ 0 then patCode r.pat else if 4 < r.users.length then 2 else uCode (-1) r.users
def rulesF (l : List Rule) : Fault := if 20 < l.length then ⟨2, -1⟩ else scan (fun _ r => ruleCode r) l
end Go.Cf
namespace Go.Cf
open Go.RowKit
def digitW (w : ByteArray) : Option Int := if w.size = 1 ∧ 48 ≤ byteAt w 0 ∧ byteAt w 0 ≤ 57 then some ((byteAt w 0 : Int) - 48) else none
def readU : List ByteArray → List Int × Bool
  | [] => ([], true)
  | w :: l => match digitW w with
    | none => ([], false)
    | some d => (d :: (readU l).1, (readU l).2)
structure ReadTo (ws : List ByteArray) (k : Nat) (us : List Int) : Prop where
  all : (readU ws).1 = us ++ (readU (ws.drop k)).1
  ok : (readU ws).2 = (readU (ws.drop k)).2
  len : us.length = k
theorem ReadTo.zero (ws : List ByteArray) : ReadTo ws 0 [] := ⟨rfl, rfl, rfl⟩
theorem ReadTo.next {ws : List ByteArray} {k : Nat} {us : List Int} {d : Int} (h : ReadTo ws k us) (hk : k < ws.length) (hd : digitW ws[k] = some d) : ReadTo ws (k + 1) (us ++ [d]) := by
  have e : readU (ws.drop k) = (d :: (readU (ws.drop (k + 1))).1, (readU (ws.drop (k + 1))).2) := by
    rw [List.drop_eq_getElem_cons hk, readU, hd]
  refine ⟨?_, ?_, by simp [h.len]⟩
  · rw [h.all, e]; simp
  · rw [h.ok, e]
theorem ReadTo.stop {ws : List ByteArray} {k : Nat} {us : List Int} (h : ReadTo ws k us) (hk : k < ws.length) (hd : digitW ws[k] = none) : readU ws = (us, false) := by
  have e : readU (ws.drop k) = ([], false) := by rw [List.drop_eq_getElem_cons hk, readU, hd]
  rw [show readU ws = ((readU ws).1, (readU ws).2) from rfl, h.all, h.ok, e]; simp
theorem ReadTo.done {ws : List ByteArray} {k : Nat} {us : List Int} (h : ReadTo ws k us) (hk : ¬ k < ws.length) : readU ws = (us, true) := by
  have e : readU (ws.drop k) = ([], true) := by rw [List.drop_of_length_le (by omega)]; rfl
  rw [show readU ws = ((readU ws).1, (readU ws).2) from rfl, h.all, h.ok, e]; simp
def headW (ws : List ByteArray) : ByteArray := ws[0]?.getD ⟨#[]⟩
def lineR (line : ByteArray) : Rule := ⟨headW (cutB line), (readU ((cutB line).drop 1)).1⟩
def lineC (line : ByteArray) : Int := if (readU ((cutB line).drop 1)).2 = true then ruleCode (lineR line) else 1
def skipL (s : ByteArray) : Bool := strEq s ⟨#[]⟩ || decide (byteAt s 0 = 35)
def readL : List ByteArray → List Rule
  | [] => []
  | s :: l => if skipL s = true then readL l else lineR s :: readL l
def badL (s : ByteArray) : Int := if skipL s = true then 0 else lineC s
def fileF (text : List ByteArray) : Fault := if linesF text ≠ ⟨0, 0⟩ then linesF text else if scan (fun _ s => badL s) text ≠ ⟨0, 0⟩ then scan (fun _ s => badL s) text else if 20 < (readL text).length then ⟨2, -1⟩ else ⟨0, 0⟩
def fileV (text : List ByteArray) : List Rule := if fileF text = ⟨0, 0⟩ then readL text else []
theorem readL_take {text : List ByteArray} {k : Nat} (hk : k < text.length) : readL (text.take (k + 1)) = readL (text.take k) ++ (if skipL text[k] = true then [] else [lineR text[k]]) := by
  have key : ∀ (a b : List ByteArray), readL (a ++ b) = readL a ++ readL b := by
    intro a b
    induction a with
    | nil => rfl
    | cons s a ih => simp only [List.cons_append, readL]; split <;> simp [ih]
  rw [List.take_succ_eq_append_getElem hk, key]
  congr 1
end Go.Cf
namespace Go.Cf
open Go.RowKit
def readP : Bs → List Int × Bool
  | [] => ([], true)
  | [_] => ([], false)
  | a :: d :: r => if a = 32 ∧ 48 ≤ d.toNat ∧ d.toNat ≤ 57 then (((d.toNat : Int) - 48) :: (readP r).1, (readP r).2) else ([], false)
theorem drop_bs {s : ByteArray} {i : Nat} (h : i < s.size) : ∃ b, (bsOf s).drop i = b :: (bsOf s).drop (i + 1) ∧ byteAt s i = b.toNat := by
  have hl : i < (bsOf s).length := by rw [bsOf_len]; exact h
  exact ⟨(bsOf s)[i], List.drop_eq_getElem_cons hl, (byte_of (s := s) (List.getElem?_eq_getElem hl)).2⟩
theorem refR_next {s : ByteArray} {i : Nat} (hi : i + 1 < s.size) (h : byteAt s i = 32) (h0 : 48 ≤ byteAt s (i + 1)) (h1 : byteAt s (i + 1) ≤ 57) : readP ((bsOf s).drop i) = (((byteAt s (i + 1) : Int) - 48) :: (readP ((bsOf s).drop (i + 2))).1, (readP ((bsOf s).drop (i + 2))).2) := by
  obtain ⟨b, h2, h3⟩ := drop_bs (show i < s.size by omega)
  obtain ⟨d, h4, h5⟩ := drop_bs hi
  rw [h2, h4, readP, if_pos ⟨UInt8.toNat_inj.1 (by rw [← h3, h]; rfl), by omega, by omega⟩, h5]
structure ReadIn (s : ByteArray) (n i : Nat) (us : List Int) : Prop where
  all : (readP ((bsOf s).drop n)).1 = us ++ (readP ((bsOf s).drop i)).1
  ok : (readP ((bsOf s).drop n)).2 = (readP ((bsOf s).drop i)).2
theorem ReadIn.zero (s : ByteArray) (n : Nat) : ReadIn s n n [] := ⟨rfl, rfl⟩
theorem ReadIn.next {s : ByteArray} {n i : Nat} {us : List Int} (h : ReadIn s n i us) (hi : i + 1 < s.size) (hb : byteAt s i = 32) (h0 : 48 ≤ byteAt s (i + 1)) (h1 : byteAt s (i + 1) ≤ 57) : ReadIn s n (i + 2) (us ++ [(byteAt s (i + 1) : Int) - 48]) := by
  have e := refR_next hi hb h0 h1
  exact ⟨by rw [h.all, e]; simp, by rw [h.ok, e]⟩
structure GroupC where
  pl : List Int
  A : Option Addr
  c : Nat
structure GrR (w : World) (lo : Nat) (a : GroupC) : Prop where
  rd : Rdl w lo 1 intCells a.A a.pl
  len : a.pl.length ≤ a.c
  max : a.c ≤ maxLen
theorem GrR.mono {w : World} {lo lo' : Nat} {a : GroupC} (h : GrR w lo a) (hl : lo' ≤ lo) : GrR w lo' a := ⟨h.rd.mono hl, h.len, h.max⟩
def badPath (_ : Nat) (p : ByteArray) : Int := if pathOk p = true then 0 else 12
def pathsF (ps : List ByteArray) : Fault := if (scan badPath ps).code = 0 then ⟨0, 0⟩ else ⟨12, -3 - (scan badPath ps).index⟩
def reqF (rs : List Rule) (ps : List ByteArray) : Fault := if rulesF rs ≠ ⟨0, 0⟩ then rulesF rs else if 24 < ps.length then ⟨2, -2⟩ else pathsF ps
theorem pathsF_ok {ps : List ByteArray} (h : ∀ j (h : j < ps.length), pathOk ps[j] = true) : pathsF ps = ⟨0, 0⟩ := by
  have h1 : scan badPath ps = ⟨0, 0⟩ := scan_ok fun j hj => by rw [badPath, if_pos (h j hj)]
  rw [pathsF, h1]; rfl
end Go.Cf
namespace Go.Cf
open Go.RowKit
theorem Mem.cell {w0 w : World} {T : List Reg} (hM : Mem w0 T w) (i : Nat) {b off : Nat} {cs : Array Value} {e : TypeId} {fz : Nat × Nat} {v : Value} (hi : T[i]? = some (box b (.cells cs e fz))) (h : cs[off]? = some v) : w.cell? ⟨b, off, none⟩ = some v := cell_box i hi h w hM
end Go.Cf
namespace Go.Cf
open Go.RowKit
def Reading (text : List ByteArray) (k : Nat) (p : Fault) (l : List Rule) : Prop :=
  (p = ⟨0, 0⟩ ∧ linesF text = ⟨0, 0⟩ ∧ (∀ j (h : j < text.length), j < k → badL text[j] = 0) ∧ l = readL (text.take k)) ∨ (p.code ≠ 0 ∧ p = fileF text)
section
variable {text : List ByteArray} {k : Nat} {p : Fault} {l : List Rule}
theorem Reading.zero (text : List ByteArray) : Reading text 0 (linesF text) [] := by
  by_cases h : linesF text = ⟨0, 0⟩
  · exact .inl ⟨h, h, fun _ _ h => absurd h (by omega), rfl⟩
  · exact .inr ⟨fun h1 => h (linesF_code h1), by rw [fileF, if_pos h]⟩
theorem Reading.good (h : Reading text k p l) (hp : p.code = 0) : p = ⟨0, 0⟩ ∧ linesF text = ⟨0, 0⟩ ∧ (∀ j (h : j < text.length), j < k → badL text[j] = 0) ∧ l = readL (text.take k) := by
  rcases h with h | h
  · exact h
  · exact absurd hp h.1
theorem Reading.skip (h : Reading text k p l) (hp : p.code = 0) (hk : k < text.length) (hs : skipL text[k] = true) : Reading text (k + 1) p l := by
  obtain ⟨h1, h2, h3, h4⟩ := h.good hp
  refine .inl ⟨h1, h2, fun j hj hjk => ?_, by rw [readL_take hk, hs]; simpa using h4⟩
  rcases Nat.lt_succ_iff_lt_or_eq.1 hjk with h5 | rfl
  · exact h3 j hj h5
  · rw [badL, if_pos hs]
theorem Reading.done2 (h : Reading text k p l) (hst : ¬ (k < text.length ∧ p.code = 0)) (hp : p.code = 0) (hl : ¬ 20 < l.length) : fileF text = p ∧ l = fileV text := by
  obtain ⟨h1, h2, h3, h4⟩ := h.good hp
  have hk : ¬ k < text.length := fun h5 => hst ⟨h5, hp⟩
  have hsc : scan (fun _ s => badL s) text = ⟨0, 0⟩ := scan_ok fun j hj => h3 j hj (by omega)
  rw [List.take_of_length_le (by omega)] at h4
  have hF : fileF text = ⟨0, 0⟩ := by rw [fileF, if_neg (fun h5 => h5 h2), hsc, if_neg (fun h5 => h5 rfl), if_neg (by rw [← h4]; exact hl)]
  exact ⟨hF.trans h1.symm, by rw [fileV, if_pos hF, h4]⟩
theorem Reading.done3 (h : Reading text k p l) (hp : p.code ≠ 0) : fileF text = p := by
  rcases h with h | h
  · exact absurd (by rw [h.1]) hp
  · exact h.2.symm
theorem Reading.done (h : Reading text k p l) (hst : ¬ (k < text.length ∧ p.code = 0)) (hl : ¬ (p.code = 0 ∧ 20 < l.length)) : fileF text = p ∧ (p.code = 0 → l = fileV text) := by
  by_cases hp : p.code = 0
  · have := h.done2 hst hp (fun h1 => hl ⟨hp, h1⟩)
    exact ⟨this.1, fun _ => this.2⟩
  · exact ⟨h.done3 hp, fun h1 => absurd h1 hp⟩
end
def capF (ps : List ByteArray) : Fault := if 24 < ps.length then ⟨2, -2⟩ else ⟨0, 0⟩
def Checking (rs : List Rule) (ps : List ByteArray) (k : Nat) (q : Fault) : Prop :=
  (q = ⟨0, 0⟩ ∧ ps.length ≤ 24 ∧ ∀ j (h : j < ps.length), j < k → pathOk ps[j] = true) ∨ (q.code ≠ 0 ∧ q = reqF rs ps)
section
variable {rs : List Rule} {ps : List ByteArray} {k : Nat} {q : Fault}
theorem Checking.zero (h : rulesF rs = ⟨0, 0⟩) : Checking rs ps 0 (capF ps) := by
  unfold capF
  split
  · rename_i h1
    exact .inr ⟨by decide, by rw [reqF, if_neg (fun h2 => h2 h), if_pos h1]⟩
  · exact .inl ⟨rfl, by omega, fun _ _ h => absurd h (by omega)⟩
theorem Checking.good (h : Checking rs ps k q) (hq : q.code = 0) : q = ⟨0, 0⟩ ∧ ps.length ≤ 24 ∧ ∀ j (h : j < ps.length), j < k → pathOk ps[j] = true := by
  rcases h with h | h
  · exact h
  · exact absurd hq h.1
theorem Checking.ok (h : Checking rs ps k q) (hq : q.code = 0) (hk : k < ps.length) (hp : pathOk ps[k] = true) : Checking rs ps (k + 1) q := by
  obtain ⟨h1, h2, h3⟩ := h.good hq
  refine .inl ⟨h1, h2, fun j hj hjk => ?_⟩
  rcases Nat.lt_succ_iff_lt_or_eq.1 hjk with h5 | rfl
  · exact h3 j hj h5
  · exact hp
theorem Checking.stop (h : Checking rs ps k q) (hr : rulesF rs = ⟨0, 0⟩) (hst : ¬ (k < ps.length ∧ q.code = 0)) : reqF rs ps = q := by
  rcases h with h | h
  · obtain ⟨h1, h2, h3⟩ := h
    have hk : ¬ k < ps.length := fun h6 => hst ⟨h6, by rw [h1]⟩
    rw [reqF, if_neg (fun h5 => h5 hr), if_neg (by omega), pathsF_ok (fun j hj => h3 j hj (by omega)), h1]
  · exact h.2.symm
end
end Go.Cf
namespace Go.Proofs.YtijpaljdclhehaaDoor
open Go.RowKit Go.Cf
set_option maxRecDepth 10000
set_option maxHeartbeats 1000000 in
theorem fault_any (w : World) (c i : Int) : Calls Tryd.prog 31 #[.int .i64 c, .int .i64 i] w fun e w' => e = .returned (fv ⟨c, i⟩) ∧ Below w.heap.size w w' := by
  refine gcalls Tryd.func31 rfl Tryd.ntmps31 (Nat.le_of_ble_eq_true rfl) ?_
  refine gfrom [(0, .int _ _), (1, .int _ _)] ⟨rfl, rfl, trivial⟩ fun σ => ?_
  refine gseq fun N1 hN1 => ?_
  refine greg ?_
  refine gop_alloc (cs := #[.int .i64 0, .int .i64 0]) Tryd.zeroValue23 rfl rfl (fun b4 hb4 => ?_)
  refine gops_nil ?_
  refine hN1 _ _ ?_
  refine gT [box b4 _] rfl ?_
  refine gfrom [(0, .int _ _), (1, .int _ _), (4, .pointer _)] ⟨rfl, rfl, rfl, trivial⟩ fun σ => ?_
  refine gseq fun N2 hN2 => ?_
  refine greg ?_
  refine gop (y_move (v := .int _ _) rfl) rfl rfl rfl ?_
  refine gop (y_move (v := .int _ _) rfl) rfl rfl rfl ?_
  refine gop (y_build (vs := [(0, .int _ _), (1, .int _ _)]) (cells := #[_, _]) rfl (bd23_0_1 _ _)) rfl rfl rfl ?_
  refine gop_store 0 (v := .agg #[_, _]) (cs' := #[_, _]) rfl rfl Tryd.sizeOf23 rfl rfl rfl rfl (Nat.le_of_ble_eq_true rfl) rfl rfl ?_
  refine gops_nil ?_
  refine hN2 _ _ ?_
  refine gT [box b4 _] rfl ?_
  refine gfrom [(4, .pointer _)] ⟨rfl, trivial⟩ fun σ => ?_
  refine gret fun w1 hM => ?_
  refine ⟨_, res1 rfl (rc 0 (cs := [_, _]) hM rfl rfl Tryd.isAgg23 Tryd.sizeOf23 rfl), ?_⟩
  exact ⟨rfl, hM.low⟩
end Go.Proofs.YtijpaljdclhehaaDoor
namespace Go.Proofs.YtijpaljdclhehaaDoor
open Go.RowKit Go.Cf
set_option maxRecDepth 10000
theorem eq23 (a0 b0 : Int) (a1 b1 : Int) (w : World) : (binOp .eql 23 (.agg #[.int .i64 a0, .int .i64 a1]) (.agg #[.int .i64 b0, .int .i64 b1])).run Tryd.prog w = .ok (.bool ((decide (a0 = b0) && decide (a1 = b1)))) w := by
  simp [run_eql_struct, run_equalIn_agg, Tryd.underlying23, Tryd.stoodInHeld23, Program.fieldsOf, go_sem]
  (repeat' split) <;> simp_all
attribute [local irreducible] matchV matchF overV overF fixedV patFault
set_option maxHeartbeats 8000000 in
theorem law27_any (w : World) (a b path : ByteArray) (hpz : path.size ≤ 4000000) : Calls Tryd.prog 11 #[.string a, .string b, .string path] w fun e w' => e = .returned (.bool true) ∧ Below w.heap.size w w' := by
  refine gcalls Tryd.func11 rfl Tryd.ntmps11 (Nat.le_of_ble_eq_true rfl) ?_
  refine gfrom [(0, .string _), (1, .string _), (2, .string _)] ⟨rfl, rfl, rfl, trivial⟩ fun σ => ?_
  refine gseq fun N1 hN1 => ?_
  refine greg ?_
  refine gop (y_assign (v := .bool _) rfl) rfl rfl rfl ?_
  refine gops_nil ?_
  refine hN1 _ _ ?_
  refine gfrom [(0, .string _), (1, .string _), (2, .string _)] ⟨rfl, rfl, rfl, trivial⟩ fun σ => ?_
  refine gseq fun N2 hN2 => ?_
  refine greg ?_
  refine gop (y_build (vs := []) (cells := #[.int .i64 0, .int .i64 0]) rfl bd23_) rfl rfl rfl ?_
  refine gop_alloc (cs := #[.int .i64 0, .int .i64 0]) Tryd.zeroValue23 rfl rfl (fun b7 hb7 => ?_)
  refine gop_store 0 (v := .agg #[_, _]) (cs' := #[_, _]) rfl rfl Tryd.sizeOf23 rfl rfl rfl rfl (Nat.le_of_ble_eq_true rfl) rfl rfl ?_
  refine gops_nil ?_
  refine hN2 _ _ ?_
  refine gT [box b7 _] rfl ?_
  refine gfrom [(0, .string _), (1, .string _), (2, .string _), (7, .pointer _)] ⟨rfl, rfl, rfl, rfl, trivial⟩ fun σ => ?_
  refine gseq fun N3 hN3 => ?_
  refine gfrom [(0, .string _), (1, .string _), (2, .string _), (7, .pointer _)] ⟨rfl, rfl, rfl, rfl, trivial⟩ fun σ => ?_
  refine gcut3 (Lf := [(0, .string _), (1, .string _), (2, .string _), (7, .pointer _)]) (G := Unit) (fun g => True) (fun g => []) (fun g => [(0, box b7 (.cells #[.int .i64 (patFault a).code, .int .i64 (patFault a).index] 23))]) ⟨rfl, rfl, rfl, rfl, trivial⟩ ?_ ?_
  ·
    refine gseq fun N4 hN4 => ?_
    refine greg ?_
    refine gop (y_move (v := .string _) rfl) rfl rfl rfl ?_
    refine gop_pure (e_call (vs := [.string _]) Tryd.func36 rfl (by kernel_rfl) rfl) (fun w hM => patternCode_any w _) rfl rfl rfl ?_
    refine gop (y_neq rfl rfl) rfl rfl rfl ?_
    refine gops_nil ?_
    refine hN4 _ _ ?_
    refine gfrom [(0, .string _), (1, .string _), (2, .string _), (7, .pointer _), (17, .bool _)] ⟨rfl, rfl, rfl, rfl, rfl, trivial⟩ fun σ => ?_
    refine gcond (b := _) rfl (fun hc17 => ?_) (fun hc17 => ?_)
    · 
      replace hc17 := of_decide_eq_true hc17
      have hpf : patFault a = ⟨(patCode a : Int), -1⟩ := by unfold patFault; rw [if_neg (by omega)]
      refine greg ?_
      refine gop (y_move (v := .string _) rfl) rfl rfl rfl ?_
      refine gop_pure (e_call (vs := [.string _]) Tryd.func36 rfl (by kernel_rfl) rfl) (fun w hM => patternCode_any w _) rfl rfl rfl ?_
      refine gop_pure (e_call (vs := [.int _ _, _]) Tryd.func31 rfl (by kernel_rfl) rfl) (fun w hM => fault_any w _ _) rfl rfl rfl ?_
      refine gop_store 0 (v := .agg #[_, _]) (cs' := #[_, _]) rfl rfl Tryd.sizeOf23 rfl rfl rfl rfl (Nat.le_of_ble_eq_true rfl) rfl rfl ?_
      refine gops_nil ?_
      rw [hpf]
      refine gcut3_end (()) (trivial) trivial ⟨rfl, rfl, rfl, rfl, trivial⟩ ⟨_, rfl⟩
    · 
      replace hc17 := Decidable.not_not.1 (of_decide_eq_false hc17)
      have hpf : patFault a = ⟨0, 0⟩ := by unfold patFault; rw [if_pos (by omega)]
      refine gskip ?_
      rw [hpf]
      refine gcut3_end (()) (trivial) trivial ⟨rfl, rfl, rfl, rfl, trivial⟩ ⟨_, rfl⟩
  ·
    intro g hcut σ
    refine hN3 _ _ ?_
    refine gseq fun N5 hN5 => ?_
    refine greg ?_
    refine gop (y_move (v := .string _) rfl) rfl rfl rfl ?_
    refine gop (y_move (v := .string _) rfl) rfl rfl rfl ?_
    refine gop_pure (e_call (vs := [.string _, .string _]) Tryd.func14 rfl (by kernel_rfl) rfl) (fun w hM => match_any w _ _) rfl rfl rfl ?_
    refine gop (y_move (v := .tuple #[.bool _, .agg #[_, _]]) rfl) rfl rfl rfl ?_
    refine gop (y_extract (v := .bool _) rfl rfl) rfl rfl rfl ?_
    refine gop (y_extract (v := .agg #[_, _]) rfl rfl) rfl rfl rfl ?_
    refine gop_alloc (cs := #[.int .i64 0, .int .i64 0]) Tryd.zeroValue23 rfl rfl (fun b9 hb9 => ?_)
    refine gop (y_assign (v := .bool _) rfl) rfl rfl rfl ?_
    refine gop_store 1 (v := .agg #[_, _]) (cs' := #[_, _]) rfl rfl Tryd.sizeOf23 rfl rfl rfl rfl (Nat.le_of_ble_eq_true rfl) rfl rfl ?_
    refine gops_nil ?_
    refine hN5 _ _ ?_
    refine gT [box b7 _, box b9 _] rfl ?_
    refine gfrom [(0, .string _), (1, .string _), (2, .string _), (7, .pointer _), (8, .bool _), (9, .pointer _)] ⟨rfl, rfl, rfl, rfl, rfl, rfl, trivial⟩ fun σ => ?_
    refine gseq fun N6 hN6 => ?_
    refine greg ?_
    refine gop (y_move (v := .string _) rfl) rfl rfl rfl ?_
    refine gop_pure (e_call (vs := [.string _]) Tryd.func37 rfl (by kernel_rfl) rfl) (fun w hM => fixed_any w _) rfl rfl rfl ?_
    refine gop (y_move (v := .tuple #[.string _, .agg #[_, _]]) rfl) rfl rfl rfl ?_
    refine gop (y_extract (v := .string _) rfl rfl) rfl rfl rfl ?_
    refine gop (y_extract (v := .agg #[_, _]) rfl rfl) rfl rfl rfl ?_
    refine gop_alloc (cs := #[.int .i64 0, .int .i64 0]) Tryd.zeroValue23 rfl rfl (fun b11 hb11 => ?_)
    refine gop (y_assign (v := .string _) rfl) rfl rfl rfl ?_
    refine gop_store 2 (v := .agg #[_, _]) (cs' := #[_, _]) rfl rfl Tryd.sizeOf23 rfl rfl rfl rfl (Nat.le_of_ble_eq_true rfl) rfl rfl ?_
    refine gops_nil ?_
    refine hN6 _ _ ?_
    refine gT [box b7 _, box b9 _, box b11 _] rfl ?_
    refine gfrom [(0, .string _), (1, .string _), (2, .string _), (7, .pointer _), (8, .bool _), (9, .pointer _), (10, .string _), (11, .pointer _)] ⟨rfl, rfl, rfl, rfl, rfl, rfl, rfl, rfl, trivial⟩ fun σ => ?_
    refine gseq fun N7 hN7 => ?_
    refine greg ?_
    refine gop (y_move (v := .string _) rfl) rfl rfl rfl ?_
    refine gop (y_move (v := .string _) rfl) rfl rfl rfl ?_
    refine gop_pure (e_call (vs := [.string _, .string _]) Tryd.func15 rfl (by kernel_rfl) rfl) (fun w hM => over_any w _ _) rfl rfl rfl ?_
    refine gop (y_move (v := .tuple #[.bool _, .agg #[_, _]]) rfl) rfl rfl rfl ?_
    refine gop (y_extract (v := .bool _) rfl rfl) rfl rfl rfl ?_
    refine gop (y_extract (v := .agg #[_, _]) rfl rfl) rfl rfl rfl ?_
    refine gop_alloc (cs := #[.int .i64 0, .int .i64 0]) Tryd.zeroValue23 rfl rfl (fun b13 hb13 => ?_)
    refine gop (y_assign (v := .bool _) rfl) rfl rfl rfl ?_
    refine gop_store 3 (v := .agg #[_, _]) (cs' := #[_, _]) rfl rfl Tryd.sizeOf23 rfl rfl rfl rfl (Nat.le_of_ble_eq_true rfl) rfl rfl ?_
    refine gops_nil ?_
    refine hN7 _ _ ?_
    refine gT [box b7 _, box b9 _, box b11 _, box b13 _] rfl ?_
    refine gfrom [(0, .string _), (1, .string _), (2, .string _), (7, .pointer _), (8, .bool _), (9, .pointer _), (10, .string _), (11, .pointer _), (12, .bool _), (13, .pointer _)] ⟨rfl, rfl, rfl, rfl, rfl, rfl, rfl, rfl, rfl, rfl, trivial⟩ fun σ => ?_
    refine gseq fun N8 hN8 => ?_
    refine gseq fun N9 hN9 => ?_
    refine greg_q (by kernel_rfl) (by kernel_rfl) ?_
    refine gq_pure (e_call (vs := []) Tryd.func16 rfl (by kernel_rfl) rfl) (fun w hM => globExample_any w) rfl rfl rfl ?_
    refine gq (y_not rfl) rfl rfl rfl ?_
    refine gq (y_move (v := .bool _) rfl) rfl rfl rfl ?_
    refine gq_if (want := false) rfl rfl rfl rfl rfl rfl (fun hg40 => ?_) (fun hg40 => ?_)
    · 
      have hg40d := not_f hg40
      refine gq (y_bare (y_move (v := .string _) rfl)) rfl rfl rfl ?_
      refine gq_on rfl rfl rfl rfl hg40 ?_
      refine gq_pure (e_call (vs := [.string _]) Tryd.func38 rfl (by kernel_rfl) rfl) (fun w hM => validate_any w _) rfl rfl rfl ?_
      refine gq_on rfl rfl rfl rfl hg40 ?_
      refine gq (y_bare (y_loads (cs := [_, _]) Tryd.isAgg23 Tryd.sizeOf23 rfl rfl (cells_box 0 rfl))) rfl rfl rfl ?_
      refine gq_on rfl rfl rfl rfl hg40 ?_
      refine gq (y_bare (y_bin (vx := .agg #[_, _]) (vy := .agg #[_, _]) rfl rfl (fun w => eg23 _ _ _ _ _ w) (fun w => ne23 _ _ _ _ w))) rfl rfl rfl ?_
      refine gq (y_pick_f (v := .bool _) rfl hg40 rfl) rfl rfl rfl ?_
      refine gqs_nil ?_
      refine hN9 _ _ ?_
      refine gfrom [(0, .string _), (1, .string _), (2, .string _), (7, .pointer _), (8, .bool _), (9, .pointer _), (10, .string _), (11, .pointer _), (12, .bool _), (13, .pointer _), (45, .bool _)] ⟨rfl, rfl, rfl, rfl, rfl, rfl, rfl, rfl, rfl, rfl, rfl, trivial⟩ fun σ => ?_
      refine gcond (b := _) rfl (fun hc45 => ?_) (fun hc45 => ?_)
      · 
         simp at hc45
      · 
        refine gskip ?_
        refine hN8 _ _ ?_
        refine gfrom [(0, .string _), (1, .string _), (2, .string _), (7, .pointer _), (8, .bool _), (9, .pointer _), (10, .string _), (11, .pointer _), (12, .bool _), (13, .pointer _)] ⟨rfl, rfl, rfl, rfl, rfl, rfl, rfl, rfl, rfl, rfl, trivial⟩ fun σ => ?_
        refine gseq fun N10 hN10 => ?_
        refine gseq fun N11 hN11 => ?_
        refine greg ?_
        refine gop (y_fieldAddr_box fa23_0 rfl) rfl rfl rfl ?_
        refine gop (y_load Tryd.isAgg3 rfl (cell_box 0 rfl rfl)) rfl rfl rfl ?_
        refine gop (y_neq rfl rfl) rfl rfl rfl ?_
        refine gops_nil ?_
        refine hN11 _ _ ?_
        refine gfrom [(0, .string _), (1, .string _), (2, .string _), (7, .pointer _), (8, .bool _), (9, .pointer _), (10, .string _), (11, .pointer _), (12, .bool _), (13, .pointer _), (48, .bool _)] ⟨rfl, rfl, rfl, rfl, rfl, rfl, rfl, rfl, rfl, rfl, rfl, trivial⟩ fun σ => ?_
        refine gcond (b := _) rfl (fun hc48 => ?_) (fun hc48 => ?_)
        · 
          replace hc48 := of_decide_eq_true hc48
          have hne : ¬ patFault a = ⟨0, 0⟩ := fun h => hc48 (by rw [h])
          have hMF : matchF a path = patFault a := by unfold matchF; rw [if_pos hne]
          have hMV : matchV a path = false := by unfold matchV; rw [if_neg (fun h => hne h.1)]
          have hOF : overF a b = patFault a := by unfold overF; rw [if_pos hne]
          have hOV : overV a b = false := by unfold overV; rw [if_neg (fun h => hne h.1)]
          have hSV : fixedV a = ⟨#[]⟩ := by unfold fixedV; rw [if_neg hne]
          refine gseq fun N12 hN12 => ?_
          refine greg ?_
          refine gop (y_loads (cs := [_, _]) Tryd.isAgg23 Tryd.sizeOf23 rfl rfl (cells_box 1 rfl)) rfl rfl rfl ?_
          refine gop (y_loads (cs := [_, _]) Tryd.isAgg23 Tryd.sizeOf23 rfl rfl (cells_box 0 rfl)) rfl rfl rfl ?_
          refine gop (y_bin (vx := .agg #[_, _]) (vy := .agg #[_, _]) rfl rfl (fun w => eg23 _ _ _ _ _ w) (fun w => eq23 _ _ _ _ w)) rfl rfl rfl ?_
          refine gop (y_move (v := .bool _) rfl) rfl rfl rfl ?_
          refine gop_if (want := true) rfl rfl rfl rfl rfl rfl (fun hg52 => ?_) (fun hg52 => ?_)
          · 
            have hg52d := hg52
            refine gop (y_bare (y_loads (cs := [_, _]) Tryd.isAgg23 Tryd.sizeOf23 rfl rfl (cells_box 2 rfl))) rfl rfl rfl ?_
            refine gop_on rfl rfl rfl rfl hg52 ?_
            refine gop (y_bare (y_loads (cs := [_, _]) Tryd.isAgg23 Tryd.sizeOf23 rfl rfl (cells_box 0 rfl))) rfl rfl rfl ?_
            refine gop_on rfl rfl rfl rfl hg52 ?_
            refine gop (y_bare (y_bin (vx := .agg #[_, _]) (vy := .agg #[_, _]) rfl rfl (fun w => eg23 _ _ _ _ _ w) (fun w => eq23 _ _ _ _ w))) rfl rfl rfl ?_
            refine gop (y_pick_t (v := .bool _) rfl hg52 rfl) rfl rfl rfl ?_
            refine gop (y_move (v := .bool _) rfl) rfl rfl rfl ?_
            refine gop_if (want := true) rfl rfl rfl rfl rfl rfl (fun hg57 => ?_) (fun hg57 => ?_)
            · 
              have hg57d := hg57
              refine gop (y_bare (y_loads (cs := [_, _]) Tryd.isAgg23 Tryd.sizeOf23 rfl rfl (cells_box 3 rfl))) rfl rfl rfl ?_
              refine gop_on rfl rfl rfl rfl hg57 ?_
              refine gop (y_bare (y_loads (cs := [_, _]) Tryd.isAgg23 Tryd.sizeOf23 rfl rfl (cells_box 0 rfl))) rfl rfl rfl ?_
              refine gop_on rfl rfl rfl rfl hg57 ?_
              refine gop (y_bare (y_bin (vx := .agg #[_, _]) (vy := .agg #[_, _]) rfl rfl (fun w => eg23 _ _ _ _ _ w) (fun w => eq23 _ _ _ _ w))) rfl rfl rfl ?_
              refine gop (y_pick_t (v := .bool _) rfl hg57 rfl) rfl rfl rfl ?_
              refine gop (y_move (v := .bool _) rfl) rfl rfl rfl ?_
              refine gop_if (want := true) rfl rfl rfl rfl rfl rfl (fun hg62 => ?_) (fun hg62 => ?_)
              · 
                have hg62d := hg62
                refine gop (y_bare (y_move (v := .bool _) rfl)) rfl rfl rfl ?_
                refine gop_on rfl rfl rfl rfl hg62 ?_
                refine gop (y_bare (y_not rfl)) rfl rfl rfl ?_
                refine gop (y_pick_t (v := .bool _) rfl hg62 rfl) rfl rfl rfl ?_
                refine gop (y_move (v := .bool _) rfl) rfl rfl rfl ?_
                refine gop_if (want := true) rfl rfl rfl rfl rfl rfl (fun hg66 => ?_) (fun hg66 => ?_)
                · 
                  have hg66d := not_t hg66
                  refine gop (y_bare (y_move (v := .string _) rfl)) rfl rfl rfl ?_
                  refine gop_on rfl rfl rfl rfl hg66 ?_
                  refine gop (y_bare (y_eqls rfl rfl)) rfl rfl rfl ?_
                  refine gop (y_pick_t (v := .bool _) rfl hg66 rfl) rfl rfl rfl ?_
                  refine gop (y_move (v := .bool _) rfl) rfl rfl rfl ?_
                  refine gop_if (want := true) rfl rfl rfl rfl rfl rfl (fun hg70 => ?_) (fun hg70 => ?_)
                  · 
                    have hg70d := hg70
                    refine gop (y_bare (y_move (v := .bool _) rfl)) rfl rfl rfl ?_
                    refine gop_on rfl rfl rfl rfl hg70 ?_
                    refine gop (y_bare (y_not rfl)) rfl rfl rfl ?_
                    refine gop (y_pick_t (v := .bool _) rfl hg70 rfl) rfl rfl rfl ?_
                    refine gop (y_assign (v := .bool _) rfl) rfl rfl rfl ?_
                    refine gops_nil ?_
                    refine hN12 _ _ ?_
                    refine gfrom [(6, .bool _)] ⟨rfl, trivial⟩ fun σ => ?_
                    refine gret fun w1 hM => ?_
                    refine ⟨_, res1 rfl (rt (v := .bool _) rfl), ?_⟩
                    exact ⟨by rw [hOV]; rfl, hM.low⟩
                  · 
                     rw [hSV] at hg70; exact absurd hg70 (by simp)
                · 
                   rw [hMV] at hg66; exact absurd hg66 (by decide)
              · 
                 rw [hOF] at hg62; simp at hg62
            · 
               simp at hg57
          · 
             rw [hMF] at hg52; simp at hg52
        · 
          replace hc48 := Decidable.not_not.1 (of_decide_eq_false hc48)
          have hv0 : (patFault a).code = 0 := hc48
          have hP : patFault a = ⟨0, 0⟩ := patFault_zero.1 hv0
          have hSV : fixedV a = joinS (fixL (cutS a)) := by unfold fixedV; rw [if_pos hP]
          refine gskip ?_
          refine hN10 _ _ ?_
          refine gfrom [(0, .string _), (1, .string _), (2, .string _), (8, .bool _), (9, .pointer _), (10, .string _), (11, .pointer _), (12, .bool _), (13, .pointer _)] ⟨rfl, rfl, rfl, rfl, rfl, rfl, rfl, rfl, rfl, trivial⟩ fun σ => ?_
          refine gseq fun N13 hN13 => ?_
          refine gseq fun N14 hN14 => ?_
          refine greg ?_
          refine gop (y_fieldAddr_box fa23_0 rfl) rfl rfl rfl ?_
          refine gop (y_load Tryd.isAgg3 rfl (cell_box 2 rfl rfl)) rfl rfl rfl ?_
          refine gop (y_neq rfl rfl) rfl rfl rfl ?_
          refine gop (y_move (v := .bool _) rfl) rfl rfl rfl ?_
          refine gop_if (want := false) rfl rfl rfl rfl rfl rfl (fun hg77 => ?_) (fun hg77 => ?_)
          · 
            have hg77d := Decidable.not_not.1 (of_decide_eq_false hg77)
            refine gop (y_bare (y_move (v := .string _) rfl)) rfl rfl rfl ?_
            refine gop_on rfl rfl rfl rfl hg77 ?_
            refine gop (y_bare (y_move (v := .string _) rfl)) rfl rfl rfl ?_
            refine gop_on rfl rfl rfl rfl hg77 ?_
            refine gop_pure (e_call (vs := [.string _]) Tryd.func39 rfl (by kernel_rfl) rfl) (fun w hM => refFixed_any w a (Nat.le_trans (patFault_size hP) (by decide))) rfl rfl rfl ?_
            refine gop_on rfl rfl rfl rfl hg77 ?_
            refine gop (y_bare (y_neqs rfl rfl)) rfl rfl rfl ?_
            refine gop (y_pick_f (v := .bool _) rfl hg77 rfl) rfl rfl rfl ?_
            refine gops_nil ?_
            refine hN14 _ _ ?_
            refine gfrom [(0, .string _), (1, .string _), (2, .string _), (8, .bool _), (9, .pointer _), (12, .bool _), (13, .pointer _), (82, .bool _)] ⟨rfl, rfl, rfl, rfl, rfl, rfl, rfl, rfl, trivial⟩ fun σ => ?_
            refine gcond (b := _) rfl (fun hc82 => ?_) (fun hc82 => ?_)
            · 
               rw [hSV] at hc82; simp at hc82
            · 
              refine gskip ?_
              refine hN13 _ _ ?_
              refine gfrom [(0, .string _), (1, .string _), (2, .string _), (8, .bool _), (9, .pointer _), (12, .bool _), (13, .pointer _)] ⟨rfl, rfl, rfl, rfl, rfl, rfl, rfl, trivial⟩ fun σ => ?_
              refine gseq fun N15 hN15 => ?_
              refine gfrom [(0, .string _), (1, .string _), (2, .string _), (8, .bool _), (9, .pointer _), (12, .bool _), (13, .pointer _)] ⟨rfl, rfl, rfl, rfl, rfl, rfl, rfl, trivial⟩ fun σ => ?_
              refine gcut3 (Lf := [(0, .string _), (1, .string _), (12, .bool _), (13, .pointer _)]) (G := Unit) (fun g => True) (fun g => []) (fun g => []) ⟨rfl, rfl, rfl, rfl, trivial⟩ ?_ ?_
              ·
                refine gseq fun N16 hN16 => ?_
                refine greg ?_
                refine gop (y_move (v := .string _) rfl) rfl rfl rfl ?_
                refine gop_pure (e_call (vs := [.string _]) Tryd.func17 rfl (by kernel_rfl) rfl) (fun w hM => isPath_any w path hpz) rfl rfl rfl ?_
                refine gop (y_not rfl) rfl rfl rfl ?_
                refine gops_nil ?_
                refine hN16 _ _ ?_
                refine gfrom [(0, .string _), (1, .string _), (2, .string _), (8, .bool _), (9, .pointer _), (12, .bool _), (13, .pointer _), (85, .bool _)] ⟨rfl, rfl, rfl, rfl, rfl, rfl, rfl, rfl, trivial⟩ fun σ => ?_
                refine gcond (b := _) rfl (fun hc85 => ?_) (fun hc85 => ?_)
                · 
                  replace hc85 := not_t hc85
                  have hMF : matchF a path = ⟨12, -2⟩ := by unfold matchF; rw [if_neg (fun h => h hP), hc85]; rfl
                  have hMV : matchV a path = false := by unfold matchV; rw [if_neg (fun h => absurd h.2 (by simp [hc85]))]
                  refine gseq fun N17 hN17 => ?_
                  refine greg_q (by kernel_rfl) (by kernel_rfl) ?_
                  refine gq (y_loads (cs := [_, _]) Tryd.isAgg23 Tryd.sizeOf23 rfl rfl (cells_box 1 rfl)) rfl rfl rfl ?_
                  refine gq_pure (e_call (vs := [_, _]) Tryd.func31 rfl (by kernel_rfl) rfl) (fun w hM => fault_any w _ _) rfl rfl rfl ?_
                  refine gq (y_bin (vx := .agg #[_, _]) (vy := .agg #[_, _]) rfl rfl (fun w => eg23 _ _ _ _ _ w) (fun w => ne23 _ _ _ _ w)) rfl rfl rfl ?_
                  refine gq (y_move (v := .bool _) rfl) rfl rfl rfl ?_
                  refine gq_if (want := false) rfl rfl rfl rfl rfl rfl (fun hg89 => ?_) (fun hg89 => ?_)
                  · 
                    have hg89d := hg89
                    refine gq (y_bare (y_move (v := .bool _) rfl)) rfl rfl rfl ?_
                    refine gq (y_pick_f (v := .bool _) rfl hg89 rfl) rfl rfl rfl ?_
                    refine gqs_nil ?_
                    refine hN17 _ _ ?_
                    refine gfrom [(0, .string _), (1, .string _), (12, .bool _), (13, .pointer _), (91, .bool _)] ⟨rfl, rfl, rfl, rfl, rfl, trivial⟩ fun σ => ?_
                    refine gcond (b := _) rfl (fun hc91 => ?_) (fun hc91 => ?_)
                    · 
                       rw [hMV] at hc91; cases hc91
                    · 
                      refine gskip ?_
                      refine gcut3_end (()) (trivial) trivial ⟨rfl, rfl, rfl, rfl, trivial⟩ ⟨_, rfl⟩
                  · 
                     rw [hMF] at hg89; simp at hg89
                · 
                  replace hc85 := not_f hc85
                  have hpk : pathOk path = true := hc85
                  have hMF : matchF a path = ⟨0, 0⟩ := by unfold matchF; rw [if_neg (fun h => h hP), hpk]; rfl
                  have hMV : matchV a path = wk (cutS a) (cutS path) := by unfold matchV; rw [if_pos ⟨hP, hpk⟩]
                  refine gseq fun N18 hN18 => ?_
                  refine greg ?_
                  refine gop (y_fieldAddr_box fa23_0 rfl) rfl rfl rfl ?_
                  refine gop (y_load Tryd.isAgg3 rfl (cell_box 1 rfl rfl)) rfl rfl rfl ?_
                  refine gop (y_neq rfl rfl) rfl rfl rfl ?_
                  refine gop (y_move (v := .bool _) rfl) rfl rfl rfl ?_
                  refine gop_if (want := false) rfl rfl rfl rfl rfl rfl (fun hg95 => ?_) (fun hg95 => ?_)
                  · 
                    have hg95d := Decidable.not_not.1 (of_decide_eq_false hg95)
                    refine gop (y_bare (y_move (v := .bool _) rfl)) rfl rfl rfl ?_
                    refine gop_on rfl rfl rfl rfl hg95 ?_
                    refine gop (y_bare (y_move (v := .string _) rfl)) rfl rfl rfl ?_
                    refine gop_on rfl rfl rfl rfl hg95 ?_
                    refine gop (y_bare (y_move (v := .string _) rfl)) rfl rfl rfl ?_
                    refine gop_on rfl rfl rfl rfl hg95 ?_
                    refine gop_pure (e_call (vs := [.string _, .string _]) Tryd.func40 rfl (by kernel_rfl) rfl) (fun w hM => refMatches_any w a path (Nat.le_trans (patFault_size hP) (by decide)) hpz) rfl rfl rfl ?_
                    refine gop_on rfl rfl rfl rfl hg95 ?_
                    refine gop (y_bare (y_neqb rfl rfl Tryd.underlying4)) rfl rfl rfl ?_
                    refine gop (y_pick_f (v := .bool _) rfl hg95 rfl) rfl rfl rfl ?_
                    refine gops_nil ?_
                    refine hN18 _ _ ?_
                    refine gfrom [(0, .string _), (1, .string _), (12, .bool _), (13, .pointer _), (101, .bool _)] ⟨rfl, rfl, rfl, rfl, rfl, trivial⟩ fun σ => ?_
                    refine gcond (b := _) rfl (fun hc101 => ?_) (fun hc101 => ?_)
                    · 
                       rw [hMV] at hc101; simp at hc101
                    · 
                      refine gskip ?_
                      refine gcut3_end (()) (trivial) trivial ⟨rfl, rfl, rfl, rfl, trivial⟩ ⟨_, rfl⟩
                  · 
                     rw [hMF] at hg95; exact absurd hg95 (by decide)
              ·
                intro g hcut σ
                refine hN15 _ _ ?_
                refine gseq fun N19 hN19 => ?_
                refine gseq fun N20 hN20 => ?_
                refine greg ?_
                refine gop (y_move (v := .string _) rfl) rfl rfl rfl ?_
                refine gop_pure (e_call (vs := [.string _]) Tryd.func36 rfl (by kernel_rfl) rfl) (fun w hM => patternCode_any w _) rfl rfl rfl ?_
                refine gop (y_neq rfl rfl) rfl rfl rfl ?_
                refine gops_nil ?_
                refine hN20 _ _ ?_
                refine gT [box b7 _, box b9 _, box b11 _, box b13 _] rfl ?_
                refine gfrom [(0, .string _), (1, .string _), (12, .bool _), (13, .pointer _), (104, .bool _)] ⟨rfl, rfl, rfl, rfl, rfl, trivial⟩ fun σ => ?_
                refine gcond (b := _) rfl (fun hc104 => ?_) (fun hc104 => ?_)
                · 
                  replace hc104 := of_decide_eq_true hc104
                  have hpfb : patFault b = ⟨(patCode b : Int), -1⟩ := by unfold patFault; rw [if_neg (by omega)]
                  have hneb : ¬ patFault b = ⟨0, 0⟩ := fun h => by rw [hpfb] at h; have h7 := congrArg Fault.code h; simp only at h7; omega
                  have hOF : overF a b = ⟨(patCode b : Int), -2⟩ := by unfold overF; rw [if_neg (fun h => h hP), if_pos hneb, hpfb]
                  have hOV : overV a b = false := by unfold overV; rw [if_neg (fun h => hneb h.2)]
                  refine gseq fun N21 hN21 => ?_
                  refine greg_q (by kernel_rfl) (by kernel_rfl) ?_
                  refine gq (y_loads (cs := [_, _]) Tryd.isAgg23 Tryd.sizeOf23 rfl rfl (cells_box 3 rfl)) rfl rfl rfl ?_
                  refine gq (y_move (v := .string _) rfl) rfl rfl rfl ?_
                  refine gq_pure (e_call (vs := [.string _]) Tryd.func36 rfl (by kernel_rfl) rfl) (fun w hM => patternCode_any w _) rfl rfl rfl ?_
                  refine gq_pure (e_call (vs := [.int _ _, _]) Tryd.func31 rfl (by kernel_rfl) rfl) (fun w hM => fault_any w _ _) rfl rfl rfl ?_
                  refine gq (y_bin (vx := .agg #[_, _]) (vy := .agg #[_, _]) rfl rfl (fun w => eg23 _ _ _ _ _ w) (fun w => eq23 _ _ _ _ w)) rfl rfl rfl ?_
                  refine gq (y_move (v := .bool _) rfl) rfl rfl rfl ?_
                  refine gq_if (want := true) rfl rfl rfl rfl rfl rfl (fun hg110 => ?_) (fun hg110 => ?_)
                  · 
                    have hg110d := hg110
                    refine gq (y_bare (y_move (v := .bool _) rfl)) rfl rfl rfl ?_
                    refine gq_on rfl rfl rfl rfl hg110 ?_
                    refine gq (y_bare (y_not rfl)) rfl rfl rfl ?_
                    refine gq (y_pick_t (v := .bool _) rfl hg110 rfl) rfl rfl rfl ?_
                    refine gq (y_assign (v := .bool _) rfl) rfl rfl rfl ?_
                    refine gqs_nil ?_
                    refine hN21 _ _ ?_
                    refine gfrom [(6, .bool _)] ⟨rfl, trivial⟩ fun σ => ?_
                    refine gret fun w1 hM => ?_
                    refine ⟨_, res1 rfl (rt (v := .bool _) rfl), ?_⟩
                    exact ⟨by rw [hOV]; rfl, hM.low⟩
                  · 
                     rw [hOF] at hg110; simp at hg110
                · 
                  replace hc104 := Decidable.not_not.1 (of_decide_eq_false hc104)
                  have hPB : patFault b = ⟨0, 0⟩ := by unfold patFault; rw [if_pos (by omega)]
                  have hOF : overF a b = ⟨0, 0⟩ := by unfold overF; rw [if_neg (fun h => h hP), if_neg (fun h => h hPB)]
                  have hOV : overV a b = ov (cutS a) (cutS b) := by unfold overV; rw [if_pos ⟨hP, hPB⟩]
                  refine gskip ?_
                  refine hN19 _ _ ?_
                  refine gfrom [(0, .string _), (1, .string _), (12, .bool _), (13, .pointer _)] ⟨rfl, rfl, rfl, rfl, trivial⟩ fun σ => ?_
                  refine gseq fun N22 hN22 => ?_
                  refine greg ?_
                  refine gop (y_fieldAddr_box fa23_0 rfl) rfl rfl rfl ?_
                  refine gop (y_load Tryd.isAgg3 rfl (cell_box 3 rfl rfl)) rfl rfl rfl ?_
                  refine gop (y_eql rfl rfl) rfl rfl rfl ?_
                  refine gop (y_move (v := .bool _) rfl) rfl rfl rfl ?_
                  refine gop_if (want := true) rfl rfl rfl rfl rfl rfl (fun hg117 => ?_) (fun hg117 => ?_)
                  · 
                    have hg117d := of_decide_eq_true hg117
                    refine gop (y_bare (y_move (v := .bool _) rfl)) rfl rfl rfl ?_
                    refine gop_on rfl rfl rfl rfl hg117 ?_
                    refine gop (y_bare (y_move (v := .string _) rfl)) rfl rfl rfl ?_
                    refine gop_on rfl rfl rfl rfl hg117 ?_
                    refine gop (y_bare (y_move (v := .string _) rfl)) rfl rfl rfl ?_
                    refine gop_on rfl rfl rfl rfl hg117 ?_
                    refine gop_pure (e_call (vs := [.string _, .string _]) Tryd.func41 rfl (by kernel_rfl) rfl) (fun w hM => refOverlap_any w a b (patFault_size hP) (patFault_size hPB)) rfl rfl rfl ?_
                    refine gop_on rfl rfl rfl rfl hg117 ?_
                    refine gop (y_bare (y_eqlb rfl rfl Tryd.underlying4)) rfl rfl rfl ?_
                    refine gop (y_pick_t (v := .bool _) rfl hg117 rfl) rfl rfl rfl ?_
                    refine gop (y_assign (v := .bool _) rfl) rfl rfl rfl ?_
                    refine gops_nil ?_
                    refine hN22 _ _ ?_
                    refine gfrom [(6, .bool _)] ⟨rfl, trivial⟩ fun σ => ?_
                    refine gret fun w1 hM => ?_
                    refine ⟨_, res1 rfl (rt (v := .bool _) rfl), ?_⟩
                    exact ⟨by rw [hOV]; simp, hM.low⟩
                  · 
                     rw [hOF] at hg117; exact absurd hg117 (by decide)
          · 
             exact absurd hv0 (of_decide_eq_true hg77)
    · 
       exact absurd hg40 (by decide)
end Go.Proofs.YtijpaljdclhehaaDoor
namespace Go.Cf
open Go.ChangeShapes Go.WideShapes Go.ChangeAt Go.RowKit Go.Deep
theorem law_lift_row {H : Type} {enc : TypeId × Value → H} {C : Checked} {os : Os} {f : FuncId} {fn : Func} {s : OpenSpec} {F : Stop.Interp} {conds : List PathCond} {tb : TypeId} {laid : List (String × DataW Unit)}
    (own : ownKnob C.prog.godebug = none) (started : os.Started) (noInit : C.prog.inits.idxOf? f = none) (hfn : C.prog.funcs[f]? = some fn)
    (witness : ∃ (w : World) (tape : Tape) (i : Input), w.os = os ∧ (w.forCall tape i).Shaped C.prog ∧ i.vars = [] ∧ Input.okWide C.prog (w.forCall tape i) .any w.heap.size f i ∧
      s.preRow enc C.prog fn conds false laid (w.forCall tape i).memory i.args ∧ Assume.holds {} C.prog (lone (Frame.enter C.prog f i.args .normal) [] (w.forCall tape i)))
    (hl : laidOutB C.prog = true) (hread : (fn.params.toList.all fun t => C.prog.readableRec t && decide (t < C.prog.types.size)) = true) (hres : fn.resultTypes = #[tb]) (htb : C.prog.underlying tb = some .bool) (hvars : s.vars = []) (hvars0 : (s.at F).vars = []) (hvt : s.bare.plain.varTypes C.prog = [])
    (hspec : ∀ ds : List (DataW H), ds.length = fn.params.size → ((s.at F).fn H (ds ++ [])).results = [.lit (.bool true)] ∧ ((s.at F).fn H (ds ++ [])).args = ds ∧ ((s.at F).fn H (ds ++ [])).vars = [])
    (contract : ∀ (W : World) (base : Nat) (args : Array Value) (ds : List (DataW H)) (p : List MemPlace),
      (∀ (j : Nat) t v, fn.params[j]? = some t → args[j]? = some v → Value.okWide C.prog W .any base t v) → DataW.TrodAll enc C.prog W 0 (fun _ => true) true fn.params.toList args.toList ds p →
      (DataW.weightsEach C.prog fn.params.toList ds).all (· ≤ reachBytes) = true → (∀ k, s.cond = some k → k H ds = true) → laidMetH C.prog laid W →
      Calls C.prog f args W fun e W' => e = .returned (.bool true) ∧ Below W.heap.size W W') :
    ReturnsInHanded {} C os f .any (s.preRow enc C.prog fn conds false laid) ((s.at F).post enc C.prog fn false true false false) := by
  refine returnsInHanded_of_row own started noInit hfn witness ?_
  intro W base args ds gs before hval hW _ hkk hsz hL _ _
  have hW' := hW
  obtain ⟨p, q, hA, hV, rfl, _, _⟩ := hW
  rw [hvars] at hV
  obtain ⟨rfl, rfl⟩ := trodVars_none hV
  have hlen : ds.length = fn.params.size := by
    have key : ∀ (ts : List TypeId) (vs : List Value) (ds : List (DataW H)) (p : List MemPlace), DataW.TrodAll enc C.prog W 0 (fun _ => true) true ts vs ds p → ds.length = ts.length := by
      intro ts
      induction ts with
      | nil => intro vs ds p h; obtain ⟨_, rfl, _⟩ := trodAll_nil h; rfl
      | cons t ts ih => intro vs ds p h; obtain ⟨v, vs', d, ds', p, q, rfl, rfl, rfl, _, h2⟩ := trodAll_cons h; simp [ih _ _ _ h2]
    rw [key _ _ _ _ hA]; simp
  have hw : (DataW.weightsEach C.prog fn.params.toList ds).all (· ≤ reachBytes) = true := by
    simpa [hvt] using hsz
  refine (contract W base args ds p hval hA hw (fun k hk => by simpa using hkk k hk) hL).mono fun e W' ⟨he, bel⟩ => ?_
  subst he
  obtain ⟨h1, h2, h3⟩ := hspec ds hlen
  have hr : ∀ t ∈ fn.params.toList, C.prog.readableRec t = true ∧ t < C.prog.types.size := by
    intro t ht
    have := List.all_eq_true.1 hread t ht
    simpa using this
  refine ⟨_, rfl, ds, [], p ++ [], [], p, [], hW', ?_, ?_, ?_, World.keptBut_mono (fun x hx => ⟨hx, ?_⟩) (bel.frame (· ∈ p ++ [])), fun h => by cases h⟩
  · rw [h1, hres]; exact trodAll_mk1 (shut_bool htb _)
  · rw [h2]; exact trodAll_below hl bel hr hA
  · rw [h3, hvars0]; rfl
  · right; left; simpa using hx
section
variable {H : Type} {enc : TypeId × Value → H} {P : Program} {w : World} {t : TypeId} {v : Value} {d : DataW H} {p : List MemPlace} {b0 : Nat}
theorem rd_string (ht : P.underlying t = some .string) (hok : Value.okWide P w .any b0 t v) (h : DataW.Trod enc P w 0 (fun _ => true) true t v d p) (hw : (d.weights P t).all (· ≤ reachBytes) = true) : ∃ s : ByteArray, v = .string s ∧ d = .lit (.string s.data.toList) ∧ s.size ≤ reachBytes := by
  obtain ⟨s, rfl⟩ := okWide_string ht hok
  obtain ⟨n, hn⟩ := h
  obtain ⟨a, h1, h2, _⟩ := DataW.trod_string ht hn
  have h3 : a = s := by simpa [Value.cells] using h1.symm
  subst h3
  have hd : d = .lit (.string a.data.toList) := congrArg Prod.fst h2
  subst hd
  refine ⟨a, rfl, rfl, ?_⟩
  have : a.data.toList.length = a.size := by rw [Array.length_toList]; rfl
  simpa [DataW.weights, this] using hw
end
end Go.Cf
namespace Go.Proofs.YtijpaljdclhehaaDoor
open Go.ChangeShapes Go.WideShapes Go.ChangeAt Go.RowKit Go.Cf
set_option maxRecDepth 100000 in
theorem globFunctionsMatchSpec_lifted (os : Os) (started : os.Started) (H : Type) (enc : TypeId × Value → H) (F : Stop.Interp) :
    ReturnsInHanded {} Tryd.checked os 11 .any ((Rows.OpenSpec.upto Rows.globFunctionsMatchSpecSpec).preRow enc Tryd.prog Tryd.f11 Rows.globFunctionsMatchSpecUptoRow.domain false Rows.globFunctionsMatchSpecUptoRow.laid) (((Rows.OpenSpec.upto Rows.globFunctionsMatchSpecSpec).at F).post enc Tryd.prog Tryd.f11 false true false false) := by
  refine law_lift_row (C := Tryd.checked) (s := Rows.OpenSpec.upto Rows.globFunctionsMatchSpecSpec) (tb := 4) (by kernel_rfl) started (by kernel_rfl) Tryd.func11
    (witness_row_at (enc := enc) (C := Tryd.checked) false ({ (World.holding Tryd.prog os ⟨#[], #[], []⟩) with heap := ((World.holding Tryd.prog os ⟨#[], #[], []⟩).heap.modify 1 fun | .cells _ t fz => .cells (Go.Pinned.utf8FirstZ.map fun n : Nat => Value.int .u8 (n : Int)).toArray t fz | o => o).modify 2 fun | .cells _ t fz => .cells (([128, 191, 160, 191, 128, 159, 144, 191, 128, 143, 0, 0, 0, 0, 0, 0, 0, 0, 0, 0, 0, 0, 0, 0, 0, 0, 0, 0, 0, 0, 0, 0] : List Nat).map fun n : Nat => Value.int .u8 (n : Int)).toArray t fz | o => o } : World) #[.string .empty, .string .empty, .string .empty] rfl (by kernel_rfl) (by kernel_rfl) (by kernel_rfl)
      (OpenSpec.preRow_of_cond 8 (show DataW.whole enc Tryd.prog _ Tryd.f11.params.toList _ false _ 8 = some ([.lit (.string []), .lit (.string []), .lit (.string [])], [], []) by kernel_rfl) (by kernel_rfl) (fun k hk => by cases hk; kernel_rfl) (by kernel_rfl) (laidMet_of_run' 8 (by kernel_rfl) (by kernel_rfl))))
    (by kernel_rfl) (by kernel_rfl) (by kernel_rfl) Tryd.underlying4 rfl rfl rfl ?_ ?_
  · intro ds hds
    rw [show Tryd.f11.params.size = 3 from by rw [Tryd.params11]; rfl] at hds
    match ds, hds with
    | [d0, d1, d2], _ => exact ⟨rfl, rfl, rfl⟩
  · intro W base args ds p hval hA hw hk hL
    rw [show Tryd.f11.params.toList = [9, 9, 9] from by rw [Tryd.params11]] at hA hw
    rw [Tryd.params11] at hval
    obtain ⟨v0, vs0, d0, ds0, p0, q0, hargs, rfl, rfl, h0, r0⟩ := trodAll_cons hA
    obtain ⟨v1, vs1, d1, ds1, p1, q1, rfl, rfl, rfl, h1, r1⟩ := trodAll_cons r0
    obtain ⟨v2, vs2, d2, ds2, p2, q2, rfl, rfl, rfl, h2, r2⟩ := trodAll_cons r1
    obtain ⟨rfl, rfl, rfl⟩ := trodAll_nil r2
    obtain rfl : args = #[v0, v1, v2] := by cases args; simp_all
    obtain ⟨w0, hw⟩ := weights_each hw
    obtain ⟨w1, hw⟩ := weights_each hw
    obtain ⟨w2, hw⟩ := weights_each hw
    have hb : Rows.uptoBulkAll [d0, d1, d2] ≤ 1048576 := of_decide_eq_true (hk _ rfl)
    simp only [Rows.uptoBulkAll] at hb
    obtain ⟨s0, rfl, rfl, hs0⟩ := rd_string Tryd.underlying9 (hval 0 9 v0 rfl rfl) h0 w0
    obtain ⟨s1, rfl, rfl, hs1⟩ := rd_string Tryd.underlying9 (hval 1 9 v1 rfl rfl) h1 w1
    obtain ⟨s2, rfl, rfl, hs2⟩ := rd_string Tryd.underlying9 (hval 2 9 v2 rfl rfl) h2 w2
    have hz2 : s2.size ≤ 1048576 := by
      have h9 : s2.data.toList.length = s2.size := by rw [Array.length_toList]; rfl
      simp only [Rows.uptoBulk] at hb
      omega
    exact law27_any W s0 s1 s2 (by omega)
theorem globFunctionsMatchSpec_said : Rows.GlobFunctionsMatchSpecUptoSaid :=
  OpenClaim.holds_of_cond 11 Tryd.f11 rfl rfl rfl rfl rfl rfl rfl ⟨rfl, rfl, rfl, rfl, rfl⟩ rfl rfl rfl rfl rfl (by kernel_rfl) Tryd.func11 (by kernel_rfl)
    (of_decide_eq_true (by kernel_rfl)) (by unfold Func.isWrapper; first | (rw [if_pos (by decide +kernel)]; kernel_rfl) | (rw [if_neg (by decide +kernel)]; exact ⟨rfl, rfl⟩))
    (fun os started H enc _ F => by rw [OpenClaim.pre_eq_preRow]; exact globFunctionsMatchSpec_lifted os started H enc F)
theorem globFunctionsMatchSpec_plain (f : FuncId) (fn : Func) (hf : Tryd.pinned.checked.prog.funcNamed "changeforge/changeforgelaw7.GlobFunctionsMatchSpec" = some f) (hfn : Tryd.pinned.checked.prog.funcs[f]? = some fn) :
    false = Tryd.pinned.checked.prog.looks [] ∧ ∀ (j : Nat) t, fn.params[j]? = some t → Tryd.pinned.checked.prog.wantsStandIn t = false := by
  obtain rfl : f = 11 := Option.some.inj ((show Tryd.prog.funcNamed "changeforge/changeforgelaw7.GlobFunctionsMatchSpec" = some 11 by kernel_rfl).symm.trans hf) |>.symm
  obtain rfl : fn = Tryd.f11 := (Option.some.inj (Tryd.func11.symm.trans hfn)).symm
  refine ⟨by kernel_rfl, fun j t ht => ?_⟩
  rw [Tryd.params11] at ht
  have hm : t ∈ [9, 9, 9] := by simpa using Array.mem_of_getElem? ht
  have hall : ([9, 9, 9].all fun u => !Tryd.prog.wantsStandIn u) = true := by kernel_rfl
  exact (show Tryd.prog.wantsStandIn t = false by simpa using List.all_eq_true.1 hall t hm)
theorem globFunctionsMatchSpec_holds : Rows.GlobFunctionsMatchSpecUptoCardSaid :=
  Claim7.holds_tied_plain_at .later [] _ _ _ _ globFunctionsMatchSpec_said (fun _ h => by cases h) (by kernel_rfl) (fun _ h => by cases h) globFunctionsMatchSpecUpto_row_tie rfl ⟨rfl, rfl⟩ (by kernel_rfl) rfl globFunctionsMatchSpec_plain (by kernel_rfl)
end Go.Proofs.YtijpaljdclhehaaDoor
