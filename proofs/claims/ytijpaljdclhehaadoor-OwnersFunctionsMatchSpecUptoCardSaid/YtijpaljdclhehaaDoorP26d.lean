/- Own frame, plain models and walks, part 4 (texts of this claim put together). -/
import Derived.Test.YtijpaljdclhehaaDoorP26c
import Derived.Laws.Externs
import Derived.Laws.IdiomStrings
namespace Go.Proofs.YtijpaljdclhehaaDoor
open Go.RowKit Go.Cf
set_option maxRecDepth 10000
set_option maxHeartbeats 4000000 in
theorem partMatches_any (w : World) (p s : ByteArray) (hp : p.size ≤ 4000000) (hs : s.size ≤ 4000000) : Calls Tryd.prog 66 #[.string p, .string s] w fun e w' => e = .returned (.bool (nameM p s)) ∧ Below w.heap.size w w' := by
  refine gcalls Tryd.func66 rfl Tryd.ntmps66 (Nat.le_of_ble_eq_true rfl) ?_
  refine gfrom [(0, .string _), (1, .string _)] ⟨rfl, rfl, trivial⟩ fun σ => ?_
  refine gseq fun N1 hN1 => ?_
  refine greg ?_
  refine gop (y_assign (v := .bool _) rfl) rfl rfl rfl ?_
  refine gops_nil ?_
  refine hN1 _ _ ?_
  refine gfrom [(0, .string _), (1, .string _)] ⟨rfl, rfl, trivial⟩ fun σ => ?_
  refine gseq fun N2 hN2 => ?_
  refine greg ?_
  refine gop (y_move (v := .string _) rfl) rfl rfl rfl ?_
  refine gop (y_lens Tryd.underlying9 rfl) rfl rfl rfl ?_
  refine gop (y_add rfl rfl ⟨by omega, by omega⟩) rfl rfl rfl ?_
  refine gop_make (f := boolCells) (bytes := 1) (z := .bool false) (false) Tryd.underlying82 (by kernel_rfl) rfl rfl rfl (k := s.size + 1) rfl rfl (by omega) (by simp [maxLen]; omega) rfl (fun b12 hb12 => ?_)
  refine gop (y_assign (v := .slice (some _) _ _) rfl) rfl rfl rfl ?_
  refine gops_nil ?_
  refine hN2 _ _ ?_
  refine gT [rowl _ _ _ _ _ _] rfl ?_
  refine gfrom [(0, .string _), (1, .string _), (5, .slice (some _) _ _)] ⟨rfl, rfl, rfl, trivial⟩ fun σ => ?_
  refine gseq fun N3 hN3 => ?_
  refine greg ?_
  refine gop (y_move (v := .slice (some _) _ _) rfl) rfl rfl rfl ?_
  refine gop (y_indexAddr Tryd.underlying82 Tryd.sizeOf4 rfl rfl rfl (by omega) (by omega)) rfl rfl rfl ?_
  refine gop_store_row 0 (f := boolCells) (l := List.replicate (s.size + 1) false) (k := 0) (o := 0) (v := .bool _) (a := false) (a' := true) (fun _ => rfl) rfl rfl rfl Tryd.sizeOf4 rfl rfl rfl rfl (by simp) (by simp) (Nat.le_of_ble_eq_true rfl) rfl rfl ?_
  refine gops_nil ?_
  refine hN3 _ _ ?_
  refine gT [rowl _ _ _ _ _ _] rfl ?_
  refine gfrom [(0, .string _), (1, .string _), (5, .slice (some _) _ _)] ⟨rfl, rfl, rfl, trivial⟩ fun σ => ?_
  refine gseq fun N4 hN4 => ?_
  refine gseq fun N5 hN5 => ?_
  refine greg ?_
  refine gop (y_assign (v := .int _ _) rfl) rfl rfl rfl ?_
  refine gops_nil ?_
  refine hN5 _ _ ?_
  refine gfrom [(0, .string _), (1, .string _), (5, .slice (some _) _ _), (6, .int _ _)] ⟨rfl, rfl, rfl, rfl, trivial⟩ fun σ => ?_
  refine gblock ?_
  rw [dp_first s.size (starP p) (charP p s)]
  refine gfrom2 [(5, .slice (some _) _ _), (6, .int _ _)] [(0, .string _), (1, .string _)] ⟨rfl, rfl, trivial⟩ ⟨rfl, rfl, trivial⟩ fun σ => ?_
  refine gloop2 (G := Nat × Nat) (fun (i, g) => i ≤ p.size) (fun (i, g) => p.size - i) (fun (i, g) => [(5, .slice (some ⟨g, 0, none⟩) (s.size + 1) (s.size + 1)), (6, .int .i64 (i : Int))]) (fun (i, g) => [(0, rowl boolCells w.heap.size 4 1 (.slice (some ⟨g, 0, none⟩) (s.size + 1) (s.size + 1)) (dpRow s.size (dp (starP p) (charP p s) i)))]) ((0, b12)) ?h0 ⟨rfl, rfl, trivial⟩ ⟨rfl, rfl, trivial⟩ rfl ?round
  case h0 => exact Nat.zero_le _
  case round =>
    rintro ⟨i, g⟩ hφ σ
    have hi : i ≤ p.size := hφ
    refine gT [rowl _ _ _ _ _ _] rfl ?_
    refine gseq fun N6 hN6 => ?_
    refine gseq fun N7 hN7 => ?_
    refine greg ?_
    refine gop (y_move (v := .int _ _) rfl) rfl rfl rfl ?_
    refine gop (y_move (v := .string _) rfl) rfl rfl rfl ?_
    refine gop (y_lens Tryd.underlying9 rfl) rfl rfl rfl ?_
    refine gop (y_lss rfl rfl) rfl rfl rfl ?_
    refine gops_nil ?_
    refine hN7 _ _ ?_
    refine gfrom [(0, .string _), (1, .string _), (5, .slice (some ⟨g, 0, none⟩) _ _), (6, .int _ _), (18, .bool _)] ⟨rfl, rfl, rfl, rfl, rfl, trivial⟩ fun σ => ?_
    refine gcond (b := _) rfl (fun hc18 => ?_) (fun hc18 => ?_)
    · 
      replace hc18 := of_decide_eq_true hc18
      refine gskip ?_
      refine hN6 _ _ ?_
      refine gfrom [(0, .string _), (1, .string _), (5, .slice (some ⟨g, 0, none⟩) _ _), (6, .int _ _)] ⟨rfl, rfl, rfl, rfl, trivial⟩ fun σ => ?_
      refine gseq fun N8 hN8 => ?_
      refine gblock ?_
      refine gseq fun N9 hN9 => ?_
      refine greg ?_
      refine gop (y_move (v := .string _) rfl) rfl rfl rfl ?_
      refine gop (y_lens Tryd.underlying9 rfl) rfl rfl rfl ?_
      refine gop (y_add rfl rfl ⟨by omega, by omega⟩) rfl rfl rfl ?_
      refine gop_make (f := boolCells) (bytes := 1) (z := .bool false) (false) Tryd.underlying82 (by kernel_rfl) rfl rfl rfl (k := s.size + 1) rfl rfl (by omega) (by simp [maxLen]; omega) rfl (fun b24 hb24 => ?_)
      refine gop (y_assign (v := .slice (some _) _ _) rfl) rfl rfl rfl ?_
      refine gops_nil ?_
      refine hN9 _ _ ?_
      refine gT [rowl _ _ _ _ _ _, rowl _ _ _ _ _ _] rfl ?_
      refine gfrom [(0, .string _), (1, .string _), (5, .slice (some ⟨g, 0, none⟩) _ _), (6, .int _ _), (7, .slice (some _) _ _)] ⟨rfl, rfl, rfl, rfl, rfl, trivial⟩ fun σ => ?_
      refine gseq fun N10 hN10 => ?_
      refine gseq fun N11 hN11 => ?_
      refine greg ?_
      refine gop (y_assign (v := .int _ _) rfl) rfl rfl rfl ?_
      refine gops_nil ?_
      refine hN11 _ _ ?_
      refine gfrom [(0, .string _), (1, .string _), (5, .slice (some ⟨g, 0, none⟩) _ _), (6, .int _ _), (7, .slice (some _) _ _), (8, .int _ _)] ⟨rfl, rfl, rfl, rfl, rfl, rfl, trivial⟩ fun σ => ?_
      refine gblock ?_
      rw [← dpPart_zero s.size (dp (starP p) (charP p s) (i + 1))]
      refine gfrom2 [(8, .int _ _)] [(0, .string _), (1, .string _), (5, .slice (some ⟨g, 0, none⟩) _ _), (6, .int _ _), (7, .slice (some _) _ _)] ⟨rfl, trivial⟩ ⟨rfl, rfl, rfl, rfl, rfl, trivial⟩ fun σ => ?_
      refine gloop2 (G := Nat) (fun k => k ≤ s.size + 1) (fun k => s.size + 1 - k) (fun k => [(8, .int .i64 (k : Int))]) (fun k => [(1, rowl boolCells w.heap.size 4 1 (.slice (some ⟨b24, 0, none⟩) (s.size + 1) (s.size + 1)) (dpPart s.size k (dp (starP p) (charP p s) (i + 1))))]) (0) ?h0 ⟨rfl, trivial⟩ ⟨rfl, rfl, rfl, rfl, rfl, trivial⟩ rfl ?round
      case h0 => exact Nat.zero_le _
      case round =>
        intro k hφ σ
        have hk : k ≤ s.size + 1 := hφ
        refine gT [rowl _ _ _ _ _ _, rowl _ _ _ _ _ _] rfl ?_
        refine gseq fun N12 hN12 => ?_
        refine gseq fun N13 hN13 => ?_
        refine greg ?_
        refine gop (y_move (v := .int _ _) rfl) rfl rfl rfl ?_
        refine gop (y_move (v := .string _) rfl) rfl rfl rfl ?_
        refine gop (y_lens Tryd.underlying9 rfl) rfl rfl rfl ?_
        refine gop (y_leq rfl rfl) rfl rfl rfl ?_
        refine gops_nil ?_
        refine hN13 _ _ ?_
        refine gfrom [(0, .string _), (1, .string _), (5, .slice (some ⟨g, 0, none⟩) _ _), (6, .int _ _), (7, .slice (some _) _ _), (8, .int _ _), (28, .bool _)] ⟨rfl, rfl, rfl, rfl, rfl, rfl, rfl, trivial⟩ fun σ => ?_
        refine gcond (b := _) rfl (fun hc28 => ?_) (fun hc28 => ?_)
        · 
          replace hc28 := of_decide_eq_true hc28
          refine gskip ?_
          refine hN12 _ _ ?_
          refine gfrom [(0, .string _), (1, .string _), (5, .slice (some ⟨g, 0, none⟩) _ _), (6, .int _ _), (7, .slice (some _) _ _), (8, .int _ _)] ⟨rfl, rfl, rfl, rfl, rfl, rfl, trivial⟩ fun σ => ?_
          refine gseq fun N14 hN14 => ?_
          refine gblock ?_
          refine gseq fun N15 hN15 => ?_
          refine greg ?_
          refine gop (y_move (v := .string _) rfl) rfl rfl rfl ?_
          refine gop (y_move (v := .int _ _) rfl) rfl rfl rfl ?_
          refine gop (y_stridx (m := i) Tryd.underlying9 rfl rfl (by omega) (by omega) (by omega)) rfl rfl rfl ?_
          refine gop (y_eql rfl rfl) rfl rfl rfl ?_
          refine gops_nil ?_
          refine hN15 _ _ ?_
          refine gfrom [(0, .string _), (1, .string _), (5, .slice (some ⟨g, 0, none⟩) _ _), (6, .int _ _), (7, .slice (some _) _ _), (8, .int _ _), (34, .bool _)] ⟨rfl, rfl, rfl, rfl, rfl, rfl, rfl, trivial⟩ fun σ => ?_
          refine gcond (b := _) rfl (fun hc34 => ?_) (fun hc34 => ?_)
          · 
            replace hc34 := of_decide_eq_true hc34
            have hst : starP p i = true := by simp [starP]; omega
            refine greg ?_
            refine gop (y_move (v := .slice (some _) _ _) rfl) rfl rfl rfl ?_
            refine gop (y_move (v := .int _ _) rfl) rfl rfl rfl ?_
            refine gop (y_move (v := .slice (some ⟨g, 0, none⟩) _ _) rfl) rfl rfl rfl ?_
            refine gop (y_move (v := .int _ _) rfl) rfl rfl rfl ?_
            refine gop (y_indexAddr (m := k) Tryd.underlying82 Tryd.sizeOf4 rfl rfl (by omega) (by omega) (by omega)) rfl rfl rfl ?_
            refine gop (y_load Tryd.isAgg4 rfl (cells_rowl 0 (f := boolCells) (l := dpRow s.size (dp (starP p) (charP p s) i)) rfl (dpRow_len _ _).symm (fun _ => rfl) (dpRow_get (by omega)) 0 _ rfl)) rfl rfl rfl ?_
            refine gop (y_move (v := .bool _) rfl) rfl rfl rfl ?_
            refine gop_if (want := false) rfl rfl rfl rfl rfl rfl (fun hg41 => ?_) (fun hg41 => ?_)
            · 
              have hg41d := hg41
              refine gop (y_bare (y_move (v := .int _ _) rfl)) rfl rfl rfl ?_
              refine gop_on rfl rfl rfl rfl hg41 ?_
              refine gop (y_bare (y_gtr rfl rfl)) rfl rfl rfl ?_
              refine gop_on rfl rfl rfl rfl hg41 ?_
              refine gop (y_bare (y_move (v := .bool _) rfl)) rfl rfl rfl ?_
              refine gop_if (want := true) rfl rfl rfl rfl rfl rfl (fun hg44 => ?_) (fun hg44 => ?_)
              · 
                have hg44d := of_decide_eq_true hg44
                refine gop (y_bare (y_move (v := .slice (some _) _ _) rfl)) rfl rfl rfl ?_
                refine gop_on rfl rfl rfl rfl hg44 ?_
                refine gop (y_bare (y_move (v := .int _ _) rfl)) rfl rfl rfl ?_
                refine gop_on rfl rfl rfl rfl hg44 ?_
                refine gop (y_bare (y_sub rfl rfl ⟨by omega, by omega⟩)) rfl rfl rfl ?_
                refine gop_on rfl rfl rfl rfl hg44 ?_
                refine gop (y_bare (y_indexAddr (m := k - 1) Tryd.underlying82 Tryd.sizeOf4 rfl rfl (by omega) (by omega) (by omega))) rfl rfl rfl ?_
                refine gop_on rfl rfl rfl rfl hg44 ?_
                refine gop (y_bare (y_load Tryd.isAgg4 rfl (cells_rowl 1 (f := boolCells) (l := dpPart s.size k (dp (starP p) (charP p s) (i + 1))) rfl (dpPart_len _ _ _).symm (fun _ => rfl) (dpPart_get (by omega) (by omega)) 0 _ rfl))) rfl rfl rfl ?_
                refine gop_on rfl rfl rfl rfl hg41 ?_
                refine gop (y_bare (y_pick_t (v := .bool _) rfl hg44 rfl)) rfl rfl rfl ?_
                refine gop (y_pick_f (v := .bool _) rfl hg41 rfl) rfl rfl rfl ?_
                refine gop (y_indexAddr (m := k) Tryd.underlying82 Tryd.sizeOf4 rfl rfl (by omega) (by omega) (by omega)) rfl rfl rfl ?_
                refine gop_store_row 1 (f := boolCells) (l := dpPart s.size k (dp (starP p) (charP p s) (i + 1))) (k := k) (o := 0) (v := .bool _) (a := false) (a' := _) (fun _ => rfl) rfl rfl rfl Tryd.sizeOf4 rfl rfl rfl rfl (dpPart_len _ _ _).symm (dpPart_at (by omega)) (Nat.le_of_ble_eq_true rfl) rfl rfl ?_
                refine gops_nil ?_
                refine hN14 _ _ ?_
                refine gT [rowl _ _ _ _ _ _, rowl _ _ _ _ _ _] rfl ?_
                refine gfrom [(0, .string _), (1, .string _), (5, .slice (some ⟨g, 0, none⟩) _ _), (6, .int _ _), (7, .slice (some _) _ _), (8, .int _ _)] ⟨rfl, rfl, rfl, rfl, rfl, rfl, trivial⟩ fun σ => ?_
                refine greg ?_
                refine gop (y_move (v := .int _ _) rfl) rfl rfl rfl ?_
                refine gop (y_add rfl rfl ⟨by omega, by omega⟩) rfl rfl rfl ?_
                refine gop (y_assign (v := .int _ _) rfl) rfl rfl rfl ?_
                refine gops_nil ?_
                rw [dpPart_put (f := (dp (starP p) (charP p s) (i + 1))) (by omega) (dp_more hst hg41d (by omega))]
                refine gnext2 (k + 1) (by omega) (show k + 1 ≤ _ by omega) ⟨rfl, trivial⟩ ⟨rfl, rfl, rfl, rfl, rfl, trivial⟩ ⟨_, rfl⟩
              · 
                have hg44d := of_decide_eq_false hg44
                refine gop_off rfl rfl rfl rfl hg44 rfl rfl ?_
                refine gop_off rfl rfl rfl rfl hg44 rfl rfl ?_
                refine gop_off rfl rfl rfl rfl hg44 rfl rfl ?_
                refine gop_off rfl rfl rfl rfl hg44 rfl rfl ?_
                refine gop_on rfl rfl rfl rfl hg41 ?_
                refine gop (y_bare (y_pick_f (v := .bool _) rfl hg44 rfl)) rfl rfl rfl ?_
                refine gop (y_pick_f (v := .bool _) rfl hg41 rfl) rfl rfl rfl ?_
                refine gop (y_indexAddr (m := k) Tryd.underlying82 Tryd.sizeOf4 rfl rfl (by omega) (by omega) (by omega)) rfl rfl rfl ?_
                refine gop_store_row 1 (f := boolCells) (l := dpPart s.size k (dp (starP p) (charP p s) (i + 1))) (k := k) (o := 0) (v := .bool _) (a := false) (a' := _) (fun _ => rfl) rfl rfl rfl Tryd.sizeOf4 rfl rfl rfl rfl (dpPart_len _ _ _).symm (dpPart_at (by omega)) (Nat.le_of_ble_eq_true rfl) rfl rfl ?_
                refine gops_nil ?_
                refine hN14 _ _ ?_
                refine gT [rowl _ _ _ _ _ _, rowl _ _ _ _ _ _] rfl ?_
                refine gfrom [(0, .string _), (1, .string _), (5, .slice (some ⟨g, 0, none⟩) _ _), (6, .int _ _), (7, .slice (some _) _ _), (8, .int _ _)] ⟨rfl, rfl, rfl, rfl, rfl, rfl, trivial⟩ fun σ => ?_
                refine greg ?_
                refine gop (y_move (v := .int _ _) rfl) rfl rfl rfl ?_
                refine gop (y_add rfl rfl ⟨by omega, by omega⟩) rfl rfl rfl ?_
                refine gop (y_assign (v := .int _ _) rfl) rfl rfl rfl ?_
                refine gops_nil ?_
                rw [dpPart_put (f := (dp (starP p) (charP p s) (i + 1))) (by omega) (dp_no hst hg41d (by omega))]
                refine gnext2 (k + 1) (by omega) (show k + 1 ≤ _ by omega) ⟨rfl, trivial⟩ ⟨rfl, rfl, rfl, rfl, rfl, trivial⟩ ⟨_, rfl⟩
            · 
              have hg41d := hg41
              refine gop_off rfl rfl rfl rfl hg41 rfl rfl ?_
              refine gop_off rfl rfl rfl rfl hg41 rfl rfl ?_
              refine gop_offu rfl rfl rfl rfl rfl rfl ?_
              refine gop_offu rfl rfl rfl rfl rfl rfl ?_
              refine gop_offu rfl rfl rfl rfl rfl rfl ?_
              refine gop_offu rfl rfl rfl rfl rfl rfl ?_
              refine gop_offu rfl rfl rfl rfl rfl rfl ?_
              refine gop_off rfl rfl rfl rfl hg41 rfl rfl ?_
              refine gop (y_pick_t (v := .bool _) rfl hg41 rfl) rfl rfl rfl ?_
              refine gop (y_indexAddr (m := k) Tryd.underlying82 Tryd.sizeOf4 rfl rfl (by omega) (by omega) (by omega)) rfl rfl rfl ?_
              refine gop_store_row 1 (f := boolCells) (l := dpPart s.size k (dp (starP p) (charP p s) (i + 1))) (k := k) (o := 0) (v := .bool _) (a := false) (a' := _) (fun _ => rfl) rfl rfl rfl Tryd.sizeOf4 rfl rfl rfl rfl (dpPart_len _ _ _).symm (dpPart_at (by omega)) (Nat.le_of_ble_eq_true rfl) rfl rfl ?_
              refine gops_nil ?_
              refine hN14 _ _ ?_
              refine gT [rowl _ _ _ _ _ _, rowl _ _ _ _ _ _] rfl ?_
              refine gfrom [(0, .string _), (1, .string _), (5, .slice (some ⟨g, 0, none⟩) _ _), (6, .int _ _), (7, .slice (some _) _ _), (8, .int _ _)] ⟨rfl, rfl, rfl, rfl, rfl, rfl, trivial⟩ fun σ => ?_
              refine greg ?_
              refine gop (y_move (v := .int _ _) rfl) rfl rfl rfl ?_
              refine gop (y_add rfl rfl ⟨by omega, by omega⟩) rfl rfl rfl ?_
              refine gop (y_assign (v := .int _ _) rfl) rfl rfl rfl ?_
              refine gops_nil ?_
              rw [dpPart_put (f := (dp (starP p) (charP p s) (i + 1))) (by omega) (dp_yes hst hg41d)]
              refine gnext2 (k + 1) (by omega) (show k + 1 ≤ _ by omega) ⟨rfl, trivial⟩ ⟨rfl, rfl, rfl, rfl, rfl, trivial⟩ ⟨_, rfl⟩
          · 
            replace hc34 := of_decide_eq_false hc34
            have hst : starP p i = false := by simp [starP]; omega
            refine greg_e0 [28] (by kernel_rfl) ?_
            refine ge_take 0 (TK := [rowl _ _ _ _ _ _, rowl _ _ _ _ _ _]) rfl (by kernel_rfl) (by kernel_rfl) (by kernel_rfl) #[false, true, true, true, true, true, true, true, true, true, true, true, true, true, true, true, true, true, true, true, true, true, true, true, true, true, true, false, false] (by kernel_rfl) rfl (y_move (v := .slice (some _) _ _) rfl) rfl rfl rfl (weak_refl) (listed' := #[true, false, false, false, false, false, false, false, false, false, false, false, false, false, false, false, false, false, false, false, false, false, false, false, false, false, false, false, false]) rfl ?_
            refine ge_take 1 (TK := [rowl _ _ _ _ _ _, rowl _ _ _ _ _ _]) rfl (by kernel_rfl) (by kernel_rfl) (by kernel_rfl) #[true, false, true, true, true, true, true, true, true, true, true, true, true, true, true, true, true, true, true, true, true, true, true, true, true, true, true, false, false] (by kernel_rfl) rfl (y_move (v := .int _ _) rfl) rfl rfl rfl (weak_refl) (listed' := #[true, true, false, false, false, false, false, false, false, false, false, false, false, false, false, false, false, false, false, false, false, false, false, false, false, false, false, false, false]) rfl ?_
            refine ge_take 2 (TK := [rowl _ _ _ _ _ _, rowl _ _ _ _ _ _]) rfl (by kernel_rfl) (by kernel_rfl) (by kernel_rfl) #[true, true, false, false, false, false, false, false, false, false, false, false, false, false, false, false, false, false, false, false, false, false, false, false, false, false, false, false, false] (by kernel_rfl) rfl (y_move (v := .int _ _) rfl) rfl rfl rfl (weak_refl) (listed' := #[true, true, true, false, false, false, false, false, false, false, false, false, false, false, false, false, false, false, false, false, false, false, false, false, false, false, false, false, false]) rfl ?_
            refine ge_take 3 (TK := [rowl _ _ _ _ _ _, rowl _ _ _ _ _ _]) rfl (by kernel_rfl) (by kernel_rfl) (by kernel_rfl) #[true, true, true, false, false, false, false, false, false, false, false, false, false, false, false, false, false, false, false, false, false, false, false, false, false, false, false, false, false] (by kernel_rfl) rfl (y_gtr rfl rfl) rfl rfl rfl (weak_refl) (listed' := #[true, true, true, true, false, false, false, false, false, false, false, false, false, false, false, false, false, false, false, false, false, false, false, false, false, false, false, false, false]) rfl ?_
            refine ge_take 4 (TK := [rowl _ _ _ _ _ _, rowl _ _ _ _ _ _]) rfl (by kernel_rfl) (by kernel_rfl) (by kernel_rfl) #[true, true, true, true, false, false, false, false, false, false, false, false, false, false, false, false, false, false, false, false, false, false, false, false, false, false, false, false, false] (by kernel_rfl) rfl (y_move (v := .bool _) rfl) rfl rfl rfl (weak_refl) (listed' := #[true, true, true, true, true, false, false, false, false, false, false, false, false, false, false, false, false, false, false, false, false, false, false, false, false, false, false, false, false]) rfl ?_
            refine ge_dec 57 true rfl (fun hg57 => ?_) (fun hg57 => ?_)
            · 
              have hg57d := of_decide_eq_true hg57
              refine ge_take_on 5 (TK := [rowl _ _ _ _ _ _, rowl _ _ _ _ _ _]) rfl (by kernel_rfl) (by kernel_rfl) (by kernel_rfl) #[true, true, true, true, true, false, true, true, false, false, false, false, false, false, false, false, false, false, false, false, false, false, false, false, false, false, false, false, false] (by kernel_rfl) rfl rfl rfl rfl rfl hg57 (y_bare (y_move (v := .slice (some ⟨g, 0, none⟩) _ _) rfl)) rfl rfl (weak_refl) (listed' := #[true, true, true, true, true, true, false, false, false, false, false, false, false, false, false, false, false, false, false, false, false, false, false, false, false, false, false, false, false]) rfl ?_
              refine ge_take_on 6 (TK := [rowl _ _ _ _ _ _, rowl _ _ _ _ _ _]) rfl (by kernel_rfl) (by kernel_rfl) (by kernel_rfl) #[true, true, true, true, true, true, false, false, false, false, false, false, false, false, false, false, false, false, false, false, false, false, false, false, false, false, false, false, false] (by kernel_rfl) rfl rfl rfl rfl rfl hg57 (y_bare (y_move (v := .int _ _) rfl)) rfl rfl (weak_refl) (listed' := #[true, true, true, true, true, true, true, false, false, false, false, false, false, false, false, false, false, false, false, false, false, false, false, false, false, false, false, false, false]) rfl ?_
              refine ge_take_on 7 (TK := [rowl _ _ _ _ _ _, rowl _ _ _ _ _ _]) rfl (by kernel_rfl) (by kernel_rfl) (by kernel_rfl) #[true, true, true, true, true, true, true, false, false, false, false, false, false, false, false, false, false, false, false, false, false, false, false, false, false, false, false, false, false] (by kernel_rfl) rfl rfl rfl rfl rfl hg57 (y_bare (y_sub rfl rfl ⟨by omega, by omega⟩)) rfl rfl (weak_refl) (listed' := #[true, true, true, true, true, true, true, true, false, false, false, false, false, false, false, false, false, false, false, false, false, false, false, false, false, false, false, false, false]) rfl ?_
              refine ge_take_on 8 (TK := [rowl _ _ _ _ _ _, rowl _ _ _ _ _ _]) rfl (by kernel_rfl) (by kernel_rfl) (by kernel_rfl) #[true, true, true, true, true, true, true, true, false, false, false, false, false, false, false, false, false, false, false, false, false, false, false, false, false, false, false, false, false] (by kernel_rfl) rfl rfl rfl rfl rfl hg57 (y_bare (y_indexAddr (m := k - 1) Tryd.underlying82 Tryd.sizeOf4 rfl rfl (by omega) (by omega) (by omega))) rfl rfl (weak_refl) (listed' := #[true, true, true, true, true, true, true, true, true, false, false, false, false, false, false, false, false, false, false, false, false, false, false, false, false, false, false, false, false]) rfl ?_
              refine ge_take_on 9 (TK := [rowl _ _ _ _ _ _, rowl _ _ _ _ _ _]) rfl (by kernel_rfl) (by kernel_rfl) (by kernel_rfl) #[true, true, true, true, true, true, true, true, true, false, false, false, false, false, false, false, false, false, false, false, false, false, false, false, false, false, false, false, false] (by kernel_rfl) rfl rfl rfl rfl rfl hg57 (y_bare (y_load Tryd.isAgg4 rfl (cells_rowl 0 (f := boolCells) (l := dpRow s.size (dp (starP p) (charP p s) i)) rfl (dpRow_len _ _).symm (fun _ => rfl) (dpRow_get (by omega)) 0 _ rfl))) rfl rfl (weak_refl) (listed' := #[true, true, true, true, true, true, true, true, true, true, false, false, false, false, false, false, false, false, false, false, false, false, false, false, false, false, false, false, false]) rfl ?_
              refine ge_take 10 (TK := [rowl _ _ _ _ _ _, rowl _ _ _ _ _ _]) rfl (by kernel_rfl) (by kernel_rfl) (by kernel_rfl) #[true, true, true, true, true, true, true, true, true, true, false, false, false, false, false, false, false, false, false, false, false, false, false, false, false, false, false, false, false] (by kernel_rfl) rfl (y_pick_t (v := .bool _) rfl hg57 rfl) rfl rfl rfl (weak_refl) (listed' := #[true, true, true, true, true, true, true, true, true, true, true, false, false, false, false, false, false, false, false, false, false, false, false, false, false, false, false, false, false]) rfl ?_
              refine ge_take 11 (TK := [rowl _ _ _ _ _ _, rowl _ _ _ _ _ _]) rfl (by kernel_rfl) (by kernel_rfl) (by kernel_rfl) #[true, true, true, true, true, true, true, true, true, true, true, false, false, false, false, false, false, false, false, false, false, false, false, false, false, false, false, false, false] (by kernel_rfl) rfl (y_move (v := .bool _) rfl) rfl rfl rfl (weak_refl) (listed' := #[true, true, true, true, true, true, true, true, true, true, true, true, false, false, false, false, false, false, false, false, false, false, false, false, false, false, false, false, false]) rfl ?_
              refine ge_dec 64 true rfl (fun hg64 => ?_) (fun hg64 => ?_)
              · 
                have hg64d := hg64
                refine ge_take_on 12 (TK := [rowl _ _ _ _ _ _, rowl _ _ _ _ _ _]) rfl (by kernel_rfl) (by kernel_rfl) (by kernel_rfl) #[true, true, true, true, true, true, true, true, true, true, true, true, false, true, false, false, false, false, false, false, false, false, false, false, false, false, false, false, false] (by kernel_rfl) rfl rfl rfl rfl rfl hg64 (y_bare (y_move (v := .string _) rfl)) rfl rfl (weak_refl) (listed' := #[true, true, true, true, true, true, true, true, true, true, true, true, true, false, false, false, false, false, false, false, false, false, false, false, false, false, false, false, false]) rfl ?_
                refine ge_take_on 13 (TK := [rowl _ _ _ _ _ _, rowl _ _ _ _ _ _]) rfl (by kernel_rfl) (by kernel_rfl) (by kernel_rfl) #[true, true, true, true, true, true, true, true, true, true, true, true, true, false, false, false, false, false, false, false, false, false, false, false, false, false, false, false, false] (by kernel_rfl) rfl rfl rfl rfl rfl hg64 (y_bare (y_move (v := .int _ _) rfl)) rfl rfl (weak_refl) (listed' := #[true, true, true, true, true, true, true, true, true, true, true, true, true, true, false, false, false, false, false, false, false, false, false, false, false, false, false, false, false]) rfl ?_
                refine ge_take_on 14 (TK := [rowl _ _ _ _ _ _, rowl _ _ _ _ _ _]) rfl (by kernel_rfl) (by kernel_rfl) (by kernel_rfl) #[true, true, true, true, true, true, true, true, true, true, true, true, true, true, false, false, false, false, false, false, false, false, false, false, false, false, false, false, false] (by kernel_rfl) rfl rfl rfl rfl rfl hg64 (y_bare (y_stridx (m := i) Tryd.underlying9 rfl rfl (by omega) (by omega) (by omega))) rfl rfl (weak_refl) (listed' := #[true, true, true, true, true, true, true, true, true, true, true, true, true, true, true, false, false, false, false, false, false, false, false, false, false, false, false, false, false]) rfl ?_
                refine ge_take_on 15 (TK := [rowl _ _ _ _ _ _, rowl _ _ _ _ _ _]) rfl (by kernel_rfl) (by kernel_rfl) (by kernel_rfl) #[true, true, true, true, true, true, true, true, true, true, true, true, true, true, true, false, false, false, false, false, false, false, false, false, false, false, false, false, false] (by kernel_rfl) rfl rfl rfl rfl rfl hg64 (y_bare (y_eql rfl rfl)) rfl rfl (weak_refl) (listed' := #[true, true, true, true, true, true, true, true, true, true, true, true, true, true, true, true, false, false, false, false, false, false, false, false, false, false, false, false, false]) rfl ?_
                refine ge_take_on 16 (TK := [rowl _ _ _ _ _ _, rowl _ _ _ _ _ _]) rfl (by kernel_rfl) (by kernel_rfl) (by kernel_rfl) #[true, true, true, true, true, true, true, true, true, true, true, true, true, true, true, true, false, false, false, false, false, false, false, false, false, false, false, false, false] (by kernel_rfl) rfl rfl rfl rfl rfl hg64 (y_bare (y_move (v := .bool _) rfl)) rfl rfl (weak_refl) (listed' := #[true, true, true, true, true, true, true, true, true, true, true, true, true, true, true, true, true, false, false, false, false, false, false, false, false, false, false, false, false]) rfl ?_
                refine ge_dec 69 false rfl (fun hg69 => ?_) (fun hg69 => ?_)
                · 
                  have hg69d := of_decide_eq_false hg69
                  refine ge_take_on 17 (TK := [rowl _ _ _ _ _ _, rowl _ _ _ _ _ _]) rfl (by kernel_rfl) (by kernel_rfl) (by kernel_rfl) #[true, true, true, true, true, true, true, true, true, true, true, true, true, true, true, true, true, false, true, false, true, true, true, true, false, false, false, false, false] (by kernel_rfl) rfl rfl rfl rfl rfl hg69 (y_bare (y_move (v := .string _) rfl)) rfl rfl (weak_refl) (listed' := #[true, true, true, true, true, true, true, true, true, true, true, true, true, true, true, true, true, true, false, false, false, false, false, false, false, false, false, false, false]) rfl ?_
                  refine ge_take_on 18 (TK := [rowl _ _ _ _ _ _, rowl _ _ _ _ _ _]) rfl (by kernel_rfl) (by kernel_rfl) (by kernel_rfl) #[true, true, true, true, true, true, true, true, true, true, true, true, true, true, true, true, true, true, false, false, true, true, true, true, false, false, false, false, false] (by kernel_rfl) rfl rfl rfl rfl rfl hg69 (y_bare (y_move (v := .int _ _) rfl)) rfl rfl (weak_refl) (listed' := #[true, true, true, true, true, true, true, true, true, true, true, true, true, true, true, true, true, true, true, false, false, false, false, false, false, false, false, false, false]) rfl ?_
                  refine ge_take_on 19 (TK := [rowl _ _ _ _ _ _, rowl _ _ _ _ _ _]) rfl (by kernel_rfl) (by kernel_rfl) (by kernel_rfl) #[true, true, true, true, true, true, true, true, true, true, true, true, true, true, true, true, true, true, true, false, true, true, true, true, false, false, false, false, false] (by kernel_rfl) rfl rfl rfl rfl rfl hg69 (y_bare (y_stridx (m := i) Tryd.underlying9 rfl rfl (by omega) (by omega) (by omega))) rfl rfl (weak_refl) (listed' := #[true, true, true, true, true, true, true, true, true, true, true, true, true, true, true, true, true, true, true, true, false, false, false, false, false, false, false, false, false]) rfl ?_
                  refine ge_take_on 20 (TK := [rowl _ _ _ _ _ _, rowl _ _ _ _ _ _]) rfl (by kernel_rfl) (by kernel_rfl) (by kernel_rfl) #[true, true, true, true, true, true, true, true, true, true, true, true, true, true, true, true, true, true, true, true, false, true, true, false, false, false, false, false, false] (by kernel_rfl) rfl rfl rfl rfl rfl hg69 (y_bare (y_move (v := .string _) rfl)) rfl rfl (weak_refl) (listed' := #[true, true, true, true, true, true, true, true, true, true, true, true, true, true, true, true, true, true, true, true, true, false, false, false, false, false, false, false, false]) rfl ?_
                  refine ge_take_on 21 (TK := [rowl _ _ _ _ _ _, rowl _ _ _ _ _ _]) rfl (by kernel_rfl) (by kernel_rfl) (by kernel_rfl) #[true, true, true, true, true, true, true, true, true, true, true, true, true, true, true, true, true, true, true, true, true, false, false, false, false, false, false, false, false] (by kernel_rfl) rfl rfl rfl rfl rfl hg69 (y_bare (y_move (v := .int _ _) rfl)) rfl rfl (weak_refl) (listed' := #[true, true, true, true, true, true, true, true, true, true, true, true, true, true, true, true, true, true, true, true, true, true, false, false, false, false, false, false, false]) rfl ?_
                  refine ge_take_on 22 (TK := [rowl _ _ _ _ _ _, rowl _ _ _ _ _ _]) rfl (by kernel_rfl) (by kernel_rfl) (by kernel_rfl) #[true, true, true, true, true, true, true, true, true, true, true, true, true, true, true, true, true, true, true, true, true, true, false, false, false, false, false, false, false] (by kernel_rfl) rfl rfl rfl rfl rfl hg69 (y_bare (y_sub rfl rfl ⟨by omega, by omega⟩)) rfl rfl (weak_refl) (listed' := #[true, true, true, true, true, true, true, true, true, true, true, true, true, true, true, true, true, true, true, true, true, true, true, false, false, false, false, false, false]) rfl ?_
                  refine ge_take_on 23 (TK := [rowl _ _ _ _ _ _, rowl _ _ _ _ _ _]) rfl (by kernel_rfl) (by kernel_rfl) (by kernel_rfl) #[true, true, true, true, true, true, true, true, true, true, true, true, true, true, true, true, true, true, true, true, true, true, true, false, false, false, false, false, false] (by kernel_rfl) rfl rfl rfl rfl rfl hg69 (y_bare (y_stridx (m := k - 1) Tryd.underlying9 rfl rfl (by omega) (by omega) (by omega))) rfl rfl (weak_refl) (listed' := #[true, true, true, true, true, true, true, true, true, true, true, true, true, true, true, true, true, true, true, true, true, true, true, true, false, false, false, false, false]) rfl ?_
                  refine ge_take_on 24 (TK := [rowl _ _ _ _ _ _, rowl _ _ _ _ _ _]) rfl (by kernel_rfl) (by kernel_rfl) (by kernel_rfl) #[true, true, true, true, true, true, true, true, true, true, true, true, true, true, true, true, true, true, true, true, true, true, true, true, false, false, false, false, false] (by kernel_rfl) rfl rfl rfl rfl rfl hg69 (y_bare (y_eql rfl rfl)) rfl rfl (weak_refl) (listed' := #[true, true, true, true, true, true, true, true, true, true, true, true, true, true, true, true, true, true, true, true, true, true, true, true, true, false, false, false, false]) rfl ?_
                  refine ge_take_on 25 (TK := [rowl _ _ _ _ _ _, rowl _ _ _ _ _ _]) rfl (by kernel_rfl) (by kernel_rfl) (by kernel_rfl) #[true, true, true, true, true, true, true, true, true, true, true, true, true, true, true, true, true, true, true, true, true, true, true, true, true, false, false, false, false] (by kernel_rfl) rfl rfl rfl rfl rfl hg64 (y_bare (y_pick_f (v := .bool _) rfl hg69 rfl)) rfl rfl (weak_refl) (listed' := #[true, true, true, true, true, true, true, true, true, true, true, true, true, true, true, true, true, true, true, true, true, true, true, true, true, true, false, false, false]) rfl ?_
                  refine ge_take 26 (TK := [rowl _ _ _ _ _ _, rowl _ _ _ _ _ _]) rfl (by kernel_rfl) (by kernel_rfl) (by kernel_rfl) #[true, true, true, true, true, true, true, true, true, true, true, true, true, true, true, true, true, true, true, true, true, true, true, true, true, true, false, false, false] (by kernel_rfl) rfl (y_pick_t (v := .bool _) rfl hg64 rfl) rfl rfl rfl (weak_refl) (listed' := #[true, true, true, true, true, true, true, true, true, true, true, true, true, true, true, true, true, true, true, true, true, true, true, true, true, true, true, false, false]) rfl ?_
                  refine ge_take 27 (TK := [rowl _ _ _ _ _ _, rowl _ _ _ _ _ _]) rfl (by kernel_rfl) (by kernel_rfl) (by kernel_rfl) #[true, true, true, true, true, true, true, true, true, true, true, true, true, true, true, true, true, true, true, true, true, true, true, true, true, true, true, false, false] (by kernel_rfl) rfl (y_indexAddr (m := k) Tryd.underlying82 Tryd.sizeOf4 rfl rfl (by omega) (by omega) (by omega)) rfl rfl rfl (weak_refl) (listed' := #[true, true, true, true, true, true, true, true, true, true, true, true, true, true, true, true, true, true, true, true, true, true, true, true, true, true, true, true, false]) rfl ?_
                  refine ge_one 28 (k' := 1) (listed' := #[true, true, true, true, true, true, true, true, true, true, true, true, true, true, true, true, true, true, true, true, true, true, true, true, true, true, true, true, true]) (by kernel_rfl) rfl rfl rfl ?_
                  refine gop_store_row 1 (f := boolCells) (l := dpPart s.size k (dp (starP p) (charP p s) (i + 1))) (k := k) (o := 0) (v := .bool _) (a := false) (a' := _) (fun _ => rfl) rfl rfl rfl Tryd.sizeOf4 rfl rfl rfl rfl (dpPart_len _ _ _).symm (dpPart_at (by omega)) (Nat.le_of_ble_eq_true rfl) rfl rfl ?_
                  refine gops_nil ?_
                  refine ge_fin (TK := []) rfl (weak_nil) ?_
                  refine ge_done (by kernel_rfl) ?_
                  refine hN14 _ _ ?_
                  refine gT [rowl _ _ _ _ _ _, rowl _ _ _ _ _ _] rfl ?_
                  refine gfrom [(0, .string _), (1, .string _), (5, .slice (some ⟨g, 0, none⟩) _ _), (6, .int _ _), (7, .slice (some _) _ _), (8, .int _ _)] ⟨rfl, rfl, rfl, rfl, rfl, rfl, trivial⟩ fun σ => ?_
                  refine greg ?_
                  refine gop (y_move (v := .int _ _) rfl) rfl rfl rfl ?_
                  refine gop (y_add rfl rfl ⟨by omega, by omega⟩) rfl rfl rfl ?_
                  refine gop (y_assign (v := .int _ _) rfl) rfl rfl rfl ?_
                  refine gops_nil ?_
                  rw [dpPart_put (f := (dp (starP p) (charP p s) (i + 1))) (by omega) ((dp_ct hst (by omega) hg64d).trans (by rw [charP, decide_eq_false (show ¬ byteAt p i = 63 by omega), Bool.false_or]; exact decide_eq_decide.2 (by omega)))]
                  refine gnext2 (k + 1) (by omega) (show k + 1 ≤ _ by omega) ⟨rfl, trivial⟩ ⟨rfl, rfl, rfl, rfl, rfl, trivial⟩ ⟨_, rfl⟩
                · 
                  have hg69d := of_decide_eq_true hg69
                  refine ge_take_off 17 (TK := [rowl _ _ _ _ _ _, rowl _ _ _ _ _ _]) rfl (by kernel_rfl) (by kernel_rfl) (by kernel_rfl) #[true, true, true, true, true, true, true, true, true, true, true, true, true, true, true, true, true, false, true, false, true, true, true, true, false, false, false, false, false] (by kernel_rfl) rfl rfl rfl rfl rfl (off_of hg69) rfl rfl (weak_refl) (listed' := #[true, true, true, true, true, true, true, true, true, true, true, true, true, true, true, true, true, true, false, false, false, false, false, false, false, false, false, false, false]) rfl ?_
                  refine ge_take_off 18 (TK := [rowl _ _ _ _ _ _, rowl _ _ _ _ _ _]) rfl (by kernel_rfl) (by kernel_rfl) (by kernel_rfl) #[true, true, true, true, true, true, true, true, true, true, true, true, true, true, true, true, true, true, false, false, true, true, true, true, false, false, false, false, false] (by kernel_rfl) rfl rfl rfl rfl rfl (off_of hg69) rfl rfl (weak_refl) (listed' := #[true, true, true, true, true, true, true, true, true, true, true, true, true, true, true, true, true, true, true, false, false, false, false, false, false, false, false, false, false]) rfl ?_
                  refine ge_take_off 19 (TK := [rowl _ _ _ _ _ _, rowl _ _ _ _ _ _]) rfl (by kernel_rfl) (by kernel_rfl) (by kernel_rfl) #[true, true, true, true, true, true, true, true, true, true, true, true, true, true, true, true, true, true, true, false, true, true, true, true, false, false, false, false, false] (by kernel_rfl) rfl rfl rfl rfl rfl (off_of hg69) rfl rfl (weak_refl) (listed' := #[true, true, true, true, true, true, true, true, true, true, true, true, true, true, true, true, true, true, true, true, false, false, false, false, false, false, false, false, false]) rfl ?_
                  refine ge_take_off 20 (TK := [rowl _ _ _ _ _ _, rowl _ _ _ _ _ _]) rfl (by kernel_rfl) (by kernel_rfl) (by kernel_rfl) #[true, true, true, true, true, true, true, true, true, true, true, true, true, true, true, true, true, true, true, true, false, true, true, false, false, false, false, false, false] (by kernel_rfl) rfl rfl rfl rfl rfl (off_of hg69) rfl rfl (weak_refl) (listed' := #[true, true, true, true, true, true, true, true, true, true, true, true, true, true, true, true, true, true, true, true, true, false, false, false, false, false, false, false, false]) rfl ?_
                  refine ge_take_off 21 (TK := [rowl _ _ _ _ _ _, rowl _ _ _ _ _ _]) rfl (by kernel_rfl) (by kernel_rfl) (by kernel_rfl) #[true, true, true, true, true, true, true, true, true, true, true, true, true, true, true, true, true, true, true, true, true, false, false, false, false, false, false, false, false] (by kernel_rfl) rfl rfl rfl rfl rfl (off_of hg69) rfl rfl (weak_refl) (listed' := #[true, true, true, true, true, true, true, true, true, true, true, true, true, true, true, true, true, true, true, true, true, true, false, false, false, false, false, false, false]) rfl ?_
                  refine ge_take_off 22 (TK := [rowl _ _ _ _ _ _, rowl _ _ _ _ _ _]) rfl (by kernel_rfl) (by kernel_rfl) (by kernel_rfl) #[true, true, true, true, true, true, true, true, true, true, true, true, true, true, true, true, true, true, true, true, true, true, false, false, false, false, false, false, false] (by kernel_rfl) rfl rfl rfl rfl rfl (off_of hg69) rfl rfl (weak_refl) (listed' := #[true, true, true, true, true, true, true, true, true, true, true, true, true, true, true, true, true, true, true, true, true, true, true, false, false, false, false, false, false]) rfl ?_
                  refine ge_take_off 23 (TK := [rowl _ _ _ _ _ _, rowl _ _ _ _ _ _]) rfl (by kernel_rfl) (by kernel_rfl) (by kernel_rfl) #[true, true, true, true, true, true, true, true, true, true, true, true, true, true, true, true, true, true, true, true, true, true, true, false, false, false, false, false, false] (by kernel_rfl) rfl rfl rfl rfl rfl (off_of hg69) rfl rfl (weak_refl) (listed' := #[true, true, true, true, true, true, true, true, true, true, true, true, true, true, true, true, true, true, true, true, true, true, true, true, false, false, false, false, false]) rfl ?_
                  refine ge_take_off 24 (TK := [rowl _ _ _ _ _ _, rowl _ _ _ _ _ _]) rfl (by kernel_rfl) (by kernel_rfl) (by kernel_rfl) #[true, true, true, true, true, true, true, true, true, true, true, true, true, true, true, true, true, true, true, true, true, true, true, true, false, false, false, false, false] (by kernel_rfl) rfl rfl rfl rfl rfl (off_of hg69) rfl rfl (weak_refl) (listed' := #[true, true, true, true, true, true, true, true, true, true, true, true, true, true, true, true, true, true, true, true, true, true, true, true, true, false, false, false, false]) rfl ?_
                  refine ge_take_on 25 (TK := [rowl _ _ _ _ _ _, rowl _ _ _ _ _ _]) rfl (by kernel_rfl) (by kernel_rfl) (by kernel_rfl) #[true, true, true, true, true, true, true, true, true, true, true, true, true, true, true, true, true, true, true, true, true, true, true, true, true, false, false, false, false] (by kernel_rfl) rfl rfl rfl rfl rfl hg64 (y_bare (y_pick_t (v := .bool _) rfl hg69 rfl)) rfl rfl (weak_refl) (listed' := #[true, true, true, true, true, true, true, true, true, true, true, true, true, true, true, true, true, true, true, true, true, true, true, true, true, true, false, false, false]) rfl ?_
                  refine ge_take 26 (TK := [rowl _ _ _ _ _ _, rowl _ _ _ _ _ _]) rfl (by kernel_rfl) (by kernel_rfl) (by kernel_rfl) #[true, true, true, true, true, true, true, true, true, true, true, true, true, true, true, true, true, true, true, true, true, true, true, true, true, true, false, false, false] (by kernel_rfl) rfl (y_pick_t (v := .bool _) rfl hg64 rfl) rfl rfl rfl (weak_refl) (listed' := #[true, true, true, true, true, true, true, true, true, true, true, true, true, true, true, true, true, true, true, true, true, true, true, true, true, true, true, false, false]) rfl ?_
                  refine ge_take 27 (TK := [rowl _ _ _ _ _ _, rowl _ _ _ _ _ _]) rfl (by kernel_rfl) (by kernel_rfl) (by kernel_rfl) #[true, true, true, true, true, true, true, true, true, true, true, true, true, true, true, true, true, true, true, true, true, true, true, true, true, true, true, false, false] (by kernel_rfl) rfl (y_indexAddr (m := k) Tryd.underlying82 Tryd.sizeOf4 rfl rfl (by omega) (by omega) (by omega)) rfl rfl rfl (weak_refl) (listed' := #[true, true, true, true, true, true, true, true, true, true, true, true, true, true, true, true, true, true, true, true, true, true, true, true, true, true, true, true, false]) rfl ?_
                  refine ge_one 28 (k' := 1) (listed' := #[true, true, true, true, true, true, true, true, true, true, true, true, true, true, true, true, true, true, true, true, true, true, true, true, true, true, true, true, true]) (by kernel_rfl) rfl rfl rfl ?_
                  refine gop_store_row 1 (f := boolCells) (l := dpPart s.size k (dp (starP p) (charP p s) (i + 1))) (k := k) (o := 0) (v := .bool _) (a := false) (a' := _) (fun _ => rfl) rfl rfl rfl Tryd.sizeOf4 rfl rfl rfl rfl (dpPart_len _ _ _).symm (dpPart_at (by omega)) (Nat.le_of_ble_eq_true rfl) rfl rfl ?_
                  refine gops_nil ?_
                  refine ge_fin (TK := []) rfl (weak_nil) ?_
                  refine ge_done (by kernel_rfl) ?_
                  refine hN14 _ _ ?_
                  refine gT [rowl _ _ _ _ _ _, rowl _ _ _ _ _ _] rfl ?_
                  refine gfrom [(0, .string _), (1, .string _), (5, .slice (some ⟨g, 0, none⟩) _ _), (6, .int _ _), (7, .slice (some _) _ _), (8, .int _ _)] ⟨rfl, rfl, rfl, rfl, rfl, rfl, trivial⟩ fun σ => ?_
                  refine greg ?_
                  refine gop (y_move (v := .int _ _) rfl) rfl rfl rfl ?_
                  refine gop (y_add rfl rfl ⟨by omega, by omega⟩) rfl rfl rfl ?_
                  refine gop (y_assign (v := .int _ _) rfl) rfl rfl rfl ?_
                  refine gops_nil ?_
                  rw [dpPart_put (f := (dp (starP p) (charP p s) (i + 1))) (by omega) ((dp_ct hst (by omega) hg64d).trans (by rw [charP, decide_eq_true (show byteAt p i = 63 by omega), Bool.true_or]))]
                  refine gnext2 (k + 1) (by omega) (show k + 1 ≤ _ by omega) ⟨rfl, trivial⟩ ⟨rfl, rfl, rfl, rfl, rfl, trivial⟩ ⟨_, rfl⟩
              · 
                have hg64d := hg64
                refine ge_take_off 12 (TK := [rowl _ _ _ _ _ _, rowl _ _ _ _ _ _]) rfl (by kernel_rfl) (by kernel_rfl) (by kernel_rfl) #[true, true, true, true, true, true, true, true, true, true, true, true, false, true, false, false, false, false, false, false, false, false, false, false, false, false, false, false, false] (by kernel_rfl) rfl rfl rfl rfl rfl (off_of hg64) rfl rfl (weak_refl) (listed' := #[true, true, true, true, true, true, true, true, true, true, true, true, true, false, false, false, false, false, false, false, false, false, false, false, false, false, false, false, false]) rfl ?_
                refine ge_take_off 13 (TK := [rowl _ _ _ _ _ _, rowl _ _ _ _ _ _]) rfl (by kernel_rfl) (by kernel_rfl) (by kernel_rfl) #[true, true, true, true, true, true, true, true, true, true, true, true, true, false, false, false, false, false, false, false, false, false, false, false, false, false, false, false, false] (by kernel_rfl) rfl rfl rfl rfl rfl (off_of hg64) rfl rfl (weak_refl) (listed' := #[true, true, true, true, true, true, true, true, true, true, true, true, true, true, false, false, false, false, false, false, false, false, false, false, false, false, false, false, false]) rfl ?_
                refine ge_take_off 14 (TK := [rowl _ _ _ _ _ _, rowl _ _ _ _ _ _]) rfl (by kernel_rfl) (by kernel_rfl) (by kernel_rfl) #[true, true, true, true, true, true, true, true, true, true, true, true, true, true, false, false, false, false, false, false, false, false, false, false, false, false, false, false, false] (by kernel_rfl) rfl rfl rfl rfl rfl (off_of hg64) rfl rfl (weak_refl) (listed' := #[true, true, true, true, true, true, true, true, true, true, true, true, true, true, true, false, false, false, false, false, false, false, false, false, false, false, false, false, false]) rfl ?_
                refine ge_take_off 15 (TK := [rowl _ _ _ _ _ _, rowl _ _ _ _ _ _]) rfl (by kernel_rfl) (by kernel_rfl) (by kernel_rfl) #[true, true, true, true, true, true, true, true, true, true, true, true, true, true, true, false, false, false, false, false, false, false, false, false, false, false, false, false, false] (by kernel_rfl) rfl rfl rfl rfl rfl (off_of hg64) rfl rfl (weak_refl) (listed' := #[true, true, true, true, true, true, true, true, true, true, true, true, true, true, true, true, false, false, false, false, false, false, false, false, false, false, false, false, false]) rfl ?_
                refine ge_take_off 16 (TK := [rowl _ _ _ _ _ _, rowl _ _ _ _ _ _]) rfl (by kernel_rfl) (by kernel_rfl) (by kernel_rfl) #[true, true, true, true, true, true, true, true, true, true, true, true, true, true, true, true, false, false, false, false, false, false, false, false, false, false, false, false, false] (by kernel_rfl) rfl rfl rfl rfl rfl (off_of hg64) rfl rfl (weak_refl) (listed' := #[true, true, true, true, true, true, true, true, true, true, true, true, true, true, true, true, true, false, false, false, false, false, false, false, false, false, false, false, false]) rfl ?_
                refine ge_take_off 17 (TK := [rowl _ _ _ _ _ _, rowl _ _ _ _ _ _]) rfl (by kernel_rfl) (by kernel_rfl) (by kernel_rfl) #[true, true, true, true, true, true, true, true, true, true, true, true, true, true, true, true, true, false, true, false, true, true, true, true, false, false, false, false, false] (by kernel_rfl) rfl rfl rfl rfl rfl off_undef rfl rfl (weak_refl) (listed' := #[true, true, true, true, true, true, true, true, true, true, true, true, true, true, true, true, true, true, false, false, false, false, false, false, false, false, false, false, false]) rfl ?_
                refine ge_take_off 18 (TK := [rowl _ _ _ _ _ _, rowl _ _ _ _ _ _]) rfl (by kernel_rfl) (by kernel_rfl) (by kernel_rfl) #[true, true, true, true, true, true, true, true, true, true, true, true, true, true, true, true, true, true, false, false, true, true, true, true, false, false, false, false, false] (by kernel_rfl) rfl rfl rfl rfl rfl off_undef rfl rfl (weak_refl) (listed' := #[true, true, true, true, true, true, true, true, true, true, true, true, true, true, true, true, true, true, true, false, false, false, false, false, false, false, false, false, false]) rfl ?_
                refine ge_take_off 19 (TK := [rowl _ _ _ _ _ _, rowl _ _ _ _ _ _]) rfl (by kernel_rfl) (by kernel_rfl) (by kernel_rfl) #[true, true, true, true, true, true, true, true, true, true, true, true, true, true, true, true, true, true, true, false, true, true, true, true, false, false, false, false, false] (by kernel_rfl) rfl rfl rfl rfl rfl off_undef rfl rfl (weak_refl) (listed' := #[true, true, true, true, true, true, true, true, true, true, true, true, true, true, true, true, true, true, true, true, false, false, false, false, false, false, false, false, false]) rfl ?_
                refine ge_take_off 20 (TK := [rowl _ _ _ _ _ _, rowl _ _ _ _ _ _]) rfl (by kernel_rfl) (by kernel_rfl) (by kernel_rfl) #[true, true, true, true, true, true, true, true, true, true, true, true, true, true, true, true, true, true, true, true, false, true, true, false, false, false, false, false, false] (by kernel_rfl) rfl rfl rfl rfl rfl off_undef rfl rfl (weak_refl) (listed' := #[true, true, true, true, true, true, true, true, true, true, true, true, true, true, true, true, true, true, true, true, true, false, false, false, false, false, false, false, false]) rfl ?_
                refine ge_take_off 21 (TK := [rowl _ _ _ _ _ _, rowl _ _ _ _ _ _]) rfl (by kernel_rfl) (by kernel_rfl) (by kernel_rfl) #[true, true, true, true, true, true, true, true, true, true, true, true, true, true, true, true, true, true, true, true, true, false, false, false, false, false, false, false, false] (by kernel_rfl) rfl rfl rfl rfl rfl off_undef rfl rfl (weak_refl) (listed' := #[true, true, true, true, true, true, true, true, true, true, true, true, true, true, true, true, true, true, true, true, true, true, false, false, false, false, false, false, false]) rfl ?_
                refine ge_take_off 22 (TK := [rowl _ _ _ _ _ _, rowl _ _ _ _ _ _]) rfl (by kernel_rfl) (by kernel_rfl) (by kernel_rfl) #[true, true, true, true, true, true, true, true, true, true, true, true, true, true, true, true, true, true, true, true, true, true, false, false, false, false, false, false, false] (by kernel_rfl) rfl rfl rfl rfl rfl off_undef rfl rfl (weak_refl) (listed' := #[true, true, true, true, true, true, true, true, true, true, true, true, true, true, true, true, true, true, true, true, true, true, true, false, false, false, false, false, false]) rfl ?_
                refine ge_take_off 23 (TK := [rowl _ _ _ _ _ _, rowl _ _ _ _ _ _]) rfl (by kernel_rfl) (by kernel_rfl) (by kernel_rfl) #[true, true, true, true, true, true, true, true, true, true, true, true, true, true, true, true, true, true, true, true, true, true, true, false, false, false, false, false, false] (by kernel_rfl) rfl rfl rfl rfl rfl off_undef rfl rfl (weak_refl) (listed' := #[true, true, true, true, true, true, true, true, true, true, true, true, true, true, true, true, true, true, true, true, true, true, true, true, false, false, false, false, false]) rfl ?_
                refine ge_take_off 24 (TK := [rowl _ _ _ _ _ _, rowl _ _ _ _ _ _]) rfl (by kernel_rfl) (by kernel_rfl) (by kernel_rfl) #[true, true, true, true, true, true, true, true, true, true, true, true, true, true, true, true, true, true, true, true, true, true, true, true, false, false, false, false, false] (by kernel_rfl) rfl rfl rfl rfl rfl off_undef rfl rfl (weak_refl) (listed' := #[true, true, true, true, true, true, true, true, true, true, true, true, true, true, true, true, true, true, true, true, true, true, true, true, true, false, false, false, false]) rfl ?_
                refine ge_take_off 25 (TK := [rowl _ _ _ _ _ _, rowl _ _ _ _ _ _]) rfl (by kernel_rfl) (by kernel_rfl) (by kernel_rfl) #[true, true, true, true, true, true, true, true, true, true, true, true, true, true, true, true, true, true, true, true, true, true, true, true, true, false, false, false, false] (by kernel_rfl) rfl rfl rfl rfl rfl (off_of hg64) rfl rfl (weak_refl) (listed' := #[true, true, true, true, true, true, true, true, true, true, true, true, true, true, true, true, true, true, true, true, true, true, true, true, true, true, false, false, false]) rfl ?_
                refine ge_take 26 (TK := [rowl _ _ _ _ _ _, rowl _ _ _ _ _ _]) rfl (by kernel_rfl) (by kernel_rfl) (by kernel_rfl) #[true, true, true, true, true, true, true, true, true, true, true, true, true, true, true, true, true, true, true, true, true, true, true, true, true, true, false, false, false] (by kernel_rfl) rfl (y_pick_f (v := .bool _) rfl hg64 rfl) rfl rfl rfl (weak_refl) (listed' := #[true, true, true, true, true, true, true, true, true, true, true, true, true, true, true, true, true, true, true, true, true, true, true, true, true, true, true, false, false]) rfl ?_
                refine ge_take 27 (TK := [rowl _ _ _ _ _ _, rowl _ _ _ _ _ _]) rfl (by kernel_rfl) (by kernel_rfl) (by kernel_rfl) #[true, true, true, true, true, true, true, true, true, true, true, true, true, true, true, true, true, true, true, true, true, true, true, true, true, true, true, false, false] (by kernel_rfl) rfl (y_indexAddr (m := k) Tryd.underlying82 Tryd.sizeOf4 rfl rfl (by omega) (by omega) (by omega)) rfl rfl rfl (weak_refl) (listed' := #[true, true, true, true, true, true, true, true, true, true, true, true, true, true, true, true, true, true, true, true, true, true, true, true, true, true, true, true, false]) rfl ?_
                refine ge_one 28 (k' := 1) (listed' := #[true, true, true, true, true, true, true, true, true, true, true, true, true, true, true, true, true, true, true, true, true, true, true, true, true, true, true, true, true]) (by kernel_rfl) rfl rfl rfl ?_
                refine gop_store_row 1 (f := boolCells) (l := dpPart s.size k (dp (starP p) (charP p s) (i + 1))) (k := k) (o := 0) (v := .bool _) (a := false) (a' := _) (fun _ => rfl) rfl rfl rfl Tryd.sizeOf4 rfl rfl rfl rfl (dpPart_len _ _ _).symm (dpPart_at (by omega)) (Nat.le_of_ble_eq_true rfl) rfl rfl ?_
                refine gops_nil ?_
                refine ge_fin (TK := []) rfl (weak_nil) ?_
                refine ge_done (by kernel_rfl) ?_
                refine hN14 _ _ ?_
                refine gT [rowl _ _ _ _ _ _, rowl _ _ _ _ _ _] rfl ?_
                refine gfrom [(0, .string _), (1, .string _), (5, .slice (some ⟨g, 0, none⟩) _ _), (6, .int _ _), (7, .slice (some _) _ _), (8, .int _ _)] ⟨rfl, rfl, rfl, rfl, rfl, rfl, trivial⟩ fun σ => ?_
                refine greg ?_
                refine gop (y_move (v := .int _ _) rfl) rfl rfl rfl ?_
                refine gop (y_add rfl rfl ⟨by omega, by omega⟩) rfl rfl rfl ?_
                refine gop (y_assign (v := .int _ _) rfl) rfl rfl rfl ?_
                refine gops_nil ?_
                rw [dpPart_put (f := (dp (starP p) (charP p s) (i + 1))) (by omega) (dp_cf hst (by omega) hg64d)]
                refine gnext2 (k + 1) (by omega) (show k + 1 ≤ _ by omega) ⟨rfl, trivial⟩ ⟨rfl, rfl, rfl, rfl, rfl, trivial⟩ ⟨_, rfl⟩
            · 
              have hg57d := of_decide_eq_false hg57
              refine ge_take_off 5 (TK := [rowl _ _ _ _ _ _, rowl _ _ _ _ _ _]) rfl (by kernel_rfl) (by kernel_rfl) (by kernel_rfl) #[true, true, true, true, true, false, true, true, false, false, false, false, false, false, false, false, false, false, false, false, false, false, false, false, false, false, false, false, false] (by kernel_rfl) rfl rfl rfl rfl rfl (off_of hg57) rfl rfl (weak_refl) (listed' := #[true, true, true, true, true, true, false, false, false, false, false, false, false, false, false, false, false, false, false, false, false, false, false, false, false, false, false, false, false]) rfl ?_
              refine ge_take_off 6 (TK := [rowl _ _ _ _ _ _, rowl _ _ _ _ _ _]) rfl (by kernel_rfl) (by kernel_rfl) (by kernel_rfl) #[true, true, true, true, true, true, false, false, false, false, false, false, false, false, false, false, false, false, false, false, false, false, false, false, false, false, false, false, false] (by kernel_rfl) rfl rfl rfl rfl rfl (off_of hg57) rfl rfl (weak_refl) (listed' := #[true, true, true, true, true, true, true, false, false, false, false, false, false, false, false, false, false, false, false, false, false, false, false, false, false, false, false, false, false]) rfl ?_
              refine ge_take_off 7 (TK := [rowl _ _ _ _ _ _, rowl _ _ _ _ _ _]) rfl (by kernel_rfl) (by kernel_rfl) (by kernel_rfl) #[true, true, true, true, true, true, true, false, false, false, false, false, false, false, false, false, false, false, false, false, false, false, false, false, false, false, false, false, false] (by kernel_rfl) rfl rfl rfl rfl rfl (off_of hg57) rfl rfl (weak_refl) (listed' := #[true, true, true, true, true, true, true, true, false, false, false, false, false, false, false, false, false, false, false, false, false, false, false, false, false, false, false, false, false]) rfl ?_
              refine ge_take_off 8 (TK := [rowl _ _ _ _ _ _, rowl _ _ _ _ _ _]) rfl (by kernel_rfl) (by kernel_rfl) (by kernel_rfl) #[true, true, true, true, true, true, true, true, false, false, false, false, false, false, false, false, false, false, false, false, false, false, false, false, false, false, false, false, false] (by kernel_rfl) rfl rfl rfl rfl rfl (off_of hg57) rfl rfl (weak_refl) (listed' := #[true, true, true, true, true, true, true, true, true, false, false, false, false, false, false, false, false, false, false, false, false, false, false, false, false, false, false, false, false]) rfl ?_
              refine ge_take_off 9 (TK := [rowl _ _ _ _ _ _, rowl _ _ _ _ _ _]) rfl (by kernel_rfl) (by kernel_rfl) (by kernel_rfl) #[true, true, true, true, true, true, true, true, true, false, false, false, false, false, false, false, false, false, false, false, false, false, false, false, false, false, false, false, false] (by kernel_rfl) rfl rfl rfl rfl rfl (off_of hg57) rfl rfl (weak_refl) (listed' := #[true, true, true, true, true, true, true, true, true, true, false, false, false, false, false, false, false, false, false, false, false, false, false, false, false, false, false, false, false]) rfl ?_
              refine ge_take 10 (TK := [rowl _ _ _ _ _ _, rowl _ _ _ _ _ _]) rfl (by kernel_rfl) (by kernel_rfl) (by kernel_rfl) #[true, true, true, true, true, true, true, true, true, true, false, false, false, false, false, false, false, false, false, false, false, false, false, false, false, false, false, false, false] (by kernel_rfl) rfl (y_pick_f (v := .bool _) rfl hg57 rfl) rfl rfl rfl (weak_refl) (listed' := #[true, true, true, true, true, true, true, true, true, true, true, false, false, false, false, false, false, false, false, false, false, false, false, false, false, false, false, false, false]) rfl ?_
              refine ge_take 11 (TK := [rowl _ _ _ _ _ _, rowl _ _ _ _ _ _]) rfl (by kernel_rfl) (by kernel_rfl) (by kernel_rfl) #[true, true, true, true, true, true, true, true, true, true, true, false, false, false, false, false, false, false, false, false, false, false, false, false, false, false, false, false, false] (by kernel_rfl) rfl (y_move (v := .bool _) rfl) rfl rfl rfl (weak_refl) (listed' := #[true, true, true, true, true, true, true, true, true, true, true, true, false, false, false, false, false, false, false, false, false, false, false, false, false, false, false, false, false]) rfl ?_
              refine ge_take_off 12 (TK := [rowl _ _ _ _ _ _, rowl _ _ _ _ _ _]) rfl (by kernel_rfl) (by kernel_rfl) (by kernel_rfl) #[true, true, true, true, true, true, true, true, true, true, true, true, false, true, false, false, false, false, false, false, false, false, false, false, false, false, false, false, false] (by kernel_rfl) rfl rfl rfl rfl rfl (off_of rfl) rfl rfl (weak_refl) (listed' := #[true, true, true, true, true, true, true, true, true, true, true, true, true, false, false, false, false, false, false, false, false, false, false, false, false, false, false, false, false]) rfl ?_
              refine ge_take_off 13 (TK := [rowl _ _ _ _ _ _, rowl _ _ _ _ _ _]) rfl (by kernel_rfl) (by kernel_rfl) (by kernel_rfl) #[true, true, true, true, true, true, true, true, true, true, true, true, true, false, false, false, false, false, false, false, false, false, false, false, false, false, false, false, false] (by kernel_rfl) rfl rfl rfl rfl rfl (off_of rfl) rfl rfl (weak_refl) (listed' := #[true, true, true, true, true, true, true, true, true, true, true, true, true, true, false, false, false, false, false, false, false, false, false, false, false, false, false, false, false]) rfl ?_
              refine ge_take_off 14 (TK := [rowl _ _ _ _ _ _, rowl _ _ _ _ _ _]) rfl (by kernel_rfl) (by kernel_rfl) (by kernel_rfl) #[true, true, true, true, true, true, true, true, true, true, true, true, true, true, false, false, false, false, false, false, false, false, false, false, false, false, false, false, false] (by kernel_rfl) rfl rfl rfl rfl rfl (off_of rfl) rfl rfl (weak_refl) (listed' := #[true, true, true, true, true, true, true, true, true, true, true, true, true, true, true, false, false, false, false, false, false, false, false, false, false, false, false, false, false]) rfl ?_
              refine ge_take_off 15 (TK := [rowl _ _ _ _ _ _, rowl _ _ _ _ _ _]) rfl (by kernel_rfl) (by kernel_rfl) (by kernel_rfl) #[true, true, true, true, true, true, true, true, true, true, true, true, true, true, true, false, false, false, false, false, false, false, false, false, false, false, false, false, false] (by kernel_rfl) rfl rfl rfl rfl rfl (off_of rfl) rfl rfl (weak_refl) (listed' := #[true, true, true, true, true, true, true, true, true, true, true, true, true, true, true, true, false, false, false, false, false, false, false, false, false, false, false, false, false]) rfl ?_
              refine ge_take_off 16 (TK := [rowl _ _ _ _ _ _, rowl _ _ _ _ _ _]) rfl (by kernel_rfl) (by kernel_rfl) (by kernel_rfl) #[true, true, true, true, true, true, true, true, true, true, true, true, true, true, true, true, false, false, false, false, false, false, false, false, false, false, false, false, false] (by kernel_rfl) rfl rfl rfl rfl rfl (off_of rfl) rfl rfl (weak_refl) (listed' := #[true, true, true, true, true, true, true, true, true, true, true, true, true, true, true, true, true, false, false, false, false, false, false, false, false, false, false, false, false]) rfl ?_
              refine ge_take_off 17 (TK := [rowl _ _ _ _ _ _, rowl _ _ _ _ _ _]) rfl (by kernel_rfl) (by kernel_rfl) (by kernel_rfl) #[true, true, true, true, true, true, true, true, true, true, true, true, true, true, true, true, true, false, true, false, true, true, true, true, false, false, false, false, false] (by kernel_rfl) rfl rfl rfl rfl rfl off_undef rfl rfl (weak_refl) (listed' := #[true, true, true, true, true, true, true, true, true, true, true, true, true, true, true, true, true, true, false, false, false, false, false, false, false, false, false, false, false]) rfl ?_
              refine ge_take_off 18 (TK := [rowl _ _ _ _ _ _, rowl _ _ _ _ _ _]) rfl (by kernel_rfl) (by kernel_rfl) (by kernel_rfl) #[true, true, true, true, true, true, true, true, true, true, true, true, true, true, true, true, true, true, false, false, true, true, true, true, false, false, false, false, false] (by kernel_rfl) rfl rfl rfl rfl rfl off_undef rfl rfl (weak_refl) (listed' := #[true, true, true, true, true, true, true, true, true, true, true, true, true, true, true, true, true, true, true, false, false, false, false, false, false, false, false, false, false]) rfl ?_
              refine ge_take_off 19 (TK := [rowl _ _ _ _ _ _, rowl _ _ _ _ _ _]) rfl (by kernel_rfl) (by kernel_rfl) (by kernel_rfl) #[true, true, true, true, true, true, true, true, true, true, true, true, true, true, true, true, true, true, true, false, true, true, true, true, false, false, false, false, false] (by kernel_rfl) rfl rfl rfl rfl rfl off_undef rfl rfl (weak_refl) (listed' := #[true, true, true, true, true, true, true, true, true, true, true, true, true, true, true, true, true, true, true, true, false, false, false, false, false, false, false, false, false]) rfl ?_
              refine ge_take_off 20 (TK := [rowl _ _ _ _ _ _, rowl _ _ _ _ _ _]) rfl (by kernel_rfl) (by kernel_rfl) (by kernel_rfl) #[true, true, true, true, true, true, true, true, true, true, true, true, true, true, true, true, true, true, true, true, false, true, true, false, false, false, false, false, false] (by kernel_rfl) rfl rfl rfl rfl rfl off_undef rfl rfl (weak_refl) (listed' := #[true, true, true, true, true, true, true, true, true, true, true, true, true, true, true, true, true, true, true, true, true, false, false, false, false, false, false, false, false]) rfl ?_
              refine ge_take_off 21 (TK := [rowl _ _ _ _ _ _, rowl _ _ _ _ _ _]) rfl (by kernel_rfl) (by kernel_rfl) (by kernel_rfl) #[true, true, true, true, true, true, true, true, true, true, true, true, true, true, true, true, true, true, true, true, true, false, false, false, false, false, false, false, false] (by kernel_rfl) rfl rfl rfl rfl rfl off_undef rfl rfl (weak_refl) (listed' := #[true, true, true, true, true, true, true, true, true, true, true, true, true, true, true, true, true, true, true, true, true, true, false, false, false, false, false, false, false]) rfl ?_
              refine ge_take_off 22 (TK := [rowl _ _ _ _ _ _, rowl _ _ _ _ _ _]) rfl (by kernel_rfl) (by kernel_rfl) (by kernel_rfl) #[true, true, true, true, true, true, true, true, true, true, true, true, true, true, true, true, true, true, true, true, true, true, false, false, false, false, false, false, false] (by kernel_rfl) rfl rfl rfl rfl rfl off_undef rfl rfl (weak_refl) (listed' := #[true, true, true, true, true, true, true, true, true, true, true, true, true, true, true, true, true, true, true, true, true, true, true, false, false, false, false, false, false]) rfl ?_
              refine ge_take_off 23 (TK := [rowl _ _ _ _ _ _, rowl _ _ _ _ _ _]) rfl (by kernel_rfl) (by kernel_rfl) (by kernel_rfl) #[true, true, true, true, true, true, true, true, true, true, true, true, true, true, true, true, true, true, true, true, true, true, true, false, false, false, false, false, false] (by kernel_rfl) rfl rfl rfl rfl rfl off_undef rfl rfl (weak_refl) (listed' := #[true, true, true, true, true, true, true, true, true, true, true, true, true, true, true, true, true, true, true, true, true, true, true, true, false, false, false, false, false]) rfl ?_
              refine ge_take_off 24 (TK := [rowl _ _ _ _ _ _, rowl _ _ _ _ _ _]) rfl (by kernel_rfl) (by kernel_rfl) (by kernel_rfl) #[true, true, true, true, true, true, true, true, true, true, true, true, true, true, true, true, true, true, true, true, true, true, true, true, false, false, false, false, false] (by kernel_rfl) rfl rfl rfl rfl rfl off_undef rfl rfl (weak_refl) (listed' := #[true, true, true, true, true, true, true, true, true, true, true, true, true, true, true, true, true, true, true, true, true, true, true, true, true, false, false, false, false]) rfl ?_
              refine ge_take_off 25 (TK := [rowl _ _ _ _ _ _, rowl _ _ _ _ _ _]) rfl (by kernel_rfl) (by kernel_rfl) (by kernel_rfl) #[true, true, true, true, true, true, true, true, true, true, true, true, true, true, true, true, true, true, true, true, true, true, true, true, true, false, false, false, false] (by kernel_rfl) rfl rfl rfl rfl rfl (off_of rfl) rfl rfl (weak_refl) (listed' := #[true, true, true, true, true, true, true, true, true, true, true, true, true, true, true, true, true, true, true, true, true, true, true, true, true, true, false, false, false]) rfl ?_
              refine ge_take 26 (TK := [rowl _ _ _ _ _ _, rowl _ _ _ _ _ _]) rfl (by kernel_rfl) (by kernel_rfl) (by kernel_rfl) #[true, true, true, true, true, true, true, true, true, true, true, true, true, true, true, true, true, true, true, true, true, true, true, true, true, true, false, false, false] (by kernel_rfl) rfl (y_pick_f (v := .bool _) rfl rfl rfl) rfl rfl rfl (weak_refl) (listed' := #[true, true, true, true, true, true, true, true, true, true, true, true, true, true, true, true, true, true, true, true, true, true, true, true, true, true, true, false, false]) rfl ?_
              refine ge_take 27 (TK := [rowl _ _ _ _ _ _, rowl _ _ _ _ _ _]) rfl (by kernel_rfl) (by kernel_rfl) (by kernel_rfl) #[true, true, true, true, true, true, true, true, true, true, true, true, true, true, true, true, true, true, true, true, true, true, true, true, true, true, true, false, false] (by kernel_rfl) rfl (y_indexAddr (m := k) Tryd.underlying82 Tryd.sizeOf4 rfl rfl (by omega) (by omega) (by omega)) rfl rfl rfl (weak_refl) (listed' := #[true, true, true, true, true, true, true, true, true, true, true, true, true, true, true, true, true, true, true, true, true, true, true, true, true, true, true, true, false]) rfl ?_
              refine ge_one 28 (k' := 1) (listed' := #[true, true, true, true, true, true, true, true, true, true, true, true, true, true, true, true, true, true, true, true, true, true, true, true, true, true, true, true, true]) (by kernel_rfl) rfl rfl rfl ?_
              refine gop_store_row 1 (f := boolCells) (l := dpPart s.size k (dp (starP p) (charP p s) (i + 1))) (k := k) (o := 0) (v := .bool _) (a := false) (a' := _) (fun _ => rfl) rfl rfl rfl Tryd.sizeOf4 rfl rfl rfl rfl (dpPart_len _ _ _).symm (dpPart_at (by omega)) (Nat.le_of_ble_eq_true rfl) rfl rfl ?_
              refine gops_nil ?_
              refine ge_fin (TK := []) rfl (weak_nil) ?_
              refine ge_done (by kernel_rfl) ?_
              refine hN14 _ _ ?_
              refine gT [rowl _ _ _ _ _ _, rowl _ _ _ _ _ _] rfl ?_
              refine gfrom [(0, .string _), (1, .string _), (5, .slice (some ⟨g, 0, none⟩) _ _), (6, .int _ _), (7, .slice (some _) _ _), (8, .int _ _)] ⟨rfl, rfl, rfl, rfl, rfl, rfl, trivial⟩ fun σ => ?_
              refine greg ?_
              refine gop (y_move (v := .int _ _) rfl) rfl rfl rfl ?_
              refine gop (y_add rfl rfl ⟨by omega, by omega⟩) rfl rfl rfl ?_
              refine gop (y_assign (v := .int _ _) rfl) rfl rfl rfl ?_
              refine gops_nil ?_
              rw [dpPart_put (f := (dp (starP p) (charP p s) (i + 1))) (by omega) (dp_c0 hst (by omega))]
              refine gnext2 (k + 1) (by omega) (show k + 1 ≤ _ by omega) ⟨rfl, trivial⟩ ⟨rfl, rfl, rfl, rfl, rfl, trivial⟩ ⟨_, rfl⟩
        · 
          replace hc28 := of_decide_eq_false hc28
          refine gexit ?_
          refine hN10 _ _ ?_
          refine gfrom [(0, .string _), (1, .string _), (6, .int _ _), (7, .slice (some _) _ _)] ⟨rfl, rfl, rfl, rfl, trivial⟩ fun σ => ?_
          refine greg ?_
          refine gop (y_move (v := .slice (some _) _ _) rfl) rfl rfl rfl ?_
          refine gop (y_assign (v := .slice (some _) _ _) rfl) rfl rfl rfl ?_
          refine gops_nil ?_
          refine hN8 _ _ ?_
          refine gfrom [(0, .string _), (1, .string _), (5, .slice (some _) _ _), (6, .int _ _)] ⟨rfl, rfl, rfl, rfl, trivial⟩ fun σ => ?_
          refine greg ?_
          refine gop (y_move (v := .int _ _) rfl) rfl rfl rfl ?_
          refine gop (y_add rfl rfl ⟨by omega, by omega⟩) rfl rfl rfl ?_
          refine gop (y_assign (v := .int _ _) rfl) rfl rfl rfl ?_
          refine gops_nil ?_
          rw [show k = s.size + 1 by omega, dpPart_full]
          refine fin_mem _ (weak_perm (List.Perm.swap _ _ _)) ?_
          refine gnext2 ((i + 1, b24)) (by show p.size - (i + 1) < p.size - i; omega) (show i + 1 ≤ _ by omega) ⟨rfl, rfl, trivial⟩ ⟨rfl, rfl, trivial⟩ ⟨_, rfl⟩
    · 
      replace hc18 := of_decide_eq_false hc18
      obtain rfl : i = p.size := by omega
      refine gexit ?_
      refine hN4 _ _ ?_
      refine gfrom [(1, .string _), (5, .slice (some ⟨g, 0, none⟩) _ _)] ⟨rfl, rfl, trivial⟩ fun σ => ?_
      refine gseq fun N16 hN16 => ?_
      refine greg ?_
      refine gop (y_move (v := .slice (some ⟨g, 0, none⟩) _ _) rfl) rfl rfl rfl ?_
      refine gop (y_move (v := .string _) rfl) rfl rfl rfl ?_
      refine gop (y_lens Tryd.underlying9 rfl) rfl rfl rfl ?_
      refine gop (y_indexAddr (m := s.size) Tryd.underlying82 Tryd.sizeOf4 rfl rfl (by omega) (by omega) (by omega)) rfl rfl rfl ?_
      refine gop (y_load Tryd.isAgg4 rfl (cells_rowl 0 (f := boolCells) (l := dpRow s.size (dp (starP p) (charP p s) p.size)) rfl (dpRow_len _ _).symm (fun _ => rfl) (dpRow_get (Nat.le_refl _)) 0 _ rfl)) rfl rfl rfl ?_
      refine gop (y_assign (v := .bool _) rfl) rfl rfl rfl ?_
      refine gops_nil ?_
      refine hN16 _ _ ?_
      refine gfrom [(4, .bool _)] ⟨rfl, trivial⟩ fun σ => ?_
      refine gret fun w1 hM => ?_
      refine ⟨_, res1 rfl (rt (v := .bool _) rfl), ?_⟩
      exact ⟨by rw [dp_name], hM.low⟩
set_option maxHeartbeats 4000000 in
theorem refMatches_any (w : World) (p s : ByteArray) (hp : p.size ≤ 4000000) (hs : s.size ≤ 4000000) : Calls Tryd.prog 40 #[.string p, .string s] w fun e w' => e = .returned (.bool (wk (cutS p) (cutS s))) ∧ Below w.heap.size w w' := by
  have hc1 := cutS_len p
  have hc2 := cutS_len s
  refine gcalls Tryd.func40 rfl Tryd.ntmps40 (Nat.le_of_ble_eq_true rfl) ?_
  refine gfrom [(0, .string _), (1, .string _)] ⟨rfl, rfl, trivial⟩ fun σ => ?_
  refine gseq fun N1 hN1 => ?_
  refine greg ?_
  refine gop (y_assign (v := .bool _) rfl) rfl rfl rfl ?_
  refine gops_nil ?_
  refine hN1 _ _ ?_
  refine gfrom [(0, .string _), (1, .string _)] ⟨rfl, rfl, trivial⟩ fun σ => ?_
  refine gseq fun N2 hN2 => ?_
  refine greg ?_
  refine gop (y_move (v := .string _) rfl) rfl rfl rfl ?_
  refine gop_got (fun v T' => ∃ lo, w.heap.size ≤ lo ∧ T' = [rowl strCells lo 9 1 v (cutS p)]) (e_call (vs := [.string _]) Tryd.func47 rfl (by kernel_rfl) rfl) (fun w hM => (cut_any w p hp).mono fun _ _ ⟨v, T1, h1, h2, h3⟩ => ⟨v, T1, h1, ⟨_, hM.low.size, h2⟩, h3⟩) rfl rfl rfl ?_
  rintro v12 _ ⟨lo12, hlo12, rfl⟩
  refine gops_fact (fun w hM => row_form (hM.ok _ (List.mem_of_getElem? (i := 0) rfl))) ?_
  rintro ⟨A12, c12, rfl, hc12, hm12, hn12⟩
  refine gops_fact (fun w hM => own_some (hM.own 0 rfl) (cutS_pos p)) ?_
  rintro ⟨rg0, cg0, hvg, -, -⟩
  simp only [Value.slice.injEq] at hvg
  obtain ⟨rfl, -, rfl⟩ := hvg
  refine gop (y_assign (v := .slice (some ⟨rg0, 0, none⟩) _ _) rfl) rfl rfl rfl ?_
  refine gops_nil ?_
  refine hN2 _ _ ?_
  refine gT [rowl _ _ _ _ _ _] rfl ?_
  refine gfrom [(1, .string _), (5, .slice (some ⟨rg0, 0, none⟩) _ _)] ⟨rfl, rfl, trivial⟩ fun σ => ?_
  refine gseq fun N3 hN3 => ?_
  refine greg ?_
  refine gop (y_move (v := .string _) rfl) rfl rfl rfl ?_
  refine gop_got (fun v T' => ∃ lo, w.heap.size ≤ lo ∧ T' = [rowl strCells lo 9 1 v (cutS s)]) (e_call (vs := [.string _]) Tryd.func47 rfl (by kernel_rfl) rfl) (fun w hM => (cut_any w s hs).mono fun _ _ ⟨v, T1, h1, h2, h3⟩ => ⟨v, T1, h1, ⟨_, hM.low.size, h2⟩, h3⟩) rfl rfl rfl ?_
  rintro v14 _ ⟨lo14, hlo14, rfl⟩
  refine gops_fact (fun w hM => row_form (hM.ok _ (List.mem_of_getElem? (i := 1) rfl))) ?_
  rintro ⟨A14, c14, rfl, hc14, hm14, hn14⟩
  refine gops_fact (fun w hM => own_some (hM.own 1 rfl) (cutS_pos s)) ?_
  rintro ⟨rg1, cg1, hvg, -, -⟩
  simp only [Value.slice.injEq] at hvg
  obtain ⟨rfl, -, rfl⟩ := hvg
  refine gop (y_assign (v := .slice (some ⟨rg1, 0, none⟩) _ _) rfl) rfl rfl rfl ?_
  refine gops_nil ?_
  refine hN3 _ _ ?_
  refine gT [rowl _ _ _ _ _ _, rowl _ _ _ _ _ _] rfl ?_
  refine gfrom [(5, .slice (some ⟨rg0, 0, none⟩) _ _), (6, .slice (some ⟨rg1, 0, none⟩) _ _)] ⟨rfl, rfl, trivial⟩ fun σ => ?_
  refine gseq fun N4 hN4 => ?_
  refine greg ?_
  refine gop (y_move (v := .slice (some ⟨rg1, 0, none⟩) _ _) rfl) rfl rfl rfl ?_
  refine gop (y_len Tryd.underlying37 rfl) rfl rfl rfl ?_
  refine gop (y_add rfl rfl ⟨by omega, by omega⟩) rfl rfl rfl ?_
  refine gop_make (f := boolCells) (bytes := 1) (z := .bool false) (false) Tryd.underlying82 (by kernel_rfl) rfl rfl rfl (k := (cutS s).length + 1) rfl rfl (by omega) (by simp [maxLen]; omega) rfl (fun b18 hb18 => ?_)
  refine gop (y_assign (v := .slice (some _) _ _) rfl) rfl rfl rfl ?_
  refine gops_nil ?_
  refine hN4 _ _ ?_
  refine gT [rowl _ _ _ _ _ _, rowl _ _ _ _ _ _, rowl _ _ _ _ _ _] rfl ?_
  refine gfrom [(5, .slice (some ⟨rg0, 0, none⟩) _ _), (6, .slice (some ⟨rg1, 0, none⟩) _ _), (7, .slice (some _) _ _)] ⟨rfl, rfl, rfl, trivial⟩ fun σ => ?_
  refine gseq fun N5 hN5 => ?_
  refine greg ?_
  refine gop (y_move (v := .slice (some _) _ _) rfl) rfl rfl rfl ?_
  refine gop (y_indexAddr Tryd.underlying82 Tryd.sizeOf4 rfl rfl rfl (by omega) (by omega)) rfl rfl rfl ?_
  refine gop_store_row 2 (f := boolCells) (l := List.replicate ((cutS s).length + 1) false) (k := 0) (o := 0) (v := .bool _) (a := false) (a' := true) (fun _ => rfl) rfl rfl rfl Tryd.sizeOf4 rfl rfl rfl rfl (by simp) (by simp) (Nat.le_of_ble_eq_true rfl) rfl rfl ?_
  refine gops_nil ?_
  refine hN5 _ _ ?_
  refine gT [rowl _ _ _ _ _ _, rowl _ _ _ _ _ _, rowl _ _ _ _ _ _] rfl ?_
  refine gfrom [(5, .slice (some ⟨rg0, 0, none⟩) _ _), (6, .slice (some ⟨rg1, 0, none⟩) _ _), (7, .slice (some _) _ _)] ⟨rfl, rfl, rfl, trivial⟩ fun σ => ?_
  refine gseq fun N6 hN6 => ?_
  refine gseq fun N7 hN7 => ?_
  refine greg ?_
  refine gop (y_assign (v := .int _ _) rfl) rfl rfl rfl ?_
  refine gops_nil ?_
  refine hN7 _ _ ?_
  refine gfrom [(5, .slice (some ⟨rg0, 0, none⟩) _ _), (6, .slice (some ⟨rg1, 0, none⟩) _ _), (7, .slice (some _) _ _), (8, .int _ _)] ⟨rfl, rfl, rfl, rfl, trivial⟩ fun σ => ?_
  refine gblock ?_
  rw [dp_first (cutS s).length (starW2 (cutS p)) (charW (cutS p) (cutS s))]
  refine gfrom2 [(7, .slice (some _) _ _), (8, .int _ _)] [(5, .slice (some ⟨rg0, 0, none⟩) _ _), (6, .slice (some ⟨rg1, 0, none⟩) _ _)] ⟨rfl, rfl, trivial⟩ ⟨rfl, rfl, trivial⟩ fun σ => ?_
  refine gloop2 (G := Nat × Nat) (fun (i, g) => i ≤ (cutS p).length) (fun (i, g) => (cutS p).length - i) (fun (i, g) => [(7, .slice (some ⟨g, 0, none⟩) ((cutS s).length + 1) ((cutS s).length + 1)), (8, .int .i64 (i : Int))]) (fun (i, g) => [(2, rowl boolCells w.heap.size 4 1 (.slice (some ⟨g, 0, none⟩) ((cutS s).length + 1) ((cutS s).length + 1)) (dpRow (cutS s).length (dp (starW2 (cutS p)) (charW (cutS p) (cutS s)) i)))]) ((0, b18)) ?h0 ⟨rfl, rfl, trivial⟩ ⟨rfl, rfl, trivial⟩ rfl ?round
  case h0 => exact Nat.zero_le _
  case round =>
    rintro ⟨i, g⟩ hφ σ
    have hi : i ≤ (cutS p).length := hφ
    refine gT [rowl _ _ _ _ _ _, rowl _ _ _ _ _ _, rowl _ _ _ _ _ _] rfl ?_
    refine gseq fun N8 hN8 => ?_
    refine gseq fun N9 hN9 => ?_
    refine greg ?_
    refine gop (y_move (v := .int _ _) rfl) rfl rfl rfl ?_
    refine gop (y_move (v := .slice (some ⟨rg0, 0, none⟩) _ _) rfl) rfl rfl rfl ?_
    refine gop (y_len Tryd.underlying37 rfl) rfl rfl rfl ?_
    refine gop (y_lss rfl rfl) rfl rfl rfl ?_
    refine gops_nil ?_
    refine hN9 _ _ ?_
    refine gfrom [(5, .slice (some ⟨rg0, 0, none⟩) _ _), (6, .slice (some ⟨rg1, 0, none⟩) _ _), (7, .slice (some ⟨g, 0, none⟩) _ _), (8, .int _ _), (24, .bool _)] ⟨rfl, rfl, rfl, rfl, rfl, trivial⟩ fun σ => ?_
    refine gcond (b := _) rfl (fun hc24 => ?_) (fun hc24 => ?_)
    · 
      replace hc24 := of_decide_eq_true hc24
      have hi1 : i < (cutS p).length := by omega
      refine gskip ?_
      refine hN8 _ _ ?_
      refine gfrom [(5, .slice (some ⟨rg0, 0, none⟩) _ _), (6, .slice (some ⟨rg1, 0, none⟩) _ _), (7, .slice (some ⟨g, 0, none⟩) _ _), (8, .int _ _)] ⟨rfl, rfl, rfl, rfl, trivial⟩ fun σ => ?_
      refine gseq fun N10 hN10 => ?_
      refine gblock ?_
      refine gseq fun N11 hN11 => ?_
      refine greg ?_
      refine gop (y_move (v := .slice (some ⟨rg1, 0, none⟩) _ _) rfl) rfl rfl rfl ?_
      refine gop (y_len Tryd.underlying37 rfl) rfl rfl rfl ?_
      refine gop (y_add rfl rfl ⟨by omega, by omega⟩) rfl rfl rfl ?_
      refine gop_make (f := boolCells) (bytes := 1) (z := .bool false) (false) Tryd.underlying82 (by kernel_rfl) rfl rfl rfl (k := (cutS s).length + 1) rfl rfl (by omega) (by simp [maxLen]; omega) rfl (fun b30 hb30 => ?_)
      refine gop (y_assign (v := .slice (some _) _ _) rfl) rfl rfl rfl ?_
      refine gops_nil ?_
      refine hN11 _ _ ?_
      refine gT [rowl _ _ _ _ _ _, rowl _ _ _ _ _ _, rowl _ _ _ _ _ _, rowl _ _ _ _ _ _] rfl ?_
      refine gfrom [(5, .slice (some ⟨rg0, 0, none⟩) _ _), (6, .slice (some ⟨rg1, 0, none⟩) _ _), (7, .slice (some ⟨g, 0, none⟩) _ _), (8, .int _ _), (9, .slice (some _) _ _)] ⟨rfl, rfl, rfl, rfl, rfl, trivial⟩ fun σ => ?_
      refine gseq fun N12 hN12 => ?_
      refine gseq fun N13 hN13 => ?_
      refine greg ?_
      refine gop (y_assign (v := .int _ _) rfl) rfl rfl rfl ?_
      refine gops_nil ?_
      refine hN13 _ _ ?_
      refine gfrom [(5, .slice (some ⟨rg0, 0, none⟩) _ _), (6, .slice (some ⟨rg1, 0, none⟩) _ _), (7, .slice (some ⟨g, 0, none⟩) _ _), (8, .int _ _), (9, .slice (some _) _ _), (10, .int _ _)] ⟨rfl, rfl, rfl, rfl, rfl, rfl, trivial⟩ fun σ => ?_
      refine gblock ?_
      rw [← dpPart_zero (cutS s).length (dp (starW2 (cutS p)) (charW (cutS p) (cutS s)) (i + 1))]
      refine gfrom2 [(10, .int _ _)] [(5, .slice (some ⟨rg0, 0, none⟩) _ _), (6, .slice (some ⟨rg1, 0, none⟩) _ _), (7, .slice (some ⟨g, 0, none⟩) _ _), (8, .int _ _), (9, .slice (some _) _ _)] ⟨rfl, trivial⟩ ⟨rfl, rfl, rfl, rfl, rfl, trivial⟩ fun σ => ?_
      refine gloop2 (G := Nat) (fun k => k ≤ (cutS s).length + 1) (fun k => (cutS s).length + 1 - k) (fun k => [(10, .int .i64 (k : Int))]) (fun k => [(3, rowl boolCells w.heap.size 4 1 (.slice (some ⟨b30, 0, none⟩) ((cutS s).length + 1) ((cutS s).length + 1)) (dpPart (cutS s).length k (dp (starW2 (cutS p)) (charW (cutS p) (cutS s)) (i + 1))))]) (0) ?h0 ⟨rfl, trivial⟩ ⟨rfl, rfl, rfl, rfl, rfl, trivial⟩ rfl ?round
      case h0 => exact Nat.zero_le _
      case round =>
        intro k hφ σ
        have hk : k ≤ (cutS s).length + 1 := hφ
        refine gT [rowl _ _ _ _ _ _, rowl _ _ _ _ _ _, rowl _ _ _ _ _ _, rowl _ _ _ _ _ _] rfl ?_
        refine gseq fun N14 hN14 => ?_
        refine gseq fun N15 hN15 => ?_
        refine greg ?_
        refine gop (y_move (v := .int _ _) rfl) rfl rfl rfl ?_
        refine gop (y_move (v := .slice (some ⟨rg1, 0, none⟩) _ _) rfl) rfl rfl rfl ?_
        refine gop (y_len Tryd.underlying37 rfl) rfl rfl rfl ?_
        refine gop (y_leq rfl rfl) rfl rfl rfl ?_
        refine gops_nil ?_
        refine hN15 _ _ ?_
        refine gfrom [(5, .slice (some ⟨rg0, 0, none⟩) _ _), (6, .slice (some ⟨rg1, 0, none⟩) _ _), (7, .slice (some ⟨g, 0, none⟩) _ _), (8, .int _ _), (9, .slice (some _) _ _), (10, .int _ _), (34, .bool _)] ⟨rfl, rfl, rfl, rfl, rfl, rfl, rfl, trivial⟩ fun σ => ?_
        refine gcond (b := _) rfl (fun hc34 => ?_) (fun hc34 => ?_)
        · 
          replace hc34 := of_decide_eq_true hc34
          refine gskip ?_
          refine hN14 _ _ ?_
          refine gfrom [(5, .slice (some ⟨rg0, 0, none⟩) _ _), (6, .slice (some ⟨rg1, 0, none⟩) _ _), (7, .slice (some ⟨g, 0, none⟩) _ _), (8, .int _ _), (9, .slice (some _) _ _), (10, .int _ _)] ⟨rfl, rfl, rfl, rfl, rfl, rfl, trivial⟩ fun σ => ?_
          refine gseq fun N16 hN16 => ?_
          refine gblock ?_
          refine gseq fun N17 hN17 => ?_
          refine greg ?_
          refine gop (y_move (v := .slice (some ⟨rg0, 0, none⟩) _ _) rfl) rfl rfl rfl ?_
          refine gop (y_move (v := .int _ _) rfl) rfl rfl rfl ?_
          refine gop (y_indexAddr (m := i) Tryd.underlying37 Tryd.sizeOf9 rfl rfl (by omega) (by omega) (by omega)) rfl rfl rfl ?_
          refine gop (y_load Tryd.isAgg9 rfl (cells_rowl 0 (f := strCells) (l := cutS p) rfl rfl (fun _ => rfl) (List.getElem?_eq_getElem hi1) 0 _ rfl)) rfl rfl rfl ?_
          refine gop (y_eqls rfl rfl) rfl rfl rfl ?_
          refine gops_nil ?_
          refine hN17 _ _ ?_
          refine gfrom [(5, .slice (some ⟨rg0, 0, none⟩) _ _), (6, .slice (some ⟨rg1, 0, none⟩) _ _), (7, .slice (some ⟨g, 0, none⟩) _ _), (8, .int _ _), (9, .slice (some _) _ _), (10, .int _ _), (41, .bool _)] ⟨rfl, rfl, rfl, rfl, rfl, rfl, rfl, trivial⟩ fun σ => ?_
          refine gcond (b := _) rfl (fun hc41 => ?_) (fun hc41 => ?_)
          · 
            have hst : starW2 (cutS p) i = true := by rw [starW2_at hi1]; exact hc41
            refine greg ?_
            refine gop (y_move (v := .slice (some _) _ _) rfl) rfl rfl rfl ?_
            refine gop (y_move (v := .int _ _) rfl) rfl rfl rfl ?_
            refine gop (y_move (v := .slice (some ⟨g, 0, none⟩) _ _) rfl) rfl rfl rfl ?_
            refine gop (y_move (v := .int _ _) rfl) rfl rfl rfl ?_
            refine gop (y_indexAddr (m := k) Tryd.underlying82 Tryd.sizeOf4 rfl rfl (by omega) (by omega) (by omega)) rfl rfl rfl ?_
            refine gop (y_load Tryd.isAgg4 rfl (cells_rowl 2 (f := boolCells) (l := dpRow (cutS s).length (dp (starW2 (cutS p)) (charW (cutS p) (cutS s)) i)) rfl (dpRow_len _ _).symm (fun _ => rfl) (dpRow_get (by omega)) 0 _ rfl)) rfl rfl rfl ?_
            refine gop (y_move (v := .bool _) rfl) rfl rfl rfl ?_
            refine gop_if (want := false) rfl rfl rfl rfl rfl rfl (fun hg48 => ?_) (fun hg48 => ?_)
            · 
              have hg48d := hg48
              refine gop (y_bare (y_move (v := .int _ _) rfl)) rfl rfl rfl ?_
              refine gop_on rfl rfl rfl rfl hg48 ?_
              refine gop (y_bare (y_gtr rfl rfl)) rfl rfl rfl ?_
              refine gop_on rfl rfl rfl rfl hg48 ?_
              refine gop (y_bare (y_move (v := .bool _) rfl)) rfl rfl rfl ?_
              refine gop_if (want := true) rfl rfl rfl rfl rfl rfl (fun hg51 => ?_) (fun hg51 => ?_)
              · 
                have hg51d := of_decide_eq_true hg51
                refine gop (y_bare (y_move (v := .slice (some _) _ _) rfl)) rfl rfl rfl ?_
                refine gop_on rfl rfl rfl rfl hg51 ?_
                refine gop (y_bare (y_move (v := .int _ _) rfl)) rfl rfl rfl ?_
                refine gop_on rfl rfl rfl rfl hg51 ?_
                refine gop (y_bare (y_sub rfl rfl ⟨by omega, by omega⟩)) rfl rfl rfl ?_
                refine gop_on rfl rfl rfl rfl hg51 ?_
                refine gop (y_bare (y_indexAddr (m := k - 1) Tryd.underlying82 Tryd.sizeOf4 rfl rfl (by omega) (by omega) (by omega))) rfl rfl rfl ?_
                refine gop_on rfl rfl rfl rfl hg51 ?_
                refine gop (y_bare (y_load Tryd.isAgg4 rfl (cells_rowl 3 (f := boolCells) (l := dpPart (cutS s).length k (dp (starW2 (cutS p)) (charW (cutS p) (cutS s)) (i + 1))) rfl (dpPart_len _ _ _).symm (fun _ => rfl) (dpPart_get (by omega) (by omega)) 0 _ rfl))) rfl rfl rfl ?_
                refine gop_on rfl rfl rfl rfl hg48 ?_
                refine gop (y_bare (y_pick_t (v := .bool _) rfl hg51 rfl)) rfl rfl rfl ?_
                refine gop (y_pick_f (v := .bool _) rfl hg48 rfl) rfl rfl rfl ?_
                refine gop (y_indexAddr (m := k) Tryd.underlying82 Tryd.sizeOf4 rfl rfl (by omega) (by omega) (by omega)) rfl rfl rfl ?_
                refine gop_store_row 3 (f := boolCells) (l := dpPart (cutS s).length k (dp (starW2 (cutS p)) (charW (cutS p) (cutS s)) (i + 1))) (k := k) (o := 0) (v := .bool _) (a := false) (a' := _) (fun _ => rfl) rfl rfl rfl Tryd.sizeOf4 rfl rfl rfl rfl (dpPart_len _ _ _).symm (dpPart_at (by omega)) (Nat.le_of_ble_eq_true rfl) rfl rfl ?_
                refine gops_nil ?_
                refine hN16 _ _ ?_
                refine gT [rowl _ _ _ _ _ _, rowl _ _ _ _ _ _, rowl _ _ _ _ _ _, rowl _ _ _ _ _ _] rfl ?_
                refine gfrom [(5, .slice (some ⟨rg0, 0, none⟩) _ _), (6, .slice (some ⟨rg1, 0, none⟩) _ _), (7, .slice (some ⟨g, 0, none⟩) _ _), (8, .int _ _), (9, .slice (some _) _ _), (10, .int _ _)] ⟨rfl, rfl, rfl, rfl, rfl, rfl, trivial⟩ fun σ => ?_
                refine greg ?_
                refine gop (y_move (v := .int _ _) rfl) rfl rfl rfl ?_
                refine gop (y_add rfl rfl ⟨by omega, by omega⟩) rfl rfl rfl ?_
                refine gop (y_assign (v := .int _ _) rfl) rfl rfl rfl ?_
                refine gops_nil ?_
                rw [dpPart_put (f := (dp (starW2 (cutS p)) (charW (cutS p) (cutS s)) (i + 1))) (by omega) (dp_more hst hg48d (by omega))]
                refine gnext2 (k + 1) (by omega) (show k + 1 ≤ _ by omega) ⟨rfl, trivial⟩ ⟨rfl, rfl, rfl, rfl, rfl, trivial⟩ ⟨_, rfl⟩
              · 
                have hg51d := of_decide_eq_false hg51
                refine gop_off rfl rfl rfl rfl hg51 rfl rfl ?_
                refine gop_off rfl rfl rfl rfl hg51 rfl rfl ?_
                refine gop_off rfl rfl rfl rfl hg51 rfl rfl ?_
                refine gop_off rfl rfl rfl rfl hg51 rfl rfl ?_
                refine gop_on rfl rfl rfl rfl hg48 ?_
                refine gop (y_bare (y_pick_f (v := .bool _) rfl hg51 rfl)) rfl rfl rfl ?_
                refine gop (y_pick_f (v := .bool _) rfl hg48 rfl) rfl rfl rfl ?_
                refine gop (y_indexAddr (m := k) Tryd.underlying82 Tryd.sizeOf4 rfl rfl (by omega) (by omega) (by omega)) rfl rfl rfl ?_
                refine gop_store_row 3 (f := boolCells) (l := dpPart (cutS s).length k (dp (starW2 (cutS p)) (charW (cutS p) (cutS s)) (i + 1))) (k := k) (o := 0) (v := .bool _) (a := false) (a' := _) (fun _ => rfl) rfl rfl rfl Tryd.sizeOf4 rfl rfl rfl rfl (dpPart_len _ _ _).symm (dpPart_at (by omega)) (Nat.le_of_ble_eq_true rfl) rfl rfl ?_
                refine gops_nil ?_
                refine hN16 _ _ ?_
                refine gT [rowl _ _ _ _ _ _, rowl _ _ _ _ _ _, rowl _ _ _ _ _ _, rowl _ _ _ _ _ _] rfl ?_
                refine gfrom [(5, .slice (some ⟨rg0, 0, none⟩) _ _), (6, .slice (some ⟨rg1, 0, none⟩) _ _), (7, .slice (some ⟨g, 0, none⟩) _ _), (8, .int _ _), (9, .slice (some _) _ _), (10, .int _ _)] ⟨rfl, rfl, rfl, rfl, rfl, rfl, trivial⟩ fun σ => ?_
                refine greg ?_
                refine gop (y_move (v := .int _ _) rfl) rfl rfl rfl ?_
                refine gop (y_add rfl rfl ⟨by omega, by omega⟩) rfl rfl rfl ?_
                refine gop (y_assign (v := .int _ _) rfl) rfl rfl rfl ?_
                refine gops_nil ?_
                rw [dpPart_put (f := (dp (starW2 (cutS p)) (charW (cutS p) (cutS s)) (i + 1))) (by omega) (dp_no hst hg48d (by omega))]
                refine gnext2 (k + 1) (by omega) (show k + 1 ≤ _ by omega) ⟨rfl, trivial⟩ ⟨rfl, rfl, rfl, rfl, rfl, trivial⟩ ⟨_, rfl⟩
            · 
              have hg48d := hg48
              refine gop_off rfl rfl rfl rfl hg48 rfl rfl ?_
              refine gop_off rfl rfl rfl rfl hg48 rfl rfl ?_
              refine gop_offu rfl rfl rfl rfl rfl rfl ?_
              refine gop_offu rfl rfl rfl rfl rfl rfl ?_
              refine gop_offu rfl rfl rfl rfl rfl rfl ?_
              refine gop_offu rfl rfl rfl rfl rfl rfl ?_
              refine gop_offu rfl rfl rfl rfl rfl rfl ?_
              refine gop_off rfl rfl rfl rfl hg48 rfl rfl ?_
              refine gop (y_pick_t (v := .bool _) rfl hg48 rfl) rfl rfl rfl ?_
              refine gop (y_indexAddr (m := k) Tryd.underlying82 Tryd.sizeOf4 rfl rfl (by omega) (by omega) (by omega)) rfl rfl rfl ?_
              refine gop_store_row 3 (f := boolCells) (l := dpPart (cutS s).length k (dp (starW2 (cutS p)) (charW (cutS p) (cutS s)) (i + 1))) (k := k) (o := 0) (v := .bool _) (a := false) (a' := _) (fun _ => rfl) rfl rfl rfl Tryd.sizeOf4 rfl rfl rfl rfl (dpPart_len _ _ _).symm (dpPart_at (by omega)) (Nat.le_of_ble_eq_true rfl) rfl rfl ?_
              refine gops_nil ?_
              refine hN16 _ _ ?_
              refine gT [rowl _ _ _ _ _ _, rowl _ _ _ _ _ _, rowl _ _ _ _ _ _, rowl _ _ _ _ _ _] rfl ?_
              refine gfrom [(5, .slice (some ⟨rg0, 0, none⟩) _ _), (6, .slice (some ⟨rg1, 0, none⟩) _ _), (7, .slice (some ⟨g, 0, none⟩) _ _), (8, .int _ _), (9, .slice (some _) _ _), (10, .int _ _)] ⟨rfl, rfl, rfl, rfl, rfl, rfl, trivial⟩ fun σ => ?_
              refine greg ?_
              refine gop (y_move (v := .int _ _) rfl) rfl rfl rfl ?_
              refine gop (y_add rfl rfl ⟨by omega, by omega⟩) rfl rfl rfl ?_
              refine gop (y_assign (v := .int _ _) rfl) rfl rfl rfl ?_
              refine gops_nil ?_
              rw [dpPart_put (f := (dp (starW2 (cutS p)) (charW (cutS p) (cutS s)) (i + 1))) (by omega) (dp_yes hst hg48d)]
              refine gnext2 (k + 1) (by omega) (show k + 1 ≤ _ by omega) ⟨rfl, trivial⟩ ⟨rfl, rfl, rfl, rfl, rfl, trivial⟩ ⟨_, rfl⟩
          · 
            have hst : starW2 (cutS p) i = false := by rw [starW2_at hi1]; exact hc41
            refine greg_e0 [24] (by kernel_rfl) ?_
            refine ge_take 0 (TK := [rowl _ _ _ _ _ _, rowl _ _ _ _ _ _, rowl _ _ _ _ _ _, rowl _ _ _ _ _ _]) rfl (by kernel_rfl) (by kernel_rfl) (by kernel_rfl) #[false, true, true, true, true, true, true, true, true, true, true, true, true, true, true, true, true, true, true, true, true, true, true, false, false] (by kernel_rfl) rfl (y_move (v := .slice (some _) _ _) rfl) rfl rfl rfl (weak_refl) (listed' := #[true, false, false, false, false, false, false, false, false, false, false, false, false, false, false, false, false, false, false, false, false, false, false, false, false]) rfl ?_
            refine ge_take 1 (TK := [rowl _ _ _ _ _ _, rowl _ _ _ _ _ _, rowl _ _ _ _ _ _, rowl _ _ _ _ _ _]) rfl (by kernel_rfl) (by kernel_rfl) (by kernel_rfl) #[true, false, true, true, true, true, true, true, true, true, true, true, true, true, true, true, true, true, true, true, true, true, true, false, false] (by kernel_rfl) rfl (y_move (v := .int _ _) rfl) rfl rfl rfl (weak_refl) (listed' := #[true, true, false, false, false, false, false, false, false, false, false, false, false, false, false, false, false, false, false, false, false, false, false, false, false]) rfl ?_
            refine ge_take 2 (TK := [rowl _ _ _ _ _ _, rowl _ _ _ _ _ _, rowl _ _ _ _ _ _, rowl _ _ _ _ _ _]) rfl (by kernel_rfl) (by kernel_rfl) (by kernel_rfl) #[true, true, false, false, false, false, false, false, false, false, false, false, false, false, false, false, false, false, false, false, false, false, false, false, false] (by kernel_rfl) rfl (y_move (v := .int _ _) rfl) rfl rfl rfl (weak_refl) (listed' := #[true, true, true, false, false, false, false, false, false, false, false, false, false, false, false, false, false, false, false, false, false, false, false, false, false]) rfl ?_
            refine ge_take 3 (TK := [rowl _ _ _ _ _ _, rowl _ _ _ _ _ _, rowl _ _ _ _ _ _, rowl _ _ _ _ _ _]) rfl (by kernel_rfl) (by kernel_rfl) (by kernel_rfl) #[true, true, true, false, false, false, false, false, false, false, false, false, false, false, false, false, false, false, false, false, false, false, false, false, false] (by kernel_rfl) rfl (y_gtr rfl rfl) rfl rfl rfl (weak_refl) (listed' := #[true, true, true, true, false, false, false, false, false, false, false, false, false, false, false, false, false, false, false, false, false, false, false, false, false]) rfl ?_
            refine ge_take 4 (TK := [rowl _ _ _ _ _ _, rowl _ _ _ _ _ _, rowl _ _ _ _ _ _, rowl _ _ _ _ _ _]) rfl (by kernel_rfl) (by kernel_rfl) (by kernel_rfl) #[true, true, true, true, false, false, false, false, false, false, false, false, false, false, false, false, false, false, false, false, false, false, false, false, false] (by kernel_rfl) rfl (y_move (v := .bool _) rfl) rfl rfl rfl (weak_refl) (listed' := #[true, true, true, true, true, false, false, false, false, false, false, false, false, false, false, false, false, false, false, false, false, false, false, false, false]) rfl ?_
            refine ge_dec 64 true rfl (fun hg64 => ?_) (fun hg64 => ?_)
            · 
              have hg64d := of_decide_eq_true hg64
              refine ge_take_on 5 (TK := [rowl _ _ _ _ _ _, rowl _ _ _ _ _ _, rowl _ _ _ _ _ _, rowl _ _ _ _ _ _]) rfl (by kernel_rfl) (by kernel_rfl) (by kernel_rfl) #[true, true, true, true, true, false, true, true, false, false, false, false, false, false, false, false, false, false, false, false, false, false, false, false, false] (by kernel_rfl) rfl rfl rfl rfl rfl hg64 (y_bare (y_move (v := .slice (some ⟨g, 0, none⟩) _ _) rfl)) rfl rfl (weak_refl) (listed' := #[true, true, true, true, true, true, false, false, false, false, false, false, false, false, false, false, false, false, false, false, false, false, false, false, false]) rfl ?_
              refine ge_take_on 6 (TK := [rowl _ _ _ _ _ _, rowl _ _ _ _ _ _, rowl _ _ _ _ _ _, rowl _ _ _ _ _ _]) rfl (by kernel_rfl) (by kernel_rfl) (by kernel_rfl) #[true, true, true, true, true, true, false, false, false, false, false, false, false, false, false, false, false, false, false, false, false, false, false, false, false] (by kernel_rfl) rfl rfl rfl rfl rfl hg64 (y_bare (y_move (v := .int _ _) rfl)) rfl rfl (weak_refl) (listed' := #[true, true, true, true, true, true, true, false, false, false, false, false, false, false, false, false, false, false, false, false, false, false, false, false, false]) rfl ?_
              refine ge_take_on 7 (TK := [rowl _ _ _ _ _ _, rowl _ _ _ _ _ _, rowl _ _ _ _ _ _, rowl _ _ _ _ _ _]) rfl (by kernel_rfl) (by kernel_rfl) (by kernel_rfl) #[true, true, true, true, true, true, true, false, false, false, false, false, false, false, false, false, false, false, false, false, false, false, false, false, false] (by kernel_rfl) rfl rfl rfl rfl rfl hg64 (y_bare (y_sub rfl rfl ⟨by omega, by omega⟩)) rfl rfl (weak_refl) (listed' := #[true, true, true, true, true, true, true, true, false, false, false, false, false, false, false, false, false, false, false, false, false, false, false, false, false]) rfl ?_
              refine ge_take_on 8 (TK := [rowl _ _ _ _ _ _, rowl _ _ _ _ _ _, rowl _ _ _ _ _ _, rowl _ _ _ _ _ _]) rfl (by kernel_rfl) (by kernel_rfl) (by kernel_rfl) #[true, true, true, true, true, true, true, true, false, false, false, false, false, false, false, false, false, false, false, false, false, false, false, false, false] (by kernel_rfl) rfl rfl rfl rfl rfl hg64 (y_bare (y_indexAddr (m := k - 1) Tryd.underlying82 Tryd.sizeOf4 rfl rfl (by omega) (by omega) (by omega))) rfl rfl (weak_refl) (listed' := #[true, true, true, true, true, true, true, true, true, false, false, false, false, false, false, false, false, false, false, false, false, false, false, false, false]) rfl ?_
              refine ge_take_on 9 (TK := [rowl _ _ _ _ _ _, rowl _ _ _ _ _ _, rowl _ _ _ _ _ _, rowl _ _ _ _ _ _]) rfl (by kernel_rfl) (by kernel_rfl) (by kernel_rfl) #[true, true, true, true, true, true, true, true, true, false, false, false, false, false, false, false, false, false, false, false, false, false, false, false, false] (by kernel_rfl) rfl rfl rfl rfl rfl hg64 (y_bare (y_load Tryd.isAgg4 rfl (cells_rowl 2 (f := boolCells) (l := dpRow (cutS s).length (dp (starW2 (cutS p)) (charW (cutS p) (cutS s)) i)) rfl (dpRow_len _ _).symm (fun _ => rfl) (dpRow_get (by omega)) 0 _ rfl))) rfl rfl (weak_refl) (listed' := #[true, true, true, true, true, true, true, true, true, true, false, false, false, false, false, false, false, false, false, false, false, false, false, false, false]) rfl ?_
              refine ge_take 10 (TK := [rowl _ _ _ _ _ _, rowl _ _ _ _ _ _, rowl _ _ _ _ _ _, rowl _ _ _ _ _ _]) rfl (by kernel_rfl) (by kernel_rfl) (by kernel_rfl) #[true, true, true, true, true, true, true, true, true, true, false, false, false, false, false, false, false, false, false, false, false, false, false, false, false] (by kernel_rfl) rfl (y_pick_t (v := .bool _) rfl hg64 rfl) rfl rfl rfl (weak_refl) (listed' := #[true, true, true, true, true, true, true, true, true, true, true, false, false, false, false, false, false, false, false, false, false, false, false, false, false]) rfl ?_
              refine ge_take 11 (TK := [rowl _ _ _ _ _ _, rowl _ _ _ _ _ _, rowl _ _ _ _ _ _, rowl _ _ _ _ _ _]) rfl (by kernel_rfl) (by kernel_rfl) (by kernel_rfl) #[true, true, true, true, true, true, true, true, true, true, true, false, false, false, false, false, false, false, false, false, false, false, false, false, false] (by kernel_rfl) rfl (y_move (v := .bool _) rfl) rfl rfl rfl (weak_refl) (listed' := #[true, true, true, true, true, true, true, true, true, true, true, true, false, false, false, false, false, false, false, false, false, false, false, false, false]) rfl ?_
              refine ge_dec 71 true rfl (fun hg71 => ?_) (fun hg71 => ?_)
              · 
                have hg71d := hg71
                refine ge_take_on 12 (TK := [rowl _ _ _ _ _ _, rowl _ _ _ _ _ _, rowl _ _ _ _ _ _, rowl _ _ _ _ _ _]) rfl (by kernel_rfl) (by kernel_rfl) (by kernel_rfl) #[true, true, true, true, true, true, true, true, true, true, true, true, false, true, false, false, true, true, true, true, true, false, false, false, false] (by kernel_rfl) rfl rfl rfl rfl rfl hg71 (y_bare (y_move (v := .slice (some ⟨rg0, 0, none⟩) _ _) rfl)) rfl rfl (weak_refl) (listed' := #[true, true, true, true, true, true, true, true, true, true, true, true, true, false, false, false, false, false, false, false, false, false, false, false, false]) rfl ?_
                refine ge_take_on 13 (TK := [rowl _ _ _ _ _ _, rowl _ _ _ _ _ _, rowl _ _ _ _ _ _, rowl _ _ _ _ _ _]) rfl (by kernel_rfl) (by kernel_rfl) (by kernel_rfl) #[true, true, true, true, true, true, true, true, true, true, true, true, true, false, false, false, true, true, true, true, true, false, false, false, false] (by kernel_rfl) rfl rfl rfl rfl rfl hg71 (y_bare (y_move (v := .int _ _) rfl)) rfl rfl (weak_refl) (listed' := #[true, true, true, true, true, true, true, true, true, true, true, true, true, true, false, false, false, false, false, false, false, false, false, false, false]) rfl ?_
                refine ge_take_on 14 (TK := [rowl _ _ _ _ _ _, rowl _ _ _ _ _ _, rowl _ _ _ _ _ _, rowl _ _ _ _ _ _]) rfl (by kernel_rfl) (by kernel_rfl) (by kernel_rfl) #[true, true, true, true, true, true, true, true, true, true, true, true, true, true, false, false, true, true, true, true, true, false, false, false, false] (by kernel_rfl) rfl rfl rfl rfl rfl hg71 (y_bare (y_indexAddr (m := i) Tryd.underlying37 Tryd.sizeOf9 rfl rfl (by omega) (by omega) (by omega))) rfl rfl (weak_refl) (listed' := #[true, true, true, true, true, true, true, true, true, true, true, true, true, true, true, false, false, false, false, false, false, false, false, false, false]) rfl ?_
                refine ge_take_on 15 (TK := [rowl _ _ _ _ _ _, rowl _ _ _ _ _ _, rowl _ _ _ _ _ _, rowl _ _ _ _ _ _]) rfl (by kernel_rfl) (by kernel_rfl) (by kernel_rfl) #[true, true, true, true, true, true, true, true, true, true, true, true, true, true, true, false, true, true, true, true, true, false, false, false, false] (by kernel_rfl) rfl rfl rfl rfl rfl hg71 (y_bare (y_load Tryd.isAgg9 rfl (cells_rowl 0 (f := strCells) (l := cutS p) rfl rfl (fun _ => rfl) (List.getElem?_eq_getElem hi1) 0 _ rfl))) rfl rfl (weak_refl) (listed' := #[true, true, true, true, true, true, true, true, true, true, true, true, true, true, true, true, false, false, false, false, false, false, false, false, false]) rfl ?_
                refine ge_take_on 16 (TK := [rowl _ _ _ _ _ _, rowl _ _ _ _ _ _, rowl _ _ _ _ _ _, rowl _ _ _ _ _ _]) rfl (by kernel_rfl) (by kernel_rfl) (by kernel_rfl) #[true, true, true, true, true, true, true, true, true, true, true, true, true, true, true, true, false, true, true, false, false, false, false, false, false] (by kernel_rfl) rfl rfl rfl rfl rfl hg71 (y_bare (y_move (v := .slice (some ⟨rg1, 0, none⟩) _ _) rfl)) rfl rfl (weak_refl) (listed' := #[true, true, true, true, true, true, true, true, true, true, true, true, true, true, true, true, true, false, false, false, false, false, false, false, false]) rfl ?_
                refine ge_take_on 17 (TK := [rowl _ _ _ _ _ _, rowl _ _ _ _ _ _, rowl _ _ _ _ _ _, rowl _ _ _ _ _ _]) rfl (by kernel_rfl) (by kernel_rfl) (by kernel_rfl) #[true, true, true, true, true, true, true, true, true, true, true, true, true, true, true, true, true, false, false, false, false, false, false, false, false] (by kernel_rfl) rfl rfl rfl rfl rfl hg71 (y_bare (y_move (v := .int _ _) rfl)) rfl rfl (weak_refl) (listed' := #[true, true, true, true, true, true, true, true, true, true, true, true, true, true, true, true, true, true, false, false, false, false, false, false, false]) rfl ?_
                refine ge_take_on 18 (TK := [rowl _ _ _ _ _ _, rowl _ _ _ _ _ _, rowl _ _ _ _ _ _, rowl _ _ _ _ _ _]) rfl (by kernel_rfl) (by kernel_rfl) (by kernel_rfl) #[true, true, true, true, true, true, true, true, true, true, true, true, true, true, true, true, true, true, false, false, false, false, false, false, false] (by kernel_rfl) rfl rfl rfl rfl rfl hg71 (y_bare (y_sub rfl rfl ⟨by omega, by omega⟩)) rfl rfl (weak_refl) (listed' := #[true, true, true, true, true, true, true, true, true, true, true, true, true, true, true, true, true, true, true, false, false, false, false, false, false]) rfl ?_
                refine ge_take_on 19 (TK := [rowl _ _ _ _ _ _, rowl _ _ _ _ _ _, rowl _ _ _ _ _ _, rowl _ _ _ _ _ _]) rfl (by kernel_rfl) (by kernel_rfl) (by kernel_rfl) #[true, true, true, true, true, true, true, true, true, true, true, true, true, true, true, true, true, true, true, false, false, false, false, false, false] (by kernel_rfl) rfl rfl rfl rfl rfl hg71 (y_bare (y_indexAddr (m := k - 1) Tryd.underlying37 Tryd.sizeOf9 rfl rfl (by omega) (by omega) (by omega))) rfl rfl (weak_refl) (listed' := #[true, true, true, true, true, true, true, true, true, true, true, true, true, true, true, true, true, true, true, true, false, false, false, false, false]) rfl ?_
                refine ge_take_on 20 (TK := [rowl _ _ _ _ _ _, rowl _ _ _ _ _ _, rowl _ _ _ _ _ _, rowl _ _ _ _ _ _]) rfl (by kernel_rfl) (by kernel_rfl) (by kernel_rfl) #[true, true, true, true, true, true, true, true, true, true, true, true, true, true, true, true, true, true, true, true, false, false, false, false, false] (by kernel_rfl) rfl rfl rfl rfl rfl hg71 (y_bare (y_load Tryd.isAgg9 rfl (cells_rowl 1 (f := strCells) (l := cutS s) rfl rfl (fun _ => rfl) (List.getElem?_eq_getElem (show k - 1 < (cutS s).length by omega)) 0 _ rfl))) rfl rfl (weak_refl) (listed' := #[true, true, true, true, true, true, true, true, true, true, true, true, true, true, true, true, true, true, true, true, true, false, false, false, false]) rfl ?_
                refine ge_one 21 (k' := 0) (listed' := #[true, true, true, true, true, true, true, true, true, true, true, true, true, true, true, true, true, true, true, true, true, true, false, false, false]) (by kernel_rfl) rfl rfl rfl ?_
                refine gop_on rfl rfl rfl rfl hg71 ?_
                refine gop_pure (e_call (vs := [.string _, .string _]) Tryd.func66 rfl (by kernel_rfl) rfl) (fun w hM => partMatches_any w _ _ (cutS_size (List.getElem_mem hi1) hp) (cutS_size (List.getElem_mem (show k - 1 < (cutS s).length by omega)) hs)) rfl rfl rfl ?_
                refine gops_nil ?_
                refine ge_fin (TK := [rowl _ _ _ _ _ _, rowl _ _ _ _ _ _, rowl _ _ _ _ _ _, rowl _ _ _ _ _ _]) rfl (weak_refl) ?_
                refine ge_take 22 (TK := [rowl _ _ _ _ _ _, rowl _ _ _ _ _ _, rowl _ _ _ _ _ _, rowl _ _ _ _ _ _]) rfl (by kernel_rfl) (by kernel_rfl) (by kernel_rfl) #[true, true, true, true, true, true, true, true, true, true, true, true, true, true, true, true, true, true, true, true, true, true, false, false, false] (by kernel_rfl) rfl (y_pick_t (v := .bool _) rfl hg71 rfl) rfl rfl rfl (weak_refl) (listed' := #[true, true, true, true, true, true, true, true, true, true, true, true, true, true, true, true, true, true, true, true, true, true, true, false, false]) rfl ?_
                refine ge_take 23 (TK := [rowl _ _ _ _ _ _, rowl _ _ _ _ _ _, rowl _ _ _ _ _ _, rowl _ _ _ _ _ _]) rfl (by kernel_rfl) (by kernel_rfl) (by kernel_rfl) #[true, true, true, true, true, true, true, true, true, true, true, true, true, true, true, true, true, true, true, true, true, true, true, false, false] (by kernel_rfl) rfl (y_indexAddr (m := k) Tryd.underlying82 Tryd.sizeOf4 rfl rfl (by omega) (by omega) (by omega)) rfl rfl rfl (weak_refl) (listed' := #[true, true, true, true, true, true, true, true, true, true, true, true, true, true, true, true, true, true, true, true, true, true, true, true, false]) rfl ?_
                refine ge_one 24 (k' := 1) (listed' := #[true, true, true, true, true, true, true, true, true, true, true, true, true, true, true, true, true, true, true, true, true, true, true, true, true]) (by kernel_rfl) rfl rfl rfl ?_
                refine gop_store_row 3 (f := boolCells) (l := dpPart (cutS s).length k (dp (starW2 (cutS p)) (charW (cutS p) (cutS s)) (i + 1))) (k := k) (o := 0) (v := .bool _) (a := false) (a' := _) (fun _ => rfl) rfl rfl rfl Tryd.sizeOf4 rfl rfl rfl rfl (dpPart_len _ _ _).symm (dpPart_at (by omega)) (Nat.le_of_ble_eq_true rfl) rfl rfl ?_
                refine gops_nil ?_
                refine ge_fin (TK := []) rfl (weak_nil) ?_
                refine ge_done (by kernel_rfl) ?_
                refine hN16 _ _ ?_
                refine gT [rowl _ _ _ _ _ _, rowl _ _ _ _ _ _, rowl _ _ _ _ _ _, rowl _ _ _ _ _ _] rfl ?_
                refine gfrom [(5, .slice (some ⟨rg0, 0, none⟩) _ _), (6, .slice (some ⟨rg1, 0, none⟩) _ _), (7, .slice (some ⟨g, 0, none⟩) _ _), (8, .int _ _), (9, .slice (some _) _ _), (10, .int _ _)] ⟨rfl, rfl, rfl, rfl, rfl, rfl, trivial⟩ fun σ => ?_
                refine greg ?_
                refine gop (y_move (v := .int _ _) rfl) rfl rfl rfl ?_
                refine gop (y_add rfl rfl ⟨by omega, by omega⟩) rfl rfl rfl ?_
                refine gop (y_assign (v := .int _ _) rfl) rfl rfl rfl ?_
                refine gops_nil ?_
                rw [dpPart_put (f := (dp (starW2 (cutS p)) (charW (cutS p) (cutS s)) (i + 1))) (by omega) ((dp_ct hst (by omega) hg71d).trans (charW_at hi1 (by omega)))]
                refine gnext2 (k + 1) (by omega) (show k + 1 ≤ _ by omega) ⟨rfl, trivial⟩ ⟨rfl, rfl, rfl, rfl, rfl, trivial⟩ ⟨_, rfl⟩
              · 
                have hg71d := hg71
                refine ge_take_off 12 (TK := [rowl _ _ _ _ _ _, rowl _ _ _ _ _ _, rowl _ _ _ _ _ _, rowl _ _ _ _ _ _]) rfl (by kernel_rfl) (by kernel_rfl) (by kernel_rfl) #[true, true, true, true, true, true, true, true, true, true, true, true, false, true, false, false, true, true, true, true, true, false, false, false, false] (by kernel_rfl) rfl rfl rfl rfl rfl (off_of hg71) rfl rfl (weak_refl) (listed' := #[true, true, true, true, true, true, true, true, true, true, true, true, true, false, false, false, false, false, false, false, false, false, false, false, false]) rfl ?_
                refine ge_take_off 13 (TK := [rowl _ _ _ _ _ _, rowl _ _ _ _ _ _, rowl _ _ _ _ _ _, rowl _ _ _ _ _ _]) rfl (by kernel_rfl) (by kernel_rfl) (by kernel_rfl) #[true, true, true, true, true, true, true, true, true, true, true, true, true, false, false, false, true, true, true, true, true, false, false, false, false] (by kernel_rfl) rfl rfl rfl rfl rfl (off_of hg71) rfl rfl (weak_refl) (listed' := #[true, true, true, true, true, true, true, true, true, true, true, true, true, true, false, false, false, false, false, false, false, false, false, false, false]) rfl ?_
                refine ge_take_off 14 (TK := [rowl _ _ _ _ _ _, rowl _ _ _ _ _ _, rowl _ _ _ _ _ _, rowl _ _ _ _ _ _]) rfl (by kernel_rfl) (by kernel_rfl) (by kernel_rfl) #[true, true, true, true, true, true, true, true, true, true, true, true, true, true, false, false, true, true, true, true, true, false, false, false, false] (by kernel_rfl) rfl rfl rfl rfl rfl (off_of hg71) rfl rfl (weak_refl) (listed' := #[true, true, true, true, true, true, true, true, true, true, true, true, true, true, true, false, false, false, false, false, false, false, false, false, false]) rfl ?_
                refine ge_take_off 15 (TK := [rowl _ _ _ _ _ _, rowl _ _ _ _ _ _, rowl _ _ _ _ _ _, rowl _ _ _ _ _ _]) rfl (by kernel_rfl) (by kernel_rfl) (by kernel_rfl) #[true, true, true, true, true, true, true, true, true, true, true, true, true, true, true, false, true, true, true, true, true, false, false, false, false] (by kernel_rfl) rfl rfl rfl rfl rfl (off_of hg71) rfl rfl (weak_refl) (listed' := #[true, true, true, true, true, true, true, true, true, true, true, true, true, true, true, true, false, false, false, false, false, false, false, false, false]) rfl ?_
                refine ge_take_off 16 (TK := [rowl _ _ _ _ _ _, rowl _ _ _ _ _ _, rowl _ _ _ _ _ _, rowl _ _ _ _ _ _]) rfl (by kernel_rfl) (by kernel_rfl) (by kernel_rfl) #[true, true, true, true, true, true, true, true, true, true, true, true, true, true, true, true, false, true, true, false, false, false, false, false, false] (by kernel_rfl) rfl rfl rfl rfl rfl (off_of hg71) rfl rfl (weak_refl) (listed' := #[true, true, true, true, true, true, true, true, true, true, true, true, true, true, true, true, true, false, false, false, false, false, false, false, false]) rfl ?_
                refine ge_take_off 17 (TK := [rowl _ _ _ _ _ _, rowl _ _ _ _ _ _, rowl _ _ _ _ _ _, rowl _ _ _ _ _ _]) rfl (by kernel_rfl) (by kernel_rfl) (by kernel_rfl) #[true, true, true, true, true, true, true, true, true, true, true, true, true, true, true, true, true, false, false, false, false, false, false, false, false] (by kernel_rfl) rfl rfl rfl rfl rfl (off_of hg71) rfl rfl (weak_refl) (listed' := #[true, true, true, true, true, true, true, true, true, true, true, true, true, true, true, true, true, true, false, false, false, false, false, false, false]) rfl ?_
                refine ge_take_off 18 (TK := [rowl _ _ _ _ _ _, rowl _ _ _ _ _ _, rowl _ _ _ _ _ _, rowl _ _ _ _ _ _]) rfl (by kernel_rfl) (by kernel_rfl) (by kernel_rfl) #[true, true, true, true, true, true, true, true, true, true, true, true, true, true, true, true, true, true, false, false, false, false, false, false, false] (by kernel_rfl) rfl rfl rfl rfl rfl (off_of hg71) rfl rfl (weak_refl) (listed' := #[true, true, true, true, true, true, true, true, true, true, true, true, true, true, true, true, true, true, true, false, false, false, false, false, false]) rfl ?_
                refine ge_take_off 19 (TK := [rowl _ _ _ _ _ _, rowl _ _ _ _ _ _, rowl _ _ _ _ _ _, rowl _ _ _ _ _ _]) rfl (by kernel_rfl) (by kernel_rfl) (by kernel_rfl) #[true, true, true, true, true, true, true, true, true, true, true, true, true, true, true, true, true, true, true, false, false, false, false, false, false] (by kernel_rfl) rfl rfl rfl rfl rfl (off_of hg71) rfl rfl (weak_refl) (listed' := #[true, true, true, true, true, true, true, true, true, true, true, true, true, true, true, true, true, true, true, true, false, false, false, false, false]) rfl ?_
                refine ge_take_off 20 (TK := [rowl _ _ _ _ _ _, rowl _ _ _ _ _ _, rowl _ _ _ _ _ _, rowl _ _ _ _ _ _]) rfl (by kernel_rfl) (by kernel_rfl) (by kernel_rfl) #[true, true, true, true, true, true, true, true, true, true, true, true, true, true, true, true, true, true, true, true, false, false, false, false, false] (by kernel_rfl) rfl rfl rfl rfl rfl (off_of hg71) rfl rfl (weak_refl) (listed' := #[true, true, true, true, true, true, true, true, true, true, true, true, true, true, true, true, true, true, true, true, true, false, false, false, false]) rfl ?_
                refine ge_one 21 (k' := 0) (listed' := #[true, true, true, true, true, true, true, true, true, true, true, true, true, true, true, true, true, true, true, true, true, true, false, false, false]) (by kernel_rfl) rfl rfl rfl ?_
                refine gop_off rfl rfl rfl rfl hg71 rfl rfl ?_
                refine gops_nil ?_
                refine ge_fin (TK := [rowl _ _ _ _ _ _, rowl _ _ _ _ _ _, rowl _ _ _ _ _ _, rowl _ _ _ _ _ _]) rfl (weak_refl) ?_
                refine ge_take 22 (TK := [rowl _ _ _ _ _ _, rowl _ _ _ _ _ _, rowl _ _ _ _ _ _, rowl _ _ _ _ _ _]) rfl (by kernel_rfl) (by kernel_rfl) (by kernel_rfl) #[true, true, true, true, true, true, true, true, true, true, true, true, true, true, true, true, true, true, true, true, true, true, false, false, false] (by kernel_rfl) rfl (y_pick_f (v := .bool _) rfl hg71 rfl) rfl rfl rfl (weak_refl) (listed' := #[true, true, true, true, true, true, true, true, true, true, true, true, true, true, true, true, true, true, true, true, true, true, true, false, false]) rfl ?_
                refine ge_take 23 (TK := [rowl _ _ _ _ _ _, rowl _ _ _ _ _ _, rowl _ _ _ _ _ _, rowl _ _ _ _ _ _]) rfl (by kernel_rfl) (by kernel_rfl) (by kernel_rfl) #[true, true, true, true, true, true, true, true, true, true, true, true, true, true, true, true, true, true, true, true, true, true, true, false, false] (by kernel_rfl) rfl (y_indexAddr (m := k) Tryd.underlying82 Tryd.sizeOf4 rfl rfl (by omega) (by omega) (by omega)) rfl rfl rfl (weak_refl) (listed' := #[true, true, true, true, true, true, true, true, true, true, true, true, true, true, true, true, true, true, true, true, true, true, true, true, false]) rfl ?_
                refine ge_one 24 (k' := 1) (listed' := #[true, true, true, true, true, true, true, true, true, true, true, true, true, true, true, true, true, true, true, true, true, true, true, true, true]) (by kernel_rfl) rfl rfl rfl ?_
                refine gop_store_row 3 (f := boolCells) (l := dpPart (cutS s).length k (dp (starW2 (cutS p)) (charW (cutS p) (cutS s)) (i + 1))) (k := k) (o := 0) (v := .bool _) (a := false) (a' := _) (fun _ => rfl) rfl rfl rfl Tryd.sizeOf4 rfl rfl rfl rfl (dpPart_len _ _ _).symm (dpPart_at (by omega)) (Nat.le_of_ble_eq_true rfl) rfl rfl ?_
                refine gops_nil ?_
                refine ge_fin (TK := []) rfl (weak_nil) ?_
                refine ge_done (by kernel_rfl) ?_
                refine hN16 _ _ ?_
                refine gT [rowl _ _ _ _ _ _, rowl _ _ _ _ _ _, rowl _ _ _ _ _ _, rowl _ _ _ _ _ _] rfl ?_
                refine gfrom [(5, .slice (some ⟨rg0, 0, none⟩) _ _), (6, .slice (some ⟨rg1, 0, none⟩) _ _), (7, .slice (some ⟨g, 0, none⟩) _ _), (8, .int _ _), (9, .slice (some _) _ _), (10, .int _ _)] ⟨rfl, rfl, rfl, rfl, rfl, rfl, trivial⟩ fun σ => ?_
                refine greg ?_
                refine gop (y_move (v := .int _ _) rfl) rfl rfl rfl ?_
                refine gop (y_add rfl rfl ⟨by omega, by omega⟩) rfl rfl rfl ?_
                refine gop (y_assign (v := .int _ _) rfl) rfl rfl rfl ?_
                refine gops_nil ?_
                rw [dpPart_put (f := (dp (starW2 (cutS p)) (charW (cutS p) (cutS s)) (i + 1))) (by omega) (dp_cf hst (by omega) hg71d)]
                refine gnext2 (k + 1) (by omega) (show k + 1 ≤ _ by omega) ⟨rfl, trivial⟩ ⟨rfl, rfl, rfl, rfl, rfl, trivial⟩ ⟨_, rfl⟩
            · 
              have hg64d := of_decide_eq_false hg64
              refine ge_take_off 5 (TK := [rowl _ _ _ _ _ _, rowl _ _ _ _ _ _, rowl _ _ _ _ _ _, rowl _ _ _ _ _ _]) rfl (by kernel_rfl) (by kernel_rfl) (by kernel_rfl) #[true, true, true, true, true, false, true, true, false, false, false, false, false, false, false, false, false, false, false, false, false, false, false, false, false] (by kernel_rfl) rfl rfl rfl rfl rfl (off_of hg64) rfl rfl (weak_refl) (listed' := #[true, true, true, true, true, true, false, false, false, false, false, false, false, false, false, false, false, false, false, false, false, false, false, false, false]) rfl ?_
              refine ge_take_off 6 (TK := [rowl _ _ _ _ _ _, rowl _ _ _ _ _ _, rowl _ _ _ _ _ _, rowl _ _ _ _ _ _]) rfl (by kernel_rfl) (by kernel_rfl) (by kernel_rfl) #[true, true, true, true, true, true, false, false, false, false, false, false, false, false, false, false, false, false, false, false, false, false, false, false, false] (by kernel_rfl) rfl rfl rfl rfl rfl (off_of hg64) rfl rfl (weak_refl) (listed' := #[true, true, true, true, true, true, true, false, false, false, false, false, false, false, false, false, false, false, false, false, false, false, false, false, false]) rfl ?_
              refine ge_take_off 7 (TK := [rowl _ _ _ _ _ _, rowl _ _ _ _ _ _, rowl _ _ _ _ _ _, rowl _ _ _ _ _ _]) rfl (by kernel_rfl) (by kernel_rfl) (by kernel_rfl) #[true, true, true, true, true, true, true, false, false, false, false, false, false, false, false, false, false, false, false, false, false, false, false, false, false] (by kernel_rfl) rfl rfl rfl rfl rfl (off_of hg64) rfl rfl (weak_refl) (listed' := #[true, true, true, true, true, true, true, true, false, false, false, false, false, false, false, false, false, false, false, false, false, false, false, false, false]) rfl ?_
              refine ge_take_off 8 (TK := [rowl _ _ _ _ _ _, rowl _ _ _ _ _ _, rowl _ _ _ _ _ _, rowl _ _ _ _ _ _]) rfl (by kernel_rfl) (by kernel_rfl) (by kernel_rfl) #[true, true, true, true, true, true, true, true, false, false, false, false, false, false, false, false, false, false, false, false, false, false, false, false, false] (by kernel_rfl) rfl rfl rfl rfl rfl (off_of hg64) rfl rfl (weak_refl) (listed' := #[true, true, true, true, true, true, true, true, true, false, false, false, false, false, false, false, false, false, false, false, false, false, false, false, false]) rfl ?_
              refine ge_take_off 9 (TK := [rowl _ _ _ _ _ _, rowl _ _ _ _ _ _, rowl _ _ _ _ _ _, rowl _ _ _ _ _ _]) rfl (by kernel_rfl) (by kernel_rfl) (by kernel_rfl) #[true, true, true, true, true, true, true, true, true, false, false, false, false, false, false, false, false, false, false, false, false, false, false, false, false] (by kernel_rfl) rfl rfl rfl rfl rfl (off_of hg64) rfl rfl (weak_refl) (listed' := #[true, true, true, true, true, true, true, true, true, true, false, false, false, false, false, false, false, false, false, false, false, false, false, false, false]) rfl ?_
              refine ge_take 10 (TK := [rowl _ _ _ _ _ _, rowl _ _ _ _ _ _, rowl _ _ _ _ _ _, rowl _ _ _ _ _ _]) rfl (by kernel_rfl) (by kernel_rfl) (by kernel_rfl) #[true, true, true, true, true, true, true, true, true, true, false, false, false, false, false, false, false, false, false, false, false, false, false, false, false] (by kernel_rfl) rfl (y_pick_f (v := .bool _) rfl hg64 rfl) rfl rfl rfl (weak_refl) (listed' := #[true, true, true, true, true, true, true, true, true, true, true, false, false, false, false, false, false, false, false, false, false, false, false, false, false]) rfl ?_
              refine ge_take 11 (TK := [rowl _ _ _ _ _ _, rowl _ _ _ _ _ _, rowl _ _ _ _ _ _, rowl _ _ _ _ _ _]) rfl (by kernel_rfl) (by kernel_rfl) (by kernel_rfl) #[true, true, true, true, true, true, true, true, true, true, true, false, false, false, false, false, false, false, false, false, false, false, false, false, false] (by kernel_rfl) rfl (y_move (v := .bool _) rfl) rfl rfl rfl (weak_refl) (listed' := #[true, true, true, true, true, true, true, true, true, true, true, true, false, false, false, false, false, false, false, false, false, false, false, false, false]) rfl ?_
              refine ge_take_off 12 (TK := [rowl _ _ _ _ _ _, rowl _ _ _ _ _ _, rowl _ _ _ _ _ _, rowl _ _ _ _ _ _]) rfl (by kernel_rfl) (by kernel_rfl) (by kernel_rfl) #[true, true, true, true, true, true, true, true, true, true, true, true, false, true, false, false, true, true, true, true, true, false, false, false, false] (by kernel_rfl) rfl rfl rfl rfl rfl (off_of rfl) rfl rfl (weak_refl) (listed' := #[true, true, true, true, true, true, true, true, true, true, true, true, true, false, false, false, false, false, false, false, false, false, false, false, false]) rfl ?_
              refine ge_take_off 13 (TK := [rowl _ _ _ _ _ _, rowl _ _ _ _ _ _, rowl _ _ _ _ _ _, rowl _ _ _ _ _ _]) rfl (by kernel_rfl) (by kernel_rfl) (by kernel_rfl) #[true, true, true, true, true, true, true, true, true, true, true, true, true, false, false, false, true, true, true, true, true, false, false, false, false] (by kernel_rfl) rfl rfl rfl rfl rfl (off_of rfl) rfl rfl (weak_refl) (listed' := #[true, true, true, true, true, true, true, true, true, true, true, true, true, true, false, false, false, false, false, false, false, false, false, false, false]) rfl ?_
              refine ge_take_off 14 (TK := [rowl _ _ _ _ _ _, rowl _ _ _ _ _ _, rowl _ _ _ _ _ _, rowl _ _ _ _ _ _]) rfl (by kernel_rfl) (by kernel_rfl) (by kernel_rfl) #[true, true, true, true, true, true, true, true, true, true, true, true, true, true, false, false, true, true, true, true, true, false, false, false, false] (by kernel_rfl) rfl rfl rfl rfl rfl (off_of rfl) rfl rfl (weak_refl) (listed' := #[true, true, true, true, true, true, true, true, true, true, true, true, true, true, true, false, false, false, false, false, false, false, false, false, false]) rfl ?_
              refine ge_take_off 15 (TK := [rowl _ _ _ _ _ _, rowl _ _ _ _ _ _, rowl _ _ _ _ _ _, rowl _ _ _ _ _ _]) rfl (by kernel_rfl) (by kernel_rfl) (by kernel_rfl) #[true, true, true, true, true, true, true, true, true, true, true, true, true, true, true, false, true, true, true, true, true, false, false, false, false] (by kernel_rfl) rfl rfl rfl rfl rfl (off_of rfl) rfl rfl (weak_refl) (listed' := #[true, true, true, true, true, true, true, true, true, true, true, true, true, true, true, true, false, false, false, false, false, false, false, false, false]) rfl ?_
              refine ge_take_off 16 (TK := [rowl _ _ _ _ _ _, rowl _ _ _ _ _ _, rowl _ _ _ _ _ _, rowl _ _ _ _ _ _]) rfl (by kernel_rfl) (by kernel_rfl) (by kernel_rfl) #[true, true, true, true, true, true, true, true, true, true, true, true, true, true, true, true, false, true, true, false, false, false, false, false, false] (by kernel_rfl) rfl rfl rfl rfl rfl (off_of rfl) rfl rfl (weak_refl) (listed' := #[true, true, true, true, true, true, true, true, true, true, true, true, true, true, true, true, true, false, false, false, false, false, false, false, false]) rfl ?_
              refine ge_take_off 17 (TK := [rowl _ _ _ _ _ _, rowl _ _ _ _ _ _, rowl _ _ _ _ _ _, rowl _ _ _ _ _ _]) rfl (by kernel_rfl) (by kernel_rfl) (by kernel_rfl) #[true, true, true, true, true, true, true, true, true, true, true, true, true, true, true, true, true, false, false, false, false, false, false, false, false] (by kernel_rfl) rfl rfl rfl rfl rfl (off_of rfl) rfl rfl (weak_refl) (listed' := #[true, true, true, true, true, true, true, true, true, true, true, true, true, true, true, true, true, true, false, false, false, false, false, false, false]) rfl ?_
              refine ge_take_off 18 (TK := [rowl _ _ _ _ _ _, rowl _ _ _ _ _ _, rowl _ _ _ _ _ _, rowl _ _ _ _ _ _]) rfl (by kernel_rfl) (by kernel_rfl) (by kernel_rfl) #[true, true, true, true, true, true, true, true, true, true, true, true, true, true, true, true, true, true, false, false, false, false, false, false, false] (by kernel_rfl) rfl rfl rfl rfl rfl (off_of rfl) rfl rfl (weak_refl) (listed' := #[true, true, true, true, true, true, true, true, true, true, true, true, true, true, true, true, true, true, true, false, false, false, false, false, false]) rfl ?_
              refine ge_take_off 19 (TK := [rowl _ _ _ _ _ _, rowl _ _ _ _ _ _, rowl _ _ _ _ _ _, rowl _ _ _ _ _ _]) rfl (by kernel_rfl) (by kernel_rfl) (by kernel_rfl) #[true, true, true, true, true, true, true, true, true, true, true, true, true, true, true, true, true, true, true, false, false, false, false, false, false] (by kernel_rfl) rfl rfl rfl rfl rfl (off_of rfl) rfl rfl (weak_refl) (listed' := #[true, true, true, true, true, true, true, true, true, true, true, true, true, true, true, true, true, true, true, true, false, false, false, false, false]) rfl ?_
              refine ge_take_off 20 (TK := [rowl _ _ _ _ _ _, rowl _ _ _ _ _ _, rowl _ _ _ _ _ _, rowl _ _ _ _ _ _]) rfl (by kernel_rfl) (by kernel_rfl) (by kernel_rfl) #[true, true, true, true, true, true, true, true, true, true, true, true, true, true, true, true, true, true, true, true, false, false, false, false, false] (by kernel_rfl) rfl rfl rfl rfl rfl (off_of rfl) rfl rfl (weak_refl) (listed' := #[true, true, true, true, true, true, true, true, true, true, true, true, true, true, true, true, true, true, true, true, true, false, false, false, false]) rfl ?_
              refine ge_one 21 (k' := 0) (listed' := #[true, true, true, true, true, true, true, true, true, true, true, true, true, true, true, true, true, true, true, true, true, true, false, false, false]) (by kernel_rfl) rfl rfl rfl ?_
              refine gop_off rfl rfl rfl rfl rfl rfl rfl ?_
              refine gops_nil ?_
              refine ge_fin (TK := [rowl _ _ _ _ _ _, rowl _ _ _ _ _ _, rowl _ _ _ _ _ _, rowl _ _ _ _ _ _]) rfl (weak_refl) ?_
              refine ge_take 22 (TK := [rowl _ _ _ _ _ _, rowl _ _ _ _ _ _, rowl _ _ _ _ _ _, rowl _ _ _ _ _ _]) rfl (by kernel_rfl) (by kernel_rfl) (by kernel_rfl) #[true, true, true, true, true, true, true, true, true, true, true, true, true, true, true, true, true, true, true, true, true, true, false, false, false] (by kernel_rfl) rfl (y_pick_f (v := .bool _) rfl rfl rfl) rfl rfl rfl (weak_refl) (listed' := #[true, true, true, true, true, true, true, true, true, true, true, true, true, true, true, true, true, true, true, true, true, true, true, false, false]) rfl ?_
              refine ge_take 23 (TK := [rowl _ _ _ _ _ _, rowl _ _ _ _ _ _, rowl _ _ _ _ _ _, rowl _ _ _ _ _ _]) rfl (by kernel_rfl) (by kernel_rfl) (by kernel_rfl) #[true, true, true, true, true, true, true, true, true, true, true, true, true, true, true, true, true, true, true, true, true, true, true, false, false] (by kernel_rfl) rfl (y_indexAddr (m := k) Tryd.underlying82 Tryd.sizeOf4 rfl rfl (by omega) (by omega) (by omega)) rfl rfl rfl (weak_refl) (listed' := #[true, true, true, true, true, true, true, true, true, true, true, true, true, true, true, true, true, true, true, true, true, true, true, true, false]) rfl ?_
              refine ge_one 24 (k' := 1) (listed' := #[true, true, true, true, true, true, true, true, true, true, true, true, true, true, true, true, true, true, true, true, true, true, true, true, true]) (by kernel_rfl) rfl rfl rfl ?_
              refine gop_store_row 3 (f := boolCells) (l := dpPart (cutS s).length k (dp (starW2 (cutS p)) (charW (cutS p) (cutS s)) (i + 1))) (k := k) (o := 0) (v := .bool _) (a := false) (a' := _) (fun _ => rfl) rfl rfl rfl Tryd.sizeOf4 rfl rfl rfl rfl (dpPart_len _ _ _).symm (dpPart_at (by omega)) (Nat.le_of_ble_eq_true rfl) rfl rfl ?_
              refine gops_nil ?_
              refine ge_fin (TK := []) rfl (weak_nil) ?_
              refine ge_done (by kernel_rfl) ?_
              refine hN16 _ _ ?_
              refine gT [rowl _ _ _ _ _ _, rowl _ _ _ _ _ _, rowl _ _ _ _ _ _, rowl _ _ _ _ _ _] rfl ?_
              refine gfrom [(5, .slice (some ⟨rg0, 0, none⟩) _ _), (6, .slice (some ⟨rg1, 0, none⟩) _ _), (7, .slice (some ⟨g, 0, none⟩) _ _), (8, .int _ _), (9, .slice (some _) _ _), (10, .int _ _)] ⟨rfl, rfl, rfl, rfl, rfl, rfl, trivial⟩ fun σ => ?_
              refine greg ?_
              refine gop (y_move (v := .int _ _) rfl) rfl rfl rfl ?_
              refine gop (y_add rfl rfl ⟨by omega, by omega⟩) rfl rfl rfl ?_
              refine gop (y_assign (v := .int _ _) rfl) rfl rfl rfl ?_
              refine gops_nil ?_
              rw [dpPart_put (f := (dp (starW2 (cutS p)) (charW (cutS p) (cutS s)) (i + 1))) (by omega) (dp_c0 hst (by omega))]
              refine gnext2 (k + 1) (by omega) (show k + 1 ≤ _ by omega) ⟨rfl, trivial⟩ ⟨rfl, rfl, rfl, rfl, rfl, trivial⟩ ⟨_, rfl⟩
        · 
          replace hc34 := of_decide_eq_false hc34
          refine gexit ?_
          refine hN12 _ _ ?_
          refine gfrom [(5, .slice (some ⟨rg0, 0, none⟩) _ _), (6, .slice (some ⟨rg1, 0, none⟩) _ _), (8, .int _ _), (9, .slice (some _) _ _)] ⟨rfl, rfl, rfl, rfl, trivial⟩ fun σ => ?_
          refine greg ?_
          refine gop (y_move (v := .slice (some _) _ _) rfl) rfl rfl rfl ?_
          refine gop (y_assign (v := .slice (some _) _ _) rfl) rfl rfl rfl ?_
          refine gops_nil ?_
          refine hN10 _ _ ?_
          refine gfrom [(5, .slice (some ⟨rg0, 0, none⟩) _ _), (6, .slice (some ⟨rg1, 0, none⟩) _ _), (7, .slice (some _) _ _), (8, .int _ _)] ⟨rfl, rfl, rfl, rfl, trivial⟩ fun σ => ?_
          refine greg ?_
          refine gop (y_move (v := .int _ _) rfl) rfl rfl rfl ?_
          refine gop (y_add rfl rfl ⟨by omega, by omega⟩) rfl rfl rfl ?_
          refine gop (y_assign (v := .int _ _) rfl) rfl rfl rfl ?_
          refine gops_nil ?_
          rw [show k = (cutS s).length + 1 by omega, dpPart_full]
          refine fin_mem _ (weak_perm (List.Perm.cons _ (List.Perm.cons _ (List.Perm.swap _ _ _)))) ?_
          refine gnext2 ((i + 1, b30)) (by show (cutS p).length - (i + 1) < (cutS p).length - i; omega) (show i + 1 ≤ _ by omega) ⟨rfl, rfl, trivial⟩ ⟨rfl, rfl, trivial⟩ ⟨_, rfl⟩
    · 
      replace hc24 := of_decide_eq_false hc24
      obtain rfl : i = (cutS p).length := by omega
      refine gexit ?_
      refine hN6 _ _ ?_
      refine gfrom [(6, .slice (some ⟨rg1, 0, none⟩) _ _), (7, .slice (some ⟨g, 0, none⟩) _ _)] ⟨rfl, rfl, trivial⟩ fun σ => ?_
      refine gseq fun N18 hN18 => ?_
      refine greg ?_
      refine gop (y_move (v := .slice (some ⟨g, 0, none⟩) _ _) rfl) rfl rfl rfl ?_
      refine gop (y_move (v := .slice (some ⟨rg1, 0, none⟩) _ _) rfl) rfl rfl rfl ?_
      refine gop (y_len Tryd.underlying37 rfl) rfl rfl rfl ?_
      refine gop (y_indexAddr (m := (cutS s).length) Tryd.underlying82 Tryd.sizeOf4 rfl rfl (by omega) (by omega) (by omega)) rfl rfl rfl ?_
      refine gop (y_load Tryd.isAgg4 rfl (cells_rowl 2 (f := boolCells) (l := dpRow (cutS s).length (dp (starW2 (cutS p)) (charW (cutS p) (cutS s)) (cutS p).length)) rfl (dpRow_len _ _).symm (fun _ => rfl) (dpRow_get (Nat.le_refl _)) 0 _ rfl)) rfl rfl rfl ?_
      refine gop (y_assign (v := .bool _) rfl) rfl rfl rfl ?_
      refine gops_nil ?_
      refine hN18 _ _ ?_
      refine gfrom [(4, .bool _)] ⟨rfl, trivial⟩ fun σ => ?_
      refine gret fun w1 hM => ?_
      refine ⟨_, res1 rfl (rt (v := .bool _) rfl), ?_⟩
      exact ⟨by rw [dp_wk], hM.low⟩
end Go.Proofs.YtijpaljdclhehaaDoor
namespace Go.Cf
open Go.RowKit
def scanFrom {α : Type} (f : Nat → α → Int) : Nat → List α → Fault
  | _, [] => ⟨0, 0⟩
  | k, x :: l => if f k x = 0 then scanFrom f (k + 1) l else ⟨f k x, k⟩
def scan {α : Type} (f : Nat → α → Int) (l : List α) : Fault := scanFrom f 0 l
theorem scanFrom_ok {α : Type} (f : Nat → α → Int) : ∀ (l : List α) (m : Nat), (∀ j (h : j < l.length), f (m + j) l[j] = 0) → scanFrom f m l = ⟨0, 0⟩
  | [], _, _ => rfl
  | x :: l, m, h => by
    rw [scanFrom, if_pos (show f m x = 0 from h 0 (by simp))]
    exact scanFrom_ok f l (m + 1) fun j hj => by
      have := h (j + 1) (by simp; omega)
      rwa [show m + (j + 1) = m + 1 + j by omega, List.getElem_cons_succ] at this
theorem scanFrom_at {α : Type} (f : Nat → α → Int) : ∀ (l : List α) (m k : Nat) (hk : k < l.length), (∀ j (h : j < l.length), j < k → f (m + j) l[j] = 0) → f (m + k) l[k] ≠ 0 → scanFrom f m l = ⟨f (m + k) l[k], (m + k : Nat)⟩
  | [], _, _, hk, _, _ => absurd hk (by simp)
  | x :: l, m, 0, _, _, hne => by rw [scanFrom, if_neg (show f m x ≠ 0 from hne)]; rfl
  | x :: l, m, k + 1, hk, h, hne => by
    rw [scanFrom, if_pos (show f m x = 0 from h 0 (by simp) (by omega))]
    have := scanFrom_at f l (m + 1) k (by simpa using hk) (fun j hj hjk => by
      have := h (j + 1) (by simp; omega) (by omega)
      rwa [show m + (j + 1) = m + 1 + j by omega, List.getElem_cons_succ] at this) (by
      rwa [show m + (k + 1) = m + 1 + k by omega, List.getElem_cons_succ] at hne)
    rw [this, show m + (k + 1) = m + 1 + k by omega, List.getElem_cons_succ]
theorem scan_ok {α : Type} {f : Nat → α → Int} {l : List α} (h : ∀ j (h : j < l.length), f j l[j] = 0) : scan f l = ⟨0, 0⟩ := scanFrom_ok f l 0 fun j hj => by rw [Nat.zero_add]; exact h j hj
theorem scan_at {α : Type} {f : Nat → α → Int} {l : List α} {k : Nat} (hk : k < l.length) (h : ∀ j (h : j < l.length), j < k → f j l[j] = 0) (hne : f k l[k] ≠ 0) : scan f l = ⟨f k l[k], k⟩ := by
  have := scanFrom_at f l 0 k hk (fun j hj hjk => by rw [Nat.zero_add]; exact h j hj hjk) (by rwa [Nat.zero_add])
  rwa [Nat.zero_add] at this
theorem scan_code {α : Type} {f : Nat → α → Int} {l : List α} : (scan f l).code = 0 ↔ ∀ j (h : j < l.length), f j l[j] = 0 := by
  constructor
  · intro h0
    apply Classical.byContradiction
    intro hn
    have hex : ∃ k, ∃ h : k < l.length, f k l[k] ≠ 0 := Classical.byContradiction fun hc => hn fun j hj => Classical.byContradiction fun hx => hc ⟨j, hj, hx⟩
    obtain ⟨k, ⟨hk, hne⟩, hmin⟩ : ∃ k, (∃ h : k < l.length, f k l[k] ≠ 0) ∧ ∀ j, j < k → ¬ ∃ h : j < l.length, f j l[j] ≠ 0 := by
      clear h0 hn
      obtain ⟨k, hk⟩ := hex
      induction k using Nat.strongRecOn with
      | _ k ih =>
        by_cases hc : ∃ j, j < k ∧ ∃ h : j < l.length, f j l[j] ≠ 0
        · obtain ⟨j, hj, hp⟩ := hc; exact ih j hj hp
        · exact ⟨k, hk, fun j hj hp => hc ⟨j, hj, hp⟩⟩
    rw [scan_at hk (fun j hj hjk => Classical.byContradiction fun hx => hmin j hjk ⟨hj, hx⟩) hne] at h0
    exact hne h0
  · intro h; rw [scan_ok h]
theorem scan_zero {α : Type} {f : Nat → α → Int} {l : List α} : scan f l = ⟨0, 0⟩ ↔ ∀ j (h : j < l.length), f j l[j] = 0 := ⟨fun h => scan_code.1 (by rw [h]), scan_ok⟩
theorem scan_code_eq {α : Type} {f : Nat → α → Int} {l : List α} (h : (scan f l).code = 0) : scan f l = ⟨0, 0⟩ := scan_ok (scan_code.1 h)
def lineCode (s : ByteArray) : Int := if 80 < s.size then 2 else if 0 ≤ firstIdx s 10 then 5 else 0
def linesF (l : List ByteArray) : Fault := if 120 < l.length then ⟨2, -1⟩ else scan (fun _ s => lineCode s) l
theorem linesF_code {l : List ByteArray} (h : (linesF l).code = 0) : linesF l = ⟨0, 0⟩ := by
  unfold linesF at h ⊢
  split
  · rename_i h1; rw [if_pos h1] at h; cases h
  · rename_i h1; rw [if_neg h1] at h; exact scan_code_eq h
theorem linesF_len {l : List ByteArray} (h : linesF l = ⟨0, 0⟩) : l.length ≤ 120 := by
  unfold linesF at h
  split at h
  · cases h
  · omega
structure Hunk where
  at_ : Int
  old : List ByteArray
  new : List ByteArray
def Hunk.end_ (h : Hunk) : Int := h.at_ + h.old.length
def prevEnd (hs : List Hunk) : Nat → Int
  | 0 => -1
  | k + 1 => match hs[k]? with
    | some h => h.end_
    | none => -1
structure VHunk (h : Hunk) (e : Int) : Prop where
  lo : 0 ≤ h.at_
  hi : h.at_ ≤ 120
  old : linesF h.old = ⟨0, 0⟩
  new : linesF h.new = ⟨0, 0⟩
  some_ : h.old.length + h.new.length ≠ 0
  past : e < h.at_
  end_ : h.end_ ≤ 120
theorem VHunk.oldLen {h : Hunk} {e : Int} (v : VHunk h e) : h.old.length ≤ 120 := linesF_len v.old
theorem VHunk.newLen {h : Hunk} {e : Int} (v : VHunk h e) : h.new.length ≤ 120 := linesF_len v.new
structure PV (hs : List Hunk) : Prop where
  len : hs.length ≤ 130
  at_ : ∀ k (h : k < hs.length), VHunk hs[k] (prevEnd hs k)
structure HB (h : Hunk) : Prop where
  lo : 0 ≤ h.at_
  hi : h.at_ ≤ 120
  old : h.old.length ≤ 120
  new : h.new.length ≤ 120
theorem PV.hb {hs : List Hunk} (v : PV hs) : ∀ k (h : k < hs.length), HB hs[k] := fun k h => ⟨(v.at_ k h).lo, (v.at_ k h).hi, (v.at_ k h).oldLen, (v.at_ k h).newLen⟩
theorem PV.each {hs : List Hunk} (v : PV hs) : ∀ h ∈ hs, HB h := fun h hh => by
  obtain ⟨k, hk, rfl⟩ := List.getElem_of_mem hh
  exact v.hb k hk
end Go.Cf
namespace Go.Cf
open Go.RowKit
structure HunkC where
  pl : Hunk
  oA : Option Addr
  oc : Nat
  nA : Option Addr
  nc : Nat
abbrev hunkCells (h : HunkC) : List Value := [.int .i64 h.pl.at_, .slice h.oA h.pl.old.length h.oc, .slice h.nA h.pl.new.length h.nc]
structure SB (A : Option Addr) (n c : Nat) (b : Nat) : Prop where
  len : n ≤ c
  max : c ≤ maxLen
  nil : A = none → c = 0
  bytes : n * b ≤ reachBytes
theorem SB.lit {a : Addr} {b : Nat} (n : Nat) (h : n ≤ 1000) (hb : b ≤ 1000) : SB (some a) n n b := by
  refine ⟨Nat.le_refl _, by unfold maxLen; omega, (fun h => by cases h), ?_⟩
  have : n * b ≤ 1000 * 1000 := Nat.mul_le_mul h hb
  unfold reachBytes; omega
structure HunkR (w : World) (lo : Nat) (h : HunkC) : Prop where
  old : Rdl w lo 1 strCells h.oA h.pl.old
  new : Rdl w lo 1 strCells h.nA h.pl.new
  ob : SB h.oA h.pl.old.length h.oc 16
  nb : SB h.nA h.pl.new.length h.nc 16
  at_ : In64 h.pl.at_
def Lasts (lo : Nat) (R : World → Prop) : Prop := ∀ w w', R w → (∀ p : Addr, lo ≤ p.block → p.block < w.heap.size → w'.cell? p = w.cell? p) → R w'
theorem Lasts.base {lo : Nat} {R : World → Prop} (h : Lasts lo R) {w0 w : World} {T : List Reg} (hR : R w0) (hM : Mem w0 T w) : R w := h w0 w hR fun _ _ hp => hM.low.cell hp
theorem Rdl.lasts {α : Type} {lo size : Nat} {f : α → List Value} {A : Option Addr} {l : List α} : Lasts lo (fun w => Rdl w lo size f A l) := fun _ _ h hk => h.keep hk
theorem HunkR.lasts {lo : Nat} {h : HunkC} : Lasts lo (fun w => HunkR w lo h) := fun _ _ hR hk => ⟨hR.old.keep hk, hR.new.keep hk, hR.ob, hR.nb, hR.at_⟩
theorem HunkR.mono {w : World} {lo lo' : Nat} {h : HunkC} (hR : HunkR w lo h) (hl : lo' ≤ lo) : HunkR w lo' h := ⟨hR.old.mono hl, hR.new.mono hl, hR.ob, hR.nb, hR.at_⟩
structure PatR (w : World) (lo : Nat) (A : Option Addr) (c : Nat) (hs : List HunkC) : Prop where
  rd : Rdl w lo 3 hunkCells A hs
  each : ∀ h ∈ hs, HunkR w lo h
  sb : SB A hs.length c 56
theorem PatR.lasts {lo : Nat} {A : Option Addr} {c : Nat} {hs : List HunkC} : Lasts lo (fun w => PatR w lo A c hs) := fun w w' hR hk => ⟨hR.rd.keep hk, fun h hh => HunkR.lasts w w' (hR.each h hh) hk, hR.sb⟩
theorem PatR.mono {w : World} {lo lo' : Nat} {A : Option Addr} {c : Nat} {hs : List HunkC} (hR : PatR w lo A c hs) (hl : lo' ≤ lo) : PatR w lo' A c hs := ⟨hR.rd.mono hl, fun h hh => (hR.each h hh).mono hl, hR.sb⟩
abbrev pls (hs : List HunkC) : List Hunk := hs.map HunkC.pl
structure PatC where
  A : Option Addr
  c : Nat
  hs : List HunkC
abbrev patCells (p : PatC) : List Value := [.slice p.A p.hs.length p.c]
abbrev PatC.pl (p : PatC) : List Hunk := pls p.hs
structure PatsR (w : World) (lo : Nat) (A : Option Addr) (ps : List PatC) : Prop where
  rd : Rdl w lo 1 patCells A ps
  each : ∀ p ∈ ps, PatR w lo p.A p.c p.hs
theorem PatsR.lasts {lo : Nat} {A : Option Addr} {ps : List PatC} : Lasts lo (fun w => PatsR w lo A ps) := fun w w' hR hk => ⟨hR.rd.keep hk, fun h hh => PatR.lasts w w' (hR.each h hh) hk⟩
theorem PatsR.mono {w : World} {lo lo' : Nat} {A : Option Addr} {ps : List PatC} (hR : PatsR w lo A ps) (hl : lo' ≤ lo) : PatsR w lo' A ps := ⟨hR.rd.mono hl, fun h hh => (hR.each h hh).mono hl⟩
end Go.Cf
namespace Go.Cf
open Go.RowKit
def splitB : Bs → List Bs
  | [] => [[]]
  | c :: r => if c = 32 then [] :: splitB r else match splitB r with
    | h :: t => (c :: h) :: t
    | [] => [[c]]
theorem splitB_ne (l : Bs) : splitB l ≠ [] := by
  cases l with
  | nil => simp [splitB]
  | cons c r => simp only [splitB]; split; simp; split <;> simp
theorem splitB_none : ∀ (l : Bs), (∀ c ∈ l, c ≠ 32) → splitB l = [l]
  | [], _ => rfl
  | c :: r, h => by
    rw [splitB, if_neg (h c (by simp)), splitB_none r (fun x hx => h x (by simp [hx]))]
theorem splitB_app : ∀ (a b : Bs), (∀ c ∈ a, c ≠ 32) → splitB (a ++ 32 :: b) = a :: splitB b
  | [], b, _ => by rw [List.nil_append, splitB, if_pos rfl]
  | c :: a, b, h => by
    rw [List.cons_append, splitB, if_neg (h c (by simp)), splitB_app a b (fun x hx => h x (by simp [hx]))]
theorem splitB_len : ∀ l : Bs, (splitB l).length ≤ l.length + 1
  | [] => by simp [splitB]
  | c :: r => by
    have ih := splitB_len r
    simp only [splitB]
    split
    · simp; omega
    · split
      · rename_i h; rw [h] at ih; simp at ih ⊢; omega
      · simp
def cutB (s : ByteArray) : List ByteArray := (splitB (bsOf s)).map baOf
theorem cutB_len (s : ByteArray) : (cutB s).length ≤ s.size + 1 := by
  have := splitB_len (bsOf s)
  rw [bsOf_len] at this
  simpa [cutB] using this
theorem list_hitB : ∀ l : Bs, 0 < l.count 32 → ∃ m : Nat, Lib.indexByte l 32 = m ∧ m < l.length ∧ splitB l = l.take m :: splitB (l.drop (m + 1)) ∧ (l.drop (m + 1)).count 32 + 1 = l.count 32
  | [], h => by simp at h
  | c :: r, h => by
    by_cases hc : c = 32
    · subst hc
      exact ⟨0, by simp [Lib.indexByte], by simp, by simp [splitB], by simp⟩
    · have hr : 0 < r.count 32 := by simpa [List.count_cons, hc] using h
      obtain ⟨m, h1, h2, h3, h4⟩ := list_hitB r hr
      refine ⟨m + 1, ?_, by simp; omega, ?_, ?_⟩
      · have : ¬ ((m : Int) == -1) = true := by simp
        simp only [Lib.indexByte, h1]
        rw [if_neg (by simpa using hc), if_neg this]; simp
      · rw [splitB, if_neg hc, h3]; simp
      · simpa [List.count_cons, hc] using h4
theorem list_missB : ∀ l : Bs, l.count 32 = 0 → Lib.indexByte l 32 = -1
  | [], _ => rfl
  | c :: r, h => by
    have hc : ¬ c = 32 := fun e => by subst e; simp at h
    have hr : r.count 32 = 0 := by simpa [List.count_cons, hc] using h
    simp only [Lib.indexByte, list_missB r hr]
    rw [if_neg (by simpa using hc), if_pos (by decide)]
def blanks (s : ByteArray) : Nat := Lib.countByte s.data.toList 32
theorem blanks_le (s : ByteArray) : blanks s ≤ s.size := by
  have := List.count_le_length (a := (32 : UInt8)) (l := s.data.toList)
  simpa [blanks, Lib.countByte] using this
theorem idx_hitB {s : ByteArray} (h : 0 < blanks s) : ∃ m : Nat, Lib.indexByte s.data.toList 32 = m ∧ m < s.size ∧ cutB s = s.extract 0 m :: cutB (s.extract (m + 1) s.size) ∧ blanks (s.extract (m + 1) s.size) + 1 = blanks s := by
  obtain ⟨m, h1, h2, h3, h4⟩ := list_hitB (bsOf s) h
  have e : bsOf (s.extract (m + 1) s.size) = (bsOf s).drop (m + 1) := by
    rw [bsOf_extract, List.take_of_length_le (by rw [List.length_drop, bsOf_len]; omega)]
  rw [bsOf_len] at h2
  refine ⟨m, h1, h2, ?_, ?_⟩
  · unfold cutB
    rw [h3, e, List.map_cons]
    congr 1
    exact bs_inj (by rw [bsOf_baOf, bsOf_extract]; simp)
  · show (bsOf (s.extract (m + 1) s.size)).count 32 + 1 = (bsOf s).count 32
    rw [e]; exact h4
theorem idx_missB {s : ByteArray} (h : blanks s = 0) : Lib.indexByte s.data.toList 32 = -1 ∧ cutB s = [s] := by
  refine ⟨list_missB _ h, ?_⟩
  unfold cutB
  rw [splitB_none _ (fun c hc e => by subst e; exact absurd h (Nat.ne_of_gt (List.count_pos_iff.2 hc)))]
  simp [baOf_bsOf]
end Go.Cf
namespace Go.Cf
open Go.RowKit
theorem wrap8_in {x : Int} (h0 : 0 ≤ x) (h1 : x < 256) : IntKind.u8.wrap x = x := by
  rw [IntKind.wrap_u8]; omega
section
variable {P : Program} {w0 : World} {T : List Reg} {ρ : Env} {dst : Option Tmp} {ty : TypeId} {pos : String} {af : Array Edge} {gd : Option (Nat × Bool)} {x y : Operand} {t yt src d e : TypeId} {a b : Int}
theorem y_sub8 (hx : ev ρ x = .int .u8 a) (hy : ev ρ y = .int .u8 b) (h0 : 0 ≤ a - b) (h1 : a - b < 256) : Yield P w0 T ρ ⟨dst, .binOp .sub t x y yt, ty, pos, af, gd⟩ (.int .u8 (a - b)) := fun _ _ => by
  have h := wrap8_in h0 h1
  simp [execOp, go_sem, hx, hy, Op.intArith, h]
theorem y_add8 (hx : ev ρ x = .int .u8 a) (hy : ev ρ y = .int .u8 b) (h0 : 0 ≤ a + b) (h1 : a + b < 256) : Yield P w0 T ρ ⟨dst, .binOp .add t x y yt, ty, pos, af, gd⟩ (.int .u8 (a + b)) := fun _ _ => by
  have h := wrap8_in h0 h1
  simp [execOp, go_sem, hx, hy, Op.intArith, h]
theorem y_toInt (hs : (P.underlying src).isSome = true) (hd : P.underlying d = some (.int .i64)) (hx : ev ρ x = .int .u8 a) (h0 : 0 ≤ a) (h1 : a < 256) : Yield P w0 T ρ ⟨dst, .convert src d x, ty, pos, af, gd⟩ (.int .i64 a) := fun w _ => by
  have hk : P.intKind d = .i64 := by simp [Program.intKind, hd]
  have h := run_convert_int (P := P) w src d .u8 a hs (by rw [hk]; exact hd)
  rw [hk, wrap_in (show In64 a by unfold In64; omega)] at h
  simp [execOp, hx, h]
theorem y_toByte (hs : (P.underlying src).isSome = true) (hd : P.underlying d = some (.int .u8)) (hx : ev ρ x = .int .i64 a) (h0 : 0 ≤ a) (h1 : a < 256) : Yield P w0 T ρ ⟨dst, .convert src d x, ty, pos, af, gd⟩ (.int .u8 a) := fun w _ => by
  have hk : P.intKind d = .u8 := by simp [Program.intKind, hd]
  have h := run_convert_int (P := P) w src d .i64 a hs (by rw [hk]; exact hd)
  rw [hk, wrap8_in h0 h1] at h
  simp [execOp, hx, h]
theorem y_byteStr (i : Nat) {bk : Nat} {n : Nat} {et : TypeId} (hs : P.underlying src = some (.slice e)) (he : P.underlying e = some (.int .u8)) (hd : P.underlying d = some .string) (hx : ev ρ x = .slice (some ⟨bk, 0, none⟩) 1 1) (hn : n < 256)
    (hi : T[i]? = some (box bk (.cells #[.int .u8 (n : Int)] et))) : Yield P w0 T ρ ⟨dst, .convert src d x, ty, pos, af, gd⟩ (.string ⟨#[UInt8.ofNat n]⟩) := fun w hM => by
  have hb : w.heap[bk]? = some (.cells #[.int .u8 (n : Int)] et (0, 0)) := hM.ok _ (List.mem_of_getElem? hi)
  have h := run_convert_bytes_back (P := P) w src d e ⟨bk, 0, none⟩ 1 [UInt8.ofNat n] hs he hd (fun j hj => by
    obtain rfl : j = 0 := by simpa using hj
    simp [World.cell?, hb, Addr.add]
    omega)
  simp only [List.length_cons, List.length_nil, Nat.zero_add] at h
  simp [execOp, hx, h]
end
end Go.Cf
namespace Go.Cf
open Go.RowKit
def tl (cap : Nat) : Nat := if cap = 1 then 0 else 1
section
variable {P : Program} {w0 : World} {T : List Reg} {ρ : Env} {dst : Option Tmp} {ty : TypeId} {pos : String} {af : Array Edge} {gd : Option (Nat × Bool)} {x y : Operand} {t e : TypeId}
theorem y_tail {g len cap : Nat} {kl : IntKind} (ht : P.underlying t = some (.slice e)) (hs : ∀ w, (sizeOf e).run P w = .ok 1 w) (hx : ev ρ x = .slice (some ⟨g, 0, none⟩) len cap) (hy : ev ρ y = .int kl 1) (h1 : 1 ≤ len) :
    Yield P w0 T ρ ⟨dst, .slice t x (some y) none none, ty, pos, af, gd⟩ (.slice (some ⟨g, tl cap, none⟩) (len - 1) (cap - 1)) := by
  have h := y_slice_lo (P := P) (w0 := w0) (T := T) (dst := dst) (ty := ty) (pos := pos) (af := af) (gd := gd) ht hs hx hy (by omega) (by omega)
  have e1 : sliced (some ⟨g, 0, none⟩) (1 : Int).toNat len cap 1 = .slice (some ⟨g, tl cap, none⟩) (len - 1) (cap - 1) := by
    unfold sliced tl
    by_cases hc : cap = 1
    · simp [hc]
    · simp [hc, Addr.add_lit]
  rwa [e1] at h
theorem cell_tail (i : Nat) {α : Type} {f : α → List Value} {l : List α} {base g nn cap k : Nat} {a : α} {v : Value} (hi : T[i]? = some (rowl f base e 1 (.slice (some ⟨g, 0, none⟩) nn cap) l)) (hn : nn = l.length) (hf : ∀ x, (f x).length = 1) (hc : cap ≠ 1) (hk : l[k + 1]? = some a) (hv : (f a)[0]? = some v) :
    Cell w0 T ((⟨g, tl cap, none⟩ : Addr).add (k * 1)) v := fun w hM => by
  have h := cells_rowl (w0 := w0) i hi hn hf hk 0 v hv w hM
  have e1 : ((⟨g, tl cap, none⟩ : Addr).add (k * 1)) = (⟨g, 0, none⟩ : Addr).add ((k + 1) * 1 + 0) := by
    rw [Addr.add_lit, Addr.add_lit, tl, if_neg hc]
    congr 1; omega
  rw [e1]; exact h
end
end Go.Cf
namespace Go.Cf
open Go.RowKit
structure Rule where
  pat : ByteArray
  users : List Int
  deriving DecidableEq
structure RuleC where
  pl : Rule
  A : Option Addr
  c : Nat
abbrev ruleCells (a : RuleC) : List Value := [.string a.pl.pat, .slice a.A a.pl.users.length a.c]
abbrev ruleV (a : RuleC) : Value := .agg #[.string a.pl.pat, .slice a.A a.pl.users.length a.c]
theorem wide_rule : Wide ruleCells 2 := fun _ => ⟨rfl, by simp [ruleCells, Value.oneCell']⟩
structure RuleR (w : World) (lo : Nat) (a : RuleC) : Prop where
  rd : Rdl w lo 1 intCells a.A a.pl.users
  sb : SB a.A a.pl.users.length a.c 8
structure RulesR (w : World) (lo : Nat) (A : Option Addr) (c : Nat) (rs : List RuleC) : Prop where
  rd : Rdl w lo 2 ruleCells A rs
  each : ∀ a ∈ rs, RuleR w lo a
  sb : SB A rs.length c 40
theorem RuleR.lasts {lo : Nat} {a : RuleC} : Lasts lo (fun w => RuleR w lo a) := fun _ _ h hk => ⟨h.rd.keep hk, h.sb⟩
theorem RuleR.mono {w : World} {lo lo' : Nat} {a : RuleC} (h : RuleR w lo a) (hl : lo' ≤ lo) : RuleR w lo' a := ⟨h.rd.mono hl, h.sb⟩
theorem RulesR.lasts {lo : Nat} {A : Option Addr} {c : Nat} {rs : List RuleC} : Lasts lo (fun w => RulesR w lo A c rs) := fun w w' h hk => ⟨h.rd.keep hk, fun a ha => RuleR.lasts w w' (h.each a ha) hk, h.sb⟩
theorem RulesR.mono {w : World} {lo lo' : Nat} {A : Option Addr} {c : Nat} {rs : List RuleC} (h : RulesR w lo A c rs) (hl : lo' ≤ lo) : RulesR w lo' A c rs := ⟨h.rd.mono hl, fun a ha => (h.each a ha).mono hl, h.sb⟩
abbrev rls (rs : List RuleC) : List Rule := rs.map RuleC.pl
def uCode (last : Int) : List Int → Int
  | [] => 0
  | u :: l => if u < 0 ∨ 7 < u then 3 else if u ≤ last then 5 else uCode u l
def prevU (us : List Int) (k : Nat) : Int := if k = 0 then -1 else us[k - 1]?.getD 0
def ruleCode (r : Rule) : Int := if patCode r.pat ≠ 0 then patCode r.pat else if 4 < r.users.length then 2 else uCode (-1) r.users
def rulesF (l : List Rule) : Fault := if 20 < l.length then ⟨2, -1⟩ else scan (fun _ r => ruleCode r) l
section
variable {us : List Int} {k : Nat} {p : Int}
theorem prevU_pos (h : 0 < k) (hk : k - 1 < us.length) : prevU us k = us[k - 1] := by rw [prevU, if_neg (by omega), List.getElem?_eq_getElem hk]; rfl
theorem prevU_succ (hk : k < us.length) : prevU us (k + 1) = us[k] := by
  rw [prevU_pos (by omega) (by simpa using hk)]; simp
theorem uCode_bad (hk : k < us.length) (h : us[k] < 0 ∨ 7 < us[k]) : uCode p (us.drop k) = 3 := by
  rw [List.drop_eq_getElem_cons hk, uCode, if_pos h]
theorem uCode_old (hk : k < us.length) (h : ¬ (us[k] < 0 ∨ 7 < us[k])) (h2 : us[k] ≤ p) : uCode p (us.drop k) = 5 := by
  rw [List.drop_eq_getElem_cons hk, uCode, if_neg h, if_pos h2]
theorem uCode_next (hk : k < us.length) (h : ¬ (us[k] < 0 ∨ 7 < us[k])) (h2 : ¬ us[k] ≤ p) : uCode p (us.drop k) = uCode (prevU us (k + 1)) (us.drop (k + 1)) := by
  rw [List.drop_eq_getElem_cons hk, uCode, if_neg h, if_neg h2, prevU_succ hk]
theorem uCode_end (hk : ¬ k < us.length) : uCode p (us.drop k) = 0 := by
  rw [List.drop_of_length_le (by omega)]; rfl
end
theorem patFault_code (s : ByteArray) : (patFault s).code = (patCode s : Int) := by
  unfold patFault; split
  · rename_i h; simp [h]
  · rfl
theorem rulesF_len {l : List Rule} (h : rulesF l = ⟨0, 0⟩) : l.length ≤ 20 := by
  unfold rulesF at h
  by_cases h1 : 20 < l.length
  · rw [if_pos h1] at h; cases h
  · omega
theorem rulesF_each {l : List Rule} (h : rulesF l = ⟨0, 0⟩) : ∀ r ∈ l, ruleCode r = 0 := by
  have h1 := rulesF_len h
  rw [rulesF, if_neg (by omega)] at h
  intro r hr
  obtain ⟨j, hj, rfl⟩ := List.getElem_of_mem hr
  exact scan_zero.1 h j hj
theorem rulesF_code {l : List Rule} (h : (rulesF l).code = 0) : rulesF l = ⟨0, 0⟩ := by
  unfold rulesF at h ⊢
  split
  · rename_i h1; rw [if_pos h1] at h; cases h
  · rename_i h1; rw [if_neg h1] at h; exact scan_code_eq h
theorem ruleCode_zero {r : Rule} (h : ruleCode r = 0) : patFault r.pat = ⟨0, 0⟩ ∧ r.users.length ≤ 4 ∧ uCode (-1) r.users = 0 := by
  unfold ruleCode at h
  by_cases h1 : patCode r.pat = 0
  · rw [if_neg (by simpa using h1)] at h
    by_cases h2 : 4 < r.users.length
    · rw [if_pos h2] at h; cases h
    · rw [if_neg h2] at h
      exact ⟨by rw [patFault, if_pos h1], by omega, h⟩
  · rw [if_pos h1] at h; exact absurd h (by omega)
theorem uCode_zero : ∀ {us : List Int} {p : Int}, uCode p us = 0 → (∀ u ∈ us, 0 ≤ u ∧ u ≤ 7 ∧ p < u) ∧ us.Pairwise (· < ·)
  | [], _, _ => ⟨fun _ h => (by cases h), .nil⟩
  | u :: us, p, h => by
    rw [uCode] at h
    by_cases h1 : u < 0 ∨ 7 < u
    · rw [if_pos h1] at h; cases h
    · rw [if_neg h1] at h
      by_cases h2 : u ≤ p
      · rw [if_pos h2] at h; cases h
      · rw [if_neg h2] at h
        obtain ⟨h3, h4⟩ := uCode_zero h
        refine ⟨fun x hx => ?_, List.pairwise_cons.2 ⟨fun x hx => (h3 x hx).2.2, h4⟩⟩
        rcases List.mem_cons.1 hx with rfl | hx
        · exact ⟨by omega, by omega, by omega⟩
        · have h5 := h3 x hx
          exact ⟨h5.1, h5.2.1, by omega⟩
def matchR (path : ByteArray) (r : Rule) : Bool := wk (cutS r.pat) (cutS path)
def findU (rs : List Rule) (path : ByteArray) : List Int := ((rs.reverse.find? (matchR path)).map Rule.users).getD []
abbrev noRule : RuleC := ⟨⟨⟨#[]⟩, []⟩, none, 0⟩
def backL (rs : List RuleC) : List (Int × RuleC) := (List.range rs.length).map fun (k : Nat) => ((rs.length : Int) - 1 - k, rs[rs.length - 1 - k]?.getD noRule)
theorem backL_len (rs : List RuleC) : (backL rs).length = rs.length := by simp [backL]
theorem backL_at {rs : List RuleC} {k : Nat} (h : k < rs.length) : (backL rs)[k]? = some ((rs.length : Int) - 1 - k, rs[rs.length - 1 - k]) := by
  simp only [backL, List.getElem?_map, List.getElem?_range h, Option.map_some, Option.some.injEq, Prod.mk.injEq, true_and]
  rw [List.getElem?_eq_getElem (by omega)]; rfl
theorem backL_inv {rs : List RuleC} {k : Nat} {x : Int × RuleC} (h : (backL rs)[k]? = some x) : k < rs.length ∧ ∃ h2 : rs.length - 1 - k < rs.length, x.2 = rs[rs.length - 1 - k] := by
  have hk : k < rs.length := by
    have := (List.getElem?_eq_some_iff.1 h).1
    rwa [backL_len] at this
  rw [backL_at hk] at h
  injection h with h
  exact ⟨hk, by omega, by rw [← h]⟩
theorem find_rev {rs : List Rule} {p : Rule → Bool} {k : Nat} (hk : k < rs.length) (hp : p rs[k] = true) (hn : ∀ j (h : j < rs.length), k < j → p rs[j] = false) : rs.reverse.find? p = some rs[k] := by
  have e : rs = rs.take k ++ rs[k] :: rs.drop (k + 1) := by rw [← List.drop_eq_getElem_cons hk, List.take_append_drop]
  have h1 : (rs.drop (k + 1)).reverse.find? p = none := by
    rw [List.find?_eq_none]
    intro x hx
    obtain ⟨j, hj, rfl⟩ := List.getElem_of_mem (List.mem_reverse.1 hx)
    rw [List.getElem_drop]
    simp only [List.length_drop] at hj
    simp [hn (k + 1 + j) (by omega) (by omega)]
  have h2 : rs.reverse = (rs.drop (k + 1)).reverse ++ rs[k] :: (rs.take k).reverse := by
    rw [congrArg List.reverse e]; simp
  rw [h2, List.find?_append, h1, Option.none_or, List.find?_cons, hp]
theorem find_none {rs : List Rule} {p : Rule → Bool} (hn : ∀ j (h : j < rs.length), p rs[j] = false) : rs.reverse.find? p = none := by
  rw [List.find?_eq_none]
  intro x hx
  obtain ⟨j, hj, rfl⟩ := List.getElem_of_mem (List.mem_reverse.1 hx)
  simp [hn j hj]
theorem findU_hit {rs : List RuleC} {path : ByteArray} {k : Nat} (hk : k < rs.length) (hp : matchR path rs[k].pl = true) (hn : ∀ j (h : j < rs.length), k < j → matchR path rs[j].pl = false) : findU (rls rs) path = rs[k].pl.users := by
  have hk' : k < (rls rs).length := by simpa using hk
  rw [findU, find_rev hk' (by simpa using hp) (fun j h1 h2 => by simpa using hn j (by simpa using h1) h2)]
  simp
theorem findU_none {rs : List RuleC} {path : ByteArray} (hn : ∀ j (h : j < rs.length), matchR path rs[j].pl = false) : findU (rls rs) path = [] := by
  rw [findU, find_none (fun j h1 => by simpa using hn j (by simpa using h1))]; rfl
theorem findU_mem (rs : List Rule) (path : ByteArray) : findU rs path = [] ∨ ∃ r ∈ rs, findU rs path = r.users := by
  unfold findU
  cases h : rs.reverse.find? (matchR path) with
  | none => exact .inl rfl
  | some r => exact .inr ⟨r, List.mem_reverse.1 (List.mem_of_find?_eq_some h), rfl⟩
def ofV (rs : List Rule) (path : ByteArray) : List Int := if rulesF rs = ⟨0, 0⟩ ∧ pathOk path = true then findU rs path else []
def ofF (rs : List Rule) (path : ByteArray) : Fault := if rulesF rs ≠ ⟨0, 0⟩ then rulesF rs else if pathOk path then ⟨0, 0⟩ else ⟨12, -2⟩
end Go.Cf
namespace Go.Cf
open Go.RowKit
def digitW (w : ByteArray) : Option Int := if w.size = 1 ∧ 48 ≤ byteAt w 0 ∧ byteAt w 0 ≤ 57 then some ((byteAt w 0 : Int) - 48) else none
def readU : List ByteArray → List Int × Bool
  | [] => ([], true)
  | w :: l => match digitW w with
    | none => ([], false)
    | some d => (d :: (readU l).1, (readU l).2)
theorem digit_no {w : ByteArray} (h : ¬ (w.size = 1 ∧ 48 ≤ byteAt w 0 ∧ byteAt w 0 ≤ 57)) : digitW w = none := by rw [digitW, if_neg h]
theorem digit_yes {w : ByteArray} (h : w.size = 1 ∧ 48 ≤ byteAt w 0 ∧ byteAt w 0 ≤ 57) : digitW w = some ((byteAt w 0 : Int) - 48) := by rw [digitW, if_pos h]
structure ReadTo (ws : List ByteArray) (k : Nat) (us : List Int) : Prop where
  all : (readU ws).1 = us ++ (readU (ws.drop k)).1
  ok : (readU ws).2 = (readU (ws.drop k)).2
  len : us.length = k
theorem ReadTo.zero (ws : List ByteArray) : ReadTo ws 0 [] := ⟨rfl, rfl, rfl⟩
theorem ReadTo.next {ws : List ByteArray} {k : Nat} {us : List Int} {d : Int} (h : ReadTo ws k us) (hk : k < ws.length) (hd : digitW ws[k] = some d) : ReadTo ws (k + 1) (us ++ [d]) := by
  have e : readU (ws.drop k) = (d :: (readU (ws.drop (k + 1))).1, (readU (ws.drop (k + 1))).2) := by
    rw [List.drop_eq_getElem_cons hk, readU, hd]
  refine ⟨?_, ?_, by simp [h.len]⟩
  · rw [h.all, e]; simp
  · rw [h.ok, e]
theorem ReadTo.stop {ws : List ByteArray} {k : Nat} {us : List Int} (h : ReadTo ws k us) (hk : k < ws.length) (hd : digitW ws[k] = none) : readU ws = (us, false) := by
  have e : readU (ws.drop k) = ([], false) := by rw [List.drop_eq_getElem_cons hk, readU, hd]
  rw [show readU ws = ((readU ws).1, (readU ws).2) from rfl, h.all, h.ok, e]; simp
theorem ReadTo.done {ws : List ByteArray} {k : Nat} {us : List Int} (h : ReadTo ws k us) (hk : ¬ k < ws.length) : readU ws = (us, true) := by
  have e : readU (ws.drop k) = ([], true) := by rw [List.drop_of_length_le (by omega)]; rfl
  rw [show readU ws = ((readU ws).1, (readU ws).2) from rfl, h.all, h.ok, e]; simp
def headW (ws : List ByteArray) : ByteArray := ws[0]?.getD ⟨#[]⟩
def lineR (line : ByteArray) : Rule := ⟨headW (cutB line), (readU ((cutB line).drop 1)).1⟩
def lineC (line : ByteArray) : Int := if (readU ((cutB line).drop 1)).2 = true then ruleCode (lineR line) else 1
theorem cutB_pos (s : ByteArray) : 0 < (cutB s).length := by
  rw [cutB, List.length_map]
  exact List.length_pos_iff.2 (splitB_ne _)
theorem headW_eq (s : ByteArray) : headW (cutB s) = (cutB s)[0]'(cutB_pos s) := by rw [headW, List.getElem?_eq_getElem (cutB_pos s)]; rfl
def skipL (s : ByteArray) : Bool := strEq s ⟨#[]⟩ || decide (byteAt s 0 = 35)
def readL : List ByteArray → List Rule
  | [] => []
  | s :: l => if skipL s = true then readL l else lineR s :: readL l
def badL (s : ByteArray) : Int := if skipL s = true then 0 else lineC s
def fileF (text : List ByteArray) : Fault := if linesF text ≠ ⟨0, 0⟩ then linesF text else if scan (fun _ s => badL s) text ≠ ⟨0, 0⟩ then scan (fun _ s => badL s) text else if 20 < (readL text).length then ⟨2, -1⟩ else ⟨0, 0⟩
def fileV (text : List ByteArray) : List Rule := if fileF text = ⟨0, 0⟩ then readL text else []
theorem readL_take {text : List ByteArray} {k : Nat} (hk : k < text.length) : readL (text.take (k + 1)) = readL (text.take k) ++ (if skipL text[k] = true then [] else [lineR text[k]]) := by
  have key : ∀ (a b : List ByteArray), readL (a ++ b) = readL a ++ readL b := by
    intro a b
    induction a with
    | nil => rfl
    | cons s a ih => simp only [List.cons_append, readL]; split <;> simp [ih]
  rw [List.take_succ_eq_append_getElem hk, key]
  congr 1
theorem readL_len (l : List ByteArray) : (readL l).length ≤ l.length := by
  induction l with
  | nil => exact Nat.le_refl _
  | cons s l ih => simp only [readL]; split <;> simp <;> omega
end Go.Cf
namespace Go.Cf
open Go.RowKit
theorem drop1_at {α : Type} {l : List α} {k : Nat} (h : k + 1 < l.length) : (l.drop 1)[k]'(by rw [List.length_drop]; omega) = l[k + 1] := by
  rw [List.getElem_drop]; simp only [Nat.add_comm]
theorem str_pos {s : ByteArray} (h : strEq s ⟨#[]⟩ = false) : 0 < s.size := by
  rcases Nat.eq_zero_or_pos s.size with h0 | h0
  · have e : s = ⟨#[]⟩ := ba_ext (by rw [h0]; rfl) (fun i hi => by omega)
    exact absurd e (strEq_no.1 h)
  · exact h0
theorem line_size {l : List ByteArray} (h : linesF l = ⟨0, 0⟩) : l.length ≤ 120 ∧ ∀ j (hj : j < l.length), lineCode l[j] = 0 ∧ l[j].size ≤ 80 := by
  unfold linesF at h
  by_cases h1 : 120 < l.length
  · rw [if_pos h1] at h; cases h
  · rw [if_neg h1] at h
    refine ⟨by omega, fun j hj => ?_⟩
    have h2 : lineCode l[j] = 0 := scan_zero.1 h j hj
    refine ⟨h2, ?_⟩
    unfold lineCode at h2
    by_cases h3 : 80 < l[j].size
    · rw [if_pos h3] at h2; cases h2
    · omega
theorem ruleR_row {w : World} {base n c : Nat} {e : TypeId} {A : Option Addr} {pat : ByteArray} {us : List Int} (h : (rowl intCells base e 1 (.slice A n c) us).ok w) (hb : us.length * 8 ≤ reachBytes) : RuleR w base ⟨⟨pat, us⟩, A, c⟩ := by
  obtain ⟨A', c', he, h1, h2, h3⟩ := row_form h
  simp only [Value.slice.injEq] at he
  obtain ⟨rfl, -, rfl⟩ := he
  exact ⟨row_rdl (fun _ => rfl) h, ⟨h1, h2, h3, hb⟩⟩
end Go.Cf
namespace Go.Cf
theorem readU_len : ∀ l : List ByteArray, (readU l).1.length ≤ l.length
  | [] => Nat.le_refl _
  | w :: l => by
    have ih := readU_len l
    rw [readU]
    split
    · simp
    · simp; omega
theorem lineR_len (s : ByteArray) : (lineR s).users.length ≤ s.size + 1 := by
  have h1 := readU_len ((cutB s).drop 1)
  have h2 := cutB_len s
  have h3 : (lineR s).users = (readU ((cutB s).drop 1)).1 := rfl
  rw [h3]
  rw [List.length_drop] at h1
  omega
theorem rule_ext {a b : Rule} (h1 : a.pat = b.pat) (h2 : a.users = b.users) : a = b := by cases a; cases b; simp_all
theorem strEq_no2 {a b : ByteArray} (h : (!(a.toList == b.toList)) = false) : strEq a b = true := by unfold strEq; simpa using h
theorem strEq_ne2 {a b : ByteArray} (h : (!(a.toList == b.toList)) = true) : a ≠ b := fun e => by subst e; simp at h
theorem rules_ne {l m : List RuleC} {k : Nat} (h1 : k < l.length) (h2 : k < m.length) (h : l[k].pl.pat ≠ m[k].pl.pat ∨ ¬ l[k].pl.users = m[k].pl.users) : ¬ rls l = rls m := fun e => by
  have h3 : (rls l)[k]'(by simpa using h1) = (rls m)[k]'(by simpa using h2) := by simp only [e]
  simp only [List.getElem_map] at h3
  rcases h with h | h
  · exact h (by rw [h3])
  · exact h (by rw [h3])
end Go.Cf
namespace Go.Cf
abbrev exT : List ByteArray := [⟨#[35, 32, 97, 108, 108]⟩, ⟨#[42, 42, 32, 48]⟩, ⟨#[42, 46, 103, 111, 32, 49, 32, 51]⟩]
abbrev exPa : ByteArray := ⟨#[97, 46, 103, 111]⟩
theorem oex1 : fileF exT = ⟨0, 0⟩ := by decide +kernel
theorem oex2 : fileV exT = [⟨⟨#[42, 42]⟩, [0]⟩, ⟨⟨#[42, 46, 103, 111]⟩, [1, 3]⟩] := by decide +kernel
theorem oex3 : ofF (fileV exT) exPa = ⟨0, 0⟩ := by decide +kernel
theorem oex4 : ofV (fileV exT) exPa = [1, 3] := by decide +kernel
end Go.Cf
namespace Go.Cf
open Go.RowKit
theorem y_indexByte {P : Program} {w0 : World} {T : List Reg} {ρ : Env} {dst : Option Nat} {x y : Operand} {ty : TypeId} {pos : String} {af : Array Edge} {gd : Option (Nat × Bool)} {ts : Array TypeId} {f : FuncId} {fn : Func}
    (hf : P.funcs[f]? = some fn) (hname : (fn.name == "runtime.NumGoroutine") = false) (hb : fn.body.isNone = true) (hn : Extern.findNext fn = none) (he : Extern.find fn = some Extern.BytealgIndexByte.indexByte) {s : ByteArray} {c : Int}
    (hx : ev ρ x = .string s) (hy : ev ρ y = .int .u8 c) :
    Yield P w0 T ρ ⟨dst, .call { callee := .value (.func f), args := #[x, y], argTypes := ts }, ty, pos, af, gd⟩ (.int .i64 (firstIdx s c.toNat.toUInt8)) := fun w _ => by
  have h := run_callFunc_extern hf hname hb hn he #[.string s, .int .u8 c] w
  rw [run_indexByte_string] at h
  simp only [Result.andThen] at h
  have hef : ev ρ (.func f) = .func (.func f) #[] #[] := rfl
  simp [execOp, resolve, invoke, hx, hy, hef, Deferred.ofValue]
  simpa using h
end Go.Cf
namespace Go.Proofs.YtijpaljdclhehaaDoor
open Go.RowKit Go.Cf
set_option maxRecDepth 10000
set_option maxHeartbeats 1000000 in
theorem sCount_anyB (w : World) (s : ByteArray) : Calls Tryd.prog 89 #[.string s, .string ⟨#[32]⟩] w fun e w' => e = .returned (.int .i64 (blanks s : Nat)) ∧ Below w.heap.size w w' := by
  refine gcalls Tryd.func89 rfl Tryd.ntmps89 (Nat.le_of_ble_eq_true rfl) ?_
  refine gfrom [(0, .string _), (1, .string _)] ⟨rfl, rfl, trivial⟩ fun σ => ?_
  refine gseq fun N1 hN1 => ?_
  refine greg ?_
  refine gop (y_assign (v := .int _ _) rfl) rfl rfl rfl ?_
  refine gops_nil ?_
  refine hN1 _ _ ?_
  refine gfrom [(0, .string _), (1, .string _)] ⟨rfl, rfl, trivial⟩ fun σ => ?_
  refine gseq fun N2 hN2 => ?_
  refine gseq fun N3 hN3 => ?_
  refine greg ?_
  refine gop (y_move (v := .string _) rfl) rfl rfl rfl ?_
  refine gop (y_lens Tryd.underlying9 rfl) rfl rfl rfl ?_
  refine gop (y_eql rfl rfl) rfl rfl rfl ?_
  refine gops_nil ?_
  refine hN3 _ _ ?_
  refine gfrom [(0, .string _), (1, .string _), (9, .bool _)] ⟨rfl, rfl, rfl, trivial⟩ fun σ => ?_
  refine gcond (b := _) rfl (fun hc9 => ?_) (fun hc9 => ?_)
  · 
     exact absurd hc9 (by decide)
  · 
    replace hc9 := of_decide_eq_false hc9
    refine gskip ?_
    refine hN2 _ _ ?_
    refine gfrom [(0, .string _), (1, .string _)] ⟨rfl, rfl, trivial⟩ fun σ => ?_
    refine gseq fun N4 hN4 => ?_
    refine gseq fun N5 hN5 => ?_
    refine greg ?_
    refine gop (y_move (v := .string _) rfl) rfl rfl rfl ?_
    refine gop (y_lens Tryd.underlying9 rfl) rfl rfl rfl ?_
    refine gop (y_eql rfl rfl) rfl rfl rfl ?_
    refine gops_nil ?_
    refine hN5 _ _ ?_
    refine gfrom [(0, .string _), (1, .string _), (15, .bool _)] ⟨rfl, rfl, rfl, trivial⟩ fun σ => ?_
    refine gcond (b := _) rfl (fun hc15 => ?_) (fun hc15 => ?_)
    · 
      replace hc15 := of_decide_eq_true hc15
      refine gseq fun N6 hN6 => ?_
      refine greg ?_
      refine gop (y_move (v := .string _) rfl) rfl rfl rfl ?_
      refine gop (y_move (v := .string _) rfl) rfl rfl rfl ?_
      refine gop (y_stridx (m := 0) Tryd.underlying9 rfl rfl (by omega) (by omega) (by omega)) rfl rfl rfl ?_
      refine gop (y_extern (vs := [.string _, .int _ _]) Tryd.func107 (by kernel_rfl) (by kernel_rfl) (by kernel_rfl) (e := Extern.BytealgCount.count) (by kernel_rfl) rfl (fun w => Lib.run_countString _ _ w)) rfl rfl rfl ?_
      refine gop (y_assign (v := .int _ _) rfl) rfl rfl rfl ?_
      refine gops_nil ?_
      refine hN6 _ _ ?_
      refine gfrom [(4, .int _ _)] ⟨rfl, trivial⟩ fun σ => ?_
      refine gret fun w1 hM => ?_
      refine ⟨_, res1 rfl (rt (v := .int _ _) rfl), ?_⟩
      exact ⟨rfl, hM.low⟩
    · 
       exact absurd hc15 (by decide)
set_option maxHeartbeats 1000000 in
theorem slIndex_anyB (w : World) (s : ByteArray) : Calls Tryd.prog 108 #[.string s, .string ⟨#[32]⟩] w fun e w' => e = .returned (.int .i64 (Lib.indexByte s.data.toList 32)) ∧ Below w.heap.size w w' := by
  refine gcalls Tryd.func108 rfl Tryd.ntmps108 (Nat.le_of_ble_eq_true rfl) ?_
  refine gfrom [(0, .string _), (1, .string _)] ⟨rfl, rfl, trivial⟩ fun σ => ?_
  refine gseq fun N1 hN1 => ?_
  refine greg ?_
  refine gop (y_assign (v := .int _ _) rfl) rfl rfl rfl ?_
  refine gops_nil ?_
  refine hN1 _ _ ?_
  refine gfrom [(0, .string _), (1, .string _)] ⟨rfl, rfl, trivial⟩ fun σ => ?_
  refine gseq fun N2 hN2 => ?_
  refine greg ?_
  refine gop (y_move (v := .string _) rfl) rfl rfl rfl ?_
  refine gop (y_lens Tryd.underlying9 rfl) rfl rfl rfl ?_
  refine gop (y_assign (v := .int _ _) rfl) rfl rfl rfl ?_
  refine gops_nil ?_
  refine hN2 _ _ ?_
  refine gfrom [(0, .string _), (1, .string _), (5, .int _ _)] ⟨rfl, rfl, rfl, trivial⟩ fun σ => ?_
  refine gseq fun N3 hN3 => ?_
  refine gblock ?_
  refine gseq fun N4 hN4 => ?_
  refine greg ?_
  refine gop (y_move (v := .int _ _) rfl) rfl rfl rfl ?_
  refine gop (y_eql rfl rfl) rfl rfl rfl ?_
  refine gop (y_move (v := .bool _) rfl) rfl rfl rfl ?_
  refine gop_if (want := false) rfl rfl rfl rfl rfl rfl (fun hg19 => ?_) (fun hg19 => ?_)
  · 
    have hg19d := of_decide_eq_false hg19
    refine gop (y_bare (y_move (v := .string _) rfl)) rfl rfl rfl ?_
    refine gop_on rfl rfl rfl rfl hg19 ?_
    refine gop (y_bare (y_move (v := .string _) rfl)) rfl rfl rfl ?_
    refine gop_on rfl rfl rfl rfl hg19 ?_
    refine gop (y_bare (y_eqls rfl rfl)) rfl rfl rfl ?_
    refine gop (y_pick_f (v := .bool _) rfl hg19 rfl) rfl rfl rfl ?_
    refine gop (y_assign (v := .bool _) rfl) rfl rfl rfl ?_
    refine gops_nil ?_
    refine hN4 _ _ ?_
    refine gfrom [(0, .string _), (1, .string _), (5, .int _ _), (16, .bool _)] ⟨rfl, rfl, rfl, rfl, trivial⟩ fun σ => ?_
    refine gcond (b := _) rfl (fun hc16 => ?_) (fun hc16 => ?_)
    · 
      refine gseq fun N5 hN5 => ?_
      refine greg ?_
      refine gop (y_assign (v := .int _ _) rfl) rfl rfl rfl ?_
      refine gops_nil ?_
      refine hN5 _ _ ?_
      refine gfrom [(4, .int _ _)] ⟨rfl, trivial⟩ fun σ => ?_
      refine gret fun w1 hM => ?_
      refine ⟨_, res1 rfl (rt (v := .int _ _) rfl), ?_⟩
      exact ⟨by rw [← ByteArray.toList_eq, ← show _ = s.toList by simpa using hc16]; rfl, hM.low⟩
    · 
      refine gseq fun N6 hN6 => ?_
      refine greg ?_
      refine gop (y_move (v := .int _ _) rfl) rfl rfl rfl ?_
      refine gop (y_eql rfl rfl) rfl rfl rfl ?_
      refine gop (y_assign (v := .bool _) rfl) rfl rfl rfl ?_
      refine gops_nil ?_
      refine hN6 _ _ ?_
      refine gfrom [(0, .string _), (1, .string _), (5, .int _ _), (24, .bool _)] ⟨rfl, rfl, rfl, rfl, trivial⟩ fun σ => ?_
      refine gcond (b := _) rfl (fun hc24 => ?_) (fun hc24 => ?_)
      · 
        replace hc24 := of_decide_eq_true hc24
        refine gseq fun N7 hN7 => ?_
        refine greg ?_
        refine gop (y_move (v := .string _) rfl) rfl rfl rfl ?_
        refine gop (y_move (v := .string _) rfl) rfl rfl rfl ?_
        refine gop (y_stridx (m := 0) Tryd.underlying9 rfl rfl (by omega) (by omega) (by omega)) rfl rfl rfl ?_
        refine gop_pure (e_call (vs := [.string _, .int _ _]) Tryd.func78 rfl (by kernel_rfl) rfl) (fun w hM => sIndexByte_any w _ _) rfl rfl rfl ?_
        refine gop (y_assign (v := .int _ _) rfl) rfl rfl rfl ?_
        refine gops_nil ?_
        refine hN7 _ _ ?_
        refine gfrom [(4, .int _ _)] ⟨rfl, trivial⟩ fun σ => ?_
        refine gret fun w1 hM => ?_
        refine ⟨_, res1 rfl (rt (v := .int _ _) rfl), ?_⟩
        exact ⟨rfl, hM.low⟩
      · 
         exact absurd hc24 (by decide)
  · 
     exact absurd hg19 (by decide)
set_option maxHeartbeats 1000000 in
theorem sIndex_anyB (w : World) (s : ByteArray) : Calls Tryd.prog 90 #[.string s, .string ⟨#[32]⟩] w fun e w' => e = .returned (.int .i64 (Lib.indexByte s.data.toList 32)) ∧ Below w.heap.size w w' := by
  refine gcalls Tryd.func90 rfl Tryd.ntmps90 (Nat.le_of_ble_eq_true rfl) ?_
  refine gfrom [(0, .string _), (1, .string _)] ⟨rfl, rfl, trivial⟩ fun σ => ?_
  refine gseq fun N1 hN1 => ?_
  refine greg ?_
  refine gop (y_assign (v := .int _ _) rfl) rfl rfl rfl ?_
  refine gops_nil ?_
  refine hN1 _ _ ?_
  refine gfrom [(0, .string _), (1, .string _)] ⟨rfl, rfl, trivial⟩ fun σ => ?_
  refine gseq fun N2 hN2 => ?_
  refine greg ?_
  refine gop (y_move (v := .string _) rfl) rfl rfl rfl ?_
  refine gop (y_move (v := .string _) rfl) rfl rfl rfl ?_
  refine gop_pure (e_call (vs := [.string _, .string _]) Tryd.func108 rfl (by kernel_rfl) rfl) (fun w hM => slIndex_anyB w _) rfl rfl rfl ?_
  refine gop (y_assign (v := .int _ _) rfl) rfl rfl rfl ?_
  refine gops_nil ?_
  refine hN2 _ _ ?_
  refine gfrom [(4, .int _ _)] ⟨rfl, trivial⟩ fun σ => ?_
  refine gret fun w1 hM => ?_
  refine ⟨_, res1 rfl (rt (v := .int _ _) rfl), ?_⟩
  exact ⟨rfl, hM.low⟩
set_option maxHeartbeats 2000000 in
theorem genSplit_anyB (w : World) (s : ByteArray) (hs : s.size ≤ 4000000) :
    Calls Tryd.prog 70 #[.string s, .string ⟨#[32]⟩, .int .i64 0, .int .i64 (-1)] w fun e w' => ∃ v T', e = .returned v ∧ T' = [rowl strCells w.heap.size 9 1 v (cutB s)] ∧ Mem w T' w' := by
  have hsl := blanks_le s
  have h47 : (⟨#[32]⟩ : ByteArray).size = 1 := rfl
  refine gcalls Tryd.func70 rfl Tryd.ntmps70 (Nat.le_of_ble_eq_true rfl) ?_
  refine gfrom [(0, .string _), (1, .string _), (2, .int _ _), (3, .int _ _)] ⟨rfl, rfl, rfl, rfl, trivial⟩ fun σ => ?_
  refine gseq fun N1 hN1 => ?_
  refine greg ?_
  refine gop (y_assign (v := .slice _ _ _) rfl) rfl rfl rfl ?_
  refine gops_nil ?_
  refine hN1 _ _ ?_
  refine gfrom [(0, .string _), (1, .string _), (2, .int _ _), (3, .int _ _)] ⟨rfl, rfl, rfl, rfl, trivial⟩ fun σ => ?_
  refine gseq fun N2 hN2 => ?_
  refine gseq fun N3 hN3 => ?_
  refine greg ?_
  refine gop (y_move (v := .int _ _) rfl) rfl rfl rfl ?_
  refine gop (y_eql rfl rfl) rfl rfl rfl ?_
  refine gops_nil ?_
  refine hN3 _ _ ?_
  refine gfrom [(0, .string _), (1, .string _), (2, .int _ _), (3, .int _ _), (13, .bool _)] ⟨rfl, rfl, rfl, rfl, rfl, trivial⟩ fun σ => ?_
  refine gcond (b := _) rfl (fun hc13 => ?_) (fun hc13 => ?_)
  · 
     exact absurd hc13 (by decide)
  · 
    replace hc13 := of_decide_eq_false hc13
    refine gskip ?_
    refine hN2 _ _ ?_
    refine gfrom [(0, .string _), (1, .string _), (2, .int _ _), (3, .int _ _)] ⟨rfl, rfl, rfl, rfl, trivial⟩ fun σ => ?_
    refine gseq fun N4 hN4 => ?_
    refine gseq fun N5 hN5 => ?_
    refine greg ?_
    refine gop (y_move (v := .string _) rfl) rfl rfl rfl ?_
    refine gop (y_eqls rfl rfl) rfl rfl rfl ?_
    refine gops_nil ?_
    refine hN5 _ _ ?_
    refine gfrom [(0, .string _), (1, .string _), (2, .int _ _), (3, .int _ _), (15, .bool _)] ⟨rfl, rfl, rfl, rfl, rfl, trivial⟩ fun σ => ?_
    refine gcond (b := _) rfl (fun hc15 => ?_) (fun hc15 => ?_)
    · 
       simp at hc15
    · 
      refine gskip ?_
      refine hN4 _ _ ?_
      refine gfrom [(0, .string _), (1, .string _), (2, .int _ _), (3, .int _ _)] ⟨rfl, rfl, rfl, rfl, trivial⟩ fun σ => ?_
      refine gseq fun N6 hN6 => ?_
      refine gseq fun N7 hN7 => ?_
      refine greg ?_
      refine gop (y_move (v := .int _ _) rfl) rfl rfl rfl ?_
      refine gop (y_lss rfl rfl) rfl rfl rfl ?_
      refine gops_nil ?_
      refine hN7 _ _ ?_
      refine gfrom [(0, .string _), (1, .string _), (2, .int _ _), (3, .int _ _), (20, .bool _)] ⟨rfl, rfl, rfl, rfl, rfl, trivial⟩ fun σ => ?_
      refine gcond (b := _) rfl (fun hc20 => ?_) (fun hc20 => ?_)
      · 
        replace hc20 := of_decide_eq_true hc20
        refine greg ?_
        refine gop (y_move (v := .string _) rfl) rfl rfl rfl ?_
        refine gop (y_move (v := .string _) rfl) rfl rfl rfl ?_
        refine gop_pure (e_call (vs := [.string _, .string _]) Tryd.func89 rfl (by kernel_rfl) rfl) (fun w hM => sCount_anyB w _) rfl rfl rfl ?_
        refine gop (y_add rfl rfl ⟨by omega, by omega⟩) rfl rfl rfl ?_
        refine gop (y_assign (v := .int _ _) rfl) rfl rfl rfl ?_
        refine gops_nil ?_
        refine hN6 _ _ ?_
        refine gfrom [(0, .string _), (1, .string _), (2, .int _ _), (3, .int _ _)] ⟨rfl, rfl, rfl, rfl, trivial⟩ fun σ => ?_
        refine gseq fun N8 hN8 => ?_
        refine greg ?_
        refine gop (y_move (v := .int _ _) rfl) rfl rfl rfl ?_
        refine gop (y_move (v := .string _) rfl) rfl rfl rfl ?_
        refine gop (y_lens Tryd.underlying9 rfl) rfl rfl rfl ?_
        refine gop (y_add rfl rfl ⟨by omega, by omega⟩) rfl rfl rfl ?_
        refine gop (y_min_l rfl rfl (show ((blanks s : Nat) : Int) + 1 ≤ (s.size : Int) + 1 by omega)) rfl rfl rfl ?_
        refine gop (y_assign (v := .int _ _) rfl) rfl rfl rfl ?_
        refine gops_nil ?_
        refine hN8 _ _ ?_
        refine gfrom [(0, .string _), (1, .string _), (2, .int _ _), (3, .int _ _)] ⟨rfl, rfl, rfl, rfl, trivial⟩ fun σ => ?_
        refine gseq fun N9 hN9 => ?_
        refine greg ?_
        refine gop (y_move (v := .int _ _) rfl) rfl rfl rfl ?_
        refine gop_make (f := strCells) (bytes := 16) (z := .string .empty) (ByteArray.empty) Tryd.underlying37 (by kernel_rfl) rfl rfl rfl (k := blanks s + 1) rfl rfl (by omega) (by simp [maxLen]; omega) rfl (fun b31 hb31 => ?_)
        refine gop (y_assign (v := .slice (some _) _ _) rfl) rfl rfl rfl ?_
        refine gops_nil ?_
        refine hN9 _ _ ?_
        refine gT [rowl _ _ _ _ _ _] rfl ?_
        refine gfrom [(0, .string _), (1, .string _), (2, .int _ _), (3, .int _ _), (9, .slice (some _) _ _)] ⟨rfl, rfl, rfl, rfl, rfl, trivial⟩ fun σ => ?_
        refine gseq fun N10 hN10 => ?_
        refine greg ?_
        refine gop (y_move (v := .int _ _) rfl) rfl rfl rfl ?_
        refine gop (y_sub rfl rfl ⟨by omega, by omega⟩) rfl rfl rfl ?_
        refine gop (y_assign (v := .int _ _) rfl) rfl rfl rfl ?_
        refine gops_nil ?_
        refine hN10 _ _ ?_
        refine gfrom [(0, .string _), (1, .string _), (2, .int _ _), (3, .int _ _), (9, .slice (some _) _ _)] ⟨rfl, rfl, rfl, rfl, rfl, trivial⟩ fun σ => ?_
        refine gseq fun N11 hN11 => ?_
        refine greg ?_
        refine gop (y_assign (v := .int _ _) rfl) rfl rfl rfl ?_
        refine gops_nil ?_
        refine hN11 _ _ ?_
        refine gfrom [(0, .string _), (1, .string _), (2, .int _ _), (3, .int _ _), (9, .slice (some _) _ _), (10, .int _ _)] ⟨rfl, rfl, rfl, rfl, rfl, rfl, trivial⟩ fun σ => ?_
        refine gseq fun N12 hN12 => ?_
        refine gblock ?_
        refine gfrom2 [(0, .string _), (10, .int _ _)] [(1, .string _), (2, .int _ _), (3, .int _ _), (9, .slice (some _) _ _)] ⟨rfl, rfl, trivial⟩ ⟨rfl, rfl, rfl, rfl, trivial⟩ fun σ => ?_
        refine gloop2 (G := Nat × ByteArray × List ByteArray) (fun (i, sc, pre) => i = pre.length ∧ pre ++ cutB sc = cutB s ∧ blanks sc + pre.length = blanks s ∧ sc.size ≤ s.size) (fun (i, sc, pre) => blanks s - pre.length) (fun (i, sc, pre) => [(0, .string sc), (10, .int .i64 (i : Int))]) (fun (i, sc, pre) => [(0, rowl strCells w.heap.size 9 1 (.slice (some ⟨b31, 0, none⟩) (blanks s + 1) (blanks s + 1)) (pre ++ List.replicate (blanks s + 1 - pre.length) ByteArray.empty))]) ((0, s, [])) ?h0 ⟨rfl, rfl, trivial⟩ ⟨rfl, rfl, rfl, rfl, trivial⟩ rfl ?round
        case h0 => exact ⟨rfl, rfl, rfl, Nat.le_refl _⟩
        case round =>
          rintro ⟨i, sc, pre⟩ hφ σ
          obtain ⟨hi, hp1, hp2, hp3⟩ := hφ
          refine gT [rowl _ _ _ _ _ _] rfl ?_
          refine gseq fun N13 hN13 => ?_
          refine gseq fun N14 hN14 => ?_
          refine greg ?_
          refine gop (y_move (v := .int _ _) rfl) rfl rfl rfl ?_
          refine gop (y_move (v := .int _ _) rfl) rfl rfl rfl ?_
          refine gop (y_lss rfl rfl) rfl rfl rfl ?_
          refine gops_nil ?_
          refine hN14 _ _ ?_
          refine gfrom [(0, .string _), (1, .string _), (2, .int _ _), (3, .int _ _), (9, .slice (some _) _ _), (10, .int _ _), (36, .bool _)] ⟨rfl, rfl, rfl, rfl, rfl, rfl, rfl, trivial⟩ fun σ => ?_
          refine gcond (b := _) rfl (fun hc36 => ?_) (fun hc36 => ?_)
          · 
            replace hc36 := of_decide_eq_true hc36
            obtain ⟨m, hm1, hm2, hm3, hm4⟩ := idx_hitB (s := sc) (by have h0 : ((i : Nat) : Int) < ((blanks s : Nat) : Int) + 1 - 1 := hc36; omega)
            refine gskip ?_
            refine hN13 _ _ ?_
            refine gfrom [(0, .string _), (1, .string _), (2, .int _ _), (3, .int _ _), (9, .slice (some _) _ _), (10, .int _ _)] ⟨rfl, rfl, rfl, rfl, rfl, rfl, trivial⟩ fun σ => ?_
            refine gblock ?_
            refine gseq fun N15 hN15 => ?_
            refine greg ?_
            refine gop (y_move (v := .string _) rfl) rfl rfl rfl ?_
            refine gop (y_move (v := .string _) rfl) rfl rfl rfl ?_
            refine gop_pure (e_call (vs := [.string _, .string _]) Tryd.func90 rfl (by kernel_rfl) rfl) (fun w hM => sIndex_anyB w _) rfl rfl rfl ?_
            refine gop (y_assign (v := .int _ _) rfl) rfl rfl rfl ?_
            refine gops_nil ?_
            refine hN15 _ _ ?_
            refine gfrom [(0, .string _), (1, .string _), (2, .int _ _), (3, .int _ _), (9, .slice (some _) _ _), (10, .int _ _), (11, .int _ _)] ⟨rfl, rfl, rfl, rfl, rfl, rfl, rfl, trivial⟩ fun σ => ?_
            refine gseq fun N16 hN16 => ?_
            refine gseq fun N17 hN17 => ?_
            refine greg ?_
            refine gop (y_move (v := .int _ _) rfl) rfl rfl rfl ?_
            refine gop (y_lss rfl rfl) rfl rfl rfl ?_
            refine gops_nil ?_
            refine hN17 _ _ ?_
            refine gfrom [(0, .string _), (1, .string _), (2, .int _ _), (3, .int _ _), (9, .slice (some _) _ _), (10, .int _ _), (11, .int _ _), (41, .bool _)] ⟨rfl, rfl, rfl, rfl, rfl, rfl, rfl, rfl, trivial⟩ fun σ => ?_
            refine gcond (b := _) rfl (fun hc41 => ?_) (fun hc41 => ?_)
            · 
               rw [hm1] at hc41; exact absurd hc41 (by simp)
            · 
              replace hc41 := of_decide_eq_false hc41
              refine gskip ?_
              refine hN16 _ _ ?_
              refine gfrom [(0, .string _), (1, .string _), (2, .int _ _), (3, .int _ _), (9, .slice (some _) _ _), (10, .int _ _), (11, .int _ _)] ⟨rfl, rfl, rfl, rfl, rfl, rfl, rfl, trivial⟩ fun σ => ?_
              refine gseq fun N18 hN18 => ?_
              refine greg ?_
              refine gop (y_move (v := .slice (some _) _ _) rfl) rfl rfl rfl ?_
              refine gop (y_move (v := .int _ _) rfl) rfl rfl rfl ?_
              refine gop (y_move (v := .string _) rfl) rfl rfl rfl ?_
              refine gop (y_move (v := .int _ _) rfl) rfl rfl rfl ?_
              refine gop (y_move (v := .int _ _) rfl) rfl rfl rfl ?_
              refine gop (y_add rfl rfl ⟨by omega, by omega⟩) rfl rfl rfl ?_
              refine gop (y_strslice_hi Tryd.underlying9 rfl rfl (by omega) (by omega)) rfl rfl rfl ?_
              refine gop (y_indexAddr (m := i) Tryd.underlying37 Tryd.sizeOf9 rfl rfl (by omega) (by omega) (by omega)) rfl rfl rfl ?_
              refine gop_store_row 0 (f := strCells) (l := pre ++ List.replicate (blanks s + 1 - pre.length) ByteArray.empty) (k := i) (o := 0) (v := .string _) (a := ByteArray.empty) (a' := sc.extract 0 m) (fun _ => rfl) rfl rfl rfl Tryd.sizeOf9 rfl rfl rfl rfl (by simp; omega) (by rw [hi, List.getElem?_append_right (Nat.le_refl _), Nat.sub_self, List.getElem?_replicate, if_pos (by omega)]) (Nat.le_of_ble_eq_true rfl) (by rw [hm1]; rfl) rfl ?_
              refine gops_nil ?_
              refine hN18 _ _ ?_
              refine gT [rowl _ _ _ _ _ _] rfl ?_
              refine gfrom [(0, .string _), (1, .string _), (2, .int _ _), (3, .int _ _), (9, .slice (some _) _ _), (10, .int _ _), (11, .int _ _)] ⟨rfl, rfl, rfl, rfl, rfl, rfl, rfl, trivial⟩ fun σ => ?_
              refine gseq fun N19 hN19 => ?_
              refine greg ?_
              refine gop (y_move (v := .string _) rfl) rfl rfl rfl ?_
              refine gop (y_move (v := .int _ _) rfl) rfl rfl rfl ?_
              refine gop (y_move (v := .string _) rfl) rfl rfl rfl ?_
              refine gop (y_lens Tryd.underlying9 rfl) rfl rfl rfl ?_
              refine gop (y_add rfl rfl ⟨by omega, by omega⟩) rfl rfl rfl ?_
              refine gop (y_strslice_lo Tryd.underlying9 rfl rfl (by omega) (by omega)) rfl rfl rfl ?_
              refine gop (y_assign (v := .string _) rfl) rfl rfl rfl ?_
              refine gops_nil ?_
              refine hN19 _ _ ?_
              refine gfrom [(0, .string _), (1, .string _), (2, .int _ _), (3, .int _ _), (9, .slice (some _) _ _), (10, .int _ _)] ⟨rfl, rfl, rfl, rfl, rfl, rfl, trivial⟩ fun σ => ?_
              refine greg ?_
              refine gop (y_move (v := .int _ _) rfl) rfl rfl rfl ?_
              refine gop (y_add rfl rfl ⟨by omega, by omega⟩) rfl rfl rfl ?_
              refine gop (y_assign (v := .int _ _) rfl) rfl rfl rfl ?_
              refine gops_nil ?_
              rw [show (pre ++ List.replicate (blanks s + 1 - pre.length) ByteArray.empty).set i (sc.extract 0 m) = (pre ++ [sc.extract 0 m]) ++ List.replicate (blanks s + 1 - (pre ++ [sc.extract 0 m]).length) ByteArray.empty from by rw [hi]; exact set_pre (by omega)]
              refine gnext2 ((i + 1, sc.extract (Lib.indexByte sc.data.toList 32 + ((⟨#[32]⟩ : ByteArray).size : Int)).toNat sc.size, pre ++ [sc.extract 0 m])) (by show blanks s - (pre ++ [sc.extract 0 m]).length < blanks s - pre.length; simp; omega) (by rw [show (Lib.indexByte sc.data.toList 32 + ((⟨#[32]⟩ : ByteArray).size : Int)).toNat = m + 1 by omega]; exact ⟨by simp [hi], by rw [← hp1, hm3]; simp, by simp; omega, by simp; omega⟩) ⟨rfl, rfl, trivial⟩ ⟨rfl, rfl, rfl, rfl, trivial⟩ ⟨_, rfl⟩
          · 
            replace hc36 := of_decide_eq_false hc36
            have hpl : pre.length = blanks s := by have h0 : ¬ ((i : Nat) : Int) < ((blanks s : Nat) : Int) + 1 - 1 := hc36; omega
            refine gexit ?_
            refine hN12 _ _ ?_
            refine gfrom [(0, .string _), (9, .slice (some _) _ _), (10, .int _ _)] ⟨rfl, rfl, rfl, trivial⟩ fun σ => ?_
            refine gseq fun N20 hN20 => ?_
            refine greg ?_
            refine gop (y_move (v := .slice (some _) _ _) rfl) rfl rfl rfl ?_
            refine gop (y_move (v := .int _ _) rfl) rfl rfl rfl ?_
            refine gop (y_move (v := .string _) rfl) rfl rfl rfl ?_
            refine gop (y_indexAddr (m := i) Tryd.underlying37 Tryd.sizeOf9 rfl rfl (by omega) (by omega) (by omega)) rfl rfl rfl ?_
            refine gop_store_row 0 (f := strCells) (l := pre ++ List.replicate (blanks s + 1 - pre.length) ByteArray.empty) (k := i) (o := 0) (v := .string _) (a := ByteArray.empty) (a' := sc) (fun _ => rfl) rfl rfl rfl Tryd.sizeOf9 rfl rfl rfl rfl (by simp; omega) (by rw [hi, List.getElem?_append_right (Nat.le_refl _), Nat.sub_self, List.getElem?_replicate, if_pos (by omega)]) (Nat.le_of_ble_eq_true rfl) rfl rfl ?_
            refine gops_nil ?_
            refine hN20 _ _ ?_
            refine gT [rowl _ _ _ _ _ _] rfl ?_
            refine gfrom [(9, .slice (some _) _ _), (10, .int _ _)] ⟨rfl, rfl, trivial⟩ fun σ => ?_
            refine gseq fun N21 hN21 => ?_
            refine greg ?_
            refine gop (y_move (v := .slice (some _) _ _) rfl) rfl rfl rfl ?_
            refine gop (y_move (v := .int _ _) rfl) rfl rfl rfl ?_
            refine gop (y_add rfl rfl ⟨by omega, by omega⟩) rfl rfl rfl ?_
            refine gop (y_slice_hi Tryd.underlying37 Tryd.sizeOf9 rfl rfl (by omega) (by omega)) rfl rfl rfl ?_
            refine gop (y_assign (v := .slice _ _ _) rfl) rfl rfl rfl ?_
            refine gops_nil ?_
            refine hN21 _ _ ?_
            refine gfrom [(8, .slice _ _ _)] ⟨rfl, trivial⟩ fun σ => ?_
            refine gret fun w1 hM => ?_
            refine ⟨_, res1 rfl (rt (v := .slice _ _ _) rfl), ?_⟩
            have hl : (pre ++ List.replicate (blanks s + 1 - pre.length) ByteArray.empty).set i sc = cutB s := by rw [hi, set_pre (by omega), ← hp1, (idx_missB (s := sc) (by omega)).2, show blanks s + 1 - (pre ++ [sc]).length = 0 by simp; omega]; simp
            rw [hl] at hM
            have hi1 : i = blanks s := by omega
            subst hi1
            exact ⟨_, _, rfl, rfl, hM⟩
      · 
         exact absurd hc20 (by decide)
set_option maxHeartbeats 1000000 in
theorem split_anyB (w : World) (s : ByteArray) (hs : s.size ≤ 4000000) :
    Calls Tryd.prog 44 #[.string s, .string ⟨#[32]⟩] w fun e w' => ∃ v T', e = .returned v ∧ T' = [rowl strCells w.heap.size 9 1 v (cutB s)] ∧ Mem w T' w' := by
  refine gcalls Tryd.func44 rfl Tryd.ntmps44 (Nat.le_of_ble_eq_true rfl) ?_
  refine gfrom [(0, .string _), (1, .string _)] ⟨rfl, rfl, trivial⟩ fun σ => ?_
  refine gseq fun N1 hN1 => ?_
  refine greg ?_
  refine gop (y_assign (v := .slice _ _ _) rfl) rfl rfl rfl ?_
  refine gops_nil ?_
  refine hN1 _ _ ?_
  refine gfrom [(0, .string _), (1, .string _)] ⟨rfl, rfl, trivial⟩ fun σ => ?_
  refine gseq fun N2 hN2 => ?_
  refine greg ?_
  refine gop (y_move (v := .string _) rfl) rfl rfl rfl ?_
  refine gop (y_move (v := .string _) rfl) rfl rfl rfl ?_
  refine gop_got (fun v T' => ∃ lo, w.heap.size ≤ lo ∧ T' = [rowl strCells lo 9 1 v (cutB s)]) (e_call (vs := [.string _, .string _, _, _]) Tryd.func70 rfl (by kernel_rfl) rfl) (fun w hM => (genSplit_anyB w s hs).mono fun _ _ ⟨v, T1, h1, h2, h3⟩ => ⟨v, T1, h1, ⟨_, hM.low.size, h2⟩, h3⟩) rfl rfl rfl ?_
  rintro v7 _ ⟨lo7, hlo7, rfl⟩
  refine gops_fact (fun w hM => row_form (hM.ok _ (List.mem_of_getElem? (i := 0) rfl))) ?_
  rintro ⟨A7, c7, rfl, hc7, hm7, hn7⟩
  refine gop (y_assign (v := .slice A7 _ c7) rfl) rfl rfl rfl ?_
  refine gops_nil ?_
  refine hN2 _ _ ?_
  refine gT [rowl _ _ _ _ _ _] rfl ?_
  refine gfrom [(4, .slice A7 _ c7)] ⟨rfl, trivial⟩ fun σ => ?_
  refine gret fun w1 hM => ?_
  refine ⟨_, res1 rfl (rt (v := .slice A7 _ c7) rfl), ?_⟩
  exact ⟨_, _, rfl, rfl, weak_lower 0 rfl hlo7 _ hM⟩
set_option maxHeartbeats 1000000 in
theorem slIndexByte_any (w : World) (s : ByteArray) (c : Int) : Calls Tryd.prog 78 #[.string s, .int .u8 c] w fun e w' => e = .returned (.int .i64 (firstIdx s c.toNat.toUInt8)) ∧ Below w.heap.size w w' := by
  refine gcalls Tryd.func78 rfl Tryd.ntmps78 (Nat.le_of_ble_eq_true rfl) ?_
  refine gfrom [(0, .string _), (1, .int _ _)] ⟨rfl, rfl, trivial⟩ fun σ => ?_
  refine gseq fun N1 hN1 => ?_
  refine greg ?_
  refine gop (y_assign (v := .int _ _) rfl) rfl rfl rfl ?_
  refine gops_nil ?_
  refine hN1 _ _ ?_
  refine gfrom [(0, .string _), (1, .int _ _)] ⟨rfl, rfl, trivial⟩ fun σ => ?_
  refine gseq fun N2 hN2 => ?_
  refine greg ?_
  refine gop (y_move (v := .string _) rfl) rfl rfl rfl ?_
  refine gop (y_move (v := .int _ _) rfl) rfl rfl rfl ?_
  refine gop (y_indexByte Tryd.func95 (by kernel_rfl) (by kernel_rfl) (by kernel_rfl) (by kernel_rfl) rfl rfl) rfl rfl rfl ?_
  refine gop (y_assign (v := .int _ _) rfl) rfl rfl rfl ?_
  refine gops_nil ?_
  refine hN2 _ _ ?_
  refine gfrom [(4, .int _ _)] ⟨rfl, trivial⟩ fun σ => ?_
  refine gret fun w1 hM => ?_
  refine ⟨_, res1 rfl (rt (v := .int _ _) rfl), ?_⟩
  exact ⟨rfl, hM.low⟩
set_option maxHeartbeats 1000000 in
theorem indexByte_any (w : World) (s : ByteArray) (c : Int) : Calls Tryd.prog 58 #[.string s, .int .u8 c] w fun e w' => e = .returned (.int .i64 (firstIdx s c.toNat.toUInt8)) ∧ Below w.heap.size w w' := by
  refine gcalls Tryd.func58 rfl Tryd.ntmps58 (Nat.le_of_ble_eq_true rfl) ?_
  refine gfrom [(0, .string _), (1, .int _ _)] ⟨rfl, rfl, trivial⟩ fun σ => ?_
  refine gseq fun N1 hN1 => ?_
  refine greg ?_
  refine gop (y_assign (v := .int _ _) rfl) rfl rfl rfl ?_
  refine gops_nil ?_
  refine hN1 _ _ ?_
  refine gfrom [(0, .string _), (1, .int _ _)] ⟨rfl, rfl, trivial⟩ fun σ => ?_
  refine gseq fun N2 hN2 => ?_
  refine greg ?_
  refine gop (y_move (v := .string _) rfl) rfl rfl rfl ?_
  refine gop (y_move (v := .int _ _) rfl) rfl rfl rfl ?_
  refine gop_pure (e_call (vs := [.string _, .int _ _]) Tryd.func78 rfl (by kernel_rfl) rfl) (fun w hM => slIndexByte_any w _ _) rfl rfl rfl ?_
  refine gop (y_assign (v := .int _ _) rfl) rfl rfl rfl ?_
  refine gops_nil ?_
  refine hN2 _ _ ?_
  refine gfrom [(4, .int _ _)] ⟨rfl, trivial⟩ fun σ => ?_
  refine gret fun w1 hM => ?_
  refine ⟨_, res1 rfl (rt (v := .int _ _) rfl), ?_⟩
  exact ⟨rfl, hM.low⟩
set_option maxHeartbeats 1000000 in
theorem linesValidate_any (w : World) (A : Option Addr) (c : Nat) (l : List ByteArray) (hl : Rdl w 0 1 strCells A l) (hm : l.length ≤ maxLen) : Calls Tryd.prog 29 #[.slice A l.length c] w fun e w' => e = .returned (fv (linesF l)) ∧ Below w.heap.size w w' := by
  unfold maxLen at hm
  refine gcalls Tryd.func29 rfl Tryd.ntmps29 (Nat.le_of_ble_eq_true rfl) ?_
  refine gfrom [(0, .slice _ _ _)] ⟨rfl, trivial⟩ fun σ => ?_
  refine gseq fun N1 hN1 => ?_
  refine greg ?_
  refine gop_alloc (cs := #[.int .i64 0, .int .i64 0]) Tryd.zeroValue23 rfl rfl (fun b2 hb2 => ?_)
  refine gops_nil ?_
  refine hN1 _ _ ?_
  refine gT [box b2 _] rfl ?_
  refine gfrom [(0, .slice _ _ _), (2, .pointer _)] ⟨rfl, rfl, trivial⟩ fun σ => ?_
  refine gseq fun N2 hN2 => ?_
  refine gseq fun N3 hN3 => ?_
  refine greg ?_
  refine gop (y_move (v := .slice _ _ _) rfl) rfl rfl rfl ?_
  refine gop (y_len Tryd.underlying37 rfl) rfl rfl rfl ?_
  refine gop (y_gtr rfl rfl) rfl rfl rfl ?_
  refine gops_nil ?_
  refine hN3 _ _ ?_
  refine gfrom [(0, .slice _ _ _), (2, .pointer _), (7, .bool _)] ⟨rfl, rfl, rfl, trivial⟩ fun σ => ?_
  refine gcond (b := _) rfl (fun hc7 => ?_) (fun hc7 => ?_)
  · 
    replace hc7 := of_decide_eq_true hc7
    have hF : linesF l = ⟨2, -1⟩ := by rw [linesF, if_pos (by omega)]
    refine gseq fun N4 hN4 => ?_
    refine greg ?_
    refine gop (y_build (vs := [(0, _), (1, _)]) (cells := #[_, _]) rfl (bd23_0_1 _ _)) rfl rfl rfl ?_
    refine gop_store 0 (v := .agg #[_, _]) (cs' := #[_, _]) rfl rfl Tryd.sizeOf23 rfl rfl rfl rfl (Nat.le_of_ble_eq_true rfl) rfl rfl ?_
    refine gops_nil ?_
    refine hN4 _ _ ?_
    refine gT [box b2 _] rfl ?_
    refine gfrom [(2, .pointer _)] ⟨rfl, trivial⟩ fun σ => ?_
    refine gret fun w1 hM => ?_
    refine ⟨_, res1 rfl (rc 0 (cs := [_, _]) hM rfl rfl Tryd.isAgg23 Tryd.sizeOf23 rfl), ?_⟩
    exact ⟨by rw [hF], hM.low⟩
  · 
    replace hc7 := of_decide_eq_false hc7
    have hF : linesF l = scan (fun _ s => lineCode s) l := by rw [linesF, if_neg (by omega)]
    refine gskip ?_
    refine hN2 _ _ ?_
    refine gfrom [(0, .slice _ _ _), (2, .pointer _)] ⟨rfl, rfl, trivial⟩ fun σ => ?_
    refine gseq fun N5 hN5 => ?_
    refine gseq fun N6 hN6 => ?_
    refine greg ?_
    refine gop (y_move (v := .slice _ _ _) rfl) rfl rfl rfl ?_
    refine gop (y_len Tryd.underlying37 rfl) rfl rfl rfl ?_
    refine gop (y_move (v := .int _ _) rfl) rfl rfl rfl ?_
    refine gops_nil ?_
    refine hN6 _ _ ?_
    refine gfrom [(2, .pointer _), (9, .slice _ _ _), (10, .int _ _), (11, .int _ _)] ⟨rfl, rfl, rfl, rfl, trivial⟩ fun σ => ?_
    refine gblock ?_
    refine gfrom2 [(11, .int _ _)] [(2, .pointer _), (9, .slice _ _ _), (10, .int _ _)] ⟨rfl, trivial⟩ ⟨rfl, rfl, rfl, trivial⟩ fun σ => ?_
    refine gloop2 (G := Nat) (fun k => k ≤ l.length ∧ ∀ j (h : j < l.length), j < k → lineCode l[j] = 0) (fun k => l.length - k) (fun k => [(11, .int .i64 (k : Int))]) (fun k => []) (0) ?h0 ⟨rfl, trivial⟩ ⟨rfl, rfl, rfl, trivial⟩ rfl ?round
    case h0 => exact ⟨Nat.zero_le _, fun _ _ h => absurd h (by omega)⟩
    case round =>
      intro k hφ σ
      obtain ⟨hk, hz⟩ := hφ
      refine gseq fun N7 hN7 => ?_
      refine greg ?_
      refine gop (y_lss rfl rfl) rfl rfl rfl ?_
      refine gops_nil ?_
      refine hN7 _ _ ?_
      refine gfrom [(2, .pointer _), (9, .slice _ _ _), (10, .int _ _), (11, .int _ _), (12, .bool _)] ⟨rfl, rfl, rfl, rfl, rfl, trivial⟩ fun σ => ?_
      refine gseq fun N8 hN8 => ?_
      refine gcond (b := _) rfl (fun hc12 => ?_) (fun hc12 => ?_)
      · 
        replace hc12 := of_decide_eq_true hc12
        have hk1 : k < l.length := by omega
        obtain ⟨ad, rfl, -, hca⟩ := hl.at_ hk1
        refine gskip ?_
        refine hN8 _ _ ?_
        refine gfrom [(2, .pointer _), (9, .slice _ _ _), (10, .int _ _), (11, .int _ _)] ⟨rfl, rfl, rfl, rfl, trivial⟩ fun σ => ?_
        refine gseq fun N9 hN9 => ?_
        refine gblock ?_
        refine gseq fun N10 hN10 => ?_
        refine greg ?_
        refine gop (y_move (v := .int _ _) rfl) rfl rfl rfl ?_
        refine gop (y_indexAddr Tryd.underlying37 Tryd.sizeOf9 rfl rfl rfl (by omega) (by omega)) rfl rfl rfl ?_
        refine gop (y_load Tryd.isAgg9 rfl (cell_base (hca 0 _ rfl))) rfl rfl rfl ?_
        refine gop (y_assign (v := .int _ _) rfl) rfl rfl rfl ?_
        refine gop (y_assign (v := .string _) rfl) rfl rfl rfl ?_
        refine gops_nil ?_
        refine hN10 _ _ ?_
        refine gfrom [(2, .pointer _), (3, .int _ _), (4, .string _), (9, .slice _ _ _), (10, .int _ _), (11, .int _ _)] ⟨rfl, rfl, rfl, rfl, rfl, rfl, trivial⟩ fun σ => ?_
        refine gseq fun N11 hN11 => ?_
        refine gseq fun N12 hN12 => ?_
        refine greg ?_
        refine gop (y_move (v := .string _) rfl) rfl rfl rfl ?_
        refine gop (y_lens Tryd.underlying9 rfl) rfl rfl rfl ?_
        refine gop (y_gtr rfl rfl) rfl rfl rfl ?_
        refine gops_nil ?_
        refine hN12 _ _ ?_
        refine gfrom [(2, .pointer _), (3, .int _ _), (4, .string _), (9, .slice _ _ _), (10, .int _ _), (11, .int _ _), (18, .bool _)] ⟨rfl, rfl, rfl, rfl, rfl, rfl, rfl, trivial⟩ fun σ => ?_
        refine gcond (b := _) rfl (fun hc18 => ?_) (fun hc18 => ?_)
        · 
          replace hc18 := of_decide_eq_true hc18
          have hcd : lineCode l[k] = 2 := by rw [lineCode, if_pos (by omega)]
          refine gseq fun N13 hN13 => ?_
          refine greg ?_
          refine gop (y_move (v := .int _ _) rfl) rfl rfl rfl ?_
          refine gop (y_build (vs := [(0, _), (1, .int _ _)]) (cells := #[_, _]) rfl (bd23_0_1 _ _)) rfl rfl rfl ?_
          refine gop_store 0 (v := .agg #[_, _]) (cs' := #[_, _]) rfl rfl Tryd.sizeOf23 rfl rfl rfl rfl (Nat.le_of_ble_eq_true rfl) rfl rfl ?_
          refine gops_nil ?_
          refine hN13 _ _ ?_
          refine gT [box b2 _] rfl ?_
          refine gfrom [(2, .pointer _)] ⟨rfl, trivial⟩ fun σ => ?_
          refine gret fun w1 hM => ?_
          refine ⟨_, res1 rfl (rc 0 (cs := [_, _]) hM rfl rfl Tryd.isAgg23 Tryd.sizeOf23 rfl), ?_⟩
          exact ⟨by rw [hF, scan_at hk1 hz (by rw [hcd]; decide), hcd], hM.low⟩
        · 
          replace hc18 := of_decide_eq_false hc18
          refine gskip ?_
          refine hN11 _ _ ?_
          refine gfrom [(2, .pointer _), (3, .int _ _), (4, .string _), (9, .slice _ _ _), (10, .int _ _), (11, .int _ _)] ⟨rfl, rfl, rfl, rfl, rfl, rfl, trivial⟩ fun σ => ?_
          refine gseq fun N14 hN14 => ?_
          refine greg ?_
          refine gop (y_move (v := .string _) rfl) rfl rfl rfl ?_
          refine gop_pure (e_call (vs := [.string _, _]) Tryd.func58 rfl (by kernel_rfl) rfl) (fun w hM => indexByte_any w _ _) rfl rfl rfl ?_
          refine gop (y_geq rfl rfl) rfl rfl rfl ?_
          refine gops_nil ?_
          refine hN14 _ _ ?_
          refine gfrom [(2, .pointer _), (3, .int _ _), (9, .slice _ _ _), (10, .int _ _), (11, .int _ _), (23, .bool _)] ⟨rfl, rfl, rfl, rfl, rfl, rfl, trivial⟩ fun σ => ?_
          refine gcond (b := _) rfl (fun hc23 => ?_) (fun hc23 => ?_)
          · 
            replace hc23 := of_decide_eq_true hc23
            have hcd : lineCode l[k] = 5 := by rw [lineCode, if_neg (by omega), if_pos (show 0 ≤ firstIdx l[k] 10 from hc23)]
            refine gseq fun N15 hN15 => ?_
            refine greg ?_
            refine gop (y_move (v := .int _ _) rfl) rfl rfl rfl ?_
            refine gop (y_build (vs := [(0, _), (1, .int _ _)]) (cells := #[_, _]) rfl (bd23_0_1 _ _)) rfl rfl rfl ?_
            refine gop_store 0 (v := .agg #[_, _]) (cs' := #[_, _]) rfl rfl Tryd.sizeOf23 rfl rfl rfl rfl (Nat.le_of_ble_eq_true rfl) rfl rfl ?_
            refine gops_nil ?_
            refine hN15 _ _ ?_
            refine gT [box b2 _] rfl ?_
            refine gfrom [(2, .pointer _)] ⟨rfl, trivial⟩ fun σ => ?_
            refine gret fun w1 hM => ?_
            refine ⟨_, res1 rfl (rc 0 (cs := [_, _]) hM rfl rfl Tryd.isAgg23 Tryd.sizeOf23 rfl), ?_⟩
            exact ⟨by rw [hF, scan_at hk1 hz (by rw [hcd]; decide), hcd], hM.low⟩
          · 
            replace hc23 := of_decide_eq_false hc23
            refine gskip ?_
            refine hN9 _ _ ?_
            refine gfrom [(2, .pointer _), (9, .slice _ _ _), (10, .int _ _), (11, .int _ _)] ⟨rfl, rfl, rfl, rfl, trivial⟩ fun σ => ?_
            refine greg ?_
            refine gop (y_add rfl rfl ⟨by omega, by omega⟩) rfl rfl rfl ?_
            refine gop (y_move (v := .int _ _) rfl) rfl rfl rfl ?_
            refine gops_nil ?_
            refine gnext2 (k + 1) (by omega) (⟨by omega, fun j h hj => by rcases Nat.lt_succ_iff_lt_or_eq.1 hj with h1 | rfl; exact hz j h h1; unfold lineCode; rw [if_neg (by omega), if_neg (show ¬ 0 ≤ firstIdx l[j] 10 from hc23)]⟩) ⟨rfl, trivial⟩ ⟨rfl, rfl, rfl, trivial⟩ ⟨_, rfl⟩
      · 
        replace hc12 := of_decide_eq_false hc12
        have hF2 : linesF l = ⟨0, 0⟩ := by rw [hF]; exact scan_ok fun j hj => hz j hj (by omega)
        refine gexit ?_
        refine hN5 _ _ ?_
        refine gfrom [(2, .pointer _)] ⟨rfl, trivial⟩ fun σ => ?_
        refine gseq fun N16 hN16 => ?_
        refine greg ?_
        refine gop (y_build (vs := []) (cells := #[.int .i64 0, .int .i64 0]) rfl bd23_) rfl rfl rfl ?_
        refine gop_store 0 (v := .agg #[_, _]) (cs' := #[_, _]) rfl rfl Tryd.sizeOf23 rfl rfl rfl rfl (Nat.le_of_ble_eq_true rfl) rfl rfl ?_
        refine gops_nil ?_
        refine hN16 _ _ ?_
        refine gT [box b2 _] rfl ?_
        refine gfrom [(2, .pointer _)] ⟨rfl, trivial⟩ fun σ => ?_
        refine gret fun w1 hM => ?_
        refine ⟨_, res1 rfl (rc 0 (cs := [_, _]) hM rfl rfl Tryd.isAgg23 Tryd.sizeOf23 rfl), ?_⟩
        exact ⟨by rw [hF2], hM.low⟩
end Go.Proofs.YtijpaljdclhehaaDoor
