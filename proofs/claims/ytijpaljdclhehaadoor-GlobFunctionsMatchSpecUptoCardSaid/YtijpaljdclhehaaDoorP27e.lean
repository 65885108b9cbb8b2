/- Own frame, plain models and walks, part 5 (texts of this claim put together). -/
import Derived.Test.YtijpaljdclhehaaDoorP27d
namespace Go.Proofs.YtijpaljdclhehaaDoor
open Go.RowKit Go.Cf
set_option maxRecDepth 10000
set_option maxHeartbeats 4000000 in
theorem partMatches_any (w : World) (p s : ByteArray) (hp : p.size ≤ 4000000) (hs : s.size ≤ 4000000) : Calls Tryd.prog 66 #[.string p, .string s] w fun e w' => e = .returned (.bool (nameM p s)) ∧ Below w.heap.size w w' := by
  refine gcalls Tryd.func66 rfl Tryd.ntmps66 (Nat.le_of_ble_eq_true rfl) ?_
  refine gfrom [(0, .string _), (1, .string _)] ⟨rfl, rfl, trivial⟩ fun σ => ?_
  refine gseq fun N1 hN1 => ?_
  refine greg ?_
  refine gop (y_assign (v := .bool _) rfl) rfl rfl rfl ?_
  refine gops_nil ?_
  refine hN1 _ _ ?_
  refine gfrom [(0, .string _), (1, .string _)] ⟨rfl, rfl, trivial⟩ fun σ => ?_
  refine gseq fun N2 hN2 => ?_
  refine greg ?_
  refine gop (y_move (v := .string _) rfl) rfl rfl rfl ?_
  refine gop (y_lens Tryd.underlying9 rfl) rfl rfl rfl ?_
  refine gop (y_add rfl rfl ⟨by omega, by omega⟩) rfl rfl rfl ?_
  refine gop_make (f := boolCells) (bytes := 1) (z := .bool false) (false) Tryd.underlying82 (by kernel_rfl) rfl rfl rfl (k := s.size + 1) rfl rfl (by omega) (by simp [maxLen]; omega) rfl (fun b12 hb12 => ?_)
  refine gop (y_assign (v := .slice (some _) _ _) rfl) rfl rfl rfl ?_
  refine gops_nil ?_
  refine hN2 _ _ ?_
  refine gT [rowl _ _ _ _ _ _] rfl ?_
  refine gfrom [(0, .string _), (1, .string _), (5, .slice (some _) _ _)] ⟨rfl, rfl, rfl, trivial⟩ fun σ => ?_
  refine gseq fun N3 hN3 => ?_
  refine greg ?_
  refine gop (y_move (v := .slice (some _) _ _) rfl) rfl rfl rfl ?_
  refine gop (y_indexAddr Tryd.underlying82 Tryd.sizeOf4 rfl rfl rfl (by omega) (by omega)) rfl rfl rfl ?_
  refine gop_store_row 0 (f := boolCells) (l := List.replicate (s.size + 1) false) (k := 0) (o := 0) (v := .bool _) (a := false) (a' := true) (fun _ => rfl) rfl rfl rfl Tryd.sizeOf4 rfl rfl rfl rfl (by simp) (by simp) (Nat.le_of_ble_eq_true rfl) rfl rfl ?_
  refine gops_nil ?_
  refine hN3 _ _ ?_
  refine gT [rowl _ _ _ _ _ _] rfl ?_
  refine gfrom [(0, .string _), (1, .string _), (5, .slice (some _) _ _)] ⟨rfl, rfl, rfl, trivial⟩ fun σ => ?_
  refine gseq fun N4 hN4 => ?_
  refine gseq fun N5 hN5 => ?_
  refine greg ?_
  refine gop (y_assign (v := .int _ _) rfl) rfl rfl rfl ?_
  refine gops_nil ?_
  refine hN5 _ _ ?_
  refine gfrom [(0, .string _), (1, .string _), (5, .slice (some _) _ _), (6, .int _ _)] ⟨rfl, rfl, rfl, rfl, trivial⟩ fun σ => ?_
  refine gblock ?_
  rw [dp_first s.size (starP p) (charP p s)]
  refine gfrom2 [(5, .slice (some _) _ _), (6, .int _ _)] [(0, .string _), (1, .string _)] ⟨rfl, rfl, trivial⟩ ⟨rfl, rfl, trivial⟩ fun σ => ?_
  refine gloop2 (G := Nat × Nat) (fun (i, g) => i ≤ p.size) (fun (i, g) => p.size - i) (fun (i, g) => [(5, .slice (some ⟨g, 0, none⟩) (s.size + 1) (s.size + 1)), (6, .int .i64 (i : Int))]) (fun (i, g) => [(0, rowl boolCells w.heap.size 4 1 (.slice (some ⟨g, 0, none⟩) (s.size + 1) (s.size + 1)) (dpRow s.size (dp (starP p) (charP p s) i)))]) ((0, b12)) ?h0 ⟨rfl, rfl, trivial⟩ ⟨rfl, rfl, trivial⟩ rfl ?round
  case h0 => exact Nat.zero_le _
  case round =>
    rintro ⟨i, g⟩ hφ σ
    have hi : i ≤ p.size := hφ
    refine gT [rowl _ _ _ _ _ _] rfl ?_
    refine gseq fun N6 hN6 => ?_
    refine gseq fun N7 hN7 => ?_
    refine greg ?_
    refine gop (y_move (v := .int _ _) rfl) rfl rfl rfl ?_
    refine gop (y_move (v := .string _) rfl) rfl rfl rfl ?_
    refine gop (y_lens Tryd.underlying9 rfl) rfl rfl rfl ?_
    refine gop (y_lss rfl rfl) rfl rfl rfl ?_
    refine gops_nil ?_
    refine hN7 _ _ ?_
    refine gfrom [(0, .string _), (1, .string _), (5, .slice (some ⟨g, 0, none⟩) _ _), (6, .int _ _), (18, .bool _)] ⟨rfl, rfl, rfl, rfl, rfl, trivial⟩ fun σ => ?_
    refine gcond (b := _) rfl (fun hc18 => ?_) (fun hc18 => ?_)
    · 
      replace hc18 := of_decide_eq_true hc18
      refine gskip ?_
      refine hN6 _ _ ?_
      refine gfrom [(0, .string _), (1, .string _), (5, .slice (some ⟨g, 0, none⟩) _ _), (6, .int _ _)] ⟨rfl, rfl, rfl, rfl, trivial⟩ fun σ => ?_
      refine gseq fun N8 hN8 => ?_
      refine gblock ?_
      refine gseq fun N9 hN9 => ?_
      refine greg ?_
      refine gop (y_move (v := .string _) rfl) rfl rfl rfl ?_
      refine gop (y_lens Tryd.underlying9 rfl) rfl rfl rfl ?_
      refine gop (y_add rfl rfl ⟨by omega, by omega⟩) rfl rfl rfl ?_
      refine gop_make (f := boolCells) (bytes := 1) (z := .bool false) (false) Tryd.underlying82 (by kernel_rfl) rfl rfl rfl (k := s.size + 1) rfl rfl (by omega) (by simp [maxLen]; omega) rfl (fun b24 hb24 => ?_)
      refine gop (y_assign (v := .slice (some _) _ _) rfl) rfl rfl rfl ?_
      refine gops_nil ?_
      refine hN9 _ _ ?_
      refine gT [rowl _ _ _ _ _ _, rowl _ _ _ _ _ _] rfl ?_
      refine gfrom [(0, .string _), (1, .string _), (5, .slice (some ⟨g, 0, none⟩) _ _), (6, .int _ _), (7, .slice (some _) _ _)] ⟨rfl, rfl, rfl, rfl, rfl, trivial⟩ fun σ => ?_
      refine gseq fun N10 hN10 => ?_
      refine gseq fun N11 hN11 => ?_
      refine greg ?_
      refine gop (y_assign (v := .int _ _) rfl) rfl rfl rfl ?_
      refine gops_nil ?_
      refine hN11 _ _ ?_
      refine gfrom [(0, .string _), (1, .string _), (5, .slice (some ⟨g, 0, none⟩) _ _), (6, .int _ _), (7, .slice (some _) _ _), (8, .int _ _)] ⟨rfl, rfl, rfl, rfl, rfl, rfl, trivial⟩ fun σ => ?_
      refine gblock ?_
      rw [← dpPart_zero s.size (dp (starP p) (charP p s) (i + 1))]
      refine gfrom2 [(8, .int _ _)] [(0, .string _), (1, .string _), (5, .slice (some ⟨g, 0, none⟩) _ _), (6, .int _ _), (7, .slice (some _) _ _)] ⟨rfl, trivial⟩ ⟨rfl, rfl, rfl, rfl, rfl, trivial⟩ fun σ => ?_
      refine gloop2 (G := Nat) (fun k => k ≤ s.size + 1) (fun k => s.size + 1 - k) (fun k => [(8, .int .i64 (k : Int))]) (fun k => [(1, rowl boolCells w.heap.size 4 1 (.slice (some ⟨b24, 0, none⟩) (s.size + 1) (s.size + 1)) (dpPart s.size k (dp (starP p) (charP p s) (i + 1))))]) (0) ?h0 ⟨rfl, trivial⟩ ⟨rfl, rfl, rfl, rfl, rfl, trivial⟩ rfl ?round
      case h0 => exact Nat.zero_le _
      case round =>
        intro k hφ σ
        have hk : k ≤ s.size + 1 := hφ
        refine gT [rowl _ _ _ _ _ _, rowl _ _ _ _ _ _] rfl ?_
        refine gseq fun N12 hN12 => ?_
        refine gseq fun N13 hN13 => ?_
        refine greg ?_
        refine gop (y_move (v := .int _ _) rfl) rfl rfl rfl ?_
        refine gop (y_move (v := .string _) rfl) rfl rfl rfl ?_
        refine gop (y_lens Tryd.underlying9 rfl) rfl rfl rfl ?_
        refine gop (y_leq rfl rfl) rfl rfl rfl ?_
        refine gops_nil ?_
        refine hN13 _ _ ?_
        refine gfrom [(0, .string _), (1, .string _), (5, .slice (some ⟨g, 0, none⟩) _ _), (6, .int _ _), (7, .slice (some _) _ _), (8, .int _ _), (28, .bool _)] ⟨rfl, rfl, rfl, rfl, rfl, rfl, rfl, trivial⟩ fun σ => ?_
        refine gcond (b := _) rfl (fun hc28 => ?_) (fun hc28 => ?_)
        · 
          replace hc28 := of_decide_eq_true hc28
          refine gskip ?_
          refine hN12 _ _ ?_
          refine gfrom [(0, .string _), (1, .string _), (5, .slice (some ⟨g, 0, none⟩) _ _), (6, .int _ _), (7, .slice (some _) _ _), (8, .int _ _)] ⟨rfl, rfl, rfl, rfl, rfl, rfl, trivial⟩ fun σ => ?_
          refine gseq fun N14 hN14 => ?_
          refine gblock ?_
          refine gseq fun N15 hN15 => ?_
          refine greg ?_
          refine gop (y_move (v := .string _) rfl) rfl rfl rfl ?_
          refine gop (y_move (v := .int _ _) rfl) rfl rfl rfl ?_
          refine gop (y_stridx (m := i) Tryd.underlying9 rfl rfl (by omega) (by omega) (by omega)) rfl rfl rfl ?_
          refine gop (y_eql rfl rfl) rfl rfl rfl ?_
          refine gops_nil ?_
          refine hN15 _ _ ?_
          refine gfrom [(0, .string _), (1, .string _), (5, .slice (some ⟨g, 0, none⟩) _ _), (6, .int _ _), (7, .slice (some _) _ _), (8, .int _ _), (34, .bool _)] ⟨rfl, rfl, rfl, rfl, rfl, rfl, rfl, trivial⟩ fun σ => ?_
          refine gcond (b := _) rfl (fun hc34 => ?_) (fun hc34 => ?_)
          · 
            replace hc34 := of_decide_eq_true hc34
            have hst : starP p i = true := by simp [starP]; omega
            refine greg ?_
            refine gop (y_move (v := .slice (some _) _ _) rfl) rfl rfl rfl ?_
            refine gop (y_move (v := .int _ _) rfl) rfl rfl rfl ?_
            refine gop (y_move (v := .slice (some ⟨g, 0, none⟩) _ _) rfl) rfl rfl rfl ?_
            refine gop (y_move (v := .int _ _) rfl) rfl rfl rfl ?_
            refine gop (y_indexAddr (m := k) Tryd.underlying82 Tryd.sizeOf4 rfl rfl (by omega) (by omega) (by omega)) rfl rfl rfl ?_
            refine gop (y_load Tryd.isAgg4 rfl (cells_rowl 0 (f := boolCells) (l := dpRow s.size (dp (starP p) (charP p s) i)) rfl (dpRow_len _ _).symm (fun _ => rfl) (dpRow_get (by omega)) 0 _ rfl)) rfl rfl rfl ?_
            refine gop (y_move (v := .bool _) rfl) rfl rfl rfl ?_
            refine gop_if (want := false) rfl rfl rfl rfl rfl rfl (fun hg41 => ?_) (fun hg41 => ?_)
            · 
              have hg41d := hg41
              refine gop (y_bare (y_move (v := .int _ _) rfl)) rfl rfl rfl ?_
              refine gop_on rfl rfl rfl rfl hg41 ?_
              refine gop (y_bare (y_gtr rfl rfl)) rfl rfl rfl ?_
              refine gop_on rfl rfl rfl rfl hg41 ?_
              refine gop (y_bare (y_move (v := .bool _) rfl)) rfl rfl rfl ?_
              refine gop_if (want := true) rfl rfl rfl rfl rfl rfl (fun hg44 => ?_) (fun hg44 => ?_)
              · 
                have hg44d := of_decide_eq_true hg44
                refine gop (y_bare (y_move (v := .slice (some _) _ _) rfl)) rfl rfl rfl ?_
                refine gop_on rfl rfl rfl rfl hg44 ?_
                refine gop (y_bare (y_move (v := .int _ _) rfl)) rfl rfl rfl ?_
                refine gop_on rfl rfl rfl rfl hg44 ?_
                refine gop (y_bare (y_sub rfl rfl ⟨by omega, by omega⟩)) rfl rfl rfl ?_
                refine gop_on rfl rfl rfl rfl hg44 ?_
                refine gop (y_bare (y_indexAddr (m := k - 1) Tryd.underlying82 Tryd.sizeOf4 rfl rfl (by omega) (by omega) (by omega))) rfl rfl rfl ?_
                refine gop_on rfl rfl rfl rfl hg44 ?_
                refine gop (y_bare (y_load Tryd.isAgg4 rfl (cells_rowl 1 (f := boolCells) (l := dpPart s.size k (dp (starP p) (charP p s) (i + 1))) rfl (dpPart_len _ _ _).symm (fun _ => rfl) (dpPart_get (by omega) (by omega)) 0 _ rfl))) rfl rfl rfl ?_
                refine gop_on rfl rfl rfl rfl hg41 ?_
                refine gop (y_bare (y_pick_t (v := .bool _) rfl hg44 rfl)) rfl rfl rfl ?_
                refine gop (y_pick_f (v := .bool _) rfl hg41 rfl) rfl rfl rfl ?_
                refine gop (y_indexAddr (m := k) Tryd.underlying82 Tryd.sizeOf4 rfl rfl (by omega) (by omega) (by omega)) rfl rfl rfl ?_
                refine gop_store_row 1 (f := boolCells) (l := dpPart s.size k (dp (starP p) (charP p s) (i + 1))) (k := k) (o := 0) (v := .bool _) (a := false) (a' := _) (fun _ => rfl) rfl rfl rfl Tryd.sizeOf4 rfl rfl rfl rfl (dpPart_len _ _ _).symm (dpPart_at (by omega)) (Nat.le_of_ble_eq_true rfl) rfl rfl ?_
                refine gops_nil ?_
                refine hN14 _ _ ?_
                refine gT [rowl _ _ _ _ _ _, rowl _ _ _ _ _ _] rfl ?_
                refine gfrom [(0, .string _), (1, .string _), (5, .slice (some ⟨g, 0, none⟩) _ _), (6, .int _ _), (7, .slice (some _) _ _), (8, .int _ _)] ⟨rfl, rfl, rfl, rfl, rfl, rfl, trivial⟩ fun σ => ?_
                refine greg ?_
                refine gop (y_move (v := .int _ _) rfl) rfl rfl rfl ?_
                refine gop (y_add rfl rfl ⟨by omega, by omega⟩) rfl rfl rfl ?_
                refine gop (y_assign (v := .int _ _) rfl) rfl rfl rfl ?_
                refine gops_nil ?_
                rw [dpPart_put (f := (dp (starP p) (charP p s) (i + 1))) (by omega) (dp_more hst hg41d (by omega))]
                refine gnext2 (k + 1) (by omega) (show k + 1 ≤ _ by omega) ⟨rfl, trivial⟩ ⟨rfl, rfl, rfl, rfl, rfl, trivial⟩ ⟨_, rfl⟩
              · 
                have hg44d := of_decide_eq_false hg44
                refine gop_off rfl rfl rfl rfl hg44 rfl rfl ?_
                refine gop_off rfl rfl rfl rfl hg44 rfl rfl ?_
                refine gop_off rfl rfl rfl rfl hg44 rfl rfl ?_
                refine gop_off rfl rfl rfl rfl hg44 rfl rfl ?_
                refine gop_on rfl rfl rfl rfl hg41 ?_
                refine gop (y_bare (y_pick_f (v := .bool _) rfl hg44 rfl)) rfl rfl rfl ?_
                refine gop (y_pick_f (v := .bool _) rfl hg41 rfl) rfl rfl rfl ?_
                refine gop (y_indexAddr (m := k) Tryd.underlying82 Tryd.sizeOf4 rfl rfl (by omega) (by omega) (by omega)) rfl rfl rfl ?_
                refine gop_store_row 1 (f := boolCells) (l := dpPart s.size k (dp (starP p) (charP p s) (i + 1))) (k := k) (o := 0) (v := .bool _) (a := false) (a' := _) (fun _ => rfl) rfl rfl rfl Tryd.sizeOf4 rfl rfl rfl rfl (dpPart_len _ _ _).symm (dpPart_at (by omega)) (Nat.le_of_ble_eq_true rfl) rfl rfl ?_
                refine gops_nil ?_
                refine hN14 _ _ ?_
                refine gT [rowl _ _ _ _ _ _, rowl _ _ _ _ _ _] rfl ?_
                refine gfrom [(0, .string _), (1, .string _), (5, .slice (some ⟨g, 0, none⟩) _ _), (6, .int _ _), (7, .slice (some _) _ _), (8, .int _ _)] ⟨rfl, rfl, rfl, rfl, rfl, rfl, trivial⟩ fun σ => ?_
                refine greg ?_
                refine gop (y_move (v := .int _ _) rfl) rfl rfl rfl ?_
                refine gop (y_add rfl rfl ⟨by omega, by omega⟩) rfl rfl rfl ?_
                refine gop (y_assign (v := .int _ _) rfl) rfl rfl rfl ?_
                refine gops_nil ?_
                rw [dpPart_put (f := (dp (starP p) (charP p s) (i + 1))) (by omega) (dp_no hst hg41d (by omega))]
                refine gnext2 (k + 1) (by omega) (show k + 1 ≤ _ by omega) ⟨rfl, trivial⟩ ⟨rfl, rfl, rfl, rfl, rfl, trivial⟩ ⟨_, rfl⟩
            · 
              have hg41d := hg41
              refine gop_off rfl rfl rfl rfl hg41 rfl rfl ?_
              refine gop_off rfl rfl rfl rfl hg41 rfl rfl ?_
              refine gop_offu rfl rfl rfl rfl rfl rfl ?_
              refine gop_offu rfl rfl rfl rfl rfl rfl ?_
              refine gop_offu rfl rfl rfl rfl rfl rfl ?_
              refine gop_offu rfl rfl rfl rfl rfl rfl ?_
              refine gop_offu rfl rfl rfl rfl rfl rfl ?_
              refine gop_off rfl rfl rfl rfl hg41 rfl rfl ?_
              refine gop (y_pick_t (v := .bool _) rfl hg41 rfl) rfl rfl rfl ?_
              refine gop (y_indexAddr (m := k) Tryd.underlying82 Tryd.sizeOf4 rfl rfl (by omega) (by omega) (by omega)) rfl rfl rfl ?_
              refine gop_store_row 1 (f := boolCells) (l := dpPart s.size k (dp (starP p) (charP p s) (i + 1))) (k := k) (o := 0) (v := .bool _) (a := false) (a' := _) (fun _ => rfl) rfl rfl rfl Tryd.sizeOf4 rfl rfl rfl rfl (dpPart_len _ _ _).symm (dpPart_at (by omega)) (Nat.le_of_ble_eq_true rfl) rfl rfl ?_
              refine gops_nil ?_
              refine hN14 _ _ ?_
              refine gT [rowl _ _ _ _ _ _, rowl _ _ _ _ _ _] rfl ?_
              refine gfrom [(0, .string _), (1, .string _), (5, .slice (some ⟨g, 0, none⟩) _ _), (6, .int _ _), (7, .slice (some _) _ _), (8, .int _ _)] ⟨rfl, rfl, rfl, rfl, rfl, rfl, trivial⟩ fun σ => ?_
              refine greg ?_
              refine gop (y_move (v := .int _ _) rfl) rfl rfl rfl ?_
              refine gop (y_add rfl rfl ⟨by omega, by omega⟩) rfl rfl rfl ?_
              refine gop (y_assign (v := .int _ _) rfl) rfl rfl rfl ?_
              refine gops_nil ?_
              rw [dpPart_put (f := (dp (starP p) (charP p s) (i + 1))) (by omega) (dp_yes hst hg41d)]
              refine gnext2 (k + 1) (by omega) (show k + 1 ≤ _ by omega) ⟨rfl, trivial⟩ ⟨rfl, rfl, rfl, rfl, rfl, trivial⟩ ⟨_, rfl⟩
          · 
            replace hc34 := of_decide_eq_false hc34
            have hst : starP p i = false := by simp [starP]; omega
            refine greg_e0 [28] (by kernel_rfl) ?_
            refine ge_take 0 (TK := [rowl _ _ _ _ _ _, rowl _ _ _ _ _ _]) rfl (by kernel_rfl) (by kernel_rfl) (by kernel_rfl) #[false, true, true, true, true, true, true, true, true, true, true, true, true, true, true, true, true, true, true, true, true, true, true, true, true, true, true, false, false] (by kernel_rfl) rfl (y_move (v := .slice (some _) _ _) rfl) rfl rfl rfl (weak_refl) (listed' := #[true, false, false, false, false, false, false, false, false, false, false, false, false, false, false, false, false, false, false, false, false, false, false, false, false, false, false, false, false]) rfl ?_
            refine ge_take 1 (TK := [rowl _ _ _ _ _ _, rowl _ _ _ _ _ _]) rfl (by kernel_rfl) (by kernel_rfl) (by kernel_rfl) #[true, false, true, true, true, true, true, true, true, true, true, true, true, true, true, true, true, true, true, true, true, true, true, true, true, true, true, false, false] (by kernel_rfl) rfl (y_move (v := .int _ _) rfl) rfl rfl rfl (weak_refl) (listed' := #[true, true, false, false, false, false, false, false, false, false, false, false, false, false, false, false, false, false, false, false, false, false, false, false, false, false, false, false, false]) rfl ?_
            refine ge_take 2 (TK := [rowl _ _ _ _ _ _, rowl _ _ _ _ _ _]) rfl (by kernel_rfl) (by kernel_rfl) (by kernel_rfl) #[true, true, false, false, false, false, false, false, false, false, false, false, false, false, false, false, false, false, false, false, false, false, false, false, false, false, false, false, false] (by kernel_rfl) rfl (y_move (v := .int _ _) rfl) rfl rfl rfl (weak_refl) (listed' := #[true, true, true, false, false, false, false, false, false, false, false, false, false, false, false, false, false, false, false, false, false, false, false, false, false, false, false, false, false]) rfl ?_
            refine ge_take 3 (TK := [rowl _ _ _ _ _ _, rowl _ _ _ _ _ _]) rfl (by kernel_rfl) (by kernel_rfl) (by kernel_rfl) #[true, true, true, false, false, false, false, false, false, false, false, false, false, false, false, false, false, false, false, false, false, false, false, false, false, false, false, false, false] (by kernel_rfl) rfl (y_gtr rfl rfl) rfl rfl rfl (weak_refl) (listed' := #[true, true, true, true, false, false, false, false, false, false, false, false, false, false, false, false, false, false, false, false, false, false, false, false, false, false, false, false, false]) rfl ?_
            refine ge_take 4 (TK := [rowl _ _ _ _ _ _, rowl _ _ _ _ _ _]) rfl (by kernel_rfl) (by kernel_rfl) (by kernel_rfl) #[true, true, true, true, false, false, false, false, false, false, false, false, false, false, false, false, false, false, false, false, false, false, false, false, false, false, false, false, false] (by kernel_rfl) rfl (y_move (v := .bool _) rfl) rfl rfl rfl (weak_refl) (listed' := #[true, true, true, true, true, false, false, false, false, false, false, false, false, false, false, false, false, false, false, false, false, false, false, false, false, false, false, false, false]) rfl ?_
            refine ge_dec 57 true rfl (fun hg57 => ?_) (fun hg57 => ?_)
            · 
              have hg57d := of_decide_eq_true hg57
              refine ge_take_on 5 (TK := [rowl _ _ _ _ _ _, rowl _ _ _ _ _ _]) rfl (by kernel_rfl) (by kernel_rfl) (by kernel_rfl) #[true, true, true, true, true, false, true, true, false, false, false, false, false, false, false, false, false, false, false, false, false, false, false, false, false, false, false, false, false] (by kernel_rfl) rfl rfl rfl rfl rfl hg57 (y_bare (y_move (v := .slice (some ⟨g, 0, none⟩) _ _) rfl)) rfl rfl (weak_refl) (listed' := #[true, true, true, true, true, true, false, false, false, false, false, false, false, false, false, false, false, false, false, false, false, false, false, false, false, false, false, false, false]) rfl ?_
              refine ge_take_on 6 (TK := [rowl _ _ _ _ _ _, rowl _ _ _ _ _ _]) rfl (by kernel_rfl) (by kernel_rfl) (by kernel_rfl) #[true, true, true, true, true, true, false, false, false, false, false, false, false, false, false, false, false, false, false, false, false, false, false, false, false, false, false, false, false] (by kernel_rfl) rfl rfl rfl rfl rfl hg57 (y_bare (y_move (v := .int _ _) rfl)) rfl rfl (weak_refl) (listed' := #[true, true, true, true, true, true, true, false, false, false, false, false, false, false, false, false, false, false, false, false, false, false, false, false, false, false, false, false, false]) rfl ?_
              refine ge_take_on 7 (TK := [rowl _ _ _ _ _ _, rowl _ _ _ _ _ _]) rfl (by kernel_rfl) (by kernel_rfl) (by kernel_rfl) #[true, true, true, true, true, true, true, false, false, false, false, false, false, false, false, false, false, false, false, false, false, false, false, false, false, false, false, false, false] (by kernel_rfl) rfl rfl rfl rfl rfl hg57 (y_bare (y_sub rfl rfl ⟨by omega, by omega⟩)) rfl rfl (weak_refl) (listed' := #[true, true, true, true, true, true, true, true, false, false, false, false, false, false, false, false, false, false, false, false, false, false, false, false, false, false, false, false, false]) rfl ?_
              refine ge_take_on 8 (TK := [rowl _ _ _ _ _ _, rowl _ _ _ _ _ _]) rfl (by kernel_rfl) (by kernel_rfl) (by kernel_rfl) #[true, true, true, true, true, true, true, true, false, false, false, false, false, false, false, false, false, false, false, false, false, false, false, false, false, false, false, false, false] (by kernel_rfl) rfl rfl rfl rfl rfl hg57 (y_bare (y_indexAddr (m := k - 1) Tryd.underlying82 Tryd.sizeOf4 rfl rfl (by omega) (by omega) (by omega))) rfl rfl (weak_refl) (listed' := #[true, true, true, true, true, true, true, true, true, false, false, false, false, false, false, false, false, false, false, false, false, false, false, false, false, false, false, false, false]) rfl ?_
              refine ge_take_on 9 (TK := [rowl _ _ _ _ _ _, rowl _ _ _ _ _ _]) rfl (by kernel_rfl) (by kernel_rfl) (by kernel_rfl) #[true, true, true, true, true, true, true, true, true, false, false, false, false, false, false, false, false, false, false, false, false, false, false, false, false, false, false, false, false] (by kernel_rfl) rfl rfl rfl rfl rfl hg57 (y_bare (y_load Tryd.isAgg4 rfl (cells_rowl 0 (f := boolCells) (l := dpRow s.size (dp (starP p) (charP p s) i)) rfl (dpRow_len _ _).symm (fun _ => rfl) (dpRow_get (by omega)) 0 _ rfl))) rfl rfl (weak_refl) (listed' := #[true, true, true, true, true, true, true, true, true, true, false, false, false, false, false, false, false, false, false, false, false, false, false, false, false, false, false, false, false]) rfl ?_
              refine ge_take 10 (TK := [rowl _ _ _ _ _ _, rowl _ _ _ _ _ _]) rfl (by kernel_rfl) (by kernel_rfl) (by kernel_rfl) #[true, true, true, true, true, true, true, true, true, true, false, false, false, false, false, false, false, false, false, false, false, false, false, false, false, false, false, false, false] (by kernel_rfl) rfl (y_pick_t (v := .bool _) rfl hg57 rfl) rfl rfl rfl (weak_refl) (listed' := #[true, true, true, true, true, true, true, true, true, true, true, false, false, false, false, false, false, false, false, false, false, false, false, false, false, false, false, false, false]) rfl ?_
              refine ge_take 11 (TK := [rowl _ _ _ _ _ _, rowl _ _ _ _ _ _]) rfl (by kernel_rfl) (by kernel_rfl) (by kernel_rfl) #[true, true, true, true, true, true, true, true, true, true, true, false, false, false, false, false, false, false, false, false, false, false, false, false, false, false, false, false, false] (by kernel_rfl) rfl (y_move (v := .bool _) rfl) rfl rfl rfl (weak_refl) (listed' := #[true, true, true, true, true, true, true, true, true, true, true, true, false, false, false, false, false, false, false, false, false, false, false, false, false, false, false, false, false]) rfl ?_
              refine ge_dec 64 true rfl (fun hg64 => ?_) (fun hg64 => ?_)
              · 
                have hg64d := hg64
                refine ge_take_on 12 (TK := [rowl _ _ _ _ _ _, rowl _ _ _ _ _ _]) rfl (by kernel_rfl) (by kernel_rfl) (by kernel_rfl) #[true, true, true, true, true, true, true, true, true, true, true, true, false, true, false, false, false, false, false, false, false, false, false, false, false, false, false, false, false] (by kernel_rfl) rfl rfl rfl rfl rfl hg64 (y_bare (y_move (v := .string _) rfl)) rfl rfl (weak_refl) (listed' := #[true, true, true, true, true, true, true, true, true, true, true, true, true, false, false, false, false, false, false, false, false, false, false, false, false, false, false, false, false]) rfl ?_
                refine ge_take_on 13 (TK := [rowl _ _ _ _ _ _, rowl _ _ _ _ _ _]) rfl (by kernel_rfl) (by kernel_rfl) (by kernel_rfl) #[true, true, true, true, true, true, true, true, true, true, true, true, true, false, false, false, false, false, false, false, false, false, false, false, false, false, false, false, false] (by kernel_rfl) rfl rfl rfl rfl rfl hg64 (y_bare (y_move (v := .int _ _) rfl)) rfl rfl (weak_refl) (listed' := #[true, true, true, true, true, true, true, true, true, true, true, true, true, true, false, false, false, false, false, false, false, false, false, false, false, false, false, false, false]) rfl ?_
                refine ge_take_on 14 (TK := [rowl _ _ _ _ _ _, rowl _ _ _ _ _ _]) rfl (by kernel_rfl) (by kernel_rfl) (by kernel_rfl) #[true, true, true, true, true, true, true, true, true, true, true, true, true, true, false, false, false, false, false, false, false, false, false, false, false, false, false, false, false] (by kernel_rfl) rfl rfl rfl rfl rfl hg64 (y_bare (y_stridx (m := i) Tryd.underlying9 rfl rfl (by omega) (by omega) (by omega))) rfl rfl (weak_refl) (listed' := #[true, true, true, true, true, true, true, true, true, true, true, true, true, true, true, false, false, false, false, false, false, false, false, false, false, false, false, false, false]) rfl ?_
                refine ge_take_on 15 (TK := [rowl _ _ _ _ _ _, rowl _ _ _ _ _ _]) rfl (by kernel_rfl) (by kernel_rfl) (by kernel_rfl) #[true, true, true, true, true, true, true, true, true, true, true, true, true, true, true, false, false, false, false, false, false, false, false, false, false, false, false, false, false] (by kernel_rfl) rfl rfl rfl rfl rfl hg64 (y_bare (y_eql rfl rfl)) rfl rfl (weak_refl) (listed' := #[true, true, true, true, true, true, true, true, true, true, true, true, true, true, true, true, false, false, false, false, false, false, false, false, false, false, false, false, false]) rfl ?_
                refine ge_take_on 16 (TK := [rowl _ _ _ _ _ _, rowl _ _ _ _ _ _]) rfl (by kernel_rfl) (by kernel_rfl) (by kernel_rfl) #[true, true, true, true, true, true, true, true, true, true, true, true, true, true, true, true, false, false, false, false, false, false, false, false, false, false, false, false, false] (by kernel_rfl) rfl rfl rfl rfl rfl hg64 (y_bare (y_move (v := .bool _) rfl)) rfl rfl (weak_refl) (listed' := #[true, true, true, true, true, true, true, true, true, true, true, true, true, true, true, true, true, false, false, false, false, false, false, false, false, false, false, false, false]) rfl ?_
                refine ge_dec 69 false rfl (fun hg69 => ?_) (fun hg69 => ?_)
                · 
                  have hg69d := of_decide_eq_false hg69
                  refine ge_take_on 17 (TK := [rowl _ _ _ _ _ _, rowl _ _ _ _ _ _]) rfl (by kernel_rfl) (by kernel_rfl) (by kernel_rfl) #[true, true, true, true, true, true, true, true, true, true, true, true, true, true, true, true, true, false, true, false, true, true, true, true, false, false, false, false, false] (by kernel_rfl) rfl rfl rfl rfl rfl hg69 (y_bare (y_move (v := .string _) rfl)) rfl rfl (weak_refl) (listed' := #[true, true, true, true, true, true, true, true, true, true, true, true, true, true, true, true, true, true, false, false, false, false, false, false, false, false, false, false, false]) rfl ?_
                  refine ge_take_on 18 (TK := [rowl _ _ _ _ _ _, rowl _ _ _ _ _ _]) rfl (by kernel_rfl) (by kernel_rfl) (by kernel_rfl) #[true, true, true, true, true, true, true, true, true, true, true, true, true, true, true, true, true, true, false, false, true, true, true, true, false, false, false, false, false] (by kernel_rfl) rfl rfl rfl rfl rfl hg69 (y_bare (y_move (v := .int _ _) rfl)) rfl rfl (weak_refl) (listed' := #[true, true, true, true, true, true, true, true, true, true, true, true, true, true, true, true, true, true, true, false, false, false, false, false, false, false, false, false, false]) rfl ?_
                  refine ge_take_on 19 (TK := [rowl _ _ _ _ _ _, rowl _ _ _ _ _ _]) rfl (by kernel_rfl) (by kernel_rfl) (by kernel_rfl) #[true, true, true, true, true, true, true, true, true, true, true, true, true, true, true, true, true, true, true, false, true, true, true, true, false, false, false, false, false] (by kernel_rfl) rfl rfl rfl rfl rfl hg69 (y_bare (y_stridx (m := i) Tryd.underlying9 rfl rfl (by omega) (by omega) (by omega))) rfl rfl (weak_refl) (listed' := #[true, true, true, true, true, true, true, true, true, true, true, true, true, true, true, true, true, true, true, true, false, false, false, false, false, false, false, false, false]) rfl ?_
                  refine ge_take_on 20 (TK := [rowl _ _ _ _ _ _, rowl _ _ _ _ _ _]) rfl (by kernel_rfl) (by kernel_rfl) (by kernel_rfl) #[true, true, true, true, true, true, true, true, true, true, true, true, true, true, true, true, true, true, true, true, false, true, true, false, false, false, false, false, false] (by kernel_rfl) rfl rfl rfl rfl rfl hg69 (y_bare (y_move (v := .string _) rfl)) rfl rfl (weak_refl) (listed' := #[true, true, true, true, true, true, true, true, true, true, true, true, true, true, true, true, true, true, true, true, true, false, false, false, false, false, false, false, false]) rfl ?_
                  refine ge_take_on 21 (TK := [rowl _ _ _ _ _ _, rowl _ _ _ _ _ _]) rfl (by kernel_rfl) (by kernel_rfl) (by kernel_rfl) #[true, true, true, true, true, true, true, true, true, true, true, true, true, true, true, true, true, true, true, true, true, false, false, false, false, false, false, false, false] (by kernel_rfl) rfl rfl rfl rfl rfl hg69 (y_bare (y_move (v := .int _ _) rfl)) rfl rfl (weak_refl) (listed' := #[true, true, true, true, true, true, true, true, true, true, true, true, true, true, true, true, true, true, true, true, true, true, false, false, false, false, false, false, false]) rfl ?_
                  refine ge_take_on 22 (TK := [rowl _ _ _ _ _ _, rowl _ _ _ _ _ _]) rfl (by kernel_rfl) (by kernel_rfl) (by kernel_rfl) #[true, true, true, true, true, true, true, true, true, true, true, true, true, true, true, true, true, true, true, true, true, true, false, false, false, false, false, false, false] (by kernel_rfl) rfl rfl rfl rfl rfl hg69 (y_bare (y_sub rfl rfl ⟨by omega, by omega⟩)) rfl rfl (weak_refl) (listed' := #[true, true, true, true, true, true, true, true, true, true, true, true, true, true, true, true, true, true, true, true, true, true, true, false, false, false, false, false, false]) rfl ?_
                  refine ge_take_on 23 (TK := [rowl _ _ _ _ _ _, rowl _ _ _ _ _ _]) rfl (by kernel_rfl) (by kernel_rfl) (by kernel_rfl) #[true, true, true, true, true, true, true, true, true, true, true, true, true, true, true, true, true, true, true, true, true, true, true, false, false, false, false, false, false] (by kernel_rfl) rfl rfl rfl rfl rfl hg69 (y_bare (y_stridx (m := k - 1) Tryd.underlying9 rfl rfl (by omega) (by omega) (by omega))) rfl rfl (weak_refl) (listed' := #[true, true, true, true, true, true, true, true, true, true, true, true, true, true, true, true, true, true, true, true, true, true, true, true, false, false, false, false, false]) rfl ?_
                  refine ge_take_on 24 (TK := [rowl _ _ _ _ _ _, rowl _ _ _ _ _ _]) rfl (by kernel_rfl) (by kernel_rfl) (by kernel_rfl) #[true, true, true, true, true, true, true, true, true, true, true, true, true, true, true, true, true, true, true, true, true, true, true, true, false, false, false, false, false] (by kernel_rfl) rfl rfl rfl rfl rfl hg69 (y_bare (y_eql rfl rfl)) rfl rfl (weak_refl) (listed' := #[true, true, true, true, true, true, true, true, true, true, true, true, true, true, true, true, true, true, true, true, true, true, true, true, true, false, false, false, false]) rfl ?_
                  refine ge_take_on 25 (TK := [rowl _ _ _ _ _ _, rowl _ _ _ _ _ _]) rfl (by kernel_rfl) (by kernel_rfl) (by kernel_rfl) #[true, true, true, true, true, true, true, true, true, true, true, true, true, true, true, true, true, true, true, true, true, true, true, true, true, false, false, false, false] (by kernel_rfl) rfl rfl rfl rfl rfl hg64 (y_bare (y_pick_f (v := .bool _) rfl hg69 rfl)) rfl rfl (weak_refl) (listed' := #[true, true, true, true, true, true, true, true, true, true, true, true, true, true, true, true, true, true, true, true, true, true, true, true, true, true, false, false, false]) rfl ?_
                  refine ge_take 26 (TK := [rowl _ _ _ _ _ _, rowl _ _ _ _ _ _]) rfl (by kernel_rfl) (by kernel_rfl) (by kernel_rfl) #[true, true, true, true, true, true, true, true, true, true, true, true, true, true, true, true, true, true, true, true, true, true, true, true, true, true, false, false, false] (by kernel_rfl) rfl (y_pick_t (v := .bool _) rfl hg64 rfl) rfl rfl rfl (weak_refl) (listed' := #[true, true, true, true, true, true, true, true, true, true, true, true, true, true, true, true, true, true, true, true, true, true, true, true, true, true, true, false, false]) rfl ?_
                  refine ge_take 27 (TK := [rowl _ _ _ _ _ _, rowl _ _ _ _ _ _]) rfl (by kernel_rfl) (by kernel_rfl) (by kernel_rfl) #[true, true, true, true, true, true, true, true, true, true, true, true, true, true, true, true, true, true, true, true, true, true, true, true, true, true, true, false, false] (by kernel_rfl) rfl (y_indexAddr (m := k) Tryd.underlying82 Tryd.sizeOf4 rfl rfl (by omega) (by omega) (by omega)) rfl rfl rfl (weak_refl) (listed' := #[true, true, true, true, true, true, true, true, true, true, true, true, true, true, true, true, true, true, true, true, true, true, true, true, true, true, true, true, false]) rfl ?_
                  refine ge_one 28 (k' := 1) (listed' := #[true, true, true, true, true, true, true, true, true, true, true, true, true, true, true, true, true, true, true, true, true, true, true, true, true, true, true, true, true]) (by kernel_rfl) rfl rfl rfl ?_
                  refine gop_store_row 1 (f := boolCells) (l := dpPart s.size k (dp (starP p) (charP p s) (i + 1))) (k := k) (o := 0) (v := .bool _) (a := false) (a' := _) (fun _ => rfl) rfl rfl rfl Tryd.sizeOf4 rfl rfl rfl rfl (dpPart_len _ _ _).symm (dpPart_at (by omega)) (Nat.le_of_ble_eq_true rfl) rfl rfl ?_
                  refine gops_nil ?_
                  refine ge_fin (TK := []) rfl (weak_nil) ?_
                  refine ge_done (by kernel_rfl) ?_
                  refine hN14 _ _ ?_
                  refine gT [rowl _ _ _ _ _ _, rowl _ _ _ _ _ _] rfl ?_
                  refine gfrom [(0, .string _), (1, .string _), (5, .slice (some ⟨g, 0, none⟩) _ _), (6, .int _ _), (7, .slice (some _) _ _), (8, .int _ _)] ⟨rfl, rfl, rfl, rfl, rfl, rfl, trivial⟩ fun σ => ?_
                  refine greg ?_
                  refine gop (y_move (v := .int _ _) rfl) rfl rfl rfl ?_
                  refine gop (y_add rfl rfl ⟨by omega, by omega⟩) rfl rfl rfl ?_
                  refine gop (y_assign (v := .int _ _) rfl) rfl rfl rfl ?_
                  refine gops_nil ?_
                  rw [dpPart_put (f := (dp (starP p) (charP p s) (i + 1))) (by omega) ((dp_ct hst (by omega) hg64d).trans (by rw [charP, decide_eq_false (show ¬ byteAt p i = 63 by omega), Bool.false_or]; exact decide_eq_decide.2 (by omega)))]
                  refine gnext2 (k + 1) (by omega) (show k + 1 ≤ _ by omega) ⟨rfl, trivial⟩ ⟨rfl, rfl, rfl, rfl, rfl, trivial⟩ ⟨_, rfl⟩
                · 
                  have hg69d := of_decide_eq_true hg69
                  refine ge_take_off 17 (TK := [rowl _ _ _ _ _ _, rowl _ _ _ _ _ _]) rfl (by kernel_rfl) (by kernel_rfl) (by kernel_rfl) #[true, true, true, true, true, true, true, true, true, true, true, true, true, true, true, true, true, false, true, false, true, true, true, true, false, false, false, false, false] (by kernel_rfl) rfl rfl rfl rfl rfl (off_of hg69) rfl rfl (weak_refl) (listed' := #[true, true, true, true, true, true, true, true, true, true, true, true, true, true, true, true, true, true, false, false, false, false, false, false, false, false, false, false, false]) rfl ?_
                  refine ge_take_off 18 (TK := [rowl _ _ _ _ _ _, rowl _ _ _ _ _ _]) rfl (by kernel_rfl) (by kernel_rfl) (by kernel_rfl) #[true, true, true, true, true, true, true, true, true, true, true, true, true, true, true, true, true, true, false, false, true, true, true, true, false, false, false, false, false] (by kernel_rfl) rfl rfl rfl rfl rfl (off_of hg69) rfl rfl (weak_refl) (listed' := #[true, true, true, true, true, true, true, true, true, true, true, true, true, true, true, true, true, true, true, false, false, false, false, false, false, false, false, false, false]) rfl ?_
                  refine ge_take_off 19 (TK := [rowl _ _ _ _ _ _, rowl _ _ _ _ _ _]) rfl (by kernel_rfl) (by kernel_rfl) (by kernel_rfl) #[true, true, true, true, true, true, true, true, true, true, true, true, true, true, true, true, true, true, true, false, true, true, true, true, false, false, false, false, false] (by kernel_rfl) rfl rfl rfl rfl rfl (off_of hg69) rfl rfl (weak_refl) (listed' := #[true, true, true, true, true, true, true, true, true, true, true, true, true, true, true, true, true, true, true, true, false, false, false, false, false, false, false, false, false]) rfl ?_
                  refine ge_take_off 20 (TK := [rowl _ _ _ _ _ _, rowl _ _ _ _ _ _]) rfl (by kernel_rfl) (by kernel_rfl) (by kernel_rfl) #[true, true, true, true, true, true, true, true, true, true, true, true, true, true, true, true, true, true, true, true, false, true, true, false, false, false, false, false, false] (by kernel_rfl) rfl rfl rfl rfl rfl (off_of hg69) rfl rfl (weak_refl) (listed' := #[true, true, true, true, true, true, true, true, true, true, true, true, true, true, true, true, true, true, true, true, true, false, false, false, false, false, false, false, false]) rfl ?_
                  refine ge_take_off 21 (TK := [rowl _ _ _ _ _ _, rowl _ _ _ _ _ _]) rfl (by kernel_rfl) (by kernel_rfl) (by kernel_rfl) #[true, true, true, true, true, true, true, true, true, true, true, true, true, true, true, true, true, true, true, true, true, false, false, false, false, false, false, false, false] (by kernel_rfl) rfl rfl rfl rfl rfl (off_of hg69) rfl rfl (weak_refl) (listed' := #[true, true, true, true, true, true, true, true, true, true, true, true, true, true, true, true, true, true, true, true, true, true, false, false, false, false, false, false, false]) rfl ?_
                  refine ge_take_off 22 (TK := [rowl _ _ _ _ _ _, rowl _ _ _ _ _ _]) rfl (by kernel_rfl) (by kernel_rfl) (by kernel_rfl) #[true, true, true, true, true, true, true, true, true, true, true, true, true, true, true, true, true, true, true, true, true, true, false, false, false, false, false, false, false] (by kernel_rfl) rfl rfl rfl rfl rfl (off_of hg69) rfl rfl (weak_refl) (listed' := #[true, true, true, true, true, true, true, true, true, true, true, true, true, true, true, true, true, true, true, true, true, true, true, false, false, false, false, false, false]) rfl ?_
                  refine ge_take_off 23 (TK := [rowl _ _ _ _ _ _, rowl _ _ _ _ _ _]) rfl (by kernel_rfl) (by kernel_rfl) (by kernel_rfl) #[true, true, true, true, true, true, true, true, true, true, true, true, true, true, true, true, true, true, true, true, true, true, true, false, false, false, false, false, false] (by kernel_rfl) rfl rfl rfl rfl rfl (off_of hg69) rfl rfl (weak_refl) (listed' := #[true, true, true, true, true, true, true, true, true, true, true, true, true, true, true, true, true, true, true, true, true, true, true, true, false, false, false, false, false]) rfl ?_
                  refine ge_take_off 24 (TK := [rowl _ _ _ _ _ _, rowl _ _ _ _ _ _]) rfl (by kernel_rfl) (by kernel_rfl) (by kernel_rfl) #[true, true, true, true, true, true, true, true, true, true, true, true, true, true, true, true, true, true, true, true, true, true, true, true, false, false, false, false, false] (by kernel_rfl) rfl rfl rfl rfl rfl (off_of hg69) rfl rfl (weak_refl) (listed' := #[true, true, true, true, true, true, true, true, true, true, true, true, true, true, true, true, true, true, true, true, true, true, true, true, true, false, false, false, false]) rfl ?_
                  refine ge_take_on 25 (TK := [rowl _ _ _ _ _ _, rowl _ _ _ _ _ _]) rfl (by kernel_rfl) (by kernel_rfl) (by kernel_rfl) #[true, true, true, true, true, true, true, true, true, true, true, true, true, true, true, true, true, true, true, true, true, true, true, true, true, false, false, false, false] (by kernel_rfl) rfl rfl rfl rfl rfl hg64 (y_bare (y_pick_t (v := .bool _) rfl hg69 rfl)) rfl rfl (weak_refl) (listed' := #[true, true, true, true, true, true, true, true, true, true, true, true, true, true, true, true, true, true, true, true, true, true, true, true, true, true, false, false, false]) rfl ?_
                  refine ge_take 26 (TK := [rowl _ _ _ _ _ _, rowl _ _ _ _ _ _]) rfl (by kernel_rfl) (by kernel_rfl) (by kernel_rfl) #[true, true, true, true, true, true, true, true, true, true, true, true, true, true, true, true, true, true, true, true, true, true, true, true, true, true, false, false, false] (by kernel_rfl) rfl (y_pick_t (v := .bool _) rfl hg64 rfl) rfl rfl rfl (weak_refl) (listed' := #[true, true, true, true, true, true, true, true, true, true, true, true, true, true, true, true, true, true, true, true, true, true, true, true, true, true, true, false, false]) rfl ?_
                  refine ge_take 27 (TK := [rowl _ _ _ _ _ _, rowl _ _ _ _ _ _]) rfl (by kernel_rfl) (by kernel_rfl) (by kernel_rfl) #[true, true, true, true, true, true, true, true, true, true, true, true, true, true, true, true, true, true, true, true, true, true, true, true, true, true, true, false, false] (by kernel_rfl) rfl (y_indexAddr (m := k) Tryd.underlying82 Tryd.sizeOf4 rfl rfl (by omega) (by omega) (by omega)) rfl rfl rfl (weak_refl) (listed' := #[true, true, true, true, true, true, true, true, true, true, true, true, true, true, true, true, true, true, true, true, true, true, true, true, true, true, true, true, false]) rfl ?_
                  refine ge_one 28 (k' := 1) (listed' := #[true, true, true, true, true, true, true, true, true, true, true, true, true, true, true, true, true, true, true, true, true, true, true, true, true, true, true, true, true]) (by kernel_rfl) rfl rfl rfl ?_
                  refine gop_store_row 1 (f := boolCells) (l := dpPart s.size k (dp (starP p) (charP p s) (i + 1))) (k := k) (o := 0) (v := .bool _) (a := false) (a' := _) (fun _ => rfl) rfl rfl rfl Tryd.sizeOf4 rfl rfl rfl rfl (dpPart_len _ _ _).symm (dpPart_at (by omega)) (Nat.le_of_ble_eq_true rfl) rfl rfl ?_
                  refine gops_nil ?_
                  refine ge_fin (TK := []) rfl (weak_nil) ?_
                  refine ge_done (by kernel_rfl) ?_
                  refine hN14 _ _ ?_
                  refine gT [rowl _ _ _ _ _ _, rowl _ _ _ _ _ _] rfl ?_
                  refine gfrom [(0, .string _), (1, .string _), (5, .slice (some ⟨g, 0, none⟩) _ _), (6, .int _ _), (7, .slice (some _) _ _), (8, .int _ _)] ⟨rfl, rfl, rfl, rfl, rfl, rfl, trivial⟩ fun σ => ?_
                  refine greg ?_
                  refine gop (y_move (v := .int _ _) rfl) rfl rfl rfl ?_
                  refine gop (y_add rfl rfl ⟨by omega, by omega⟩) rfl rfl rfl ?_
                  refine gop (y_assign (v := .int _ _) rfl) rfl rfl rfl ?_
                  refine gops_nil ?_
                  rw [dpPart_put (f := (dp (starP p) (charP p s) (i + 1))) (by omega) ((dp_ct hst (by omega) hg64d).trans (by rw [charP, decide_eq_true (show byteAt p i = 63 by omega), Bool.true_or]))]
                  refine gnext2 (k + 1) (by omega) (show k + 1 ≤ _ by omega) ⟨rfl, trivial⟩ ⟨rfl, rfl, rfl, rfl, rfl, trivial⟩ ⟨_, rfl⟩
              · 
                have hg64d := hg64
                refine ge_take_off 12 (TK := [rowl _ _ _ _ _ _, rowl _ _ _ _ _ _]) rfl (by kernel_rfl) (by kernel_rfl) (by kernel_rfl) #[true, true, true, true, true, true, true, true, true, true, true, true, false, true, false, false, false, false, false, false, false, false, false, false, false, false, false, false, false] (by kernel_rfl) rfl rfl rfl rfl rfl (off_of hg64) rfl rfl (weak_refl) (listed' := #[true, true, true, true, true, true, true, true, true, true, true, true, true, false, false, false, false, false, false, false, false, false, false, false, false, false, false, false, false]) rfl ?_
                refine ge_take_off 13 (TK := [rowl _ _ _ _ _ _, rowl _ _ _ _ _ _]) rfl (by kernel_rfl) (by kernel_rfl) (by kernel_rfl) #[true, true, true, true, true, true, true, true, true, true, true, true, true, false, false, false, false, false, false, false, false, false, false, false, false, false, false, false, false] (by kernel_rfl) rfl rfl rfl rfl rfl (off_of hg64) rfl rfl (weak_refl) (listed' := #[true, true, true, true, true, true, true, true, true, true, true, true, true, true, false, false, false, false, false, false, false, false, false, false, false, false, false, false, false]) rfl ?_
                refine ge_take_off 14 (TK := [rowl _ _ _ _ _ _, rowl _ _ _ _ _ _]) rfl (by kernel_rfl) (by kernel_rfl) (by kernel_rfl) #[true, true, true, true, true, true, true, true, true, true, true, true, true, true, false, false, false, false, false, false, false, false, false, false, false, false, false, false, false] (by kernel_rfl) rfl rfl rfl rfl rfl (off_of hg64) rfl rfl (weak_refl) (listed' := #[true, true, true, true, true, true, true, true, true, true, true, true, true, true, true, false, false, false, false, false, false, false, false, false, false, false, false, false, false]) rfl ?_
                refine ge_take_off 15 (TK := [rowl _ _ _ _ _ _, rowl _ _ _ _ _ _]) rfl (by kernel_rfl) (by kernel_rfl) (by kernel_rfl) #[true, true, true, true, true, true, true, true, true, true, true, true, true, true, true, false, false, false, false, false, false, false, false, false, false, false, false, false, false] (by kernel_rfl) rfl rfl rfl rfl rfl (off_of hg64) rfl rfl (weak_refl) (listed' := #[true, true, true, true, true, true, true, true, true, true, true, true, true, true, true, true, false, false, false, false, false, false, false, false, false, false, false, false, false]) rfl ?_
                refine ge_take_off 16 (TK := [rowl _ _ _ _ _ _, rowl _ _ _ _ _ _]) rfl (by kernel_rfl) (by kernel_rfl) (by kernel_rfl) #[true, true, true, true, true, true, true, true, true, true, true, true, true, true, true, true, false, false, false, false, false, false, false, false, false, false, false, false, false] (by kernel_rfl) rfl rfl rfl rfl rfl (off_of hg64) rfl rfl (weak_refl) (listed' := #[true, true, true, true, true, true, true, true, true, true, true, true, true, true, true, true, true, false, false, false, false, false, false, false, false, false, false, false, false]) rfl ?_
                refine ge_take_off 17 (TK := [rowl _ _ _ _ _ _, rowl _ _ _ _ _ _]) rfl (by kernel_rfl) (by kernel_rfl) (by kernel_rfl) #[true, true, true, true, true, true, true, true, true, true, true, true, true, true, true, true, true, false, true, false, true, true, true, true, false, false, false, false, false] (by kernel_rfl) rfl rfl rfl rfl rfl off_undef rfl rfl (weak_refl) (listed' := #[true, true, true, true, true, true, true, true, true, true, true, true, true, true, true, true, true, true, false, false, false, false, false, false, false, false, false, false, false]) rfl ?_
                refine ge_take_off 18 (TK := [rowl _ _ _ _ _ _, rowl _ _ _ _ _ _]) rfl (by kernel_rfl) (by kernel_rfl) (by kernel_rfl) #[true, true, true, true, true, true, true, true, true, true, true, true, true, true, true, true, true, true, false, false, true, true, true, true, false, false, false, false, false] (by kernel_rfl) rfl rfl rfl rfl rfl off_undef rfl rfl (weak_refl) (listed' := #[true, true, true, true, true, true, true, true, true, true, true, true, true, true, true, true, true, true, true, false, false, false, false, false, false, false, false, false, false]) rfl ?_
                refine ge_take_off 19 (TK := [rowl _ _ _ _ _ _, rowl _ _ _ _ _ _]) rfl (by kernel_rfl) (by kernel_rfl) (by kernel_rfl) #[true, true, true, true, true, true, true, true, true, true, true, true, true, true, true, true, true, true, true, false, true, true, true, true, false, false, false, false, false] (by kernel_rfl) rfl rfl rfl rfl rfl off_undef rfl rfl (weak_refl) (listed' := #[true, true, true, true, true, true, true, true, true, true, true, true, true, true, true, true, true, true, true, true, false, false, false, false, false, false, false, false, false]) rfl ?_
                refine ge_take_off 20 (TK := [rowl _ _ _ _ _ _, rowl _ _ _ _ _ _]) rfl (by kernel_rfl) (by kernel_rfl) (by kernel_rfl) #[true, true, true, true, true, true, true, true, true, true, true, true, true, true, true, true, true, true, true, true, false, true, true, false, false, false, false, false, false] (by kernel_rfl) rfl rfl rfl rfl rfl off_undef rfl rfl (weak_refl) (listed' := #[true, true, true, true, true, true, true, true, true, true, true, true, true, true, true, true, true, true, true, true, true, false, false, false, false, false, false, false, false]) rfl ?_
                refine ge_take_off 21 (TK := [rowl _ _ _ _ _ _, rowl _ _ _ _ _ _]) rfl (by kernel_rfl) (by kernel_rfl) (by kernel_rfl) #[true, true, true, true, true, true, true, true, true, true, true, true, true, true, true, true, true, true, true, true, true, false, false, false, false, false, false, false, false] (by kernel_rfl) rfl rfl rfl rfl rfl off_undef rfl rfl (weak_refl) (listed' := #[true, true, true, true, true, true, true, true, true, true, true, true, true, true, true, true, true, true, true, true, true, true, false, false, false, false, false, false, false]) rfl ?_
                refine ge_take_off 22 (TK := [rowl _ _ _ _ _ _, rowl _ _ _ _ _ _]) rfl (by kernel_rfl) (by kernel_rfl) (by kernel_rfl) #[true, true, true, true, true, true, true, true, true, true, true, true, true, true, true, true, true, true, true, true, true, true, false, false, false, false, false, false, false] (by kernel_rfl) rfl rfl rfl rfl rfl off_undef rfl rfl (weak_refl) (listed' := #[true, true, true, true, true, true, true, true, true, true, true, true, true, true, true, true, true, true, true, true, true, true, true, false, false, false, false, false, false]) rfl ?_
                refine ge_take_off 23 (TK := [rowl _ _ _ _ _ _, rowl _ _ _ _ _ _]) rfl (by kernel_rfl) (by kernel_rfl) (by kernel_rfl) #[true, true, true, true, true, true, true, true, true, true, true, true, true, true, true, true, true, true, true, true, true, true, true, false, false, false, false, false, false] (by kernel_rfl) rfl rfl rfl rfl rfl off_undef rfl rfl (weak_refl) (listed' := #[true, true, true, true, true, true, true, true, true, true, true, true, true, true, true, true, true, true, true, true, true, true, true, true, false, false, false, false, false]) rfl ?_
                refine ge_take_off 24 (TK := [rowl _ _ _ _ _ _, rowl _ _ _ _ _ _]) rfl (by kernel_rfl) (by kernel_rfl) (by kernel_rfl) #[true, true, true, true, true, true, true, true, true, true, true, true, true, true, true, true, true, true, true, true, true, true, true, true, false, false, false, false, false] (by kernel_rfl) rfl rfl rfl rfl rfl off_undef rfl rfl (weak_refl) (listed' := #[true, true, true, true, true, true, true, true, true, true, true, true, true, true, true, true, true, true, true, true, true, true, true, true, true, false, false, false, false]) rfl ?_
                refine ge_take_off 25 (TK := [rowl _ _ _ _ _ _, rowl _ _ _ _ _ _]) rfl (by kernel_rfl) (by kernel_rfl) (by kernel_rfl) #[true, true, true, true, true, true, true, true, true, true, true, true, true, true, true, true, true, true, true, true, true, true, true, true, true, false, false, false, false] (by kernel_rfl) rfl rfl rfl rfl rfl (off_of hg64) rfl rfl (weak_refl) (listed' := #[true, true, true, true, true, true, true, true, true, true, true, true, true, true, true, true, true, true, true, true, true, true, true, true, true, true, false, false, false]) rfl ?_
                refine ge_take 26 (TK := [rowl _ _ _ _ _ _, rowl _ _ _ _ _ _]) rfl (by kernel_rfl) (by kernel_rfl) (by kernel_rfl) #[true, true, true, true, true, true, true, true, true, true, true, true, true, true, true, true, true, true, true, true, true, true, true, true, true, true, false, false, false] (by kernel_rfl) rfl (y_pick_f (v := .bool _) rfl hg64 rfl) rfl rfl rfl (weak_refl) (listed' := #[true, true, true, true, true, true, true, true, true, true, true, true, true, true, true, true, true, true, true, true, true, true, true, true, true, true, true, false, false]) rfl ?_
                refine ge_take 27 (TK := [rowl _ _ _ _ _ _, rowl _ _ _ _ _ _]) rfl (by kernel_rfl) (by kernel_rfl) (by kernel_rfl) #[true, true, true, true, true, true, true, true, true, true, true, true, true, true, true, true, true, true, true, true, true, true, true, true, true, true, true, false, false] (by kernel_rfl) rfl (y_indexAddr (m := k) Tryd.underlying82 Tryd.sizeOf4 rfl rfl (by omega) (by omega) (by omega)) rfl rfl rfl (weak_refl) (listed' := #[true, true, true, true, true, true, true, true, true, true, true, true, true, true, true, true, true, true, true, true, true, true, true, true, true, true, true, true, false]) rfl ?_
                refine ge_one 28 (k' := 1) (listed' := #[true, true, true, true, true, true, true, true, true, true, true, true, true, true, true, true, true, true, true, true, true, true, true, true, true, true, true, true, true]) (by kernel_rfl) rfl rfl rfl ?_
                refine gop_store_row 1 (f := boolCells) (l := dpPart s.size k (dp (starP p) (charP p s) (i + 1))) (k := k) (o := 0) (v := .bool _) (a := false) (a' := _) (fun _ => rfl) rfl rfl rfl Tryd.sizeOf4 rfl rfl rfl rfl (dpPart_len _ _ _).symm (dpPart_at (by omega)) (Nat.le_of_ble_eq_true rfl) rfl rfl ?_
                refine gops_nil ?_
                refine ge_fin (TK := []) rfl (weak_nil) ?_
                refine ge_done (by kernel_rfl) ?_
                refine hN14 _ _ ?_
                refine gT [rowl _ _ _ _ _ _, rowl _ _ _ _ _ _] rfl ?_
                refine gfrom [(0, .string _), (1, .string _), (5, .slice (some ⟨g, 0, none⟩) _ _), (6, .int _ _), (7, .slice (some _) _ _), (8, .int _ _)] ⟨rfl, rfl, rfl, rfl, rfl, rfl, trivial⟩ fun σ => ?_
                refine greg ?_
                refine gop (y_move (v := .int _ _) rfl) rfl rfl rfl ?_
                refine gop (y_add rfl rfl ⟨by omega, by omega⟩) rfl rfl rfl ?_
                refine gop (y_assign (v := .int _ _) rfl) rfl rfl rfl ?_
                refine gops_nil ?_
                rw [dpPart_put (f := (dp (starP p) (charP p s) (i + 1))) (by omega) (dp_cf hst (by omega) hg64d)]
                refine gnext2 (k + 1) (by omega) (show k + 1 ≤ _ by omega) ⟨rfl, trivial⟩ ⟨rfl, rfl, rfl, rfl, rfl, trivial⟩ ⟨_, rfl⟩
            · 
              have hg57d := of_decide_eq_false hg57
              refine ge_take_off 5 (TK := [rowl _ _ _ _ _ _, rowl _ _ _ _ _ _]) rfl (by kernel_rfl) (by kernel_rfl) (by kernel_rfl) #[true, true, true, true, true, false, true, true, false, false, false, false, false, false, false, false, false, false, false, false, false, false, false, false, false, false, false, false, false] (by kernel_rfl) rfl rfl rfl rfl rfl (off_of hg57) rfl rfl (weak_refl) (listed' := #[true, true, true, true, true, true, false, false, false, false, false, false, false, false, false, false, false, false, false, false, false, false, false, false, false, false, false, false, false]) rfl ?_
              refine ge_take_off 6 (TK := [rowl _ _ _ _ _ _, rowl _ _ _ _ _ _]) rfl (by kernel_rfl) (by kernel_rfl) (by kernel_rfl) #[true, true, true, true, true, true, false, false, false, false, false, false, false, false, false, false, false, false, false, false, false, false, false, false, false, false, false, false, false] (by kernel_rfl) rfl rfl rfl rfl rfl (off_of hg57) rfl rfl (weak_refl) (listed' := #[true, true, true, true, true, true, true, false, false, false, false, false, false, false, false, false, false, false, false, false, false, false, false, false, false, false, false, false, false]) rfl ?_
              refine ge_take_off 7 (TK := [rowl _ _ _ _ _ _, rowl _ _ _ _ _ _]) rfl (by kernel_rfl) (by kernel_rfl) (by kernel_rfl) #[true, true, true, true, true, true, true, false, false, false, false, false, false, false, false, false, false, false, false, false, false, false, false, false, false, false, false, false, false] (by kernel_rfl) rfl rfl rfl rfl rfl (off_of hg57) rfl rfl (weak_refl) (listed' := #[true, true, true, true, true, true, true, true, false, false, false, false, false, false, false, false, false, false, false, false, false, false, false, false, false, false, false, false, false]) rfl ?_
              refine ge_take_off 8 (TK := [rowl _ _ _ _ _ _, rowl _ _ _ _ _ _]) rfl (by kernel_rfl) (by kernel_rfl) (by kernel_rfl) #[true, true, true, true, true, true, true, true, false, false, false, false, false, false, false, false, false, false, false, false, false, false, false, false, false, false, false, false, false] (by kernel_rfl) rfl rfl rfl rfl rfl (off_of hg57) rfl rfl (weak_refl) (listed' := #[true, true, true, true, true, true, true, true, true, false, false, false, false, false, false, false, false, false, false, false, false, false, false, false, false, false, false, false, false]) rfl ?_
              refine ge_take_off 9 (TK := [rowl _ _ _ _ _ _, rowl _ _ _ _ _ _]) rfl (by kernel_rfl) (by kernel_rfl) (by kernel_rfl) #[true, true, true, true, true, true, true, true, true, false, false, false, false, false, false, false, false, false, false, false, false, false, false, false, false, false, false, false, false] (by kernel_rfl) rfl rfl rfl rfl rfl (off_of hg57) rfl rfl (weak_refl) (listed' := #[true, true, true, true, true, true, true, true, true, true, false, false, false, false, false, false, false, false, false, false, false, false, false, false, false, false, false, false, false]) rfl ?_
              refine ge_take 10 (TK := [rowl _ _ _ _ _ _, rowl _ _ _ _ _ _]) rfl (by kernel_rfl) (by kernel_rfl) (by kernel_rfl) #[true, true, true, true, true, true, true, true, true, true, false, false, false, false, false, false, false, false, false, false, false, false, false, false, false, false, false, false, false] (by kernel_rfl) rfl (y_pick_f (v := .bool _) rfl hg57 rfl) rfl rfl rfl (weak_refl) (listed' := #[true, true, true, true, true, true, true, true, true, true, true, false, false, false, false, false, false, false, false, false, false, false, false, false, false, false, false, false, false]) rfl ?_
              refine ge_take 11 (TK := [rowl _ _ _ _ _ _, rowl _ _ _ _ _ _]) rfl (by kernel_rfl) (by kernel_rfl) (by kernel_rfl) #[true, true, true, true, true, true, true, true, true, true, true, false, false, false, false, false, false, false, false, false, false, false, false, false, false, false, false, false, false] (by kernel_rfl) rfl (y_move (v := .bool _) rfl) rfl rfl rfl (weak_refl) (listed' := #[true, true, true, true, true, true, true, true, true, true, true, true, false, false, false, false, false, false, false, false, false, false, false, false, false, false, false, false, false]) rfl ?_
              refine ge_take_off 12 (TK := [rowl _ _ _ _ _ _, rowl _ _ _ _ _ _]) rfl (by kernel_rfl) (by kernel_rfl) (by kernel_rfl) #[true, true, true, true, true, true, true, true, true, true, true, true, false, true, false, false, false, false, false, false, false, false, false, false, false, false, false, false, false] (by kernel_rfl) rfl rfl rfl rfl rfl (off_of rfl) rfl rfl (weak_refl) (listed' := #[true, true, true, true, true, true, true, true, true, true, true, true, true, false, false, false, false, false, false, false, false, false, false, false, false, false, false, false, false]) rfl ?_
              refine ge_take_off 13 (TK := [rowl _ _ _ _ _ _, rowl _ _ _ _ _ _]) rfl (by kernel_rfl) (by kernel_rfl) (by kernel_rfl) #[true, true, true, true, true, true, true, true, true, true, true, true, true, false, false, false, false, false, false, false, false, false, false, false, false, false, false, false, false] (by kernel_rfl) rfl rfl rfl rfl rfl (off_of rfl) rfl rfl (weak_refl) (listed' := #[true, true, true, true, true, true, true, true, true, true, true, true, true, true, false, false, false, false, false, false, false, false, false, false, false, false, false, false, false]) rfl ?_
              refine ge_take_off 14 (TK := [rowl _ _ _ _ _ _, rowl _ _ _ _ _ _]) rfl (by kernel_rfl) (by kernel_rfl) (by kernel_rfl) #[true, true, true, true, true, true, true, true, true, true, true, true, true, true, false, false, false, false, false, false, false, false, false, false, false, false, false, false, false] (by kernel_rfl) rfl rfl rfl rfl rfl (off_of rfl) rfl rfl (weak_refl) (listed' := #[true, true, true, true, true, true, true, true, true, true, true, true, true, true, true, false, false, false, false, false, false, false, false, false, false, false, false, false, false]) rfl ?_
              refine ge_take_off 15 (TK := [rowl _ _ _ _ _ _, rowl _ _ _ _ _ _]) rfl (by kernel_rfl) (by kernel_rfl) (by kernel_rfl) #[true, true, true, true, true, true, true, true, true, true, true, true, true, true, true, false, false, false, false, false, false, false, false, false, false, false, false, false, false] (by kernel_rfl) rfl rfl rfl rfl rfl (off_of rfl) rfl rfl (weak_refl) (listed' := #[true, true, true, true, true, true, true, true, true, true, true, true, true, true, true, true, false, false, false, false, false, false, false, false, false, false, false, false, false]) rfl ?_
              refine ge_take_off 16 (TK := [rowl _ _ _ _ _ _, rowl _ _ _ _ _ _]) rfl (by kernel_rfl) (by kernel_rfl) (by kernel_rfl) #[true, true, true, true, true, true, true, true, true, true, true, true, true, true, true, true, false, false, false, false, false, false, false, false, false, false, false, false, false] (by kernel_rfl) rfl rfl rfl rfl rfl (off_of rfl) rfl rfl (weak_refl) (listed' := #[true, true, true, true, true, true, true, true, true, true, true, true, true, true, true, true, true, false, false, false, false, false, false, false, false, false, false, false, false]) rfl ?_
              refine ge_take_off 17 (TK := [rowl _ _ _ _ _ _, rowl _ _ _ _ _ _]) rfl (by kernel_rfl) (by kernel_rfl) (by kernel_rfl) #[true, true, true, true, true, true, true, true, true, true, true, true, true, true, true, true, true, false, true, false, true, true, true, true, false, false, false, false, false] (by kernel_rfl) rfl rfl rfl rfl rfl off_undef rfl rfl (weak_refl) (listed' := #[true, true, true, true, true, true, true, true, true, true, true, true, true, true, true, true, true, true, false, false, false, false, false, false, false, false, false, false, false]) rfl ?_
              refine ge_take_off 18 (TK := [rowl _ _ _ _ _ _, rowl _ _ _ _ _ _]) rfl (by kernel_rfl) (by kernel_rfl) (by kernel_rfl) #[true, true, true, true, true, true, true, true, true, true, true, true, true, true, true, true, true, true, false, false, true, true, true, true, false, false, false, false, false] (by kernel_rfl) rfl rfl rfl rfl rfl off_undef rfl rfl (weak_refl) (listed' := #[true, true, true, true, true, true, true, true, true, true, true, true, true, true, true, true, true, true, true, false, false, false, false, false, false, false, false, false, false]) rfl ?_
              refine ge_take_off 19 (TK := [rowl _ _ _ _ _ _, rowl _ _ _ _ _ _]) rfl (by kernel_rfl) (by kernel_rfl) (by kernel_rfl) #[true, true, true, true, true, true, true, true, true, true, true, true, true, true, true, true, true, true, true, false, true, true, true, true, false, false, false, false, false] (by kernel_rfl) rfl rfl rfl rfl rfl off_undef rfl rfl (weak_refl) (listed' := #[true, true, true, true, true, true, true, true, true, true, true, true, true, true, true, true, true, true, true, true, false, false, false, false, false, false, false, false, false]) rfl ?_
              refine ge_take_off 20 (TK := [rowl _ _ _ _ _ _, rowl _ _ _ _ _ _]) rfl (by kernel_rfl) (by kernel_rfl) (by kernel_rfl) #[true, true, true, true, true, true, true, true, true, true, true, true, true, true, true, true, true, true, true, true, false, true, true, false, false, false, false, false, false] (by kernel_rfl) rfl rfl rfl rfl rfl off_undef rfl rfl (weak_refl) (listed' := #[true, true, true, true, true, true, true, true, true, true, true, true, true, true, true, true, true, true, true, true, true, false, false, false, false, false, false, false, false]) rfl ?_
              refine ge_take_off 21 (TK := [rowl _ _ _ _ _ _, rowl _ _ _ _ _ _]) rfl (by kernel_rfl) (by kernel_rfl) (by kernel_rfl) #[true, true, true, true, true, true, true, true, true, true, true, true, true, true, true, true, true, true, true, true, true, false, false, false, false, false, false, false, false] (by kernel_rfl) rfl rfl rfl rfl rfl off_undef rfl rfl (weak_refl) (listed' := #[true, true, true, true, true, true, true, true, true, true, true, true, true, true, true, true, true, true, true, true, true, true, false, false, false, false, false, false, false]) rfl ?_
              refine ge_take_off 22 (TK := [rowl _ _ _ _ _ _, rowl _ _ _ _ _ _]) rfl (by kernel_rfl) (by kernel_rfl) (by kernel_rfl) #[true, true, true, true, true, true, true, true, true, true, true, true, true, true, true, true, true, true, true, true, true, true, false, false, false, false, false, false, false] (by kernel_rfl) rfl rfl rfl rfl rfl off_undef rfl rfl (weak_refl) (listed' := #[true, true, true, true, true, true, true, true, true, true, true, true, true, true, true, true, true, true, true, true, true, true, true, false, false, false, false, false, false]) rfl ?_
              refine ge_take_off 23 (TK := [rowl _ _ _ _ _ _, rowl _ _ _ _ _ _]) rfl (by kernel_rfl) (by kernel_rfl) (by kernel_rfl) #[true, true, true, true, true, true, true, true, true, true, true, true, true, true, true, true, true, true, true, true, true, true, true, false, false, false, false, false, false] (by kernel_rfl) rfl rfl rfl rfl rfl off_undef rfl rfl (weak_refl) (listed' := #[true, true, true, true, true, true, true, true, true, true, true, true, true, true, true, true, true, true, true, true, true, true, true, true, false, false, false, false, false]) rfl ?_
              refine ge_take_off 24 (TK := [rowl _ _ _ _ _ _, rowl _ _ _ _ _ _]) rfl (by kernel_rfl) (by kernel_rfl) (by kernel_rfl) #[true, true, true, true, true, true, true, true, true, true, true, true, true, true, true, true, true, true, true, true, true, true, true, true, false, false, false, false, false] (by kernel_rfl) rfl rfl rfl rfl rfl off_undef rfl rfl (weak_refl) (listed' := #[true, true, true, true, true, true, true, true, true, true, true, true, true, true, true, true, true, true, true, true, true, true, true, true, true, false, false, false, false]) rfl ?_
              refine ge_take_off 25 (TK := [rowl _ _ _ _ _ _, rowl _ _ _ _ _ _]) rfl (by kernel_rfl) (by kernel_rfl) (by kernel_rfl) #[true, true, true, true, true, true, true, true, true, true, true, true, true, true, true, true, true, true, true, true, true, true, true, true, true, false, false, false, false] (by kernel_rfl) rfl rfl rfl rfl rfl (off_of rfl) rfl rfl (weak_refl) (listed' := #[true, true, true, true, true, true, true, true, true, true, true, true, true, true, true, true, true, true, true, true, true, true, true, true, true, true, false, false, false]) rfl ?_
              refine ge_take 26 (TK := [rowl _ _ _ _ _ _, rowl _ _ _ _ _ _]) rfl (by kernel_rfl) (by kernel_rfl) (by kernel_rfl) #[true, true, true, true, true, true, true, true, true, true, true, true, true, true, true, true, true, true, true, true, true, true, true, true, true, true, false, false, false] (by kernel_rfl) rfl (y_pick_f (v := .bool _) rfl rfl rfl) rfl rfl rfl (weak_refl) (listed' := #[true, true, true, true, true, true, true, true, true, true, true, true, true, true, true, true, true, true, true, true, true, true, true, true, true, true, true, false, false]) rfl ?_
              refine ge_take 27 (TK := [rowl _ _ _ _ _ _, rowl _ _ _ _ _ _]) rfl (by kernel_rfl) (by kernel_rfl) (by kernel_rfl) #[true, true, true, true, true, true, true, true, true, true, true, true, true, true, true, true, true, true, true, true, true, true, true, true, true, true, true, false, false] (by kernel_rfl) rfl (y_indexAddr (m := k) Tryd.underlying82 Tryd.sizeOf4 rfl rfl (by omega) (by omega) (by omega)) rfl rfl rfl (weak_refl) (listed' := #[true, true, true, true, true, true, true, true, true, true, true, true, true, true, true, true, true, true, true, true, true, true, true, true, true, true, true, true, false]) rfl ?_
              refine ge_one 28 (k' := 1) (listed' := #[true, true, true, true, true, true, true, true, true, true, true, true, true, true, true, true, true, true, true, true, true, true, true, true, true, true, true, true, true]) (by kernel_rfl) rfl rfl rfl ?_
              refine gop_store_row 1 (f := boolCells) (l := dpPart s.size k (dp (starP p) (charP p s) (i + 1))) (k := k) (o := 0) (v := .bool _) (a := false) (a' := _) (fun _ => rfl) rfl rfl rfl Tryd.sizeOf4 rfl rfl rfl rfl (dpPart_len _ _ _).symm (dpPart_at (by omega)) (Nat.le_of_ble_eq_true rfl) rfl rfl ?_
              refine gops_nil ?_
              refine ge_fin (TK := []) rfl (weak_nil) ?_
              refine ge_done (by kernel_rfl) ?_
              refine hN14 _ _ ?_
              refine gT [rowl _ _ _ _ _ _, rowl _ _ _ _ _ _] rfl ?_
              refine gfrom [(0, .string _), (1, .string _), (5, .slice (some ⟨g, 0, none⟩) _ _), (6, .int _ _), (7, .slice (some _) _ _), (8, .int _ _)] ⟨rfl, rfl, rfl, rfl, rfl, rfl, trivial⟩ fun σ => ?_
              refine greg ?_
              refine gop (y_move (v := .int _ _) rfl) rfl rfl rfl ?_
              refine gop (y_add rfl rfl ⟨by omega, by omega⟩) rfl rfl rfl ?_
              refine gop (y_assign (v := .int _ _) rfl) rfl rfl rfl ?_
              refine gops_nil ?_
              rw [dpPart_put (f := (dp (starP p) (charP p s) (i + 1))) (by omega) (dp_c0 hst (by omega))]
              refine gnext2 (k + 1) (by omega) (show k + 1 ≤ _ by omega) ⟨rfl, trivial⟩ ⟨rfl, rfl, rfl, rfl, rfl, trivial⟩ ⟨_, rfl⟩
        · 
          replace hc28 := of_decide_eq_false hc28
          refine gexit ?_
          refine hN10 _ _ ?_
          refine gfrom [(0, .string _), (1, .string _), (6, .int _ _), (7, .slice (some _) _ _)] ⟨rfl, rfl, rfl, rfl, trivial⟩ fun σ => ?_
          refine greg ?_
          refine gop (y_move (v := .slice (some _) _ _) rfl) rfl rfl rfl ?_
          refine gop (y_assign (v := .slice (some _) _ _) rfl) rfl rfl rfl ?_
          refine gops_nil ?_
          refine hN8 _ _ ?_
          refine gfrom [(0, .string _), (1, .string _), (5, .slice (some _) _ _), (6, .int _ _)] ⟨rfl, rfl, rfl, rfl, trivial⟩ fun σ => ?_
          refine greg ?_
          refine gop (y_move (v := .int _ _) rfl) rfl rfl rfl ?_
          refine gop (y_add rfl rfl ⟨by omega, by omega⟩) rfl rfl rfl ?_
          refine gop (y_assign (v := .int _ _) rfl) rfl rfl rfl ?_
          refine gops_nil ?_
          rw [show k = s.size + 1 by omega, dpPart_full]
          refine fin_mem _ (weak_perm (List.Perm.swap _ _ _)) ?_
          refine gnext2 ((i + 1, b24)) (by show p.size - (i + 1) < p.size - i; omega) (show i + 1 ≤ _ by omega) ⟨rfl, rfl, trivial⟩ ⟨rfl, rfl, trivial⟩ ⟨_, rfl⟩
    · 
      replace hc18 := of_decide_eq_false hc18
      obtain rfl : i = p.size := by omega
      refine gexit ?_
      refine hN4 _ _ ?_
      refine gfrom [(1, .string _), (5, .slice (some ⟨g, 0, none⟩) _ _)] ⟨rfl, rfl, trivial⟩ fun σ => ?_
      refine gseq fun N16 hN16 => ?_
      refine greg ?_
      refine gop (y_move (v := .slice (some ⟨g, 0, none⟩) _ _) rfl) rfl rfl rfl ?_
      refine gop (y_move (v := .string _) rfl) rfl rfl rfl ?_
      refine gop (y_lens Tryd.underlying9 rfl) rfl rfl rfl ?_
      refine gop (y_indexAddr (m := s.size) Tryd.underlying82 Tryd.sizeOf4 rfl rfl (by omega) (by omega) (by omega)) rfl rfl rfl ?_
      refine gop (y_load Tryd.isAgg4 rfl (cells_rowl 0 (f := boolCells) (l := dpRow s.size (dp (starP p) (charP p s) p.size)) rfl (dpRow_len _ _).symm (fun _ => rfl) (dpRow_get (Nat.le_refl _)) 0 _ rfl)) rfl rfl rfl ?_
      refine gop (y_assign (v := .bool _) rfl) rfl rfl rfl ?_
      refine gops_nil ?_
      refine hN16 _ _ ?_
      refine gfrom [(4, .bool _)] ⟨rfl, trivial⟩ fun σ => ?_
      refine gret fun w1 hM => ?_
      refine ⟨_, res1 rfl (rt (v := .bool _) rfl), ?_⟩
      exact ⟨by rw [dp_name], hM.low⟩
set_option maxHeartbeats 4000000 in
theorem refMatches_any (w : World) (p s : ByteArray) (hp : p.size ≤ 4000000) (hs : s.size ≤ 4000000) : Calls Tryd.prog 40 #[.string p, .string s] w fun e w' => e = .returned (.bool (wk (cutS p) (cutS s))) ∧ Below w.heap.size w w' := by
  have hc1 := cutS_len p
  have hc2 := cutS_len s
  refine gcalls Tryd.func40 rfl Tryd.ntmps40 (Nat.le_of_ble_eq_true rfl) ?_
  refine gfrom [(0, .string _), (1, .string _)] ⟨rfl, rfl, trivial⟩ fun σ => ?_
  refine gseq fun N1 hN1 => ?_
  refine greg ?_
  refine gop (y_assign (v := .bool _) rfl) rfl rfl rfl ?_
  refine gops_nil ?_
  refine hN1 _ _ ?_
  refine gfrom [(0, .string _), (1, .string _)] ⟨rfl, rfl, trivial⟩ fun σ => ?_
  refine gseq fun N2 hN2 => ?_
  refine greg ?_
  refine gop (y_move (v := .string _) rfl) rfl rfl rfl ?_
  refine gop_got (fun v T' => ∃ lo, w.heap.size ≤ lo ∧ T' = [rowl strCells lo 9 1 v (cutS p)]) (e_call (vs := [.string _]) Tryd.func47 rfl (by kernel_rfl) rfl) (fun w hM => (cut_any w p hp).mono fun _ _ ⟨v, T1, h1, h2, h3⟩ => ⟨v, T1, h1, ⟨_, hM.low.size, h2⟩, h3⟩) rfl rfl rfl ?_
  rintro v12 _ ⟨lo12, hlo12, rfl⟩
  refine gops_fact (fun w hM => row_form (hM.ok _ (List.mem_of_getElem? (i := 0) rfl))) ?_
  rintro ⟨A12, c12, rfl, hc12, hm12, hn12⟩
  refine gops_fact (fun w hM => own_some (hM.own 0 rfl) (cutS_pos p)) ?_
  rintro ⟨rg0, cg0, hvg, -, -⟩
  simp only [Value.slice.injEq] at hvg
  obtain ⟨rfl, -, rfl⟩ := hvg
  refine gop (y_assign (v := .slice (some ⟨rg0, 0, none⟩) _ _) rfl) rfl rfl rfl ?_
  refine gops_nil ?_
  refine hN2 _ _ ?_
  refine gT [rowl _ _ _ _ _ _] rfl ?_
  refine gfrom [(1, .string _), (5, .slice (some ⟨rg0, 0, none⟩) _ _)] ⟨rfl, rfl, trivial⟩ fun σ => ?_
  refine gseq fun N3 hN3 => ?_
  refine greg ?_
  refine gop (y_move (v := .string _) rfl) rfl rfl rfl ?_
  refine gop_got (fun v T' => ∃ lo, w.heap.size ≤ lo ∧ T' = [rowl strCells lo 9 1 v (cutS s)]) (e_call (vs := [.string _]) Tryd.func47 rfl (by kernel_rfl) rfl) (fun w hM => (cut_any w s hs).mono fun _ _ ⟨v, T1, h1, h2, h3⟩ => ⟨v, T1, h1, ⟨_, hM.low.size, h2⟩, h3⟩) rfl rfl rfl ?_
  rintro v14 _ ⟨lo14, hlo14, rfl⟩
  refine gops_fact (fun w hM => row_form (hM.ok _ (List.mem_of_getElem? (i := 1) rfl))) ?_
  rintro ⟨A14, c14, rfl, hc14, hm14, hn14⟩
  refine gops_fact (fun w hM => own_some (hM.own 1 rfl) (cutS_pos s)) ?_
  rintro ⟨rg1, cg1, hvg, -, -⟩
  simp only [Value.slice.injEq] at hvg
  obtain ⟨rfl, -, rfl⟩ := hvg
  refine gop (y_assign (v := .slice (some ⟨rg1, 0, none⟩) _ _) rfl) rfl rfl rfl ?_
  refine gops_nil ?_
  refine hN3 _ _ ?_
  refine gT [rowl _ _ _ _ _ _, rowl _ _ _ _ _ _] rfl ?_
  refine gfrom [(5, .slice (some ⟨rg0, 0, none⟩) _ _), (6, .slice (some ⟨rg1, 0, none⟩) _ _)] ⟨rfl, rfl, trivial⟩ fun σ => ?_
  refine gseq fun N4 hN4 => ?_
  refine greg ?_
  refine gop (y_move (v := .slice (some ⟨rg1, 0, none⟩) _ _) rfl) rfl rfl rfl ?_
  refine gop (y_len Tryd.underlying37 rfl) rfl rfl rfl ?_
  refine gop (y_add rfl rfl ⟨by omega, by omega⟩) rfl rfl rfl ?_
  refine gop_make (f := boolCells) (bytes := 1) (z := .bool false) (false) Tryd.underlying82 (by kernel_rfl) rfl rfl rfl (k := (cutS s).length + 1) rfl rfl (by omega) (by simp [maxLen]; omega) rfl (fun b18 hb18 => ?_)
  refine gop (y_assign (v := .slice (some _) _ _) rfl) rfl rfl rfl ?_
  refine gops_nil ?_
  refine hN4 _ _ ?_
  refine gT [rowl _ _ _ _ _ _, rowl _ _ _ _ _ _, rowl _ _ _ _ _ _] rfl ?_
  refine gfrom [(5, .slice (some ⟨rg0, 0, none⟩) _ _), (6, .slice (some ⟨rg1, 0, none⟩) _ _), (7, .slice (some _) _ _)] ⟨rfl, rfl, rfl, trivial⟩ fun σ => ?_
  refine gseq fun N5 hN5 => ?_
  refine greg ?_
  refine gop (y_move (v := .slice (some _) _ _) rfl) rfl rfl rfl ?_
  refine gop (y_indexAddr Tryd.underlying82 Tryd.sizeOf4 rfl rfl rfl (by omega) (by omega)) rfl rfl rfl ?_
  refine gop_store_row 2 (f := boolCells) (l := List.replicate ((cutS s).length + 1) false) (k := 0) (o := 0) (v := .bool _) (a := false) (a' := true) (fun _ => rfl) rfl rfl rfl Tryd.sizeOf4 rfl rfl rfl rfl (by simp) (by simp) (Nat.le_of_ble_eq_true rfl) rfl rfl ?_
  refine gops_nil ?_
  refine hN5 _ _ ?_
  refine gT [rowl _ _ _ _ _ _, rowl _ _ _ _ _ _, rowl _ _ _ _ _ _] rfl ?_
  refine gfrom [(5, .slice (some ⟨rg0, 0, none⟩) _ _), (6, .slice (some ⟨rg1, 0, none⟩) _ _), (7, .slice (some _) _ _)] ⟨rfl, rfl, rfl, trivial⟩ fun σ => ?_
  refine gseq fun N6 hN6 => ?_
  refine gseq fun N7 hN7 => ?_
  refine greg ?_
  refine gop (y_assign (v := .int _ _) rfl) rfl rfl rfl ?_
  refine gops_nil ?_
  refine hN7 _ _ ?_
  refine gfrom [(5, .slice (some ⟨rg0, 0, none⟩) _ _), (6, .slice (some ⟨rg1, 0, none⟩) _ _), (7, .slice (some _) _ _), (8, .int _ _)] ⟨rfl, rfl, rfl, rfl, trivial⟩ fun σ => ?_
  refine gblock ?_
  rw [dp_first (cutS s).length (starW2 (cutS p)) (charW (cutS p) (cutS s))]
  refine gfrom2 [(7, .slice (some _) _ _), (8, .int _ _)] [(5, .slice (some ⟨rg0, 0, none⟩) _ _), (6, .slice (some ⟨rg1, 0, none⟩) _ _)] ⟨rfl, rfl, trivial⟩ ⟨rfl, rfl, trivial⟩ fun σ => ?_
  refine gloop2 (G := Nat × Nat) (fun (i, g) => i ≤ (cutS p).length) (fun (i, g) => (cutS p).length - i) (fun (i, g) => [(7, .slice (some ⟨g, 0, none⟩) ((cutS s).length + 1) ((cutS s).length + 1)), (8, .int .i64 (i : Int))]) (fun (i, g) => [(2, rowl boolCells w.heap.size 4 1 (.slice (some ⟨g, 0, none⟩) ((cutS s).length + 1) ((cutS s).length + 1)) (dpRow (cutS s).length (dp (starW2 (cutS p)) (charW (cutS p) (cutS s)) i)))]) ((0, b18)) ?h0 ⟨rfl, rfl, trivial⟩ ⟨rfl, rfl, trivial⟩ rfl ?round
  case h0 => exact Nat.zero_le _
  case round =>
    rintro ⟨i, g⟩ hφ σ
    have hi : i ≤ (cutS p).length := hφ
    refine gT [rowl _ _ _ _ _ _, rowl _ _ _ _ _ _, rowl _ _ _ _ _ _] rfl ?_
    refine gseq fun N8 hN8 => ?_
    refine gseq fun N9 hN9 => ?_
    refine greg ?_
    refine gop (y_move (v := .int _ _) rfl) rfl rfl rfl ?_
    refine gop (y_move (v := .slice (some ⟨rg0, 0, none⟩) _ _) rfl) rfl rfl rfl ?_
    refine gop (y_len Tryd.underlying37 rfl) rfl rfl rfl ?_
    refine gop (y_lss rfl rfl) rfl rfl rfl ?_
    refine gops_nil ?_
    refine hN9 _ _ ?_
    refine gfrom [(5, .slice (some ⟨rg0, 0, none⟩) _ _), (6, .slice (some ⟨rg1, 0, none⟩) _ _), (7, .slice (some ⟨g, 0, none⟩) _ _), (8, .int _ _), (24, .bool _)] ⟨rfl, rfl, rfl, rfl, rfl, trivial⟩ fun σ => ?_
    refine gcond (b := _) rfl (fun hc24 => ?_) (fun hc24 => ?_)
    · 
      replace hc24 := of_decide_eq_true hc24
      have hi1 : i < (cutS p).length := by omega
      refine gskip ?_
      refine hN8 _ _ ?_
      refine gfrom [(5, .slice (some ⟨rg0, 0, none⟩) _ _), (6, .slice (some ⟨rg1, 0, none⟩) _ _), (7, .slice (some ⟨g, 0, none⟩) _ _), (8, .int _ _)] ⟨rfl, rfl, rfl, rfl, trivial⟩ fun σ => ?_
      refine gseq fun N10 hN10 => ?_
      refine gblock ?_
      refine gseq fun N11 hN11 => ?_
      refine greg ?_
      refine gop (y_move (v := .slice (some ⟨rg1, 0, none⟩) _ _) rfl) rfl rfl rfl ?_
      refine gop (y_len Tryd.underlying37 rfl) rfl rfl rfl ?_
      refine gop (y_add rfl rfl ⟨by omega, by omega⟩) rfl rfl rfl ?_
      refine gop_make (f := boolCells) (bytes := 1) (z := .bool false) (false) Tryd.underlying82 (by kernel_rfl) rfl rfl rfl (k := (cutS s).length + 1) rfl rfl (by omega) (by simp [maxLen]; omega) rfl (fun b30 hb30 => ?_)
      refine gop (y_assign (v := .slice (some _) _ _) rfl) rfl rfl rfl ?_
      refine gops_nil ?_
      refine hN11 _ _ ?_
      refine gT [rowl _ _ _ _ _ _, rowl _ _ _ _ _ _, rowl _ _ _ _ _ _, rowl _ _ _ _ _ _] rfl ?_
      refine gfrom [(5, .slice (some ⟨rg0, 0, none⟩) _ _), (6, .slice (some ⟨rg1, 0, none⟩) _ _), (7, .slice (some ⟨g, 0, none⟩) _ _), (8, .int _ _), (9, .slice (some _) _ _)] ⟨rfl, rfl, rfl, rfl, rfl, trivial⟩ fun σ => ?_
      refine gseq fun N12 hN12 => ?_
      refine gseq fun N13 hN13 => ?_
      refine greg ?_
      refine gop (y_assign (v := .int _ _) rfl) rfl rfl rfl ?_
      refine gops_nil ?_
      refine hN13 _ _ ?_
      refine gfrom [(5, .slice (some ⟨rg0, 0, none⟩) _ _), (6, .slice (some ⟨rg1, 0, none⟩) _ _), (7, .slice (some ⟨g, 0, none⟩) _ _), (8, .int _ _), (9, .slice (some _) _ _), (10, .int _ _)] ⟨rfl, rfl, rfl, rfl, rfl, rfl, trivial⟩ fun σ => ?_
      refine gblock ?_
      rw [← dpPart_zero (cutS s).length (dp (starW2 (cutS p)) (charW (cutS p) (cutS s)) (i + 1))]
      refine gfrom2 [(10, .int _ _)] [(5, .slice (some ⟨rg0, 0, none⟩) _ _), (6, .slice (some ⟨rg1, 0, none⟩) _ _), (7, .slice (some ⟨g, 0, none⟩) _ _), (8, .int _ _), (9, .slice (some _) _ _)] ⟨rfl, trivial⟩ ⟨rfl, rfl, rfl, rfl, rfl, trivial⟩ fun σ => ?_
      refine gloop2 (G := Nat) (fun k => k ≤ (cutS s).length + 1) (fun k => (cutS s).length + 1 - k) (fun k => [(10, .int .i64 (k : Int))]) (fun k => [(3, rowl boolCells w.heap.size 4 1 (.slice (some ⟨b30, 0, none⟩) ((cutS s).length + 1) ((cutS s).length + 1)) (dpPart (cutS s).length k (dp (starW2 (cutS p)) (charW (cutS p) (cutS s)) (i + 1))))]) (0) ?h0 ⟨rfl, trivial⟩ ⟨rfl, rfl, rfl, rfl, rfl, trivial⟩ rfl ?round
      case h0 => exact Nat.zero_le _
      case round =>
        intro k hφ σ
        have hk : k ≤ (cutS s).length + 1 := hφ
        refine gT [rowl _ _ _ _ _ _, rowl _ _ _ _ _ _, rowl _ _ _ _ _ _, rowl _ _ _ _ _ _] rfl ?_
        refine gseq fun N14 hN14 => ?_
        refine gseq fun N15 hN15 => ?_
        refine greg ?_
        refine gop (y_move (v := .int _ _) rfl) rfl rfl rfl ?_
        refine gop (y_move (v := .slice (some ⟨rg1, 0, none⟩) _ _) rfl) rfl rfl rfl ?_
        refine gop (y_len Tryd.underlying37 rfl) rfl rfl rfl ?_
        refine gop (y_leq rfl rfl) rfl rfl rfl ?_
        refine gops_nil ?_
        refine hN15 _ _ ?_
        refine gfrom [(5, .slice (some ⟨rg0, 0, none⟩) _ _), (6, .slice (some ⟨rg1, 0, none⟩) _ _), (7, .slice (some ⟨g, 0, none⟩) _ _), (8, .int _ _), (9, .slice (some _) _ _), (10, .int _ _), (34, .bool _)] ⟨rfl, rfl, rfl, rfl, rfl, rfl, rfl, trivial⟩ fun σ => ?_
        refine gcond (b := _) rfl (fun hc34 => ?_) (fun hc34 => ?_)
        · 
          replace hc34 := of_decide_eq_true hc34
          refine gskip ?_
          refine hN14 _ _ ?_
          refine gfrom [(5, .slice (some ⟨rg0, 0, none⟩) _ _), (6, .slice (some ⟨rg1, 0, none⟩) _ _), (7, .slice (some ⟨g, 0, none⟩) _ _), (8, .int _ _), (9, .slice (some _) _ _), (10, .int _ _)] ⟨rfl, rfl, rfl, rfl, rfl, rfl, trivial⟩ fun σ => ?_
          refine gseq fun N16 hN16 => ?_
          refine gblock ?_
          refine gseq fun N17 hN17 => ?_
          refine greg ?_
          refine gop (y_move (v := .slice (some ⟨rg0, 0, none⟩) _ _) rfl) rfl rfl rfl ?_
          refine gop (y_move (v := .int _ _) rfl) rfl rfl rfl ?_
          refine gop (y_indexAddr (m := i) Tryd.underlying37 Tryd.sizeOf9 rfl rfl (by omega) (by omega) (by omega)) rfl rfl rfl ?_
          refine gop (y_load Tryd.isAgg9 rfl (cells_rowl 0 (f := strCells) (l := cutS p) rfl rfl (fun _ => rfl) (List.getElem?_eq_getElem hi1) 0 _ rfl)) rfl rfl rfl ?_
          refine gop (y_eqls rfl rfl) rfl rfl rfl ?_
          refine gops_nil ?_
          refine hN17 _ _ ?_
          refine gfrom [(5, .slice (some ⟨rg0, 0, none⟩) _ _), (6, .slice (some ⟨rg1, 0, none⟩) _ _), (7, .slice (some ⟨g, 0, none⟩) _ _), (8, .int _ _), (9, .slice (some _) _ _), (10, .int _ _), (41, .bool _)] ⟨rfl, rfl, rfl, rfl, rfl, rfl, rfl, trivial⟩ fun σ => ?_
          refine gcond (b := _) rfl (fun hc41 => ?_) (fun hc41 => ?_)
          · 
            have hst : starW2 (cutS p) i = true := by rw [starW2_at hi1]; exact hc41
            refine greg ?_
            refine gop (y_move (v := .slice (some _) _ _) rfl) rfl rfl rfl ?_
            refine gop (y_move (v := .int _ _) rfl) rfl rfl rfl ?_
            refine gop (y_move (v := .slice (some ⟨g, 0, none⟩) _ _) rfl) rfl rfl rfl ?_
            refine gop (y_move (v := .int _ _) rfl) rfl rfl rfl ?_
            refine gop (y_indexAddr (m := k) Tryd.underlying82 Tryd.sizeOf4 rfl rfl (by omega) (by omega) (by omega)) rfl rfl rfl ?_
            refine gop (y_load Tryd.isAgg4 rfl (cells_rowl 2 (f := boolCells) (l := dpRow (cutS s).length (dp (starW2 (cutS p)) (charW (cutS p) (cutS s)) i)) rfl (dpRow_len _ _).symm (fun _ => rfl) (dpRow_get (by omega)) 0 _ rfl)) rfl rfl rfl ?_
            refine gop (y_move (v := .bool _) rfl) rfl rfl rfl ?_
            refine gop_if (want := false) rfl rfl rfl rfl rfl rfl (fun hg48 => ?_) (fun hg48 => ?_)
            · 
              have hg48d := hg48
              refine gop (y_bare (y_move (v := .int _ _) rfl)) rfl rfl rfl ?_
              refine gop_on rfl rfl rfl rfl hg48 ?_
              refine gop (y_bare (y_gtr rfl rfl)) rfl rfl rfl ?_
              refine gop_on rfl rfl rfl rfl hg48 ?_
              refine gop (y_bare (y_move (v := .bool _) rfl)) rfl rfl rfl ?_
              refine gop_if (want := true) rfl rfl rfl rfl rfl rfl (fun hg51 => ?_) (fun hg51 => ?_)
              · 
                have hg51d := of_decide_eq_true hg51
                refine gop (y_bare (y_move (v := .slice (some _) _ _) rfl)) rfl rfl rfl ?_
                refine gop_on rfl rfl rfl rfl hg51 ?_
                refine gop (y_bare (y_move (v := .int _ _) rfl)) rfl rfl rfl ?_
                refine gop_on rfl rfl rfl rfl hg51 ?_
                refine gop (y_bare (y_sub rfl rfl ⟨by omega, by omega⟩)) rfl rfl rfl ?_
                refine gop_on rfl rfl rfl rfl hg51 ?_
                refine gop (y_bare (y_indexAddr (m := k - 1) Tryd.underlying82 Tryd.sizeOf4 rfl rfl (by omega) (by omega) (by omega))) rfl rfl rfl ?_
                refine gop_on rfl rfl rfl rfl hg51 ?_
                refine gop (y_bare (y_load Tryd.isAgg4 rfl (cells_rowl 3 (f := boolCells) (l := dpPart (cutS s).length k (dp (starW2 (cutS p)) (charW (cutS p) (cutS s)) (i + 1))) rfl (dpPart_len _ _ _).symm (fun _ => rfl) (dpPart_get (by omega) (by omega)) 0 _ rfl))) rfl rfl rfl ?_
                refine gop_on rfl rfl rfl rfl hg48 ?_
                refine gop (y_bare (y_pick_t (v := .bool _) rfl hg51 rfl)) rfl rfl rfl ?_
                refine gop (y_pick_f (v := .bool _) rfl hg48 rfl) rfl rfl rfl ?_
                refine gop (y_indexAddr (m := k) Tryd.underlying82 Tryd.sizeOf4 rfl rfl (by omega) (by omega) (by omega)) rfl rfl rfl ?_
                refine gop_store_row 3 (f := boolCells) (l := dpPart (cutS s).length k (dp (starW2 (cutS p)) (charW (cutS p) (cutS s)) (i + 1))) (k := k) (o := 0) (v := .bool _) (a := false) (a' := _) (fun _ => rfl) rfl rfl rfl Tryd.sizeOf4 rfl rfl rfl rfl (dpPart_len _ _ _).symm (dpPart_at (by omega)) (Nat.le_of_ble_eq_true rfl) rfl rfl ?_
                refine gops_nil ?_
                refine hN16 _ _ ?_
                refine gT [rowl _ _ _ _ _ _, rowl _ _ _ _ _ _, rowl _ _ _ _ _ _, rowl _ _ _ _ _ _] rfl ?_
                refine gfrom [(5, .slice (some ⟨rg0, 0, none⟩) _ _), (6, .slice (some ⟨rg1, 0, none⟩) _ _), (7, .slice (some ⟨g, 0, none⟩) _ _), (8, .int _ _), (9, .slice (some _) _ _), (10, .int _ _)] ⟨rfl, rfl, rfl, rfl, rfl, rfl, trivial⟩ fun σ => ?_
                refine greg ?_
                refine gop (y_move (v := .int _ _) rfl) rfl rfl rfl ?_
                refine gop (y_add rfl rfl ⟨by omega, by omega⟩) rfl rfl rfl ?_
                refine gop (y_assign (v := .int _ _) rfl) rfl rfl rfl ?_
                refine gops_nil ?_
                rw [dpPart_put (f := (dp (starW2 (cutS p)) (charW (cutS p) (cutS s)) (i + 1))) (by omega) (dp_more hst hg48d (by omega))]
                refine gnext2 (k + 1) (by omega) (show k + 1 ≤ _ by omega) ⟨rfl, trivial⟩ ⟨rfl, rfl, rfl, rfl, rfl, trivial⟩ ⟨_, rfl⟩
              · 
                have hg51d := of_decide_eq_false hg51
                refine gop_off rfl rfl rfl rfl hg51 rfl rfl ?_
                refine gop_off rfl rfl rfl rfl hg51 rfl rfl ?_
                refine gop_off rfl rfl rfl rfl hg51 rfl rfl ?_
                refine gop_off rfl rfl rfl rfl hg51 rfl rfl ?_
                refine gop_on rfl rfl rfl rfl hg48 ?_
                refine gop (y_bare (y_pick_f (v := .bool _) rfl hg51 rfl)) rfl rfl rfl ?_
                refine gop (y_pick_f (v := .bool _) rfl hg48 rfl) rfl rfl rfl ?_
                refine gop (y_indexAddr (m := k) Tryd.underlying82 Tryd.sizeOf4 rfl rfl (by omega) (by omega) (by omega)) rfl rfl rfl ?_
                refine gop_store_row 3 (f := boolCells) (l := dpPart (cutS s).length k (dp (starW2 (cutS p)) (charW (cutS p) (cutS s)) (i + 1))) (k := k) (o := 0) (v := .bool _) (a := false) (a' := _) (fun _ => rfl) rfl rfl rfl Tryd.sizeOf4 rfl rfl rfl rfl (dpPart_len _ _ _).symm (dpPart_at (by omega)) (Nat.le_of_ble_eq_true rfl) rfl rfl ?_
                refine gops_nil ?_
                refine hN16 _ _ ?_
                refine gT [rowl _ _ _ _ _ _, rowl _ _ _ _ _ _, rowl _ _ _ _ _ _, rowl _ _ _ _ _ _] rfl ?_
                refine gfrom [(5, .slice (some ⟨rg0, 0, none⟩) _ _), (6, .slice (some ⟨rg1, 0, none⟩) _ _), (7, .slice (some ⟨g, 0, none⟩) _ _), (8, .int _ _), (9, .slice (some _) _ _), (10, .int _ _)] ⟨rfl, rfl, rfl, rfl, rfl, rfl, trivial⟩ fun σ => ?_
                refine greg ?_
                refine gop (y_move (v := .int _ _) rfl) rfl rfl rfl ?_
                refine gop (y_add rfl rfl ⟨by omega, by omega⟩) rfl rfl rfl ?_
                refine gop (y_assign (v := .int _ _) rfl) rfl rfl rfl ?_
                refine gops_nil ?_
                rw [dpPart_put (f := (dp (starW2 (cutS p)) (charW (cutS p) (cutS s)) (i + 1))) (by omega) (dp_no hst hg48d (by omega))]
                refine gnext2 (k + 1) (by omega) (show k + 1 ≤ _ by omega) ⟨rfl, trivial⟩ ⟨rfl, rfl, rfl, rfl, rfl, trivial⟩ ⟨_, rfl⟩
            · 
              have hg48d := hg48
              refine gop_off rfl rfl rfl rfl hg48 rfl rfl ?_
              refine gop_off rfl rfl rfl rfl hg48 rfl rfl ?_
              refine gop_offu rfl rfl rfl rfl rfl rfl ?_
              refine gop_offu rfl rfl rfl rfl rfl rfl ?_
              refine gop_offu rfl rfl rfl rfl rfl rfl ?_
              refine gop_offu rfl rfl rfl rfl rfl rfl ?_
              refine gop_offu rfl rfl rfl rfl rfl rfl ?_
              refine gop_off rfl rfl rfl rfl hg48 rfl rfl ?_
              refine gop (y_pick_t (v := .bool _) rfl hg48 rfl) rfl rfl rfl ?_
              refine gop (y_indexAddr (m := k) Tryd.underlying82 Tryd.sizeOf4 rfl rfl (by omega) (by omega) (by omega)) rfl rfl rfl ?_
              refine gop_store_row 3 (f := boolCells) (l := dpPart (cutS s).length k (dp (starW2 (cutS p)) (charW (cutS p) (cutS s)) (i + 1))) (k := k) (o := 0) (v := .bool _) (a := false) (a' := _) (fun _ => rfl) rfl rfl rfl Tryd.sizeOf4 rfl rfl rfl rfl (dpPart_len _ _ _).symm (dpPart_at (by omega)) (Nat.le_of_ble_eq_true rfl) rfl rfl ?_
              refine gops_nil ?_
              refine hN16 _ _ ?_
              refine gT [rowl _ _ _ _ _ _, rowl _ _ _ _ _ _, rowl _ _ _ _ _ _, rowl _ _ _ _ _ _] rfl ?_
              refine gfrom [(5, .slice (some ⟨rg0, 0, none⟩) _ _), (6, .slice (some ⟨rg1, 0, none⟩) _ _), (7, .slice (some ⟨g, 0, none⟩) _ _), (8, .int _ _), (9, .slice (some _) _ _), (10, .int _ _)] ⟨rfl, rfl, rfl, rfl, rfl, rfl, trivial⟩ fun σ => ?_
              refine greg ?_
              refine gop (y_move (v := .int _ _) rfl) rfl rfl rfl ?_
              refine gop (y_add rfl rfl ⟨by omega, by omega⟩) rfl rfl rfl ?_
              refine gop (y_assign (v := .int _ _) rfl) rfl rfl rfl ?_
              refine gops_nil ?_
              rw [dpPart_put (f := (dp (starW2 (cutS p)) (charW (cutS p) (cutS s)) (i + 1))) (by omega) (dp_yes hst hg48d)]
              refine gnext2 (k + 1) (by omega) (show k + 1 ≤ _ by omega) ⟨rfl, trivial⟩ ⟨rfl, rfl, rfl, rfl, rfl, trivial⟩ ⟨_, rfl⟩
          · 
            have hst : starW2 (cutS p) i = false := by rw [starW2_at hi1]; exact hc41
            refine greg_e0 [24] (by kernel_rfl) ?_
            refine ge_take 0 (TK := [rowl _ _ _ _ _ _, rowl _ _ _ _ _ _, rowl _ _ _ _ _ _, rowl _ _ _ _ _ _]) rfl (by kernel_rfl) (by kernel_rfl) (by kernel_rfl) #[false, true, true, true, true, true, true, true, true, true, true, true, true, true, true, true, true, true, true, true, true, true, true, false, false] (by kernel_rfl) rfl (y_move (v := .slice (some _) _ _) rfl) rfl rfl rfl (weak_refl) (listed' := #[true, false, false, false, false, false, false, false, false, false, false, false, false, false, false, false, false, false, false, false, false, false, false, false, false]) rfl ?_
            refine ge_take 1 (TK := [rowl _ _ _ _ _ _, rowl _ _ _ _ _ _, rowl _ _ _ _ _ _, rowl _ _ _ _ _ _]) rfl (by kernel_rfl) (by kernel_rfl) (by kernel_rfl) #[true, false, true, true, true, true, true, true, true, true, true, true, true, true, true, true, true, true, true, true, true, true, true, false, false] (by kernel_rfl) rfl (y_move (v := .int _ _) rfl) rfl rfl rfl (weak_refl) (listed' := #[true, true, false, false, false, false, false, false, false, false, false, false, false, false, false, false, false, false, false, false, false, false, false, false, false]) rfl ?_
            refine ge_take 2 (TK := [rowl _ _ _ _ _ _, rowl _ _ _ _ _ _, rowl _ _ _ _ _ _, rowl _ _ _ _ _ _]) rfl (by kernel_rfl) (by kernel_rfl) (by kernel_rfl) #[true, true, false, false, false, false, false, false, false, false, false, false, false, false, false, false, false, false, false, false, false, false, false, false, false] (by kernel_rfl) rfl (y_move (v := .int _ _) rfl) rfl rfl rfl (weak_refl) (listed' := #[true, true, true, false, false, false, false, false, false, false, false, false, false, false, false, false, false, false, false, false, false, false, false, false, false]) rfl ?_
            refine ge_take 3 (TK := [rowl _ _ _ _ _ _, rowl _ _ _ _ _ _, rowl _ _ _ _ _ _, rowl _ _ _ _ _ _]) rfl (by kernel_rfl) (by kernel_rfl) (by kernel_rfl) #[true, true, true, false, false, false, false, false, false, false, false, false, false, false, false, false, false, false, false, false, false, false, false, false, false] (by kernel_rfl) rfl (y_gtr rfl rfl) rfl rfl rfl (weak_refl) (listed' := #[true, true, true, true, false, false, false, false, false, false, false, false, false, false, false, false, false, false, false, false, false, false, false, false, false]) rfl ?_
            refine ge_take 4 (TK := [rowl _ _ _ _ _ _, rowl _ _ _ _ _ _, rowl _ _ _ _ _ _, rowl _ _ _ _ _ _]) rfl (by kernel_rfl) (by kernel_rfl) (by kernel_rfl) #[true, true, true, true, false, false, false, false, false, false, false, false, false, false, false, false, false, false, false, false, false, false, false, false, false] (by kernel_rfl) rfl (y_move (v := .bool _) rfl) rfl rfl rfl (weak_refl) (listed' := #[true, true, true, true, true, false, false, false, false, false, false, false, false, false, false, false, false, false, false, false, false, false, false, false, false]) rfl ?_
            refine ge_dec 64 true rfl (fun hg64 => ?_) (fun hg64 => ?_)
            · 
              have hg64d := of_decide_eq_true hg64
              refine ge_take_on 5 (TK := [rowl _ _ _ _ _ _, rowl _ _ _ _ _ _, rowl _ _ _ _ _ _, rowl _ _ _ _ _ _]) rfl (by kernel_rfl) (by kernel_rfl) (by kernel_rfl) #[true, true, true, true, true, false, true, true, false, false, false, false, false, false, false, false, false, false, false, false, false, false, false, false, false] (by kernel_rfl) rfl rfl rfl rfl rfl hg64 (y_bare (y_move (v := .slice (some ⟨g, 0, none⟩) _ _) rfl)) rfl rfl (weak_refl) (listed' := #[true, true, true, true, true, true, false, false, false, false, false, false, false, false, false, false, false, false, false, false, false, false, false, false, false]) rfl ?_
              refine ge_take_on 6 (TK := [rowl _ _ _ _ _ _, rowl _ _ _ _ _ _, rowl _ _ _ _ _ _, rowl _ _ _ _ _ _]) rfl (by kernel_rfl) (by kernel_rfl) (by kernel_rfl) #[true, true, true, true, true, true, false, false, false, false, false, false, false, false, false, false, false, false, false, false, false, false, false, false, false] (by kernel_rfl) rfl rfl rfl rfl rfl hg64 (y_bare (y_move (v := .int _ _) rfl)) rfl rfl (weak_refl) (listed' := #[true, true, true, true, true, true, true, false, false, false, false, false, false, false, false, false, false, false, false, false, false, false, false, false, false]) rfl ?_
              refine ge_take_on 7 (TK := [rowl _ _ _ _ _ _, rowl _ _ _ _ _ _, rowl _ _ _ _ _ _, rowl _ _ _ _ _ _]) rfl (by kernel_rfl) (by kernel_rfl) (by kernel_rfl) #[true, true, true, true, true, true, true, false, false, false, false, false, false, false, false, false, false, false, false, false, false, false, false, false, false] (by kernel_rfl) rfl rfl rfl rfl rfl hg64 (y_bare (y_sub rfl rfl ⟨by omega, by omega⟩)) rfl rfl (weak_refl) (listed' := #[true, true, true, true, true, true, true, true, false, false, false, false, false, false, false, false, false, false, false, false, false, false, false, false, false]) rfl ?_
              refine ge_take_on 8 (TK := [rowl _ _ _ _ _ _, rowl _ _ _ _ _ _, rowl _ _ _ _ _ _, rowl _ _ _ _ _ _]) rfl (by kernel_rfl) (by kernel_rfl) (by kernel_rfl) #[true, true, true, true, true, true, true, true, false, false, false, false, false, false, false, false, false, false, false, false, false, false, false, false, false] (by kernel_rfl) rfl rfl rfl rfl rfl hg64 (y_bare (y_indexAddr (m := k - 1) Tryd.underlying82 Tryd.sizeOf4 rfl rfl (by omega) (by omega) (by omega))) rfl rfl (weak_refl) (listed' := #[true, true, true, true, true, true, true, true, true, false, false, false, false, false, false, false, false, false, false, false, false, false, false, false, false]) rfl ?_
              refine ge_take_on 9 (TK := [rowl _ _ _ _ _ _, rowl _ _ _ _ _ _, rowl _ _ _ _ _ _, rowl _ _ _ _ _ _]) rfl (by kernel_rfl) (by kernel_rfl) (by kernel_rfl) #[true, true, true, true, true, true, true, true, true, false, false, false, false, false, false, false, false, false, false, false, false, false, false, false, false] (by kernel_rfl) rfl rfl rfl rfl rfl hg64 (y_bare (y_load Tryd.isAgg4 rfl (cells_rowl 2 (f := boolCells) (l := dpRow (cutS s).length (dp (starW2 (cutS p)) (charW (cutS p) (cutS s)) i)) rfl (dpRow_len _ _).symm (fun _ => rfl) (dpRow_get (by omega)) 0 _ rfl))) rfl rfl (weak_refl) (listed' := #[true, true, true, true, true, true, true, true, true, true, false, false, false, false, false, false, false, false, false, false, false, false, false, false, false]) rfl ?_
              refine ge_take 10 (TK := [rowl _ _ _ _ _ _, rowl _ _ _ _ _ _, rowl _ _ _ _ _ _, rowl _ _ _ _ _ _]) rfl (by kernel_rfl) (by kernel_rfl) (by kernel_rfl) #[true, true, true, true, true, true, true, true, true, true, false, false, false, false, false, false, false, false, false, false, false, false, false, false, false] (by kernel_rfl) rfl (y_pick_t (v := .bool _) rfl hg64 rfl) rfl rfl rfl (weak_refl) (listed' := #[true, true, true, true, true, true, true, true, true, true, true, false, false, false, false, false, false, false, false, false, false, false, false, false, false]) rfl ?_
              refine ge_take 11 (TK := [rowl _ _ _ _ _ _, rowl _ _ _ _ _ _, rowl _ _ _ _ _ _, rowl _ _ _ _ _ _]) rfl (by kernel_rfl) (by kernel_rfl) (by kernel_rfl) #[true, true, true, true, true, true, true, true, true, true, true, false, false, false, false, false, false, false, false, false, false, false, false, false, false] (by kernel_rfl) rfl (y_move (v := .bool _) rfl) rfl rfl rfl (weak_refl) (listed' := #[true, true, true, true, true, true, true, true, true, true, true, true, false, false, false, false, false, false, false, false, false, false, false, false, false]) rfl ?_
              refine ge_dec 71 true rfl (fun hg71 => ?_) (fun hg71 => ?_)
              · 
                have hg71d := hg71
                refine ge_take_on 12 (TK := [rowl _ _ _ _ _ _, rowl _ _ _ _ _ _, rowl _ _ _ _ _ _, rowl _ _ _ _ _ _]) rfl (by kernel_rfl) (by kernel_rfl) (by kernel_rfl) #[true, true, true, true, true, true, true, true, true, true, true, true, false, true, false, false, true, true, true, true, true, false, false, false, false] (by kernel_rfl) rfl rfl rfl rfl rfl hg71 (y_bare (y_move (v := .slice (some ⟨rg0, 0, none⟩) _ _) rfl)) rfl rfl (weak_refl) (listed' := #[true, true, true, true, true, true, true, true, true, true, true, true, true, false, false, false, false, false, false, false, false, false, false, false, false]) rfl ?_
                refine ge_take_on 13 (TK := [rowl _ _ _ _ _ _, rowl _ _ _ _ _ _, rowl _ _ _ _ _ _, rowl _ _ _ _ _ _]) rfl (by kernel_rfl) (by kernel_rfl) (by kernel_rfl) #[true, true, true, true, true, true, true, true, true, true, true, true, true, false, false, false, true, true, true, true, true, false, false, false, false] (by kernel_rfl) rfl rfl rfl rfl rfl hg71 (y_bare (y_move (v := .int _ _) rfl)) rfl rfl (weak_refl) (listed' := #[true, true, true, true, true, true, true, true, true, true, true, true, true, true, false, false, false, false, false, false, false, false, false, false, false]) rfl ?_
                refine ge_take_on 14 (TK := [rowl _ _ _ _ _ _, rowl _ _ _ _ _ _, rowl _ _ _ _ _ _, rowl _ _ _ _ _ _]) rfl (by kernel_rfl) (by kernel_rfl) (by kernel_rfl) #[true, true, true, true, true, true, true, true, true, true, true, true, true, true, false, false, true, true, true, true, true, false, false, false, false] (by kernel_rfl) rfl rfl rfl rfl rfl hg71 (y_bare (y_indexAddr (m := i) Tryd.underlying37 Tryd.sizeOf9 rfl rfl (by omega) (by omega) (by omega))) rfl rfl (weak_refl) (listed' := #[true, true, true, true, true, true, true, true, true, true, true, true, true, true, true, false, false, false, false, false, false, false, false, false, false]) rfl ?_
                refine ge_take_on 15 (TK := [rowl _ _ _ _ _ _, rowl _ _ _ _ _ _, rowl _ _ _ _ _ _, rowl _ _ _ _ _ _]) rfl (by kernel_rfl) (by kernel_rfl) (by kernel_rfl) #[true, true, true, true, true, true, true, true, true, true, true, true, true, true, true, false, true, true, true, true, true, false, false, false, false] (by kernel_rfl) rfl rfl rfl rfl rfl hg71 (y_bare (y_load Tryd.isAgg9 rfl (cells_rowl 0 (f := strCells) (l := cutS p) rfl rfl (fun _ => rfl) (List.getElem?_eq_getElem hi1) 0 _ rfl))) rfl rfl (weak_refl) (listed' := #[true, true, true, true, true, true, true, true, true, true, true, true, true, true, true, true, false, false, false, false, false, false, false, false, false]) rfl ?_
                refine ge_take_on 16 (TK := [rowl _ _ _ _ _ _, rowl _ _ _ _ _ _, rowl _ _ _ _ _ _, rowl _ _ _ _ _ _]) rfl (by kernel_rfl) (by kernel_rfl) (by kernel_rfl) #[true, true, true, true, true, true, true, true, true, true, true, true, true, true, true, true, false, true, true, false, false, false, false, false, false] (by kernel_rfl) rfl rfl rfl rfl rfl hg71 (y_bare (y_move (v := .slice (some ⟨rg1, 0, none⟩) _ _) rfl)) rfl rfl (weak_refl) (listed' := #[true, true, true, true, true, true, true, true, true, true, true, true, true, true, true, true, true, false, false, false, false, false, false, false, false]) rfl ?_
                refine ge_take_on 17 (TK := [rowl _ _ _ _ _ _, rowl _ _ _ _ _ _, rowl _ _ _ _ _ _, rowl _ _ _ _ _ _]) rfl (by kernel_rfl) (by kernel_rfl) (by kernel_rfl) #[true, true, true, true, true, true, true, true, true, true, true, true, true, true, true, true, true, false, false, false, false, false, false, false, false] (by kernel_rfl) rfl rfl rfl rfl rfl hg71 (y_bare (y_move (v := .int _ _) rfl)) rfl rfl (weak_refl) (listed' := #[true, true, true, true, true, true, true, true, true, true, true, true, true, true, true, true, true, true, false, false, false, false, false, false, false]) rfl ?_
                refine ge_take_on 18 (TK := [rowl _ _ _ _ _ _, rowl _ _ _ _ _ _, rowl _ _ _ _ _ _, rowl _ _ _ _ _ _]) rfl (by kernel_rfl) (by kernel_rfl) (by kernel_rfl) #[true, true, true, true, true, true, true, true, true, true, true, true, true, true, true, true, true, true, false, false, false, false, false, false, false] (by kernel_rfl) rfl rfl rfl rfl rfl hg71 (y_bare (y_sub rfl rfl ⟨by omega, by omega⟩)) rfl rfl (weak_refl) (listed' := #[true, true, true, true, true, true, true, true, true, true, true, true, true, true, true, true, true, true, true, false, false, false, false, false, false]) rfl ?_
                refine ge_take_on 19 (TK := [rowl _ _ _ _ _ _, rowl _ _ _ _ _ _, rowl _ _ _ _ _ _, rowl _ _ _ _ _ _]) rfl (by kernel_rfl) (by kernel_rfl) (by kernel_rfl) #[true, true, true, true, true, true, true, true, true, true, true, true, true, true, true, true, true, true, true, false, false, false, false, false, false] (by kernel_rfl) rfl rfl rfl rfl rfl hg71 (y_bare (y_indexAddr (m := k - 1) Tryd.underlying37 Tryd.sizeOf9 rfl rfl (by omega) (by omega) (by omega))) rfl rfl (weak_refl) (listed' := #[true, true, true, true, true, true, true, true, true, true, true, true, true, true, true, true, true, true, true, true, false, false, false, false, false]) rfl ?_
                refine ge_take_on 20 (TK := [rowl _ _ _ _ _ _, rowl _ _ _ _ _ _, rowl _ _ _ _ _ _, rowl _ _ _ _ _ _]) rfl (by kernel_rfl) (by kernel_rfl) (by kernel_rfl) #[true, true, true, true, true, true, true, true, true, true, true, true, true, true, true, true, true, true, true, true, false, false, false, false, false] (by kernel_rfl) rfl rfl rfl rfl rfl hg71 (y_bare (y_load Tryd.isAgg9 rfl (cells_rowl 1 (f := strCells) (l := cutS s) rfl rfl (fun _ => rfl) (List.getElem?_eq_getElem (show k - 1 < (cutS s).length by omega)) 0 _ rfl))) rfl rfl (weak_refl) (listed' := #[true, true, true, true, true, true, true, true, true, true, true, true, true, true, true, true, true, true, true, true, true, false, false, false, false]) rfl ?_
                refine ge_one 21 (k' := 0) (listed' := #[true, true, true, true, true, true, true, true, true, true, true, true, true, true, true, true, true, true, true, true, true, true, false, false, false]) (by kernel_rfl) rfl rfl rfl ?_
                refine gop_on rfl rfl rfl rfl hg71 ?_
                refine gop_pure (e_call (vs := [.string _, .string _]) Tryd.func66 rfl (by kernel_rfl) rfl) (fun w hM => partMatches_any w _ _ (cutS_size (List.getElem_mem hi1) hp) (cutS_size (List.getElem_mem (show k - 1 < (cutS s).length by omega)) hs)) rfl rfl rfl ?_
                refine gops_nil ?_
                refine ge_fin (TK := [rowl _ _ _ _ _ _, rowl _ _ _ _ _ _, rowl _ _ _ _ _ _, rowl _ _ _ _ _ _]) rfl (weak_refl) ?_
                refine ge_take 22 (TK := [rowl _ _ _ _ _ _, rowl _ _ _ _ _ _, rowl _ _ _ _ _ _, rowl _ _ _ _ _ _]) rfl (by kernel_rfl) (by kernel_rfl) (by kernel_rfl) #[true, true, true, true, true, true, true, true, true, true, true, true, true, true, true, true, true, true, true, true, true, true, false, false, false] (by kernel_rfl) rfl (y_pick_t (v := .bool _) rfl hg71 rfl) rfl rfl rfl (weak_refl) (listed' := #[true, true, true, true, true, true, true, true, true, true, true, true, true, true, true, true, true, true, true, true, true, true, true, false, false]) rfl ?_
                refine ge_take 23 (TK := [rowl _ _ _ _ _ _, rowl _ _ _ _ _ _, rowl _ _ _ _ _ _, rowl _ _ _ _ _ _]) rfl (by kernel_rfl) (by kernel_rfl) (by kernel_rfl) #[true, true, true, true, true, true, true, true, true, true, true, true, true, true, true, true, true, true, true, true, true, true, true, false, false] (by kernel_rfl) rfl (y_indexAddr (m := k) Tryd.underlying82 Tryd.sizeOf4 rfl rfl (by omega) (by omega) (by omega)) rfl rfl rfl (weak_refl) (listed' := #[true, true, true, true, true, true, true, true, true, true, true, true, true, true, true, true, true, true, true, true, true, true, true, true, false]) rfl ?_
                refine ge_one 24 (k' := 1) (listed' := #[true, true, true, true, true, true, true, true, true, true, true, true, true, true, true, true, true, true, true, true, true, true, true, true, true]) (by kernel_rfl) rfl rfl rfl ?_
                refine gop_store_row 3 (f := boolCells) (l := dpPart (cutS s).length k (dp (starW2 (cutS p)) (charW (cutS p) (cutS s)) (i + 1))) (k := k) (o := 0) (v := .bool _) (a := false) (a' := _) (fun _ => rfl) rfl rfl rfl Tryd.sizeOf4 rfl rfl rfl rfl (dpPart_len _ _ _).symm (dpPart_at (by omega)) (Nat.le_of_ble_eq_true rfl) rfl rfl ?_
                refine gops_nil ?_
                refine ge_fin (TK := []) rfl (weak_nil) ?_
                refine ge_done (by kernel_rfl) ?_
                refine hN16 _ _ ?_
                refine gT [rowl _ _ _ _ _ _, rowl _ _ _ _ _ _, rowl _ _ _ _ _ _, rowl _ _ _ _ _ _] rfl ?_
                refine gfrom [(5, .slice (some ⟨rg0, 0, none⟩) _ _), (6, .slice (some ⟨rg1, 0, none⟩) _ _), (7, .slice (some ⟨g, 0, none⟩) _ _), (8, .int _ _), (9, .slice (some _) _ _), (10, .int _ _)] ⟨rfl, rfl, rfl, rfl, rfl, rfl, trivial⟩ fun σ => ?_
                refine greg ?_
                refine gop (y_move (v := .int _ _) rfl) rfl rfl rfl ?_
                refine gop (y_add rfl rfl ⟨by omega, by omega⟩) rfl rfl rfl ?_
                refine gop (y_assign (v := .int _ _) rfl) rfl rfl rfl ?_
                refine gops_nil ?_
                rw [dpPart_put (f := (dp (starW2 (cutS p)) (charW (cutS p) (cutS s)) (i + 1))) (by omega) ((dp_ct hst (by omega) hg71d).trans (charW_at hi1 (by omega)))]
                refine gnext2 (k + 1) (by omega) (show k + 1 ≤ _ by omega) ⟨rfl, trivial⟩ ⟨rfl, rfl, rfl, rfl, rfl, trivial⟩ ⟨_, rfl⟩
              · 
                have hg71d := hg71
                refine ge_take_off 12 (TK := [rowl _ _ _ _ _ _, rowl _ _ _ _ _ _, rowl _ _ _ _ _ _, rowl _ _ _ _ _ _]) rfl (by kernel_rfl) (by kernel_rfl) (by kernel_rfl) #[true, true, true, true, true, true, true, true, true, true, true, true, false, true, false, false, true, true, true, true, true, false, false, false, false] (by kernel_rfl) rfl rfl rfl rfl rfl (off_of hg71) rfl rfl (weak_refl) (listed' := #[true, true, true, true, true, true, true, true, true, true, true, true, true, false, false, false, false, false, false, false, false, false, false, false, false]) rfl ?_
                refine ge_take_off 13 (TK := [rowl _ _ _ _ _ _, rowl _ _ _ _ _ _, rowl _ _ _ _ _ _, rowl _ _ _ _ _ _]) rfl (by kernel_rfl) (by kernel_rfl) (by kernel_rfl) #[true, true, true, true, true, true, true, true, true, true, true, true, true, false, false, false, true, true, true, true, true, false, false, false, false] (by kernel_rfl) rfl rfl rfl rfl rfl (off_of hg71) rfl rfl (weak_refl) (listed' := #[true, true, true, true, true, true, true, true, true, true, true, true, true, true, false, false, false, false, false, false, false, false, false, false, false]) rfl ?_
                refine ge_take_off 14 (TK := [rowl _ _ _ _ _ _, rowl _ _ _ _ _ _, rowl _ _ _ _ _ _, rowl _ _ _ _ _ _]) rfl (by kernel_rfl) (by kernel_rfl) (by kernel_rfl) #[true, true, true, true, true, true, true, true, true, true, true, true, true, true, false, false, true, true, true, true, true, false, false, false, false] (by kernel_rfl) rfl rfl rfl rfl rfl (off_of hg71) rfl rfl (weak_refl) (listed' := #[true, true, true, true, true, true, true, true, true, true, true, true, true, true, true, false, false, false, false, false, false, false, false, false, false]) rfl ?_
                refine ge_take_off 15 (TK := [rowl _ _ _ _ _ _, rowl _ _ _ _ _ _, rowl _ _ _ _ _ _, rowl _ _ _ _ _ _]) rfl (by kernel_rfl) (by kernel_rfl) (by kernel_rfl) #[true, true, true, true, true, true, true, true, true, true, true, true, true, true, true, false, true, true, true, true, true, false, false, false, false] (by kernel_rfl) rfl rfl rfl rfl rfl (off_of hg71) rfl rfl (weak_refl) (listed' := #[true, true, true, true, true, true, true, true, true, true, true, true, true, true, true, true, false, false, false, false, false, false, false, false, false]) rfl ?_
                refine ge_take_off 16 (TK := [rowl _ _ _ _ _ _, rowl _ _ _ _ _ _, rowl _ _ _ _ _ _, rowl _ _ _ _ _ _]) rfl (by kernel_rfl) (by kernel_rfl) (by kernel_rfl) #[true, true, true, true, true, true, true, true, true, true, true, true, true, true, true, true, false, true, true, false, false, false, false, false, false] (by kernel_rfl) rfl rfl rfl rfl rfl (off_of hg71) rfl rfl (weak_refl) (listed' := #[true, true, true, true, true, true, true, true, true, true, true, true, true, true, true, true, true, false, false, false, false, false, false, false, false]) rfl ?_
                refine ge_take_off 17 (TK := [rowl _ _ _ _ _ _, rowl _ _ _ _ _ _, rowl _ _ _ _ _ _, rowl _ _ _ _ _ _]) rfl (by kernel_rfl) (by kernel_rfl) (by kernel_rfl) #[true, true, true, true, true, true, true, true, true, true, true, true, true, true, true, true, true, false, false, false, false, false, false, false, false] (by kernel_rfl) rfl rfl rfl rfl rfl (off_of hg71) rfl rfl (weak_refl) (listed' := #[true, true, true, true, true, true, true, true, true, true, true, true, true, true, true, true, true, true, false, false, false, false, false, false, false]) rfl ?_
                refine ge_take_off 18 (TK := [rowl _ _ _ _ _ _, rowl _ _ _ _ _ _, rowl _ _ _ _ _ _, rowl _ _ _ _ _ _]) rfl (by kernel_rfl) (by kernel_rfl) (by kernel_rfl) #[true, true, true, true, true, true, true, true, true, true, true, true, true, true, true, true, true, true, false, false, false, false, false, false, false] (by kernel_rfl) rfl rfl rfl rfl rfl (off_of hg71) rfl rfl (weak_refl) (listed' := #[true, true, true, true, true, true, true, true, true, true, true, true, true, true, true, true, true, true, true, false, false, false, false, false, false]) rfl ?_
                refine ge_take_off 19 (TK := [rowl _ _ _ _ _ _, rowl _ _ _ _ _ _, rowl _ _ _ _ _ _, rowl _ _ _ _ _ _]) rfl (by kernel_rfl) (by kernel_rfl) (by kernel_rfl) #[true, true, true, true, true, true, true, true, true, true, true, true, true, true, true, true, true, true, true, false, false, false, false, false, false] (by kernel_rfl) rfl rfl rfl rfl rfl (off_of hg71) rfl rfl (weak_refl) (listed' := #[true, true, true, true, true, true, true, true, true, true, true, true, true, true, true, true, true, true, true, true, false, false, false, false, false]) rfl ?_
                refine ge_take_off 20 (TK := [rowl _ _ _ _ _ _, rowl _ _ _ _ _ _, rowl _ _ _ _ _ _, rowl _ _ _ _ _ _]) rfl (by kernel_rfl) (by kernel_rfl) (by kernel_rfl) #[true, true, true, true, true, true, true, true, true, true, true, true, true, true, true, true, true, true, true, true, false, false, false, false, false] (by kernel_rfl) rfl rfl rfl rfl rfl (off_of hg71) rfl rfl (weak_refl) (listed' := #[true, true, true, true, true, true, true, true, true, true, true, true, true, true, true, true, true, true, true, true, true, false, false, false, false]) rfl ?_
                refine ge_one 21 (k' := 0) (listed' := #[true, true, true, true, true, true, true, true, true, true, true, true, true, true, true, true, true, true, true, true, true, true, false, false, false]) (by kernel_rfl) rfl rfl rfl ?_
                refine gop_off rfl rfl rfl rfl hg71 rfl rfl ?_
                refine gops_nil ?_
                refine ge_fin (TK := [rowl _ _ _ _ _ _, rowl _ _ _ _ _ _, rowl _ _ _ _ _ _, rowl _ _ _ _ _ _]) rfl (weak_refl) ?_
                refine ge_take 22 (TK := [rowl _ _ _ _ _ _, rowl _ _ _ _ _ _, rowl _ _ _ _ _ _, rowl _ _ _ _ _ _]) rfl (by kernel_rfl) (by kernel_rfl) (by kernel_rfl) #[true, true, true, true, true, true, true, true, true, true, true, true, true, true, true, true, true, true, true, true, true, true, false, false, false] (by kernel_rfl) rfl (y_pick_f (v := .bool _) rfl hg71 rfl) rfl rfl rfl (weak_refl) (listed' := #[true, true, true, true, true, true, true, true, true, true, true, true, true, true, true, true, true, true, true, true, true, true, true, false, false]) rfl ?_
                refine ge_take 23 (TK := [rowl _ _ _ _ _ _, rowl _ _ _ _ _ _, rowl _ _ _ _ _ _, rowl _ _ _ _ _ _]) rfl (by kernel_rfl) (by kernel_rfl) (by kernel_rfl) #[true, true, true, true, true, true, true, true, true, true, true, true, true, true, true, true, true, true, true, true, true, true, true, false, false] (by kernel_rfl) rfl (y_indexAddr (m := k) Tryd.underlying82 Tryd.sizeOf4 rfl rfl (by omega) (by omega) (by omega)) rfl rfl rfl (weak_refl) (listed' := #[true, true, true, true, true, true, true, true, true, true, true, true, true, true, true, true, true, true, true, true, true, true, true, true, false]) rfl ?_
                refine ge_one 24 (k' := 1) (listed' := #[true, true, true, true, true, true, true, true, true, true, true, true, true, true, true, true, true, true, true, true, true, true, true, true, true]) (by kernel_rfl) rfl rfl rfl ?_
                refine gop_store_row 3 (f := boolCells) (l := dpPart (cutS s).length k (dp (starW2 (cutS p)) (charW (cutS p) (cutS s)) (i + 1))) (k := k) (o := 0) (v := .bool _) (a := false) (a' := _) (fun _ => rfl) rfl rfl rfl Tryd.sizeOf4 rfl rfl rfl rfl (dpPart_len _ _ _).symm (dpPart_at (by omega)) (Nat.le_of_ble_eq_true rfl) rfl rfl ?_
                refine gops_nil ?_
                refine ge_fin (TK := []) rfl (weak_nil) ?_
                refine ge_done (by kernel_rfl) ?_
                refine hN16 _ _ ?_
                refine gT [rowl _ _ _ _ _ _, rowl _ _ _ _ _ _, rowl _ _ _ _ _ _, rowl _ _ _ _ _ _] rfl ?_
                refine gfrom [(5, .slice (some ⟨rg0, 0, none⟩) _ _), (6, .slice (some ⟨rg1, 0, none⟩) _ _), (7, .slice (some ⟨g, 0, none⟩) _ _), (8, .int _ _), (9, .slice (some _) _ _), (10, .int _ _)] ⟨rfl, rfl, rfl, rfl, rfl, rfl, trivial⟩ fun σ => ?_
                refine greg ?_
                refine gop (y_move (v := .int _ _) rfl) rfl rfl rfl ?_
                refine gop (y_add rfl rfl ⟨by omega, by omega⟩) rfl rfl rfl ?_
                refine gop (y_assign (v := .int _ _) rfl) rfl rfl rfl ?_
                refine gops_nil ?_
                rw [dpPart_put (f := (dp (starW2 (cutS p)) (charW (cutS p) (cutS s)) (i + 1))) (by omega) (dp_cf hst (by omega) hg71d)]
                refine gnext2 (k + 1) (by omega) (show k + 1 ≤ _ by omega) ⟨rfl, trivial⟩ ⟨rfl, rfl, rfl, rfl, rfl, trivial⟩ ⟨_, rfl⟩
            · 
              have hg64d := of_decide_eq_false hg64
              refine ge_take_off 5 (TK := [rowl _ _ _ _ _ _, rowl _ _ _ _ _ _, rowl _ _ _ _ _ _, rowl _ _ _ _ _ _]) rfl (by kernel_rfl) (by kernel_rfl) (by kernel_rfl) #[true, true, true, true, true, false, true, true, false, false, false, false, false, false, false, false, false, false, false, false, false, false, false, false, false] (by kernel_rfl) rfl rfl rfl rfl rfl (off_of hg64) rfl rfl (weak_refl) (listed' := #[true, true, true, true, true, true, false, false, false, false, false, false, false, false, false, false, false, false, false, false, false, false, false, false, false]) rfl ?_
              refine ge_take_off 6 (TK := [rowl _ _ _ _ _ _, rowl _ _ _ _ _ _, rowl _ _ _ _ _ _, rowl _ _ _ _ _ _]) rfl (by kernel_rfl) (by kernel_rfl) (by kernel_rfl) #[true, true, true, true, true, true, false, false, false, false, false, false, false, false, false, false, false, false, false, false, false, false, false, false, false] (by kernel_rfl) rfl rfl rfl rfl rfl (off_of hg64) rfl rfl (weak_refl) (listed' := #[true, true, true, true, true, true, true, false, false, false, false, false, false, false, false, false, false, false, false, false, false, false, false, false, false]) rfl ?_
              refine ge_take_off 7 (TK := [rowl _ _ _ _ _ _, rowl _ _ _ _ _ _, rowl _ _ _ _ _ _, rowl _ _ _ _ _ _]) rfl (by kernel_rfl) (by kernel_rfl) (by kernel_rfl) #[true, true, true, true, true, true, true, false, false, false, false, false, false, false, false, false, false, false, false, false, false, false, false, false, false] (by kernel_rfl) rfl rfl rfl rfl rfl (off_of hg64) rfl rfl (weak_refl) (listed' := #[true, true, true, true, true, true, true, true, false, false, false, false, false, false, false, false, false, false, false, false, false, false, false, false, false]) rfl ?_
              refine ge_take_off 8 (TK := [rowl _ _ _ _ _ _, rowl _ _ _ _ _ _, rowl _ _ _ _ _ _, rowl _ _ _ _ _ _]) rfl (by kernel_rfl) (by kernel_rfl) (by kernel_rfl) #[true, true, true, true, true, true, true, true, false, false, false, false, false, false, false, false, false, false, false, false, false, false, false, false, false] (by kernel_rfl) rfl rfl rfl rfl rfl (off_of hg64) rfl rfl (weak_refl) (listed' := #[true, true, true, true, true, true, true, true, true, false, false, false, false, false, false, false, false, false, false, false, false, false, false, false, false]) rfl ?_
              refine ge_take_off 9 (TK := [rowl _ _ _ _ _ _, rowl _ _ _ _ _ _, rowl _ _ _ _ _ _, rowl _ _ _ _ _ _]) rfl (by kernel_rfl) (by kernel_rfl) (by kernel_rfl) #[true, true, true, true, true, true, true, true, true, false, false, false, false, false, false, false, false, false, false, false, false, false, false, false, false] (by kernel_rfl) rfl rfl rfl rfl rfl (off_of hg64) rfl rfl (weak_refl) (listed' := #[true, true, true, true, true, true, true, true, true, true, false, false, false, false, false, false, false, false, false, false, false, false, false, false, false]) rfl ?_
              refine ge_take 10 (TK := [rowl _ _ _ _ _ _, rowl _ _ _ _ _ _, rowl _ _ _ _ _ _, rowl _ _ _ _ _ _]) rfl (by kernel_rfl) (by kernel_rfl) (by kernel_rfl) #[true, true, true, true, true, true, true, true, true, true, false, false, false, false, false, false, false, false, false, false, false, false, false, false, false] (by kernel_rfl) rfl (y_pick_f (v := .bool _) rfl hg64 rfl) rfl rfl rfl (weak_refl) (listed' := #[true, true, true, true, true, true, true, true, true, true, true, false, false, false, false, false, false, false, false, false, false, false, false, false, false]) rfl ?_
              refine ge_take 11 (TK := [rowl _ _ _ _ _ _, rowl _ _ _ _ _ _, rowl _ _ _ _ _ _, rowl _ _ _ _ _ _]) rfl (by kernel_rfl) (by kernel_rfl) (by kernel_rfl) #[true, true, true, true, true, true, true, true, true, true, true, false, false, false, false, false, false, false, false, false, false, false, false, false, false] (by kernel_rfl) rfl (y_move (v := .bool _) rfl) rfl rfl rfl (weak_refl) (listed' := #[true, true, true, true, true, true, true, true, true, true, true, true, false, false, false, false, false, false, false, false, false, false, false, false, false]) rfl ?_
              refine ge_take_off 12 (TK := [rowl _ _ _ _ _ _, rowl _ _ _ _ _ _, rowl _ _ _ _ _ _, rowl _ _ _ _ _ _]) rfl (by kernel_rfl) (by kernel_rfl) (by kernel_rfl) #[true, true, true, true, true, true, true, true, true, true, true, true, false, true, false, false, true, true, true, true, true, false, false, false, false] (by kernel_rfl) rfl rfl rfl rfl rfl (off_of rfl) rfl rfl (weak_refl) (listed' := #[true, true, true, true, true, true, true, true, true, true, true, true, true, false, false, false, false, false, false, false, false, false, false, false, false]) rfl ?_
              refine ge_take_off 13 (TK := [rowl _ _ _ _ _ _, rowl _ _ _ _ _ _, rowl _ _ _ _ _ _, rowl _ _ _ _ _ _]) rfl (by kernel_rfl) (by kernel_rfl) (by kernel_rfl) #[true, true, true, true, true, true, true, true, true, true, true, true, true, false, false, false, true, true, true, true, true, false, false, false, false] (by kernel_rfl) rfl rfl rfl rfl rfl (off_of rfl) rfl rfl (weak_refl) (listed' := #[true, true, true, true, true, true, true, true, true, true, true, true, true, true, false, false, false, false, false, false, false, false, false, false, false]) rfl ?_
              refine ge_take_off 14 (TK := [rowl _ _ _ _ _ _, rowl _ _ _ _ _ _, rowl _ _ _ _ _ _, rowl _ _ _ _ _ _]) rfl (by kernel_rfl) (by kernel_rfl) (by kernel_rfl) #[true, true, true, true, true, true, true, true, true, true, true, true, true, true, false, false, true, true, true, true, true, false, false, false, false] (by kernel_rfl) rfl rfl rfl rfl rfl (off_of rfl) rfl rfl (weak_refl) (listed' := #[true, true, true, true, true, true, true, true, true, true, true, true, true, true, true, false, false, false, false, false, false, false, false, false, false]) rfl ?_
              refine ge_take_off 15 (TK := [rowl _ _ _ _ _ _, rowl _ _ _ _ _ _, rowl _ _ _ _ _ _, rowl _ _ _ _ _ _]) rfl (by kernel_rfl) (by kernel_rfl) (by kernel_rfl) #[true, true, true, true, true, true, true, true, true, true, true, true, true, true, true, false, true, true, true, true, true, false, false, false, false] (by kernel_rfl) rfl rfl rfl rfl rfl (off_of rfl) rfl rfl (weak_refl) (listed' := #[true, true, true, true, true, true, true, true, true, true, true, true, true, true, true, true, false, false, false, false, false, false, false, false, false]) rfl ?_
              refine ge_take_off 16 (TK := [rowl _ _ _ _ _ _, rowl _ _ _ _ _ _, rowl _ _ _ _ _ _, rowl _ _ _ _ _ _]) rfl (by kernel_rfl) (by kernel_rfl) (by kernel_rfl) #[true, true, true, true, true, true, true, true, true, true, true, true, true, true, true, true, false, true, true, false, false, false, false, false, false] (by kernel_rfl) rfl rfl rfl rfl rfl (off_of rfl) rfl rfl (weak_refl) (listed' := #[true, true, true, true, true, true, true, true, true, true, true, true, true, true, true, true, true, false, false, false, false, false, false, false, false]) rfl ?_
              refine ge_take_off 17 (TK := [rowl _ _ _ _ _ _, rowl _ _ _ _ _ _, rowl _ _ _ _ _ _, rowl _ _ _ _ _ _]) rfl (by kernel_rfl) (by kernel_rfl) (by kernel_rfl) #[true, true, true, true, true, true, true, true, true, true, true, true, true, true, true, true, true, false, false, false, false, false, false, false, false] (by kernel_rfl) rfl rfl rfl rfl rfl (off_of rfl) rfl rfl (weak_refl) (listed' := #[true, true, true, true, true, true, true, true, true, true, true, true, true, true, true, true, true, true, false, false, false, false, false, false, false]) rfl ?_
              refine ge_take_off 18 (TK := [rowl _ _ _ _ _ _, rowl _ _ _ _ _ _, rowl _ _ _ _ _ _, rowl _ _ _ _ _ _]) rfl (by kernel_rfl) (by kernel_rfl) (by kernel_rfl) #[true, true, true, true, true, true, true, true, true, true, true, true, true, true, true, true, true, true, false, false, false, false, false, false, false] (by kernel_rfl) rfl rfl rfl rfl rfl (off_of rfl) rfl rfl (weak_refl) (listed' := #[true, true, true, true, true, true, true, true, true, true, true, true, true, true, true, true, true, true, true, false, false, false, false, false, false]) rfl ?_
              refine ge_take_off 19 (TK := [rowl _ _ _ _ _ _, rowl _ _ _ _ _ _, rowl _ _ _ _ _ _, rowl _ _ _ _ _ _]) rfl (by kernel_rfl) (by kernel_rfl) (by kernel_rfl) #[true, true, true, true, true, true, true, true, true, true, true, true, true, true, true, true, true, true, true, false, false, false, false, false, false] (by kernel_rfl) rfl rfl rfl rfl rfl (off_of rfl) rfl rfl (weak_refl) (listed' := #[true, true, true, true, true, true, true, true, true, true, true, true, true, true, true, true, true, true, true, true, false, false, false, false, false]) rfl ?_
              refine ge_take_off 20 (TK := [rowl _ _ _ _ _ _, rowl _ _ _ _ _ _, rowl _ _ _ _ _ _, rowl _ _ _ _ _ _]) rfl (by kernel_rfl) (by kernel_rfl) (by kernel_rfl) #[true, true, true, true, true, true, true, true, true, true, true, true, true, true, true, true, true, true, true, true, false, false, false, false, false] (by kernel_rfl) rfl rfl rfl rfl rfl (off_of rfl) rfl rfl (weak_refl) (listed' := #[true, true, true, true, true, true, true, true, true, true, true, true, true, true, true, true, true, true, true, true, true, false, false, false, false]) rfl ?_
              refine ge_one 21 (k' := 0) (listed' := #[true, true, true, true, true, true, true, true, true, true, true, true, true, true, true, true, true, true, true, true, true, true, false, false, false]) (by kernel_rfl) rfl rfl rfl ?_
              refine gop_off rfl rfl rfl rfl rfl rfl rfl ?_
              refine gops_nil ?_
              refine ge_fin (TK := [rowl _ _ _ _ _ _, rowl _ _ _ _ _ _, rowl _ _ _ _ _ _, rowl _ _ _ _ _ _]) rfl (weak_refl) ?_
              refine ge_take 22 (TK := [rowl _ _ _ _ _ _, rowl _ _ _ _ _ _, rowl _ _ _ _ _ _, rowl _ _ _ _ _ _]) rfl (by kernel_rfl) (by kernel_rfl) (by kernel_rfl) #[true, true, true, true, true, true, true, true, true, true, true, true, true, true, true, true, true, true, true, true, true, true, false, false, false] (by kernel_rfl) rfl (y_pick_f (v := .bool _) rfl rfl rfl) rfl rfl rfl (weak_refl) (listed' := #[true, true, true, true, true, true, true, true, true, true, true, true, true, true, true, true, true, true, true, true, true, true, true, false, false]) rfl ?_
              refine ge_take 23 (TK := [rowl _ _ _ _ _ _, rowl _ _ _ _ _ _, rowl _ _ _ _ _ _, rowl _ _ _ _ _ _]) rfl (by kernel_rfl) (by kernel_rfl) (by kernel_rfl) #[true, true, true, true, true, true, true, true, true, true, true, true, true, true, true, true, true, true, true, true, true, true, true, false, false] (by kernel_rfl) rfl (y_indexAddr (m := k) Tryd.underlying82 Tryd.sizeOf4 rfl rfl (by omega) (by omega) (by omega)) rfl rfl rfl (weak_refl) (listed' := #[true, true, true, true, true, true, true, true, true, true, true, true, true, true, true, true, true, true, true, true, true, true, true, true, false]) rfl ?_
              refine ge_one 24 (k' := 1) (listed' := #[true, true, true, true, true, true, true, true, true, true, true, true, true, true, true, true, true, true, true, true, true, true, true, true, true]) (by kernel_rfl) rfl rfl rfl ?_
              refine gop_store_row 3 (f := boolCells) (l := dpPart (cutS s).length k (dp (starW2 (cutS p)) (charW (cutS p) (cutS s)) (i + 1))) (k := k) (o := 0) (v := .bool _) (a := false) (a' := _) (fun _ => rfl) rfl rfl rfl Tryd.sizeOf4 rfl rfl rfl rfl (dpPart_len _ _ _).symm (dpPart_at (by omega)) (Nat.le_of_ble_eq_true rfl) rfl rfl ?_
              refine gops_nil ?_
              refine ge_fin (TK := []) rfl (weak_nil) ?_
              refine ge_done (by kernel_rfl) ?_
              refine hN16 _ _ ?_
              refine gT [rowl _ _ _ _ _ _, rowl _ _ _ _ _ _, rowl _ _ _ _ _ _, rowl _ _ _ _ _ _] rfl ?_
              refine gfrom [(5, .slice (some ⟨rg0, 0, none⟩) _ _), (6, .slice (some ⟨rg1, 0, none⟩) _ _), (7, .slice (some ⟨g, 0, none⟩) _ _), (8, .int _ _), (9, .slice (some _) _ _), (10, .int _ _)] ⟨rfl, rfl, rfl, rfl, rfl, rfl, trivial⟩ fun σ => ?_
              refine greg ?_
              refine gop (y_move (v := .int _ _) rfl) rfl rfl rfl ?_
              refine gop (y_add rfl rfl ⟨by omega, by omega⟩) rfl rfl rfl ?_
              refine gop (y_assign (v := .int _ _) rfl) rfl rfl rfl ?_
              refine gops_nil ?_
              rw [dpPart_put (f := (dp (starW2 (cutS p)) (charW (cutS p) (cutS s)) (i + 1))) (by omega) (dp_c0 hst (by omega))]
              refine gnext2 (k + 1) (by omega) (show k + 1 ≤ _ by omega) ⟨rfl, trivial⟩ ⟨rfl, rfl, rfl, rfl, rfl, trivial⟩ ⟨_, rfl⟩
        · 
          replace hc34 := of_decide_eq_false hc34
          refine gexit ?_
          refine hN12 _ _ ?_
          refine gfrom [(5, .slice (some ⟨rg0, 0, none⟩) _ _), (6, .slice (some ⟨rg1, 0, none⟩) _ _), (8, .int _ _), (9, .slice (some _) _ _)] ⟨rfl, rfl, rfl, rfl, trivial⟩ fun σ => ?_
          refine greg ?_
          refine gop (y_move (v := .slice (some _) _ _) rfl) rfl rfl rfl ?_
          refine gop (y_assign (v := .slice (some _) _ _) rfl) rfl rfl rfl ?_
          refine gops_nil ?_
          refine hN10 _ _ ?_
          refine gfrom [(5, .slice (some ⟨rg0, 0, none⟩) _ _), (6, .slice (some ⟨rg1, 0, none⟩) _ _), (7, .slice (some _) _ _), (8, .int _ _)] ⟨rfl, rfl, rfl, rfl, trivial⟩ fun σ => ?_
          refine greg ?_
          refine gop (y_move (v := .int _ _) rfl) rfl rfl rfl ?_
          refine gop (y_add rfl rfl ⟨by omega, by omega⟩) rfl rfl rfl ?_
          refine gop (y_assign (v := .int _ _) rfl) rfl rfl rfl ?_
          refine gops_nil ?_
          rw [show k = (cutS s).length + 1 by omega, dpPart_full]
          refine fin_mem _ (weak_perm (List.Perm.cons _ (List.Perm.cons _ (List.Perm.swap _ _ _)))) ?_
          refine gnext2 ((i + 1, b30)) (by show (cutS p).length - (i + 1) < (cutS p).length - i; omega) (show i + 1 ≤ _ by omega) ⟨rfl, rfl, trivial⟩ ⟨rfl, rfl, trivial⟩ ⟨_, rfl⟩
    · 
      replace hc24 := of_decide_eq_false hc24
      obtain rfl : i = (cutS p).length := by omega
      refine gexit ?_
      refine hN6 _ _ ?_
      refine gfrom [(6, .slice (some ⟨rg1, 0, none⟩) _ _), (7, .slice (some ⟨g, 0, none⟩) _ _)] ⟨rfl, rfl, trivial⟩ fun σ => ?_
      refine gseq fun N18 hN18 => ?_
      refine greg ?_
      refine gop (y_move (v := .slice (some ⟨g, 0, none⟩) _ _) rfl) rfl rfl rfl ?_
      refine gop (y_move (v := .slice (some ⟨rg1, 0, none⟩) _ _) rfl) rfl rfl rfl ?_
      refine gop (y_len Tryd.underlying37 rfl) rfl rfl rfl ?_
      refine gop (y_indexAddr (m := (cutS s).length) Tryd.underlying82 Tryd.sizeOf4 rfl rfl (by omega) (by omega) (by omega)) rfl rfl rfl ?_
      refine gop (y_load Tryd.isAgg4 rfl (cells_rowl 2 (f := boolCells) (l := dpRow (cutS s).length (dp (starW2 (cutS p)) (charW (cutS p) (cutS s)) (cutS p).length)) rfl (dpRow_len _ _).symm (fun _ => rfl) (dpRow_get (Nat.le_refl _)) 0 _ rfl)) rfl rfl rfl ?_
      refine gop (y_assign (v := .bool _) rfl) rfl rfl rfl ?_
      refine gops_nil ?_
      refine hN18 _ _ ?_
      refine gfrom [(4, .bool _)] ⟨rfl, trivial⟩ fun σ => ?_
      refine gret fun w1 hM => ?_
      refine ⟨_, res1 rfl (rt (v := .bool _) rfl), ?_⟩
      exact ⟨by rw [dp_wk], hM.low⟩
set_option maxHeartbeats 2000000 in
theorem refFixed_any (w : World) (s : ByteArray) (hs : s.size ≤ 4000000) : Calls Tryd.prog 39 #[.string s] w fun e w' => e = .returned (.string (joinS (fixL (cutS s)))) ∧ Below w.heap.size w w' := by
  have hcl := cutS_len s
  have h471 : (⟨#[47]⟩ : ByteArray).size = 1 := rfl
  refine gcalls Tryd.func39 rfl Tryd.ntmps39 (Nat.le_of_ble_eq_true rfl) ?_
  refine gfrom [(0, .string _)] ⟨rfl, trivial⟩ fun σ => ?_
  refine gseq fun N1 hN1 => ?_
  refine greg ?_
  refine gop (y_assign (v := .string _) rfl) rfl rfl rfl ?_
  refine gops_nil ?_
  refine hN1 _ _ ?_
  refine gfrom [(0, .string _)] ⟨rfl, trivial⟩ fun σ => ?_
  refine gseq fun N2 hN2 => ?_
  refine greg ?_
  refine gop (y_move (v := .string _) rfl) rfl rfl rfl ?_
  refine gop_got (fun v T' => ∃ lo, w.heap.size ≤ lo ∧ T' = [rowl strCells lo 9 1 v (cutS s)]) (e_call (vs := [.string _]) Tryd.func47 rfl (by kernel_rfl) rfl) (fun w hM => (cut_any w s hs).mono fun _ _ ⟨v, T1, h1, h2, h3⟩ => ⟨v, T1, h1, ⟨_, hM.low.size, h2⟩, h3⟩) rfl rfl rfl ?_
  rintro v8 _ ⟨lo8, hlo8, rfl⟩
  refine gops_fact (fun w hM => row_form (hM.ok _ (List.mem_of_getElem? (i := 0) rfl))) ?_
  rintro ⟨A8, c8, rfl, hc8, hm8, hn8⟩
  refine gops_fact (fun w hM => own_some (hM.own 0 rfl) (cutS_pos s)) ?_
  rintro ⟨rg0, cg0, hvg, -, -⟩
  simp only [Value.slice.injEq] at hvg
  obtain ⟨rfl, -, rfl⟩ := hvg
  refine gop (y_assign (v := .slice (some ⟨rg0, 0, none⟩) _ _) rfl) rfl rfl rfl ?_
  refine gops_nil ?_
  refine hN2 _ _ ?_
  refine gT [rowl _ _ _ _ _ _] rfl ?_
  refine gfrom [(3, .slice (some ⟨rg0, 0, none⟩) _ _)] ⟨rfl, trivial⟩ fun σ => ?_
  refine gseq fun N3 hN3 => ?_
  refine greg ?_
  refine gop (y_assign (v := .string _) rfl) rfl rfl rfl ?_
  refine gops_nil ?_
  refine hN3 _ _ ?_
  refine gfrom [(3, .slice (some ⟨rg0, 0, none⟩) _ _), (4, .string _)] ⟨rfl, rfl, trivial⟩ fun σ => ?_
  refine gseq fun N4 hN4 => ?_
  refine gseq fun N5 hN5 => ?_
  refine greg ?_
  refine gop (y_assign (v := .int _ _) rfl) rfl rfl rfl ?_
  refine gops_nil ?_
  refine hN5 _ _ ?_
  refine gfrom [(3, .slice (some ⟨rg0, 0, none⟩) _ _), (4, .string _), (5, .int _ _)] ⟨rfl, rfl, rfl, trivial⟩ fun σ => ?_
  refine gblock ?_
  refine gfrom2 [(4, .string _), (5, .int _ _)] [(3, .slice (some ⟨rg0, 0, none⟩) _ _)] ⟨rfl, rfl, trivial⟩ ⟨rfl, trivial⟩ fun σ => ?_
  refine gloop2 (G := Nat) (fun k => k ≤ (cutS s).length ∧ ∀ j (h : j < (cutS s).length), j < k → wildP (cutS s)[j] = false) (fun k => (cutS s).length - k) (fun k => [(4, .string (joinS ((cutS s).take k))), (5, .int .i64 (k : Int))]) (fun k => []) (0) ?h0 ⟨rfl, rfl, trivial⟩ ⟨rfl, trivial⟩ rfl ?round
  case h0 => exact ⟨Nat.zero_le _, fun _ _ h => absurd h (by omega)⟩
  case round =>
    intro k hφ σ
    obtain ⟨hk, hz⟩ := hφ
    refine gseq fun N6 hN6 => ?_
    refine gseq fun N7 hN7 => ?_
    refine greg ?_
    refine gop (y_move (v := .int _ _) rfl) rfl rfl rfl ?_
    refine gop (y_move (v := .slice (some ⟨rg0, 0, none⟩) _ _) rfl) rfl rfl rfl ?_
    refine gop (y_len Tryd.underlying37 rfl) rfl rfl rfl ?_
    refine gop (y_lss rfl rfl) rfl rfl rfl ?_
    refine gops_nil ?_
    refine hN7 _ _ ?_
    refine gfrom [(3, .slice (some ⟨rg0, 0, none⟩) _ _), (4, .string _), (5, .int _ _), (12, .bool _)] ⟨rfl, rfl, rfl, rfl, trivial⟩ fun σ => ?_
    refine gcond (b := _) rfl (fun hc12 => ?_) (fun hc12 => ?_)
    · 
      replace hc12 := of_decide_eq_true hc12
      have hk1 : k < (cutS s).length := by omega
      have hx4 : (cutS s)[k].size ≤ 4000000 := cutS_size (List.getElem_mem hk1) hs
      refine gskip ?_
      refine hN6 _ _ ?_
      refine gfrom [(3, .slice (some ⟨rg0, 0, none⟩) _ _), (4, .string _), (5, .int _ _)] ⟨rfl, rfl, rfl, trivial⟩ fun σ => ?_
      refine gseq fun N8 hN8 => ?_
      refine gblock ?_
      refine gseq fun N9 hN9 => ?_
      refine gseq fun N10 hN10 => ?_
      refine greg ?_
      refine gop (y_assign (v := .int _ _) rfl) rfl rfl rfl ?_
      refine gops_nil ?_
      refine hN10 _ _ ?_
      refine gfrom [(3, .slice (some ⟨rg0, 0, none⟩) _ _), (4, .string _), (5, .int _ _), (6, .int _ _)] ⟨rfl, rfl, rfl, rfl, trivial⟩ fun σ => ?_
      refine gblock ?_
      refine gfrom2 [(6, .int _ _)] [(3, .slice (some ⟨rg0, 0, none⟩) _ _), (4, .string _), (5, .int _ _)] ⟨rfl, trivial⟩ ⟨rfl, rfl, rfl, trivial⟩ fun σ => ?_
      refine gloop2 (G := Nat) (fun i => i ≤ (cutS s)[k].size ∧ ∀ j, j < i → byteAt (cutS s)[k] j ≠ 42 ∧ byteAt (cutS s)[k] j ≠ 63) (fun i => (cutS s)[k].size - i) (fun i => [(6, .int .i64 (i : Int))]) (fun i => []) (0) ?h0 ⟨rfl, trivial⟩ ⟨rfl, rfl, rfl, trivial⟩ rfl ?round
      case h0 => exact ⟨Nat.zero_le _, fun _ h => absurd h (by omega)⟩
      case round =>
        intro i hφ σ
        obtain ⟨hi, hi2⟩ := hφ
        refine gseq fun N11 hN11 => ?_
        refine gseq fun N12 hN12 => ?_
        refine greg ?_
        refine gop (y_move (v := .int _ _) rfl) rfl rfl rfl ?_
        refine gop (y_move (v := .slice (some ⟨rg0, 0, none⟩) _ _) rfl) rfl rfl rfl ?_
        refine gop (y_move (v := .int _ _) rfl) rfl rfl rfl ?_
        refine gop (y_indexAddr (m := k) Tryd.underlying37 Tryd.sizeOf9 rfl rfl (by omega) (by omega) (by omega)) rfl rfl rfl ?_
        refine gop (y_load Tryd.isAgg9 rfl (cells_rowl 0 (f := strCells) (l := cutS s) rfl rfl (fun _ => rfl) (List.getElem?_eq_getElem hk1) 0 _ rfl)) rfl rfl rfl ?_
        refine gop (y_lens Tryd.underlying9 rfl) rfl rfl rfl ?_
        refine gop (y_lss rfl rfl) rfl rfl rfl ?_
        refine gops_nil ?_
        refine hN12 _ _ ?_
        refine gfrom [(3, .slice (some ⟨rg0, 0, none⟩) _ _), (4, .string _), (5, .int _ _), (6, .int _ _), (21, .bool _)] ⟨rfl, rfl, rfl, rfl, rfl, trivial⟩ fun σ => ?_
        refine gcond (b := _) rfl (fun hc21 => ?_) (fun hc21 => ?_)
        · 
          replace hc21 := of_decide_eq_true hc21
          refine gskip ?_
          refine hN11 _ _ ?_
          refine gfrom [(3, .slice (some ⟨rg0, 0, none⟩) _ _), (4, .string _), (5, .int _ _), (6, .int _ _)] ⟨rfl, rfl, rfl, rfl, trivial⟩ fun σ => ?_
          refine gseq fun N13 hN13 => ?_
          refine gblock ?_
          refine gseq fun N14 hN14 => ?_
          refine greg ?_
          refine gop (y_move (v := .slice (some ⟨rg0, 0, none⟩) _ _) rfl) rfl rfl rfl ?_
          refine gop (y_move (v := .int _ _) rfl) rfl rfl rfl ?_
          refine gop (y_indexAddr (m := k) Tryd.underlying37 Tryd.sizeOf9 rfl rfl (by omega) (by omega) (by omega)) rfl rfl rfl ?_
          refine gop (y_load Tryd.isAgg9 rfl (cells_rowl 0 (f := strCells) (l := cutS s) rfl rfl (fun _ => rfl) (List.getElem?_eq_getElem hk1) 0 _ rfl)) rfl rfl rfl ?_
          refine gop (y_move (v := .int _ _) rfl) rfl rfl rfl ?_
          refine gop (y_stridx (m := i) Tryd.underlying9 rfl rfl (by omega) (by omega) (by omega)) rfl rfl rfl ?_
          refine gop (y_eql rfl rfl) rfl rfl rfl ?_
          refine gop (y_move (v := .bool _) rfl) rfl rfl rfl ?_
          refine gop_if (want := false) rfl rfl rfl rfl rfl rfl (fun hg31 => ?_) (fun hg31 => ?_)
          · 
            have hg31d := of_decide_eq_false hg31
            refine gop (y_bare (y_move (v := .slice (some ⟨rg0, 0, none⟩) _ _) rfl)) rfl rfl rfl ?_
            refine gop_on rfl rfl rfl rfl hg31 ?_
            refine gop (y_bare (y_move (v := .int _ _) rfl)) rfl rfl rfl ?_
            refine gop_on rfl rfl rfl rfl hg31 ?_
            refine gop (y_bare (y_indexAddr (m := k) Tryd.underlying37 Tryd.sizeOf9 rfl rfl (by omega) (by omega) (by omega))) rfl rfl rfl ?_
            refine gop_on rfl rfl rfl rfl hg31 ?_
            refine gop (y_bare (y_load Tryd.isAgg9 rfl (cells_rowl 0 (f := strCells) (l := cutS s) rfl rfl (fun _ => rfl) (List.getElem?_eq_getElem hk1) 0 _ rfl))) rfl rfl rfl ?_
            refine gop_on rfl rfl rfl rfl hg31 ?_
            refine gop (y_bare (y_move (v := .int _ _) rfl)) rfl rfl rfl ?_
            refine gop_on rfl rfl rfl rfl hg31 ?_
            refine gop (y_bare (y_stridx (m := i) Tryd.underlying9 rfl rfl (by omega) (by omega) (by omega))) rfl rfl rfl ?_
            refine gop_on rfl rfl rfl rfl hg31 ?_
            refine gop (y_bare (y_eql rfl rfl)) rfl rfl rfl ?_
            refine gop (y_pick_f (v := .bool _) rfl hg31 rfl) rfl rfl rfl ?_
            refine gops_nil ?_
            refine hN14 _ _ ?_
            refine gfrom [(3, .slice (some ⟨rg0, 0, none⟩) _ _), (4, .string _), (5, .int _ _), (6, .int _ _), (39, .bool _)] ⟨rfl, rfl, rfl, rfl, rfl, trivial⟩ fun σ => ?_
            refine gcond (b := _) rfl (fun hc39 => ?_) (fun hc39 => ?_)
            · 
              replace hc39 := of_decide_eq_true hc39
              have hB := fixed_hit hk1 hz (by cases hw : wildP (cutS s)[k] with | true => rfl | false => have h1 := wildP_no.1 hw i (by omega); exact absurd h1 (by omega))
              refine gseq fun N15 hN15 => ?_
              refine greg ?_
              refine gop (y_move (v := .string _) rfl) rfl rfl rfl ?_
              refine gop (y_assign (v := .string _) rfl) rfl rfl rfl ?_
              refine gops_nil ?_
              refine hN15 _ _ ?_
              refine gfrom [(2, .string _)] ⟨rfl, trivial⟩ fun σ => ?_
              refine gret fun w1 hM => ?_
              refine ⟨_, res1 rfl (rt (v := .string _) rfl), ?_⟩
              exact ⟨by rw [hB], hM.low⟩
            · 
              replace hc39 := of_decide_eq_false hc39
              refine gskip ?_
              refine hN13 _ _ ?_
              refine gfrom [(3, .slice (some ⟨rg0, 0, none⟩) _ _), (4, .string _), (5, .int _ _), (6, .int _ _)] ⟨rfl, rfl, rfl, rfl, trivial⟩ fun σ => ?_
              refine greg ?_
              refine gop (y_move (v := .int _ _) rfl) rfl rfl rfl ?_
              refine gop (y_add rfl rfl ⟨by omega, by omega⟩) rfl rfl rfl ?_
              refine gop (y_assign (v := .int _ _) rfl) rfl rfl rfl ?_
              refine gops_nil ?_
              refine gnext2 (i + 1) (by omega) (⟨by omega, fun j hj => by rcases Nat.lt_succ_iff_lt_or_eq.1 hj with h1 | rfl; exact hi2 j h1; omega⟩) ⟨rfl, trivial⟩ ⟨rfl, rfl, rfl, trivial⟩ ⟨_, rfl⟩
          · 
            have hg31d := of_decide_eq_true hg31
            refine gop_off rfl rfl rfl rfl hg31 rfl rfl ?_
            refine gop_off rfl rfl rfl rfl hg31 rfl rfl ?_
            refine gop_off rfl rfl rfl rfl hg31 rfl rfl ?_
            refine gop_off rfl rfl rfl rfl hg31 rfl rfl ?_
            refine gop_off rfl rfl rfl rfl hg31 rfl rfl ?_
            refine gop_off rfl rfl rfl rfl hg31 rfl rfl ?_
            refine gop (y_pick_t (v := .bool _) rfl hg31 rfl) rfl rfl rfl ?_
            refine gops_nil ?_
            refine hN14 _ _ ?_
            refine gfrom [(3, .slice (some ⟨rg0, 0, none⟩) _ _), (4, .string _), (5, .int _ _), (6, .int _ _), (39, .bool _)] ⟨rfl, rfl, rfl, rfl, rfl, trivial⟩ fun σ => ?_
            refine gcond (b := _) rfl (fun hc39 => ?_) (fun hc39 => ?_)
            · 
              have hB := fixed_hit hk1 hz (by cases hw : wildP (cutS s)[k] with | true => rfl | false => have h1 := wildP_no.1 hw i (by omega); exact absurd h1 (by omega))
              refine gseq fun N16 hN16 => ?_
              refine greg ?_
              refine gop (y_move (v := .string _) rfl) rfl rfl rfl ?_
              refine gop (y_assign (v := .string _) rfl) rfl rfl rfl ?_
              refine gops_nil ?_
              refine hN16 _ _ ?_
              refine gfrom [(2, .string _)] ⟨rfl, trivial⟩ fun σ => ?_
              refine gret fun w1 hM => ?_
              refine ⟨_, res1 rfl (rt (v := .string _) rfl), ?_⟩
              exact ⟨by rw [hB], hM.low⟩
            · 
              cases hc39
        · 
          replace hc21 := of_decide_eq_false hc21
          have hw : wildP (cutS s)[k] = false := wildP_no.2 (fun j hj => hi2 j (by omega))
          refine gexit ?_
          refine hN9 _ _ ?_
          refine gfrom [(3, .slice (some ⟨rg0, 0, none⟩) _ _), (4, .string _), (5, .int _ _)] ⟨rfl, rfl, rfl, trivial⟩ fun σ => ?_
          refine gseq fun N17 hN17 => ?_
          refine gfrom [(3, .slice (some ⟨rg0, 0, none⟩) _ _), (4, .string _), (5, .int _ _)] ⟨rfl, rfl, rfl, trivial⟩ fun σ => ?_
          refine gcut3 (Lf := [(3, .slice (some ⟨rg0, 0, none⟩) _ _), (5, .int _ _)]) (G := ByteArray) (fun u => u ++ (cutS s)[k] = joinS ((cutS s).take (k + 1)) ∧ u.size ≤ 4000001) (fun u => [(4, .string u)]) (fun u => []) ⟨rfl, rfl, trivial⟩ ?_ ?_
          ·
            refine gseq fun N18 hN18 => ?_
            refine greg ?_
            refine gop (y_move (v := .int _ _) rfl) rfl rfl rfl ?_
            refine gop (y_gtr rfl rfl) rfl rfl rfl ?_
            refine gops_nil ?_
            refine hN18 _ _ ?_
            refine gfrom [(3, .slice (some ⟨rg0, 0, none⟩) _ _), (4, .string _), (5, .int _ _), (42, .bool _)] ⟨rfl, rfl, rfl, rfl, trivial⟩ fun σ => ?_
            refine gcond (b := _) rfl (fun hc42 => ?_) (fun hc42 => ?_)
            · 
              replace hc42 := of_decide_eq_true hc42
              refine greg ?_
              refine gop (y_move (v := .string _) rfl) rfl rfl rfl ?_
              refine gop (y_cat rfl rfl (by have h1 := joinS_size s k; omega)) rfl rfl rfl ?_
              refine gop (y_assign (v := .string _) rfl) rfl rfl rfl ?_
              refine gops_nil ?_
              refine gcut3_end (joinS ((cutS s).take k) ++ ⟨#[47]⟩) (⟨by rw [joinS_next hk1, if_pos (by omega)], by have h1 := joinS_size s k; rw [ByteArray.size_append]; omega⟩) ⟨rfl, trivial⟩ ⟨rfl, rfl, trivial⟩ ⟨_, rfl⟩
            · 
              replace hc42 := of_decide_eq_false hc42
              refine gskip ?_
              refine gcut3_end (joinS ((cutS s).take k)) (⟨by rw [joinS_next hk1, if_neg (by omega)], by have h1 := joinS_size s k; omega⟩) ⟨rfl, trivial⟩ ⟨rfl, rfl, trivial⟩ ⟨_, rfl⟩
          ·
            intro u hcut σ
            refine hN17 _ _ ?_
            obtain ⟨hu, hout⟩ := hcut
            refine greg ?_
            refine gop (y_move (v := .string u) rfl) rfl rfl rfl ?_
            refine gop (y_move (v := .slice (some ⟨rg0, 0, none⟩) _ _) rfl) rfl rfl rfl ?_
            refine gop (y_move (v := .int _ _) rfl) rfl rfl rfl ?_
            refine gop (y_indexAddr (m := k) Tryd.underlying37 Tryd.sizeOf9 rfl rfl (by omega) (by omega) (by omega)) rfl rfl rfl ?_
            refine gop (y_load Tryd.isAgg9 rfl (cells_rowl 0 (f := strCells) (l := cutS s) rfl rfl (fun _ => rfl) (List.getElem?_eq_getElem hk1) 0 _ rfl)) rfl rfl rfl ?_
            refine gop (y_cat rfl rfl (by have h1 := joinS_size s k; have h2 := cutS_size (List.getElem_mem hk1) hs; have h3 := hout; omega)) rfl rfl rfl ?_
            refine gop (y_assign (v := .string _) rfl) rfl rfl rfl ?_
            refine gops_nil ?_
            refine hN8 _ _ ?_
            refine gT [rowl _ _ _ _ _ _] rfl ?_
            refine gfrom [(3, .slice (some ⟨rg0, 0, none⟩) _ _), (4, .string _), (5, .int _ _)] ⟨rfl, rfl, rfl, trivial⟩ fun σ => ?_
            refine greg ?_
            refine gop (y_move (v := .int _ _) rfl) rfl rfl rfl ?_
            refine gop (y_add rfl rfl ⟨by omega, by omega⟩) rfl rfl rfl ?_
            refine gop (y_assign (v := .int _ _) rfl) rfl rfl rfl ?_
            refine gops_nil ?_
            refine gnext2 (k + 1) (by omega) (⟨by omega, fun j h hj => by rcases Nat.lt_succ_iff_lt_or_eq.1 hj with h1 | rfl; exact hz j h h1; exact hw⟩) ⟨congrArg Value.string hu, rfl, trivial⟩ ⟨rfl, trivial⟩ ⟨_, rfl⟩
    · 
      replace hc12 := of_decide_eq_false hc12
      have hB := fixed_end (k := k) (by omega) hz
      refine gexit ?_
      refine hN4 _ _ ?_
      refine gfrom [(4, .string _)] ⟨rfl, trivial⟩ fun σ => ?_
      refine gseq fun N19 hN19 => ?_
      refine greg ?_
      refine gop (y_move (v := .string _) rfl) rfl rfl rfl ?_
      refine gop (y_assign (v := .string _) rfl) rfl rfl rfl ?_
      refine gops_nil ?_
      refine hN19 _ _ ?_
      refine gfrom [(2, .string _)] ⟨rfl, trivial⟩ fun σ => ?_
      refine gret fun w1 hM => ?_
      refine ⟨_, res1 rfl (rt (v := .string _) rfl), ?_⟩
      exact ⟨by rw [hB], hM.low⟩
end Go.Proofs.YtijpaljdclhehaaDoor
namespace Go.Proofs.YtijpaljdclhehaaDoor
open Go.RowKit Go.Cf
set_option maxRecDepth 10000
set_option maxHeartbeats 1000000 in
theorem refWild_any (w : World) (n : Nat) : Calls Tryd.prog 104 #[.int .u8 (n : Int)] w fun e w' => e = .returned (.bool (wildB n)) ∧ Below w.heap.size w w' := by
  refine gcalls Tryd.func104 rfl Tryd.ntmps104 (Nat.le_of_ble_eq_true rfl) ?_
  refine gfrom [(0, .int _ _)] ⟨rfl, trivial⟩ fun σ => ?_
  refine gseq fun N1 hN1 => ?_
  refine greg ?_
  refine gop (y_assign (v := .bool _) rfl) rfl rfl rfl ?_
  refine gops_nil ?_
  refine hN1 _ _ ?_
  refine gfrom [(0, .int _ _)] ⟨rfl, trivial⟩ fun σ => ?_
  refine gseq fun N2 hN2 => ?_
  refine greg ?_
  refine gop (y_move (v := .int _ _) rfl) rfl rfl rfl ?_
  refine gop (y_eql rfl rfl) rfl rfl rfl ?_
  refine gop (y_move (v := .bool _) rfl) rfl rfl rfl ?_
  refine gop_if (want := false) rfl rfl rfl rfl rfl rfl (fun hg5 => ?_) (fun hg5 => ?_)
  · 
    have hg5d := of_decide_eq_false hg5
    refine gop (y_bare (y_move (v := .int _ _) rfl)) rfl rfl rfl ?_
    refine gop_on rfl rfl rfl rfl hg5 ?_
    refine gop (y_bare (y_eql rfl rfl)) rfl rfl rfl ?_
    refine gop (y_pick_f (v := .bool _) rfl hg5 rfl) rfl rfl rfl ?_
    refine gop (y_assign (v := .bool _) rfl) rfl rfl rfl ?_
    refine gops_nil ?_
    refine hN2 _ _ ?_
    refine gfrom [(2, .bool _)] ⟨rfl, trivial⟩ fun σ => ?_
    refine gret fun w1 hM => ?_
    refine ⟨_, res1 rfl (rt (v := .bool _) rfl), ?_⟩
    first | exact ⟨by rw [show wildB n = true by simp [wildB]; omega], hM.low⟩ | exact ⟨by rw [show wildB n = decide ((n : Int) = 63) by rw [wildB, decide_eq_false (show ¬ n = 42 by omega), Bool.false_or]; exact decide_eq_decide.2 (by omega)], hM.low⟩
  · 
    have hg5d := of_decide_eq_true hg5
    refine gop_off rfl rfl rfl rfl hg5 rfl rfl ?_
    refine gop (y_pick_t (v := .bool _) rfl hg5 rfl) rfl rfl rfl ?_
    refine gop (y_assign (v := .bool _) rfl) rfl rfl rfl ?_
    refine gops_nil ?_
    refine hN2 _ _ ?_
    refine gfrom [(2, .bool _)] ⟨rfl, trivial⟩ fun σ => ?_
    refine gret fun w1 hM => ?_
    refine ⟨_, res1 rfl (rt (v := .bool _) rfl), ?_⟩
    first | exact ⟨by rw [show wildB n = true by simp [wildB]; omega], hM.low⟩ | exact ⟨by rw [show wildB n = decide ((n : Int) = 63) by rw [wildB, decide_eq_false (show ¬ n = 42 by omega), Bool.false_or]; exact decide_eq_decide.2 (by omega)], hM.low⟩
set_option maxHeartbeats 2000000 in
theorem dotFits_any (w : World) (a b : Nat) : Calls Tryd.prog 84 #[.int .u8 (a : Int), .int .u8 (b : Int)] w fun e w' => e = .returned (.bool (dotFitsB a b)) ∧ Below w.heap.size w w' := by
  refine gcalls Tryd.func84 rfl Tryd.ntmps84 (Nat.le_of_ble_eq_true rfl) ?_
  refine gfrom [(0, .int _ _), (1, .int _ _)] ⟨rfl, rfl, trivial⟩ fun σ => ?_
  refine gseq fun N1 hN1 => ?_
  refine greg ?_
  refine gop (y_assign (v := .bool _) rfl) rfl rfl rfl ?_
  refine gops_nil ?_
  refine hN1 _ _ ?_
  refine gfrom [(0, .int _ _), (1, .int _ _)] ⟨rfl, rfl, trivial⟩ fun σ => ?_
  refine gseq fun N2 hN2 => ?_
  refine greg ?_
  refine gop (y_move (v := .int _ _) rfl) rfl rfl rfl ?_
  refine gop_pure (e_call (vs := [.int _ _]) Tryd.func104 rfl (by kernel_rfl) rfl) (fun w hM => refWild_any w _) rfl rfl rfl ?_
  refine gop (y_move (v := .bool _) rfl) rfl rfl rfl ?_
  refine gop_if (want := false) rfl rfl rfl rfl rfl rfl (fun hg7 => ?_) (fun hg7 => ?_)
  · 
    have hg7d := hg7
    refine gop (y_bare (y_move (v := .int _ _) rfl)) rfl rfl rfl ?_
    refine gop_on rfl rfl rfl rfl hg7 ?_
    refine gop (y_bare (y_eql rfl rfl)) rfl rfl rfl ?_
    refine gop (y_pick_f (v := .bool _) rfl hg7 rfl) rfl rfl rfl ?_
    refine gop (y_move (v := .bool _) rfl) rfl rfl rfl ?_
    refine gop_if (want := true) rfl rfl rfl rfl rfl rfl (fun hg11 => ?_) (fun hg11 => ?_)
    · 
      have hg11d := of_decide_eq_true hg11
      refine gop (y_bare (y_move (v := .int _ _) rfl)) rfl rfl rfl ?_
      refine gop_on rfl rfl rfl rfl hg11 ?_
      refine gop_pure (e_call (vs := [.int _ _]) Tryd.func104 rfl (by kernel_rfl) rfl) (fun w hM => refWild_any w _) rfl rfl rfl ?_
      refine gop_on rfl rfl rfl rfl hg11 ?_
      refine gop (y_bare (y_move (v := .bool _) rfl)) rfl rfl rfl ?_
      refine gop_if (want := false) rfl rfl rfl rfl rfl rfl (fun hg14 => ?_) (fun hg14 => ?_)
      · 
        have hg14d := hg14
        refine gop (y_bare (y_move (v := .int _ _) rfl)) rfl rfl rfl ?_
        refine gop_on rfl rfl rfl rfl hg14 ?_
        refine gop (y_bare (y_eql rfl rfl)) rfl rfl rfl ?_
        refine gop_on rfl rfl rfl rfl hg11 ?_
        refine gop (y_bare (y_pick_f (v := .bool _) rfl hg14 rfl)) rfl rfl rfl ?_
        refine gop (y_pick_t (v := .bool _) rfl hg11 rfl) rfl rfl rfl ?_
        refine gop (y_assign (v := .bool _) rfl) rfl rfl rfl ?_
        refine gops_nil ?_
        refine hN2 _ _ ?_
        refine gfrom [(4, .bool _)] ⟨rfl, trivial⟩ fun σ => ?_
        refine gret fun w1 hM => ?_
        refine ⟨_, res1 rfl (rt (v := .bool _) rfl), ?_⟩
        have eu1 : ((a : Int) = 46) = (a = 46) := propext (by omega)
        have eu2 : ((b : Int) = 46) = (b = 46) := propext (by omega)
        have hlow := hM.low
        exact ⟨by clear hM hlow; unfold dotFitsB; simp_all, hlow⟩
      · 
        have hg14d := hg14
        refine gop_off rfl rfl rfl rfl hg14 rfl rfl ?_
        refine gop_on rfl rfl rfl rfl hg11 ?_
        refine gop (y_bare (y_pick_t (v := .bool _) rfl hg14 rfl)) rfl rfl rfl ?_
        refine gop (y_pick_t (v := .bool _) rfl hg11 rfl) rfl rfl rfl ?_
        refine gop (y_assign (v := .bool _) rfl) rfl rfl rfl ?_
        refine gops_nil ?_
        refine hN2 _ _ ?_
        refine gfrom [(4, .bool _)] ⟨rfl, trivial⟩ fun σ => ?_
        refine gret fun w1 hM => ?_
        refine ⟨_, res1 rfl (rt (v := .bool _) rfl), ?_⟩
        have eu1 : ((a : Int) = 46) = (a = 46) := propext (by omega)
        have eu2 : ((b : Int) = 46) = (b = 46) := propext (by omega)
        have hlow := hM.low
        exact ⟨by clear hM hlow; unfold dotFitsB; simp_all, hlow⟩
    · 
      have hg11d := of_decide_eq_false hg11
      refine gop_off rfl rfl rfl rfl hg11 rfl rfl ?_
      refine gop_off rfl rfl rfl rfl hg11 rfl rfl ?_
      refine gop_offu rfl rfl rfl rfl rfl rfl ?_
      refine gop_offu rfl rfl rfl rfl rfl rfl ?_
      refine gop_off rfl rfl rfl rfl hg11 rfl rfl ?_
      refine gop (y_pick_f (v := .bool _) rfl hg11 rfl) rfl rfl rfl ?_
      refine gop (y_assign (v := .bool _) rfl) rfl rfl rfl ?_
      refine gops_nil ?_
      refine hN2 _ _ ?_
      refine gfrom [(4, .bool _)] ⟨rfl, trivial⟩ fun σ => ?_
      refine gret fun w1 hM => ?_
      refine ⟨_, res1 rfl (rt (v := .bool _) rfl), ?_⟩
      have eu1 : ((a : Int) = 46) = (a = 46) := propext (by omega)
      have eu2 : ((b : Int) = 46) = (b = 46) := propext (by omega)
      have hlow := hM.low
      exact ⟨by clear hM hlow; unfold dotFitsB; simp_all, hlow⟩
  · 
    have hg7d := hg7
    refine gop_off rfl rfl rfl rfl hg7 rfl rfl ?_
    refine gop (y_pick_t (v := .bool _) rfl hg7 rfl) rfl rfl rfl ?_
    refine gop (y_move (v := .bool _) rfl) rfl rfl rfl ?_
    refine gop_on rfl rfl rfl rfl rfl ?_
    refine gop (y_bare (y_move (v := .int _ _) rfl)) rfl rfl rfl ?_
    refine gop_on rfl rfl rfl rfl rfl ?_
    refine gop_pure (e_call (vs := [.int _ _]) Tryd.func104 rfl (by kernel_rfl) rfl) (fun w hM => refWild_any w _) rfl rfl rfl ?_
    refine gop_on rfl rfl rfl rfl rfl ?_
    refine gop (y_bare (y_move (v := .bool _) rfl)) rfl rfl rfl ?_
    refine gop_if (want := false) rfl rfl rfl rfl rfl rfl (fun hg14 => ?_) (fun hg14 => ?_)
    · 
      have hg14d := hg14
      refine gop (y_bare (y_move (v := .int _ _) rfl)) rfl rfl rfl ?_
      refine gop_on rfl rfl rfl rfl hg14 ?_
      refine gop (y_bare (y_eql rfl rfl)) rfl rfl rfl ?_
      refine gop_on rfl rfl rfl rfl rfl ?_
      refine gop (y_bare (y_pick_f (v := .bool _) rfl hg14 rfl)) rfl rfl rfl ?_
      refine gop (y_pick_t (v := .bool _) rfl rfl rfl) rfl rfl rfl ?_
      refine gop (y_assign (v := .bool _) rfl) rfl rfl rfl ?_
      refine gops_nil ?_
      refine hN2 _ _ ?_
      refine gfrom [(4, .bool _)] ⟨rfl, trivial⟩ fun σ => ?_
      refine gret fun w1 hM => ?_
      refine ⟨_, res1 rfl (rt (v := .bool _) rfl), ?_⟩
      have eu1 : ((a : Int) = 46) = (a = 46) := propext (by omega)
      have eu2 : ((b : Int) = 46) = (b = 46) := propext (by omega)
      have hlow := hM.low
      exact ⟨by clear hM hlow; unfold dotFitsB; simp_all, hlow⟩
    · 
      have hg14d := hg14
      refine gop_off rfl rfl rfl rfl hg14 rfl rfl ?_
      refine gop_on rfl rfl rfl rfl rfl ?_
      refine gop (y_bare (y_pick_t (v := .bool _) rfl hg14 rfl)) rfl rfl rfl ?_
      refine gop (y_pick_t (v := .bool _) rfl rfl rfl) rfl rfl rfl ?_
      refine gop (y_assign (v := .bool _) rfl) rfl rfl rfl ?_
      refine gops_nil ?_
      refine hN2 _ _ ?_
      refine gfrom [(4, .bool _)] ⟨rfl, trivial⟩ fun σ => ?_
      refine gret fun w1 hM => ?_
      refine ⟨_, res1 rfl (rt (v := .bool _) rfl), ?_⟩
      have eu1 : ((a : Int) = 46) = (a = 46) := propext (by omega)
      have eu2 : ((b : Int) = 46) = (b = 46) := propext (by omega)
      have hlow := hM.low
      exact ⟨by clear hM hlow; unfold dotFitsB; simp_all, hlow⟩
set_option maxHeartbeats 2000000 in
theorem otherFits_any (w : World) (a b : Nat) : Calls Tryd.prog 85 #[.int .u8 (a : Int), .int .u8 (b : Int)] w fun e w' => e = .returned (.bool (otherFitsB a b)) ∧ Below w.heap.size w w' := by
  refine gcalls Tryd.func85 rfl Tryd.ntmps85 (Nat.le_of_ble_eq_true rfl) ?_
  refine gfrom [(0, .int _ _), (1, .int _ _)] ⟨rfl, rfl, trivial⟩ fun σ => ?_
  refine gseq fun N1 hN1 => ?_
  refine greg ?_
  refine gop (y_assign (v := .bool _) rfl) rfl rfl rfl ?_
  refine gops_nil ?_
  refine hN1 _ _ ?_
  refine gfrom [(0, .int _ _), (1, .int _ _)] ⟨rfl, rfl, trivial⟩ fun σ => ?_
  refine gseq fun N2 hN2 => ?_
  refine gseq fun N3 hN3 => ?_
  refine greg ?_
  refine gop (y_move (v := .int _ _) rfl) rfl rfl rfl ?_
  refine gop (y_eql rfl rfl) rfl rfl rfl ?_
  refine gop (y_move (v := .bool _) rfl) rfl rfl rfl ?_
  refine gop_if (want := false) rfl rfl rfl rfl rfl rfl (fun hg7 => ?_) (fun hg7 => ?_)
  · 
    have hg7d := of_decide_eq_false hg7
    refine gop (y_bare (y_move (v := .int _ _) rfl)) rfl rfl rfl ?_
    refine gop_on rfl rfl rfl rfl hg7 ?_
    refine gop (y_bare (y_eql rfl rfl)) rfl rfl rfl ?_
    refine gop (y_pick_f (v := .bool _) rfl hg7 rfl) rfl rfl rfl ?_
    refine gops_nil ?_
    refine hN3 _ _ ?_
    refine gfrom [(0, .int _ _), (1, .int _ _), (10, .bool _)] ⟨rfl, rfl, rfl, trivial⟩ fun σ => ?_
    refine gcond (b := _) rfl (fun hc10 => ?_) (fun hc10 => ?_)
    · 
      replace hc10 := of_decide_eq_true hc10
      refine gseq fun N4 hN4 => ?_
      refine greg ?_
      refine gop (y_assign (v := .bool _) rfl) rfl rfl rfl ?_
      refine gops_nil ?_
      refine hN4 _ _ ?_
      refine gfrom [(4, .bool _)] ⟨rfl, trivial⟩ fun σ => ?_
      refine gret fun w1 hM => ?_
      refine ⟨_, res1 rfl (rt (v := .bool _) rfl), ?_⟩
      exact ⟨by rw [otherFitsB, if_pos (by omega)], hM.low⟩
    · 
      replace hc10 := of_decide_eq_false hc10
      refine gskip ?_
      refine hN2 _ _ ?_
      refine gfrom [(0, .int _ _), (1, .int _ _)] ⟨rfl, rfl, trivial⟩ fun σ => ?_
      refine gseq fun N5 hN5 => ?_
      refine greg ?_
      refine gop (y_move (v := .int _ _) rfl) rfl rfl rfl ?_
      refine gop_pure (e_call (vs := [.int _ _]) Tryd.func104 rfl (by kernel_rfl) rfl) (fun w hM => refWild_any w _) rfl rfl rfl ?_
      refine gop (y_move (v := .bool _) rfl) rfl rfl rfl ?_
      refine gop_if (want := false) rfl rfl rfl rfl rfl rfl (fun hg13 => ?_) (fun hg13 => ?_)
      · 
        have hg13d := hg13
        refine gop (y_bare (y_move (v := .int _ _) rfl)) rfl rfl rfl ?_
        refine gop_on rfl rfl rfl rfl hg13 ?_
        refine gop_pure (e_call (vs := [.int _ _]) Tryd.func104 rfl (by kernel_rfl) rfl) (fun w hM => refWild_any w _) rfl rfl rfl ?_
        refine gop (y_pick_f (v := .bool _) rfl hg13 rfl) rfl rfl rfl ?_
        refine gop (y_move (v := .bool _) rfl) rfl rfl rfl ?_
        refine gop_if (want := false) rfl rfl rfl rfl rfl rfl (fun hg17 => ?_) (fun hg17 => ?_)
        · 
          have hg17d := hg17
          refine gop (y_bare (y_move (v := .int _ _) rfl)) rfl rfl rfl ?_
          refine gop_on rfl rfl rfl rfl hg17 ?_
          refine gop (y_bare (y_move (v := .int _ _) rfl)) rfl rfl rfl ?_
          refine gop_on rfl rfl rfl rfl hg17 ?_
          refine gop (y_bare (y_eql rfl rfl)) rfl rfl rfl ?_
          refine gop (y_pick_f (v := .bool _) rfl hg17 rfl) rfl rfl rfl ?_
          refine gop (y_assign (v := .bool _) rfl) rfl rfl rfl ?_
          refine gops_nil ?_
          refine hN5 _ _ ?_
          refine gfrom [(4, .bool _)] ⟨rfl, trivial⟩ fun σ => ?_
          refine gret fun w1 hM => ?_
          refine ⟨_, res1 rfl (rt (v := .bool _) rfl), ?_⟩
          have eab : ((a : Int) = b) = (a = b) := propext (by omega)
          have hlow := hM.low
          exact ⟨by rw [otherFitsB, if_neg (by omega)]; clear hM hlow; simp_all, hlow⟩
        · 
          have hg17d := hg17
          refine gop_off rfl rfl rfl rfl hg17 rfl rfl ?_
          refine gop_off rfl rfl rfl rfl hg17 rfl rfl ?_
          refine gop (y_pick_t (v := .bool _) rfl hg17 rfl) rfl rfl rfl ?_
          refine gop (y_assign (v := .bool _) rfl) rfl rfl rfl ?_
          refine gops_nil ?_
          refine hN5 _ _ ?_
          refine gfrom [(4, .bool _)] ⟨rfl, trivial⟩ fun σ => ?_
          refine gret fun w1 hM => ?_
          refine ⟨_, res1 rfl (rt (v := .bool _) rfl), ?_⟩
          have eab : ((a : Int) = b) = (a = b) := propext (by omega)
          have hlow := hM.low
          exact ⟨by rw [otherFitsB, if_neg (by omega)]; clear hM hlow; simp_all, hlow⟩
      · 
        have hg13d := hg13
        refine gop_off rfl rfl rfl rfl hg13 rfl rfl ?_
        refine gop (y_pick_t (v := .bool _) rfl hg13 rfl) rfl rfl rfl ?_
        refine gop (y_move (v := .bool _) rfl) rfl rfl rfl ?_
        refine gop_off rfl rfl rfl rfl rfl rfl rfl ?_
        refine gop_off rfl rfl rfl rfl rfl rfl rfl ?_
        refine gop_off rfl rfl rfl rfl rfl rfl rfl ?_
        refine gop (y_pick_t (v := .bool _) rfl rfl rfl) rfl rfl rfl ?_
        refine gop (y_assign (v := .bool _) rfl) rfl rfl rfl ?_
        refine gops_nil ?_
        refine hN5 _ _ ?_
        refine gfrom [(4, .bool _)] ⟨rfl, trivial⟩ fun σ => ?_
        refine gret fun w1 hM => ?_
        refine ⟨_, res1 rfl (rt (v := .bool _) rfl), ?_⟩
        have eab : ((a : Int) = b) = (a = b) := propext (by omega)
        have hlow := hM.low
        exact ⟨by rw [otherFitsB, if_neg (by omega)]; clear hM hlow; simp_all, hlow⟩
  · 
    have hg7d := of_decide_eq_true hg7
    refine gop_off rfl rfl rfl rfl hg7 rfl rfl ?_
    refine gop (y_pick_t (v := .bool _) rfl hg7 rfl) rfl rfl rfl ?_
    refine gops_nil ?_
    refine hN3 _ _ ?_
    refine gfrom [(0, .int _ _), (1, .int _ _), (10, .bool _)] ⟨rfl, rfl, rfl, trivial⟩ fun σ => ?_
    refine gcond (b := _) rfl (fun hc10 => ?_) (fun hc10 => ?_)
    · 
      refine gseq fun N6 hN6 => ?_
      refine greg ?_
      refine gop (y_assign (v := .bool _) rfl) rfl rfl rfl ?_
      refine gops_nil ?_
      refine hN6 _ _ ?_
      refine gfrom [(4, .bool _)] ⟨rfl, trivial⟩ fun σ => ?_
      refine gret fun w1 hM => ?_
      refine ⟨_, res1 rfl (rt (v := .bool _) rfl), ?_⟩
      exact ⟨by rw [otherFitsB, if_pos (by omega)], hM.low⟩
    · 
      cases hc10
end Go.Proofs.YtijpaljdclhehaaDoor
namespace Go.Proofs.YtijpaljdclhehaaDoor
open Go.RowKit Go.Cf
set_option maxRecDepth 10000
set_option maxHeartbeats 8000000 in
theorem partsMeet_any (w : World) (p q : ByteArray) (hp : p.size ≤ 60) (hq : q.size ≤ 60) : Calls Tryd.prog 67 #[.string p, .string q] w fun e w' => e = .returned (.bool (commonB p q)) ∧ Below w.heap.size w w' := by
  refine gcalls Tryd.func67 rfl Tryd.ntmps67 (Nat.le_of_ble_eq_true rfl) ?_
  refine gfrom [(0, .string _), (1, .string _)] ⟨rfl, rfl, trivial⟩ fun σ => ?_
  refine gseq fun N1 hN1 => ?_
  refine greg ?_
  refine gop (y_assign (v := .bool _) rfl) rfl rfl rfl ?_
  refine gops_nil ?_
  refine hN1 _ _ ?_
  refine gfrom [(0, .string _), (1, .string _)] ⟨rfl, rfl, trivial⟩ fun σ => ?_
  refine gseq fun N2 hN2 => ?_
  refine greg ?_
  refine gop_alloc (cs := ((List.replicate 15376 false).flatMap boolCells).toArray) zvTab3 rfl rfl (fun b5 hb5 => ?_)
  refine gops_nil ?_
  refine hN2 _ _ ?_
  refine gT [box b5 _] rfl ?_
  refine gfrom [(0, .string _), (1, .string _), (5, .pointer _)] ⟨rfl, rfl, rfl, trivial⟩ fun σ => ?_
  refine gseq fun N3 hN3 => ?_
  refine greg ?_
  refine gop (y_indexAddr_arr (m := 0) Tryd.underlying113 Tryd.sizeOf112 rfl rfl rfl (by omega) (by omega)) rfl rfl rfl ?_
  refine gop (y_indexAddr_arr (m := 0) Tryd.underlying112 Tryd.sizeOf111 rfl rfl rfl (by omega) (by omega)) rfl rfl rfl ?_
  refine gop (y_indexAddr_arr (m := 0) Tryd.underlying111 Tryd.sizeOf4 rfl rfl rfl (by omega) (by omega)) rfl rfl rfl ?_
  refine gop_store_el 0 (f := boolCells) (size := 1) (k := 0) (o := 0) (v := .bool _) (a := false) (a' := true) (fun _ => rfl) rfl (by omega) rfl Tryd.sizeOf4 rfl rfl rfl rfl (rep_first rfl) (by omega) rfl rfl ?_
  refine gops_nil ?_
  refine hN3 _ _ ?_
  refine gT [box b5 _] rfl ?_
  refine gfrom [(0, .string _), (1, .string _), (5, .pointer _)] ⟨rfl, rfl, rfl, trivial⟩ fun σ => ?_
  refine gseq fun N4 hN4 => ?_
  refine gseq fun N5 hN5 => ?_
  refine greg ?_
  refine gop (y_assign (v := .int _ _) rfl) rfl rfl rfl ?_
  refine gops_nil ?_
  refine hN5 _ _ ?_
  refine gfrom [(0, .string _), (1, .string _), (5, .pointer _), (6, .int _ _)] ⟨rfl, rfl, rfl, rfl, trivial⟩ fun σ => ?_
  refine gblock ?_
  refine gfrom2 [(6, .int _ _)] [(0, .string _), (1, .string _), (5, .pointer _)] ⟨rfl, trivial⟩ ⟨rfl, rfl, rfl, trivial⟩ fun σ => ?_
  refine gloop2 (G := Nat × List Bool) (fun (i, l) => i ≤ p.size + 1 ∧ Fwd3 p q l (i * 248)) (fun (i, l) => p.size + 1 - i) (fun (i, l) => [(6, .int .i64 (i : Int))]) (fun (i, l) => [(0, box b5 (.cells ((l).flatMap boolCells).toArray 113))]) ((0, (List.replicate 15376 false).set 0 true)) ?h0 ⟨rfl, trivial⟩ ⟨rfl, rfl, rfl, trivial⟩ rfl ?round
  case h0 => exact ⟨Nat.zero_le _, Fwd3.begin_ hp hq⟩
  case round =>
    rintro ⟨i, l⟩ hφ σ
    obtain ⟨hi, hF⟩ := hφ
    refine gT [box b5 _] rfl ?_
    refine gseq fun N6 hN6 => ?_
    refine gseq fun N7 hN7 => ?_
    refine greg ?_
    refine gop (y_move (v := .int _ _) rfl) rfl rfl rfl ?_
    refine gop (y_move (v := .string _) rfl) rfl rfl rfl ?_
    refine gop (y_lens Tryd.underlying9 rfl) rfl rfl rfl ?_
    refine gop (y_leq rfl rfl) rfl rfl rfl ?_
    refine gops_nil ?_
    refine hN7 _ _ ?_
    refine gfrom [(0, .string _), (1, .string _), (5, .pointer _), (6, .int _ _), (17, .bool _)] ⟨rfl, rfl, rfl, rfl, rfl, trivial⟩ fun σ => ?_
    refine gcond (b := _) rfl (fun hc17 => ?_) (fun hc17 => ?_)
    · 
      replace hc17 := of_decide_eq_true hc17
      refine gskip ?_
      refine hN6 _ _ ?_
      refine gfrom [(0, .string _), (1, .string _), (5, .pointer _), (6, .int _ _)] ⟨rfl, rfl, rfl, rfl, trivial⟩ fun σ => ?_
      refine gseq fun N8 hN8 => ?_
      refine gblock ?_
      refine gseq fun N9 hN9 => ?_
      refine greg ?_
      refine gop (y_assign (v := .int _ _) rfl) rfl rfl rfl ?_
      refine gops_nil ?_
      refine hN9 _ _ ?_
      refine gfrom [(0, .string _), (1, .string _), (5, .pointer _), (6, .int _ _), (7, .int _ _)] ⟨rfl, rfl, rfl, rfl, rfl, trivial⟩ fun σ => ?_
      refine gblock ?_
      refine gfrom2 [(7, .int _ _)] [(0, .string _), (1, .string _), (5, .pointer _), (6, .int _ _)] ⟨rfl, trivial⟩ ⟨rfl, rfl, rfl, rfl, trivial⟩ fun σ => ?_
      refine gloop2 (G := Nat × List Bool) (fun (j, l2) => j ≤ q.size + 1 ∧ Fwd3 p q l2 (i * 248 + j * 4)) (fun (j, l2) => q.size + 1 - j) (fun (j, l2) => [(7, .int .i64 (j : Int))]) (fun (j, l2) => [(0, box b5 (.cells ((l2).flatMap boolCells).toArray 113))]) ((0, l)) ?h0 ⟨rfl, trivial⟩ ⟨rfl, rfl, rfl, rfl, trivial⟩ rfl ?round
      case h0 => exact ⟨Nat.zero_le _, Fwd3.into hF⟩
      case round =>
        rintro ⟨j, l2⟩ hφ σ
        obtain ⟨hj, hF2⟩ := hφ
        refine gT [box b5 _] rfl ?_
        refine gseq fun N10 hN10 => ?_
        refine gseq fun N11 hN11 => ?_
        refine greg ?_
        refine gop (y_move (v := .int _ _) rfl) rfl rfl rfl ?_
        refine gop (y_move (v := .string _) rfl) rfl rfl rfl ?_
        refine gop (y_lens Tryd.underlying9 rfl) rfl rfl rfl ?_
        refine gop (y_leq rfl rfl) rfl rfl rfl ?_
        refine gops_nil ?_
        refine hN11 _ _ ?_
        refine gfrom [(0, .string _), (1, .string _), (5, .pointer _), (6, .int _ _), (7, .int _ _), (23, .bool _)] ⟨rfl, rfl, rfl, rfl, rfl, rfl, trivial⟩ fun σ => ?_
        refine gcond (b := _) rfl (fun hc23 => ?_) (fun hc23 => ?_)
        · 
          replace hc23 := of_decide_eq_true hc23
          refine gskip ?_
          refine hN10 _ _ ?_
          refine gfrom [(0, .string _), (1, .string _), (5, .pointer _), (6, .int _ _), (7, .int _ _)] ⟨rfl, rfl, rfl, rfl, rfl, trivial⟩ fun σ => ?_
          refine gseq fun N12 hN12 => ?_
          refine gblock ?_
          refine gseq fun N13 hN13 => ?_
          refine greg ?_
          refine gop (y_assign (v := .int _ _) rfl) rfl rfl rfl ?_
          refine gops_nil ?_
          refine hN13 _ _ ?_
          refine gfrom [(0, .string _), (1, .string _), (5, .pointer _), (6, .int _ _), (7, .int _ _), (8, .int _ _)] ⟨rfl, rfl, rfl, rfl, rfl, rfl, trivial⟩ fun σ => ?_
          refine gblock ?_
          refine gfrom2 [(8, .int _ _)] [(0, .string _), (1, .string _), (5, .pointer _), (6, .int _ _), (7, .int _ _)] ⟨rfl, trivial⟩ ⟨rfl, rfl, rfl, rfl, rfl, trivial⟩ fun σ => ?_
          refine gloop2 (G := Nat × List Bool) (fun (d, l3) => d ≤ 4 ∧ Fwd3 p q l3 (idx3 (i, j, d))) (fun (d, l3) => 4 - d) (fun (d, l3) => [(8, .int .i64 (d : Int))]) (fun (d, l3) => [(0, box b5 (.cells ((l3).flatMap boolCells).toArray 113))]) ((0, l2)) ?h0 ⟨rfl, trivial⟩ ⟨rfl, rfl, rfl, rfl, rfl, trivial⟩ rfl ?round
          case h0 => exact ⟨Nat.zero_le _, Fwd3.enter hF2⟩
          case round =>
            rintro ⟨d, l3⟩ hφ σ
            obtain ⟨hd, hFd⟩ := hφ
            refine gT [box b5 _] rfl ?_
            refine gseq fun N14 hN14 => ?_
            refine gseq fun N15 hN15 => ?_
            refine greg ?_
            refine gop (y_move (v := .int _ _) rfl) rfl rfl rfl ?_
            refine gop (y_lss rfl rfl) rfl rfl rfl ?_
            refine gops_nil ?_
            refine hN15 _ _ ?_
            refine gfrom [(0, .string _), (1, .string _), (5, .pointer _), (6, .int _ _), (7, .int _ _), (8, .int _ _), (27, .bool _)] ⟨rfl, rfl, rfl, rfl, rfl, rfl, rfl, trivial⟩ fun σ => ?_
            refine gcond (b := _) rfl (fun hc27 => ?_) (fun hc27 => ?_)
            · 
              replace hc27 := of_decide_eq_true hc27
              have hok : okPl p q (i, j, d) := ⟨by show i ≤ _; omega, by show j ≤ _; omega, by show d ≤ 3; omega⟩
              have hn3 : idx3 (i, j, d) < l3.length := by rw [hFd.len]; exact hFd.lt _ hok
              have hd4 : d ≤ 3 := by omega
              refine gskip ?_
              refine hN14 _ _ ?_
              refine gfrom [(0, .string _), (1, .string _), (5, .pointer _), (6, .int _ _), (7, .int _ _), (8, .int _ _)] ⟨rfl, rfl, rfl, rfl, rfl, rfl, trivial⟩ fun σ => ?_
              refine gseq fun N16 hN16 => ?_
              refine gblock ?_
              refine gseq fun N17 hN17 => ?_
              refine gseq fun N18 hN18 => ?_
              refine greg ?_
              refine gop (y_move (v := .int _ _) rfl) rfl rfl rfl ?_
              refine gop (y_move (v := .int _ _) rfl) rfl rfl rfl ?_
              refine gop (y_move (v := .int _ _) rfl) rfl rfl rfl ?_
              refine gop (y_indexAddr_arr (m := i) Tryd.underlying113 Tryd.sizeOf112 rfl rfl rfl (by omega) (by omega)) rfl rfl rfl ?_
              refine gop (y_indexAddr_arr (m := j) Tryd.underlying112 Tryd.sizeOf111 rfl rfl rfl (by omega) (by omega)) rfl rfl rfl ?_
              refine gop (y_indexAddr_arr (m := d) Tryd.underlying111 Tryd.sizeOf4 rfl rfl rfl (by omega) (by omega)) rfl rfl rfl ?_
              refine gop (y_load Tryd.isAgg4 rfl (cell_flat1 0 (k := idx3 (i, j, d)) rfl (List.getElem?_eq_getElem hn3) (by simp only [idx3]; omega))) rfl rfl rfl ?_
              refine gop (y_not rfl) rfl rfl rfl ?_
              refine gops_nil ?_
              refine hN18 _ _ ?_
              refine gfrom [(0, .string _), (1, .string _), (5, .pointer _), (6, .int _ _), (7, .int _ _), (8, .int _ _), (37, .bool _)] ⟨rfl, rfl, rfl, rfl, rfl, rfl, rfl, trivial⟩ fun σ => ?_
              refine gcond (b := _) rfl (fun hc37 => ?_) (fun hc37 => ?_)
              · 
                replace hc37 := not_t hc37
                have hF4 := Fwd3.no hFd hok (by rw [List.getElem?_eq_getElem hn3, hc37])
                refine gexit ?_
                refine hN16 _ _ ?_
                refine gfrom [(0, .string _), (1, .string _), (5, .pointer _), (6, .int _ _), (7, .int _ _), (8, .int _ _)] ⟨rfl, rfl, rfl, rfl, rfl, rfl, trivial⟩ fun σ => ?_
                refine greg ?_
                refine gop (y_move (v := .int _ _) rfl) rfl rfl rfl ?_
                refine gop (y_add rfl rfl ⟨by omega, by omega⟩) rfl rfl rfl ?_
                refine gop (y_assign (v := .int _ _) rfl) rfl rfl rfl ?_
                refine gops_nil ?_
                refine gnext2 ((d + 1, l3)) (by show 4 - (d + 1) < 4 - d; omega) (⟨by show d + 1 ≤ 4; omega, hF4⟩) ⟨rfl, trivial⟩ ⟨rfl, rfl, rfl, rfl, rfl, trivial⟩ ⟨_, rfl⟩
              · 
                replace hc37 := not_f hc37
                have hR0 : Rnd3 p q (i, j, d) [] l3 := Rnd.first hFd (by rw [List.getElem?_eq_getElem hn3, hc37])
                refine gskip ?_
                refine hN17 _ _ ?_
                refine gfrom [(0, .string _), (1, .string _), (5, .pointer _), (6, .int _ _), (7, .int _ _), (8, .int _ _)] ⟨rfl, rfl, rfl, rfl, rfl, rfl, trivial⟩ fun σ => ?_
                refine gseq fun N19 hN19 => ?_
                refine gfrom [(0, .string _), (1, .string _), (5, .pointer _), (6, .int _ _), (7, .int _ _), (8, .int _ _)] ⟨rfl, rfl, rfl, rfl, rfl, rfl, trivial⟩ fun σ => ?_
                refine gcut3 (Lf := [(0, .string _), (1, .string _), (5, .pointer _), (6, .int _ _), (7, .int _ _), (8, .int _ _)]) (G := List Bool) (fun la => Rnd3 p q (i, j, d) (nxA p (i, j, d)) la) (fun la => []) (fun la => [(0, box b5 (.cells ((la).flatMap boolCells).toArray 113))]) ⟨rfl, rfl, rfl, rfl, rfl, rfl, trivial⟩ ?_ ?_
                ·
                  refine gseq fun N20 hN20 => ?_
                  refine greg ?_
                  refine gop (y_move (v := .int _ _) rfl) rfl rfl rfl ?_
                  refine gop (y_move (v := .string _) rfl) rfl rfl rfl ?_
                  refine gop (y_lens Tryd.underlying9 rfl) rfl rfl rfl ?_
                  refine gop (y_lss rfl rfl) rfl rfl rfl ?_
                  refine gop (y_move (v := .bool _) rfl) rfl rfl rfl ?_
                  refine gop_if (want := true) rfl rfl rfl rfl rfl rfl (fun hg42 => ?_) (fun hg42 => ?_)
                  · 
                    have hg42d := of_decide_eq_true hg42
                    refine gop (y_bare (y_move (v := .string _) rfl)) rfl rfl rfl ?_
                    refine gop_on rfl rfl rfl rfl hg42 ?_
                    refine gop (y_bare (y_move (v := .int _ _) rfl)) rfl rfl rfl ?_
                    refine gop_on rfl rfl rfl rfl hg42 ?_
                    refine gop (y_bare (y_stridx (m := i) Tryd.underlying9 rfl rfl (by omega) (by omega) (by omega))) rfl rfl rfl ?_
                    refine gop_on rfl rfl rfl rfl hg42 ?_
                    refine gop (y_bare (y_eql rfl rfl)) rfl rfl rfl ?_
                    refine gop (y_pick_t (v := .bool _) rfl hg42 rfl) rfl rfl rfl ?_
                    refine gops_nil ?_
                    refine hN20 _ _ ?_
                    refine gfrom [(0, .string _), (1, .string _), (5, .pointer _), (6, .int _ _), (7, .int _ _), (8, .int _ _), (47, .bool _)] ⟨rfl, rfl, rfl, rfl, rfl, rfl, rfl, trivial⟩ fun σ => ?_
                    refine gcond (b := _) rfl (fun hc47 => ?_) (fun hc47 => ?_)
                    · 
                      replace hc47 := of_decide_eq_true hc47
                      refine greg ?_
                      refine gop (y_move (v := .int _ _) rfl) rfl rfl rfl ?_
                      refine gop (y_add rfl rfl ⟨by omega, by omega⟩) rfl rfl rfl ?_
                      refine gop (y_move (v := .int _ _) rfl) rfl rfl rfl ?_
                      refine gop (y_move (v := .int _ _) rfl) rfl rfl rfl ?_
                      refine gop (y_indexAddr_arr (m := i + 1) Tryd.underlying113 Tryd.sizeOf112 rfl rfl rfl (by omega) (by omega)) rfl rfl rfl ?_
                      refine gop (y_indexAddr_arr (m := j) Tryd.underlying112 Tryd.sizeOf111 rfl rfl rfl (by omega) (by omega)) rfl rfl rfl ?_
                      refine gop (y_indexAddr_arr (m := d) Tryd.underlying111 Tryd.sizeOf4 rfl rfl rfl (by omega) (by omega)) rfl rfl rfl ?_
                      refine gop_store_el 0 (f := boolCells) (size := 1) (k := idx3 (i + 1, j, d)) (o := 0) (v := .bool _) (a' := true) (fun _ => rfl) rfl (off3 (i + 1) j d rfl) rfl Tryd.sizeOf4 rfl rfl rfl rfl (List.getElem?_eq_getElem (show idx3 (i + 1, j, d) < _ by rw [hFd.len]; show (i + 1) * 248 + j * 4 + d < _; omega)) (by omega) rfl rfl ?_
                      refine gops_nil ?_
                      refine gcut3_end (l3.set (idx3 (i + 1, j, d)) true) (Rnd3.a1 hR0 hok (by omega) (by omega)) trivial ⟨rfl, rfl, rfl, rfl, rfl, rfl, trivial⟩ ⟨_, rfl⟩
                    · 
                      replace hc47 := of_decide_eq_false hc47
                      refine gskip ?_
                      refine gcut3_end (l3) (Rnd3.a0 hR0 (by omega)) trivial ⟨rfl, rfl, rfl, rfl, rfl, rfl, trivial⟩ ⟨_, rfl⟩
                  · 
                    have hg42d := of_decide_eq_false hg42
                    refine gop_off rfl rfl rfl rfl hg42 rfl rfl ?_
                    refine gop_off rfl rfl rfl rfl hg42 rfl rfl ?_
                    refine gop_off rfl rfl rfl rfl hg42 rfl rfl ?_
                    refine gop (y_pick_f (v := .bool _) rfl hg42 rfl) rfl rfl rfl ?_
                    refine gops_nil ?_
                    refine hN20 _ _ ?_
                    refine gfrom [(0, .string _), (1, .string _), (5, .pointer _), (6, .int _ _), (7, .int _ _), (8, .int _ _), (47, .bool _)] ⟨rfl, rfl, rfl, rfl, rfl, rfl, rfl, trivial⟩ fun σ => ?_
                    refine gcond (b := _) rfl (fun hc47 => ?_) (fun hc47 => ?_)
                    · 
                      cases hc47
                    · 
                      refine gskip ?_
                      refine gcut3_end (l3) (Rnd3.a0 hR0 (by omega)) trivial ⟨rfl, rfl, rfl, rfl, rfl, rfl, trivial⟩ ⟨_, rfl⟩
                ·
                  intro la hcut σ
                  refine hN19 _ _ ?_
                  have hRa := hcut
                  refine gseq fun N21 hN21 => ?_
                  refine gT [box b5 _] rfl ?_
                  refine gfrom [(0, .string _), (1, .string _), (5, .pointer _), (6, .int _ _), (7, .int _ _), (8, .int _ _)] ⟨rfl, rfl, rfl, rfl, rfl, rfl, trivial⟩ fun σ => ?_
                  refine gcut3 (Lf := [(0, .string _), (1, .string _), (5, .pointer _), (6, .int _ _), (7, .int _ _), (8, .int _ _)]) (G := List Bool) (fun lb => Rnd3 p q (i, j, d) (nxA p (i, j, d) ++ nxB q (i, j, d)) lb) (fun lb => []) (fun lb => [(0, box b5 (.cells ((lb).flatMap boolCells).toArray 113))]) ⟨rfl, rfl, rfl, rfl, rfl, rfl, trivial⟩ ?_ ?_
                  ·
                    refine gseq fun N22 hN22 => ?_
                    refine greg ?_
                    refine gop (y_move (v := .int _ _) rfl) rfl rfl rfl ?_
                    refine gop (y_move (v := .string _) rfl) rfl rfl rfl ?_
                    refine gop (y_lens Tryd.underlying9 rfl) rfl rfl rfl ?_
                    refine gop (y_lss rfl rfl) rfl rfl rfl ?_
                    refine gop (y_move (v := .bool _) rfl) rfl rfl rfl ?_
                    refine gop_if (want := true) rfl rfl rfl rfl rfl rfl (fun hg59 => ?_) (fun hg59 => ?_)
                    · 
                      have hg59d := of_decide_eq_true hg59
                      refine gop (y_bare (y_move (v := .string _) rfl)) rfl rfl rfl ?_
                      refine gop_on rfl rfl rfl rfl hg59 ?_
                      refine gop (y_bare (y_move (v := .int _ _) rfl)) rfl rfl rfl ?_
                      refine gop_on rfl rfl rfl rfl hg59 ?_
                      refine gop (y_bare (y_stridx (m := j) Tryd.underlying9 rfl rfl (by omega) (by omega) (by omega))) rfl rfl rfl ?_
                      refine gop_on rfl rfl rfl rfl hg59 ?_
                      refine gop (y_bare (y_eql rfl rfl)) rfl rfl rfl ?_
                      refine gop (y_pick_t (v := .bool _) rfl hg59 rfl) rfl rfl rfl ?_
                      refine gops_nil ?_
                      refine hN22 _ _ ?_
                      refine gfrom [(0, .string _), (1, .string _), (5, .pointer _), (6, .int _ _), (7, .int _ _), (8, .int _ _), (64, .bool _)] ⟨rfl, rfl, rfl, rfl, rfl, rfl, rfl, trivial⟩ fun σ => ?_
                      refine gcond (b := _) rfl (fun hc64 => ?_) (fun hc64 => ?_)
                      · 
                        replace hc64 := of_decide_eq_true hc64
                        refine greg ?_
                        refine gop (y_move (v := .int _ _) rfl) rfl rfl rfl ?_
                        refine gop (y_move (v := .int _ _) rfl) rfl rfl rfl ?_
                        refine gop (y_add rfl rfl ⟨by omega, by omega⟩) rfl rfl rfl ?_
                        refine gop (y_move (v := .int _ _) rfl) rfl rfl rfl ?_
                        refine gop (y_indexAddr_arr (m := i) Tryd.underlying113 Tryd.sizeOf112 rfl rfl rfl (by omega) (by omega)) rfl rfl rfl ?_
                        refine gop (y_indexAddr_arr (m := j + 1) Tryd.underlying112 Tryd.sizeOf111 rfl rfl rfl (by omega) (by omega)) rfl rfl rfl ?_
                        refine gop (y_indexAddr_arr (m := d) Tryd.underlying111 Tryd.sizeOf4 rfl rfl rfl (by omega) (by omega)) rfl rfl rfl ?_
                        refine gop_store_el 0 (f := boolCells) (size := 1) (k := idx3 (i, j + 1, d)) (o := 0) (v := .bool _) (a' := true) (fun _ => rfl) rfl (off3 i (j + 1) d rfl) rfl Tryd.sizeOf4 rfl rfl rfl rfl (List.getElem?_eq_getElem (show idx3 (i, j + 1, d) < _ by rw [hRa.tab.len]; show i * 248 + (j + 1) * 4 + d < _; omega)) (by omega) rfl rfl ?_
                        refine gops_nil ?_
                        refine gcut3_end (la.set (idx3 (i, j + 1, d)) true) (Rnd3.b1 hRa hok (by omega) (by omega)) trivial ⟨rfl, rfl, rfl, rfl, rfl, rfl, trivial⟩ ⟨_, rfl⟩
                      · 
                        replace hc64 := of_decide_eq_false hc64
                        refine gskip ?_
                        refine gcut3_end (la) (Rnd3.b0 hRa (by omega)) trivial ⟨rfl, rfl, rfl, rfl, rfl, rfl, trivial⟩ ⟨_, rfl⟩
                    · 
                      have hg59d := of_decide_eq_false hg59
                      refine gop_off rfl rfl rfl rfl hg59 rfl rfl ?_
                      refine gop_off rfl rfl rfl rfl hg59 rfl rfl ?_
                      refine gop_off rfl rfl rfl rfl hg59 rfl rfl ?_
                      refine gop (y_pick_f (v := .bool _) rfl hg59 rfl) rfl rfl rfl ?_
                      refine gops_nil ?_
                      refine hN22 _ _ ?_
                      refine gfrom [(0, .string _), (1, .string _), (5, .pointer _), (6, .int _ _), (7, .int _ _), (8, .int _ _), (64, .bool _)] ⟨rfl, rfl, rfl, rfl, rfl, rfl, rfl, trivial⟩ fun σ => ?_
                      refine gcond (b := _) rfl (fun hc64 => ?_) (fun hc64 => ?_)
                      · 
                        cases hc64
                      · 
                        refine gskip ?_
                        refine gcut3_end (la) (Rnd3.b0 hRa (by omega)) trivial ⟨rfl, rfl, rfl, rfl, rfl, rfl, trivial⟩ ⟨_, rfl⟩
                  ·
                    intro lb hcut σ
                    refine hN21 _ _ ?_
                    have hRb := hcut
                    refine gseq fun N23 hN23 => ?_
                    refine gseq fun N24 hN24 => ?_
                    refine greg ?_
                    refine gop (y_move (v := .int _ _) rfl) rfl rfl rfl ?_
                    refine gop (y_move (v := .string _) rfl) rfl rfl rfl ?_
                    refine gop (y_lens Tryd.underlying9 rfl) rfl rfl rfl ?_
                    refine gop (y_eql rfl rfl) rfl rfl rfl ?_
                    refine gop (y_move (v := .bool _) rfl) rfl rfl rfl ?_
                    refine gop_if (want := false) rfl rfl rfl rfl rfl rfl (fun hg76 => ?_) (fun hg76 => ?_)
                    · 
                      have hg76d := of_decide_eq_false hg76
                      refine gop (y_bare (y_move (v := .int _ _) rfl)) rfl rfl rfl ?_
                      refine gop_on rfl rfl rfl rfl hg76 ?_
                      refine gop (y_bare (y_move (v := .string _) rfl)) rfl rfl rfl ?_
                      refine gop_on rfl rfl rfl rfl hg76 ?_
                      refine gop (y_bare (y_lens Tryd.underlying9 rfl)) rfl rfl rfl ?_
                      refine gop_on rfl rfl rfl rfl hg76 ?_
                      refine gop (y_bare (y_eql rfl rfl)) rfl rfl rfl ?_
                      refine gop (y_pick_f (v := .bool _) rfl hg76 rfl) rfl rfl rfl ?_
                      refine gops_nil ?_
                      refine hN24 _ _ ?_
                      refine gT [box b5 _] rfl ?_
                      refine gfrom [(0, .string _), (1, .string _), (5, .pointer _), (6, .int _ _), (7, .int _ _), (8, .int _ _), (81, .bool _)] ⟨rfl, rfl, rfl, rfl, rfl, rfl, rfl, trivial⟩ fun σ => ?_
                      refine gcond (b := _) rfl (fun hc81 => ?_) (fun hc81 => ?_)
                      · 
                        replace hc81 := of_decide_eq_true hc81
                        have hF4 := Rnd3.stop hRb hok (by omega)
                        refine gexit ?_
                        refine hN16 _ _ ?_
                        refine gfrom [(0, .string _), (1, .string _), (5, .pointer _), (6, .int _ _), (7, .int _ _), (8, .int _ _)] ⟨rfl, rfl, rfl, rfl, rfl, rfl, trivial⟩ fun σ => ?_
                        refine greg ?_
                        refine gop (y_move (v := .int _ _) rfl) rfl rfl rfl ?_
                        refine gop (y_add rfl rfl ⟨by omega, by omega⟩) rfl rfl rfl ?_
                        refine gop (y_assign (v := .int _ _) rfl) rfl rfl rfl ?_
                        refine gops_nil ?_
                        refine gnext2 ((d + 1, lb)) (by show 4 - (d + 1) < 4 - d; omega) (⟨by show d + 1 ≤ 4; omega, hF4⟩) ⟨rfl, trivial⟩ ⟨rfl, rfl, rfl, rfl, rfl, trivial⟩ ⟨_, rfl⟩
                      · 
                        replace hc81 := of_decide_eq_false hc81
                        have hi1 : i < p.size := by omega
                        have hj1 : j < q.size := by omega
                        refine gskip ?_
                        refine hN23 _ _ ?_
                        refine gfrom [(0, .string _), (1, .string _), (5, .pointer _), (6, .int _ _), (7, .int _ _), (8, .int _ _)] ⟨rfl, rfl, rfl, rfl, rfl, rfl, trivial⟩ fun σ => ?_
                        refine gseq fun N25 hN25 => ?_
                        refine greg ?_
                        refine gop (y_move (v := .int _ _) rfl) rfl rfl rfl ?_
                        refine gop (y_add rfl rfl ⟨by omega, by omega⟩) rfl rfl rfl ?_
                        refine gop (y_assign (v := .int _ _) rfl) rfl rfl rfl ?_
                        refine gops_nil ?_
                        refine hN25 _ _ ?_
                        refine gfrom [(0, .string _), (1, .string _), (5, .pointer _), (6, .int _ _), (7, .int _ _), (8, .int _ _), (9, .int _ _)] ⟨rfl, rfl, rfl, rfl, rfl, rfl, rfl, trivial⟩ fun σ => ?_
                        refine gseq fun N26 hN26 => ?_
                        refine gfrom [(0, .string _), (1, .string _), (5, .pointer _), (6, .int _ _), (7, .int _ _), (8, .int _ _), (9, .int _ _)] ⟨rfl, rfl, rfl, rfl, rfl, rfl, rfl, trivial⟩ fun σ => ?_
                        refine gcut3 (Lf := [(0, .string _), (1, .string _), (5, .pointer _), (6, .int _ _), (7, .int _ _), (8, .int _ _)]) (G := Unit) (fun g => True) (fun g => [(9, .int .i64 (nxI p (i, j, d) : Int))]) (fun g => []) ⟨rfl, rfl, rfl, rfl, rfl, rfl, trivial⟩ ?_ ?_
                        ·
                          refine gseq fun N27 hN27 => ?_
                          refine greg ?_
                          refine gop (y_move (v := .string _) rfl) rfl rfl rfl ?_
                          refine gop (y_move (v := .int _ _) rfl) rfl rfl rfl ?_
                          refine gop (y_stridx (m := i) Tryd.underlying9 rfl rfl (by omega) (by omega) (by omega)) rfl rfl rfl ?_
                          refine gop (y_eql rfl rfl) rfl rfl rfl ?_
                          refine gops_nil ?_
                          refine hN27 _ _ ?_
                          refine gfrom [(0, .string _), (1, .string _), (5, .pointer _), (6, .int _ _), (7, .int _ _), (8, .int _ _), (9, .int _ _), (87, .bool _)] ⟨rfl, rfl, rfl, rfl, rfl, rfl, rfl, rfl, trivial⟩ fun σ => ?_
                          refine gcond (b := _) rfl (fun hc87 => ?_) (fun hc87 => ?_)
                          · 
                            replace hc87 := of_decide_eq_true hc87
                            refine greg ?_
                            refine gop (y_move (v := .int _ _) rfl) rfl rfl rfl ?_
                            refine gop (y_assign (v := .int _ _) rfl) rfl rfl rfl ?_
                            refine gops_nil ?_
                            refine gcut3_end (()) (trivial) ⟨congrArg (Value.int .i64) (by rw [nxI, if_pos (show byteAt p i = 42 by omega)]), trivial⟩ ⟨rfl, rfl, rfl, rfl, rfl, rfl, trivial⟩ ⟨_, rfl⟩
                          · 
                            replace hc87 := of_decide_eq_false hc87
                            refine gskip ?_
                            refine gcut3_end (()) (trivial) ⟨congrArg (Value.int .i64) (by rw [nxI, if_neg (show ¬ byteAt p i = 42 by omega)]; rfl), trivial⟩ ⟨rfl, rfl, rfl, rfl, rfl, rfl, trivial⟩ ⟨_, rfl⟩
                        ·
                          intro g hcut σ
                          refine hN26 _ _ ?_
                          refine gseq fun N28 hN28 => ?_
                          refine greg ?_
                          refine gop (y_move (v := .int _ _) rfl) rfl rfl rfl ?_
                          refine gop (y_add rfl rfl ⟨by omega, by omega⟩) rfl rfl rfl ?_
                          refine gop (y_assign (v := .int _ _) rfl) rfl rfl rfl ?_
                          refine gops_nil ?_
                          refine hN28 _ _ ?_
                          refine gT [box b5 _] rfl ?_
                          refine gfrom [(0, .string _), (1, .string _), (5, .pointer _), (6, .int _ _), (7, .int _ _), (8, .int _ _), (9, .int _ _), (10, .int _ _)] ⟨rfl, rfl, rfl, rfl, rfl, rfl, rfl, rfl, trivial⟩ fun σ => ?_
                          refine gseq fun N29 hN29 => ?_
                          refine gfrom [(0, .string _), (1, .string _), (5, .pointer _), (6, .int _ _), (7, .int _ _), (8, .int _ _), (9, .int _ _), (10, .int _ _)] ⟨rfl, rfl, rfl, rfl, rfl, rfl, rfl, rfl, trivial⟩ fun σ => ?_
                          refine gcut3 (Lf := [(0, .string _), (1, .string _), (5, .pointer _), (6, .int _ _), (7, .int _ _), (8, .int _ _), (9, .int _ _)]) (G := Unit) (fun g => True) (fun g => [(10, .int .i64 (nxJ q (i, j, d) : Int))]) (fun g => []) ⟨rfl, rfl, rfl, rfl, rfl, rfl, rfl, trivial⟩ ?_ ?_
                          ·
                            refine gseq fun N30 hN30 => ?_
                            refine greg ?_
                            refine gop (y_move (v := .string _) rfl) rfl rfl rfl ?_
                            refine gop (y_move (v := .int _ _) rfl) rfl rfl rfl ?_
                            refine gop (y_stridx (m := j) Tryd.underlying9 rfl rfl (by omega) (by omega) (by omega)) rfl rfl rfl ?_
                            refine gop (y_eql rfl rfl) rfl rfl rfl ?_
                            refine gops_nil ?_
                            refine hN30 _ _ ?_
                            refine gfrom [(0, .string _), (1, .string _), (5, .pointer _), (6, .int _ _), (7, .int _ _), (8, .int _ _), (9, .int _ _), (10, .int _ _), (94, .bool _)] ⟨rfl, rfl, rfl, rfl, rfl, rfl, rfl, rfl, rfl, trivial⟩ fun σ => ?_
                            refine gcond (b := _) rfl (fun hc94 => ?_) (fun hc94 => ?_)
                            · 
                              replace hc94 := of_decide_eq_true hc94
                              refine greg ?_
                              refine gop (y_move (v := .int _ _) rfl) rfl rfl rfl ?_
                              refine gop (y_assign (v := .int _ _) rfl) rfl rfl rfl ?_
                              refine gops_nil ?_
                              refine gcut3_end (()) (trivial) ⟨congrArg (Value.int .i64) (by rw [nxJ, if_pos (show byteAt q j = 42 by omega)]), trivial⟩ ⟨rfl, rfl, rfl, rfl, rfl, rfl, rfl, trivial⟩ ⟨_, rfl⟩
                            · 
                              replace hc94 := of_decide_eq_false hc94
                              refine gskip ?_
                              refine gcut3_end (()) (trivial) ⟨congrArg (Value.int .i64) (by rw [nxJ, if_neg (show ¬ byteAt q j = 42 by omega)]; rfl), trivial⟩ ⟨rfl, rfl, rfl, rfl, rfl, rfl, rfl, trivial⟩ ⟨_, rfl⟩
                          ·
                            intro g hcut σ
                            refine hN29 _ _ ?_
                            have hnx := nx_lt (i := i) (j := j) (d := d) hp hq hi1 hj1 (Nat.le_refl 3)
                            refine gseq fun N31 hN31 => ?_
                            refine gT [box b5 _] rfl ?_
                            refine gfrom [(0, .string _), (1, .string _), (5, .pointer _), (6, .int _ _), (7, .int _ _), (8, .int _ _), (9, .int _ _), (10, .int _ _)] ⟨rfl, rfl, rfl, rfl, rfl, rfl, rfl, rfl, trivial⟩ fun σ => ?_
                            refine gcut3 (Lf := [(0, .string _), (1, .string _), (5, .pointer _), (6, .int _ _), (7, .int _ _), (8, .int _ _), (9, .int _ _), (10, .int _ _)]) (G := List Bool) (fun lc => Rnd3 p q (i, j, d) (nxA p (i, j, d) ++ nxB q (i, j, d) ++ dotC p q (i, j, d)) lc) (fun lc => []) (fun lc => [(0, box b5 (.cells ((lc).flatMap boolCells).toArray 113))]) ⟨rfl, rfl, rfl, rfl, rfl, rfl, rfl, rfl, trivial⟩ ?_ ?_
                            ·
                              refine gseq fun N32 hN32 => ?_
                              refine greg_q (by kernel_rfl) (by kernel_rfl) ?_
                              refine gq (y_move (v := .string _) rfl) rfl rfl rfl ?_
                              refine gq (y_move (v := .int _ _) rfl) rfl rfl rfl ?_
                              refine gq (y_stridx (m := i) Tryd.underlying9 rfl rfl (by omega) (by omega) (by omega)) rfl rfl rfl ?_
                              refine gq (y_move (v := .string _) rfl) rfl rfl rfl ?_
                              refine gq (y_move (v := .int _ _) rfl) rfl rfl rfl ?_
                              refine gq (y_stridx (m := j) Tryd.underlying9 rfl rfl (by omega) (by omega) (by omega)) rfl rfl rfl ?_
                              refine gq_pure (e_call (vs := [.int _ _, .int _ _]) Tryd.func84 rfl (by kernel_rfl) rfl) (fun w hM => dotFits_any w _ _) rfl rfl rfl ?_
                              refine gqs_nil ?_
                              refine hN32 _ _ ?_
                              refine gfrom [(0, .string _), (1, .string _), (5, .pointer _), (6, .int _ _), (7, .int _ _), (8, .int _ _), (9, .int _ _), (10, .int _ _), (102, .bool _)] ⟨rfl, rfl, rfl, rfl, rfl, rfl, rfl, rfl, rfl, trivial⟩ fun σ => ?_
                              refine gcond (b := _) rfl (fun hc102 => ?_) (fun hc102 => ?_)
                              · 
                                refine greg ?_
                                refine gop (y_move (v := .int _ _) rfl) rfl rfl rfl ?_
                                refine gop (y_move (v := .int _ _) rfl) rfl rfl rfl ?_
                                refine gop (y_move (v := .int _ _) rfl) rfl rfl rfl ?_
                                refine gop ((show Yield _ _ _ _ _ (.int .i64 ((d + 1 : Nat) : Int)) from y_add (a := (d : Int)) (b := 1) rfl rfl ⟨by omega, by omega⟩)) rfl rfl rfl ?_
                                refine gop (y_min_nat (a := d + 1) (b := 3) rfl rfl) rfl rfl rfl ?_
                                refine gop (y_indexAddr_arr (m := nxI p (i, j, d)) Tryd.underlying113 Tryd.sizeOf112 rfl rfl rfl (by omega) (by omega)) rfl rfl rfl ?_
                                refine gop (y_indexAddr_arr (m := nxJ q (i, j, d)) Tryd.underlying112 Tryd.sizeOf111 rfl rfl rfl (by omega) (by omega)) rfl rfl rfl ?_
                                refine gop (y_indexAddr_arr (m := min (d + 1) 3) Tryd.underlying111 Tryd.sizeOf4 rfl rfl rfl (by omega) (by omega)) rfl rfl rfl ?_
                                refine gop_store_el 0 (f := boolCells) (size := 1) (k := idx3 (nxI p (i, j, d), nxJ q (i, j, d), min (d + 1) 3)) (o := 0) (v := .bool _) (a' := true) (fun _ => rfl) rfl (off3 _ _ _ rfl) rfl Tryd.sizeOf4 rfl rfl rfl rfl (List.getElem?_eq_getElem (show idx3 _ < _ by rw [hRb.tab.len]; exact (nx_lt hp hq hi1 hj1 (show min (d + 1) 3 ≤ 3 by omega)).2.2)) (by omega) rfl rfl ?_
                                refine gops_nil ?_
                                refine gcut3_end (lb.set (idx3 (nxI p (i, j, d), nxJ q (i, j, d), min (d + 1) 3)) true) (Rnd3.c1 hRb hok hi1 hj1 hc102) trivial ⟨rfl, rfl, rfl, rfl, rfl, rfl, rfl, rfl, trivial⟩ ⟨_, rfl⟩
                              · 
                                refine gskip ?_
                                refine gcut3_end (lb) (Rnd3.c0 hRb hc102) trivial ⟨rfl, rfl, rfl, rfl, rfl, rfl, rfl, rfl, trivial⟩ ⟨_, rfl⟩
                            ·
                              intro lc hcut σ
                              refine hN31 _ _ ?_
                              have hRc := hcut
                              refine gseq fun N33 hN33 => ?_
                              refine greg_q (by kernel_rfl) (by kernel_rfl) ?_
                              refine gq (y_move (v := .string _) rfl) rfl rfl rfl ?_
                              refine gq (y_move (v := .int _ _) rfl) rfl rfl rfl ?_
                              refine gq (y_stridx (m := i) Tryd.underlying9 rfl rfl (by omega) (by omega) (by omega)) rfl rfl rfl ?_
                              refine gq (y_move (v := .string _) rfl) rfl rfl rfl ?_
                              refine gq (y_move (v := .int _ _) rfl) rfl rfl rfl ?_
                              refine gq (y_stridx (m := j) Tryd.underlying9 rfl rfl (by omega) (by omega) (by omega)) rfl rfl rfl ?_
                              refine gq_pure (e_call (vs := [.int _ _, .int _ _]) Tryd.func85 rfl (by kernel_rfl) rfl) (fun w hM => otherFits_any w _ _) rfl rfl rfl ?_
                              refine gqs_nil ?_
                              refine hN33 _ _ ?_
                              refine gT [box b5 _] rfl ?_
                              refine gfrom [(0, .string _), (1, .string _), (5, .pointer _), (6, .int _ _), (7, .int _ _), (8, .int _ _), (9, .int _ _), (10, .int _ _), (117, .bool _)] ⟨rfl, rfl, rfl, rfl, rfl, rfl, rfl, rfl, rfl, trivial⟩ fun σ => ?_
                              refine gcond (b := _) rfl (fun hc117 => ?_) (fun hc117 => ?_)
                              · 
                                have hF4 := Rnd3.e1 hRc hok hi1 hj1 hc117
                                refine greg ?_
                                refine gop (y_move (v := .int _ _) rfl) rfl rfl rfl ?_
                                refine gop (y_move (v := .int _ _) rfl) rfl rfl rfl ?_
                                refine gop (y_indexAddr_arr (m := nxI p (i, j, d)) Tryd.underlying113 Tryd.sizeOf112 rfl rfl rfl (by omega) (by omega)) rfl rfl rfl ?_
                                refine gop (y_indexAddr_arr (m := nxJ q (i, j, d)) Tryd.underlying112 Tryd.sizeOf111 rfl rfl rfl (by omega) (by omega)) rfl rfl rfl ?_
                                refine gop (y_indexAddr_arr (m := 3) Tryd.underlying111 Tryd.sizeOf4 rfl rfl rfl (by omega) (by omega)) rfl rfl rfl ?_
                                refine gop_store_el 0 (f := boolCells) (size := 1) (k := idx3 (nxI p (i, j, d), nxJ q (i, j, d), 3)) (o := 0) (v := .bool _) (a' := true) (fun _ => rfl) rfl (off3 _ _ _ rfl) rfl Tryd.sizeOf4 rfl rfl rfl rfl (List.getElem?_eq_getElem (show idx3 _ < _ by rw [hRc.tab.len]; exact (nx_lt hp hq hi1 hj1 (Nat.le_refl 3)).2.2)) (by omega) rfl rfl ?_
                                refine gops_nil ?_
                                refine hN16 _ _ ?_
                                refine gT [box b5 _] rfl ?_
                                refine gfrom [(0, .string _), (1, .string _), (5, .pointer _), (6, .int _ _), (7, .int _ _), (8, .int _ _)] ⟨rfl, rfl, rfl, rfl, rfl, rfl, trivial⟩ fun σ => ?_
                                refine greg ?_
                                refine gop (y_move (v := .int _ _) rfl) rfl rfl rfl ?_
                                refine gop (y_add rfl rfl ⟨by omega, by omega⟩) rfl rfl rfl ?_
                                refine gop (y_assign (v := .int _ _) rfl) rfl rfl rfl ?_
                                refine gops_nil ?_
                                refine gnext2 ((d + 1, lc.set (idx3 (nxI p (i, j, d), nxJ q (i, j, d), 3)) true)) (by show 4 - (d + 1) < 4 - d; omega) (⟨by show d + 1 ≤ 4; omega, hF4⟩) ⟨rfl, trivial⟩ ⟨rfl, rfl, rfl, rfl, rfl, trivial⟩ ⟨_, rfl⟩
                              · 
                                have hF4 := Rnd3.e0 hRc hok hc117
                                refine gskip ?_
                                refine hN16 _ _ ?_
                                refine gfrom [(0, .string _), (1, .string _), (5, .pointer _), (6, .int _ _), (7, .int _ _), (8, .int _ _)] ⟨rfl, rfl, rfl, rfl, rfl, rfl, trivial⟩ fun σ => ?_
                                refine greg ?_
                                refine gop (y_move (v := .int _ _) rfl) rfl rfl rfl ?_
                                refine gop (y_add rfl rfl ⟨by omega, by omega⟩) rfl rfl rfl ?_
                                refine gop (y_assign (v := .int _ _) rfl) rfl rfl rfl ?_
                                refine gops_nil ?_
                                refine gnext2 ((d + 1, lc)) (by show 4 - (d + 1) < 4 - d; omega) (⟨by show d + 1 ≤ 4; omega, hF4⟩) ⟨rfl, trivial⟩ ⟨rfl, rfl, rfl, rfl, rfl, trivial⟩ ⟨_, rfl⟩
                    · 
                      have hg76d := of_decide_eq_true hg76
                      refine gop_off rfl rfl rfl rfl hg76 rfl rfl ?_
                      refine gop_off rfl rfl rfl rfl hg76 rfl rfl ?_
                      refine gop_off rfl rfl rfl rfl hg76 rfl rfl ?_
                      refine gop (y_pick_t (v := .bool _) rfl hg76 rfl) rfl rfl rfl ?_
                      refine gops_nil ?_
                      refine hN24 _ _ ?_
                      refine gT [box b5 _] rfl ?_
                      refine gfrom [(0, .string _), (1, .string _), (5, .pointer _), (6, .int _ _), (7, .int _ _), (8, .int _ _), (81, .bool _)] ⟨rfl, rfl, rfl, rfl, rfl, rfl, rfl, trivial⟩ fun σ => ?_
                      refine gcond (b := _) rfl (fun hc81 => ?_) (fun hc81 => ?_)
                      · 
                        have hF4 := Rnd3.stop hRb hok (by omega)
                        refine gexit ?_
                        refine hN16 _ _ ?_
                        refine gfrom [(0, .string _), (1, .string _), (5, .pointer _), (6, .int _ _), (7, .int _ _), (8, .int _ _)] ⟨rfl, rfl, rfl, rfl, rfl, rfl, trivial⟩ fun σ => ?_
                        refine greg ?_
                        refine gop (y_move (v := .int _ _) rfl) rfl rfl rfl ?_
                        refine gop (y_add rfl rfl ⟨by omega, by omega⟩) rfl rfl rfl ?_
                        refine gop (y_assign (v := .int _ _) rfl) rfl rfl rfl ?_
                        refine gops_nil ?_
                        refine gnext2 ((d + 1, lb)) (by show 4 - (d + 1) < 4 - d; omega) (⟨by show d + 1 ≤ 4; omega, hF4⟩) ⟨rfl, trivial⟩ ⟨rfl, rfl, rfl, rfl, rfl, trivial⟩ ⟨_, rfl⟩
                      · 
                        cases hc81
            · 
              replace hc27 := of_decide_eq_false hc27
              have hF3 := Fwd3.cell hFd (by omega) hd
              refine gexit ?_
              refine hN12 _ _ ?_
              refine gfrom [(0, .string _), (1, .string _), (5, .pointer _), (6, .int _ _), (7, .int _ _)] ⟨rfl, rfl, rfl, rfl, rfl, trivial⟩ fun σ => ?_
              refine greg ?_
              refine gop (y_move (v := .int _ _) rfl) rfl rfl rfl ?_
              refine gop (y_add rfl rfl ⟨by omega, by omega⟩) rfl rfl rfl ?_
              refine gop (y_assign (v := .int _ _) rfl) rfl rfl rfl ?_
              refine gops_nil ?_
              refine gnext2 ((j + 1, l3)) (by show q.size + 1 - (j + 1) < q.size + 1 - j; omega) (⟨by show j + 1 ≤ _; omega, hF3⟩) ⟨rfl, trivial⟩ ⟨rfl, rfl, rfl, rfl, trivial⟩ ⟨_, rfl⟩
        · 
          replace hc23 := of_decide_eq_false hc23
          have hF2e := Fwd3.row hF2 (by omega)
          refine gexit ?_
          refine hN8 _ _ ?_
          refine gfrom [(0, .string _), (1, .string _), (5, .pointer _), (6, .int _ _)] ⟨rfl, rfl, rfl, rfl, trivial⟩ fun σ => ?_
          refine greg ?_
          refine gop (y_move (v := .int _ _) rfl) rfl rfl rfl ?_
          refine gop (y_add rfl rfl ⟨by omega, by omega⟩) rfl rfl rfl ?_
          refine gop (y_assign (v := .int _ _) rfl) rfl rfl rfl ?_
          refine gops_nil ?_
          refine gnext2 ((i + 1, l2)) (by show p.size + 1 - (i + 1) < p.size + 1 - i; omega) (⟨by show i + 1 ≤ _; omega, hF2e⟩) ⟨rfl, trivial⟩ ⟨rfl, rfl, rfl, trivial⟩ ⟨_, rfl⟩
    · 
      replace hc17 := of_decide_eq_false hc17
      have hlt : p.size * 248 + q.size * 4 + 3 < l.length := by rw [hF.len]; omega
      have hA := Fwd3.all hF (by omega) (List.getElem?_eq_getElem hlt) hq
      refine gexit ?_
      refine hN4 _ _ ?_
      refine gfrom [(0, .string _), (1, .string _), (5, .pointer _)] ⟨rfl, rfl, rfl, trivial⟩ fun σ => ?_
      refine gseq fun N34 hN34 => ?_
      refine greg ?_
      refine gop (y_move (v := .string _) rfl) rfl rfl rfl ?_
      refine gop (y_lens Tryd.underlying9 rfl) rfl rfl rfl ?_
      refine gop (y_move (v := .string _) rfl) rfl rfl rfl ?_
      refine gop (y_lens Tryd.underlying9 rfl) rfl rfl rfl ?_
      refine gop (y_indexAddr_arr (m := p.size) Tryd.underlying113 Tryd.sizeOf112 rfl rfl rfl (by omega) (by omega)) rfl rfl rfl ?_
      refine gop (y_indexAddr_arr (m := q.size) Tryd.underlying112 Tryd.sizeOf111 rfl rfl rfl (by omega) (by omega)) rfl rfl rfl ?_
      refine gop (y_indexAddr_arr (m := 3) Tryd.underlying111 Tryd.sizeOf4 rfl rfl rfl (by omega) (by omega)) rfl rfl rfl ?_
      refine gop (y_load Tryd.isAgg4 rfl (cell_flat1 0 (k := p.size * 248 + q.size * 4 + 3) rfl (List.getElem?_eq_getElem hlt) (by omega))) rfl rfl rfl ?_
      refine gop (y_assign (v := .bool _) rfl) rfl rfl rfl ?_
      refine gops_nil ?_
      refine hN34 _ _ ?_
      refine gfrom [(4, .bool _)] ⟨rfl, trivial⟩ fun σ => ?_
      refine gret fun w1 hM => ?_
      refine ⟨_, res1 rfl (rt (v := .bool _) rfl), ?_⟩
      exact ⟨by rw [hA], hM.low⟩
end Go.Proofs.YtijpaljdclhehaaDoor
