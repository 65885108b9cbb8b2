/- Own frame, plain models and walks, part 4 (texts of this claim put together). -/
import Derived.Test.YtbkameioedmlkaaGreatDoorP36c
import Derived.Laws.BitsLemmas
import Derived.Laws.Externs
import Derived.Laws.IdiomStrings
namespace Go.Proofs.YtbkameioedmlkaaGreatDoor
open Go.RowKit Go.Cf
set_option maxRecDepth 10000
set_option maxHeartbeats 4000000 in
theorem partMatches_any (w : World) (p s : ByteArray) (hp : p.size ≤ 4000000) (hs : s.size ≤ 4000000) : Calls Tryz.prog 87 #[.string p, .string s] w fun e w' => e = .returned (.bool (nameM p s)) ∧ Below w.heap.size w w' := by
  refine gcalls Tryz.func87 rfl Tryz.ntmps87 (Nat.le_of_ble_eq_true rfl) ?_
  refine gfrom [(0, .string _), (1, .string _)] ⟨rfl, rfl, trivial⟩ fun σ => ?_
  refine gseq fun N1 hN1 => ?_
  refine greg ?_
  refine gop (y_assign (v := .bool _) rfl) rfl rfl rfl ?_
  refine gops_nil ?_
  refine hN1 _ _ ?_
  refine gfrom [(0, .string _), (1, .string _)] ⟨rfl, rfl, trivial⟩ fun σ => ?_
  refine gseq fun N2 hN2 => ?_
  refine greg ?_
  refine gop (y_move (v := .string _) rfl) rfl rfl rfl ?_
  refine gop (y_lens Tryz.underlying9 rfl) rfl rfl rfl ?_
  refine gop (y_add rfl rfl ⟨by omega, by omega⟩) rfl rfl rfl ?_
  refine gop_make (f := boolCells) (bytes := 1) (z := .bool false) (false) Tryz.underlying46 (by kernel_rfl) rfl rfl rfl (k := s.size + 1) rfl rfl (by omega) (by simp [maxLen]; omega) rfl (fun b12 hb12 => ?_)
  refine gop (y_assign (v := .slice (some _) _ _) rfl) rfl rfl rfl ?_
  refine gops_nil ?_
  refine hN2 _ _ ?_
  refine gT [rowl _ _ _ _ _ _] rfl ?_
  refine gfrom [(0, .string _), (1, .string _), (5, .slice (some _) _ _)] ⟨rfl, rfl, rfl, trivial⟩ fun σ => ?_
  refine gseq fun N3 hN3 => ?_
  refine greg ?_
  refine gop (y_move (v := .slice (some _) _ _) rfl) rfl rfl rfl ?_
  refine gop (y_indexAddr Tryz.underlying46 Tryz.sizeOf4 rfl rfl rfl (by omega) (by omega)) rfl rfl rfl ?_
  refine gop_store_row 0 (f := boolCells) (l := List.replicate (s.size + 1) false) (k := 0) (o := 0) (v := .bool _) (a := false) (a' := true) (fun _ => rfl) rfl rfl rfl Tryz.sizeOf4 rfl rfl rfl rfl (by simp) (by simp) (Nat.le_of_ble_eq_true rfl) rfl rfl ?_
  refine gops_nil ?_
  refine hN3 _ _ ?_
  refine gT [rowl _ _ _ _ _ _] rfl ?_
  refine gfrom [(0, .string _), (1, .string _), (5, .slice (some _) _ _)] ⟨rfl, rfl, rfl, trivial⟩ fun σ => ?_
  refine gseq fun N4 hN4 => ?_
  refine gseq fun N5 hN5 => ?_
  refine greg ?_
  refine gop (y_assign (v := .int _ _) rfl) rfl rfl rfl ?_
  refine gops_nil ?_
  refine hN5 _ _ ?_
  refine gfrom [(0, .string _), (1, .string _), (5, .slice (some _) _ _), (6, .int _ _)] ⟨rfl, rfl, rfl, rfl, trivial⟩ fun σ => ?_
  refine gblock ?_
  rw [dp_first s.size (starP p) (charP p s)]
  refine gfrom2 [(5, .slice (some _) _ _), (6, .int _ _)] [(0, .string _), (1, .string _)] ⟨rfl, rfl, trivial⟩ ⟨rfl, rfl, trivial⟩ fun σ => ?_
  refine gloop2 (G := Nat × Nat) (fun (i, g) => i ≤ p.size) (fun (i, g) => p.size - i) (fun (i, g) => [(5, .slice (some ⟨g, 0, none⟩) (s.size + 1) (s.size + 1)), (6, .int .i64 (i : Int))]) (fun (i, g) => [(0, rowl boolCells w.heap.size 4 1 (.slice (some ⟨g, 0, none⟩) (s.size + 1) (s.size + 1)) (dpRow s.size (dp (starP p) (charP p s) i)))]) ((0, b12)) ?h0 ⟨rfl, rfl, trivial⟩ ⟨rfl, rfl, trivial⟩ rfl ?round
  case h0 => exact Nat.zero_le _
  case round =>
    rintro ⟨i, g⟩ hφ σ
    have hi : i ≤ p.size := hφ
    refine gT [rowl _ _ _ _ _ _] rfl ?_
    refine gseq fun N6 hN6 => ?_
    refine gseq fun N7 hN7 => ?_
    refine greg ?_
    refine gop (y_move (v := .int _ _) rfl) rfl rfl rfl ?_
    refine gop (y_move (v := .string _) rfl) rfl rfl rfl ?_
    refine gop (y_lens Tryz.underlying9 rfl) rfl rfl rfl ?_
    refine gop (y_lss rfl rfl) rfl rfl rfl ?_
    refine gops_nil ?_
    refine hN7 _ _ ?_
    refine gfrom [(0, .string _), (1, .string _), (5, .slice (some ⟨g, 0, none⟩) _ _), (6, .int _ _), (18, .bool _)] ⟨rfl, rfl, rfl, rfl, rfl, trivial⟩ fun σ => ?_
    refine gcond (b := _) rfl (fun hc18 => ?_) (fun hc18 => ?_)
    · 
      replace hc18 := of_decide_eq_true hc18
      refine gskip ?_
      refine hN6 _ _ ?_
      refine gfrom [(0, .string _), (1, .string _), (5, .slice (some ⟨g, 0, none⟩) _ _), (6, .int _ _)] ⟨rfl, rfl, rfl, rfl, trivial⟩ fun σ => ?_
      refine gseq fun N8 hN8 => ?_
      refine gblock ?_
      refine gseq fun N9 hN9 => ?_
      refine greg ?_
      refine gop (y_move (v := .string _) rfl) rfl rfl rfl ?_
      refine gop (y_lens Tryz.underlying9 rfl) rfl rfl rfl ?_
      refine gop (y_add rfl rfl ⟨by omega, by omega⟩) rfl rfl rfl ?_
      refine gop_make (f := boolCells) (bytes := 1) (z := .bool false) (false) Tryz.underlying46 (by kernel_rfl) rfl rfl rfl (k := s.size + 1) rfl rfl (by omega) (by simp [maxLen]; omega) rfl (fun b24 hb24 => ?_)
      refine gop (y_assign (v := .slice (some _) _ _) rfl) rfl rfl rfl ?_
      refine gops_nil ?_
      refine hN9 _ _ ?_
      refine gT [rowl _ _ _ _ _ _, rowl _ _ _ _ _ _] rfl ?_
      refine gfrom [(0, .string _), (1, .string _), (5, .slice (some ⟨g, 0, none⟩) _ _), (6, .int _ _), (7, .slice (some _) _ _)] ⟨rfl, rfl, rfl, rfl, rfl, trivial⟩ fun σ => ?_
      refine gseq fun N10 hN10 => ?_
      refine gseq fun N11 hN11 => ?_
      refine greg ?_
      refine gop (y_assign (v := .int _ _) rfl) rfl rfl rfl ?_
      refine gops_nil ?_
      refine hN11 _ _ ?_
      refine gfrom [(0, .string _), (1, .string _), (5, .slice (some ⟨g, 0, none⟩) _ _), (6, .int _ _), (7, .slice (some _) _ _), (8, .int _ _)] ⟨rfl, rfl, rfl, rfl, rfl, rfl, trivial⟩ fun σ => ?_
      refine gblock ?_
      rw [← dpPart_zero s.size (dp (starP p) (charP p s) (i + 1))]
      refine gfrom2 [(8, .int _ _)] [(0, .string _), (1, .string _), (5, .slice (some ⟨g, 0, none⟩) _ _), (6, .int _ _), (7, .slice (some _) _ _)] ⟨rfl, trivial⟩ ⟨rfl, rfl, rfl, rfl, rfl, trivial⟩ fun σ => ?_
      refine gloop2 (G := Nat) (fun k => k ≤ s.size + 1) (fun k => s.size + 1 - k) (fun k => [(8, .int .i64 (k : Int))]) (fun k => [(1, rowl boolCells w.heap.size 4 1 (.slice (some ⟨b24, 0, none⟩) (s.size + 1) (s.size + 1)) (dpPart s.size k (dp (starP p) (charP p s) (i + 1))))]) (0) ?h0 ⟨rfl, trivial⟩ ⟨rfl, rfl, rfl, rfl, rfl, trivial⟩ rfl ?round
      case h0 => exact Nat.zero_le _
      case round =>
        intro k hφ σ
        have hk : k ≤ s.size + 1 := hφ
        refine gT [rowl _ _ _ _ _ _, rowl _ _ _ _ _ _] rfl ?_
        refine gseq fun N12 hN12 => ?_
        refine gseq fun N13 hN13 => ?_
        refine greg ?_
        refine gop (y_move (v := .int _ _) rfl) rfl rfl rfl ?_
        refine gop (y_move (v := .string _) rfl) rfl rfl rfl ?_
        refine gop (y_lens Tryz.underlying9 rfl) rfl rfl rfl ?_
        refine gop (y_leq rfl rfl) rfl rfl rfl ?_
        refine gops_nil ?_
        refine hN13 _ _ ?_
        refine gfrom [(0, .string _), (1, .string _), (5, .slice (some ⟨g, 0, none⟩) _ _), (6, .int _ _), (7, .slice (some _) _ _), (8, .int _ _), (28, .bool _)] ⟨rfl, rfl, rfl, rfl, rfl, rfl, rfl, trivial⟩ fun σ => ?_
        refine gcond (b := _) rfl (fun hc28 => ?_) (fun hc28 => ?_)
        · 
          replace hc28 := of_decide_eq_true hc28
          refine gskip ?_
          refine hN12 _ _ ?_
          refine gfrom [(0, .string _), (1, .string _), (5, .slice (some ⟨g, 0, none⟩) _ _), (6, .int _ _), (7, .slice (some _) _ _), (8, .int _ _)] ⟨rfl, rfl, rfl, rfl, rfl, rfl, trivial⟩ fun σ => ?_
          refine gseq fun N14 hN14 => ?_
          refine gblock ?_
          refine gseq fun N15 hN15 => ?_
          refine greg ?_
          refine gop (y_move (v := .string _) rfl) rfl rfl rfl ?_
          refine gop (y_move (v := .int _ _) rfl) rfl rfl rfl ?_
          refine gop (y_stridx (m := i) Tryz.underlying9 rfl rfl (by omega) (by omega) (by omega)) rfl rfl rfl ?_
          refine gop (y_eql rfl rfl) rfl rfl rfl ?_
          refine gops_nil ?_
          refine hN15 _ _ ?_
          refine gfrom [(0, .string _), (1, .string _), (5, .slice (some ⟨g, 0, none⟩) _ _), (6, .int _ _), (7, .slice (some _) _ _), (8, .int _ _), (34, .bool _)] ⟨rfl, rfl, rfl, rfl, rfl, rfl, rfl, trivial⟩ fun σ => ?_
          refine gcond (b := _) rfl (fun hc34 => ?_) (fun hc34 => ?_)
          · 
            replace hc34 := of_decide_eq_true hc34
            have hst : starP p i = true := by simp [starP]; omega
            refine greg ?_
            refine gop (y_move (v := .slice (some _) _ _) rfl) rfl rfl rfl ?_
            refine gop (y_move (v := .int _ _) rfl) rfl rfl rfl ?_
            refine gop (y_move (v := .slice (some ⟨g, 0, none⟩) _ _) rfl) rfl rfl rfl ?_
            refine gop (y_move (v := .int _ _) rfl) rfl rfl rfl ?_
            refine gop (y_indexAddr (m := k) Tryz.underlying46 Tryz.sizeOf4 rfl rfl (by omega) (by omega) (by omega)) rfl rfl rfl ?_
            refine gop (y_load Tryz.isAgg4 rfl (cells_rowl 0 (f := boolCells) (l := dpRow s.size (dp (starP p) (charP p s) i)) rfl (dpRow_len _ _).symm (fun _ => rfl) (dpRow_get (by omega)) 0 _ rfl)) rfl rfl rfl ?_
            refine gop (y_move (v := .bool _) rfl) rfl rfl rfl ?_
            refine gop_if (want := false) rfl rfl rfl rfl rfl rfl (fun hg41 => ?_) (fun hg41 => ?_)
            · 
              have hg41d := hg41
              refine gop (y_bare (y_move (v := .int _ _) rfl)) rfl rfl rfl ?_
              refine gop_on rfl rfl rfl rfl hg41 ?_
              refine gop (y_bare (y_gtr rfl rfl)) rfl rfl rfl ?_
              refine gop_on rfl rfl rfl rfl hg41 ?_
              refine gop (y_bare (y_move (v := .bool _) rfl)) rfl rfl rfl ?_
              refine gop_if (want := true) rfl rfl rfl rfl rfl rfl (fun hg44 => ?_) (fun hg44 => ?_)
              · 
                have hg44d := of_decide_eq_true hg44
                refine gop (y_bare (y_move (v := .slice (some _) _ _) rfl)) rfl rfl rfl ?_
                refine gop_on rfl rfl rfl rfl hg44 ?_
                refine gop (y_bare (y_move (v := .int _ _) rfl)) rfl rfl rfl ?_
                refine gop_on rfl rfl rfl rfl hg44 ?_
                refine gop (y_bare (y_sub rfl rfl ⟨by omega, by omega⟩)) rfl rfl rfl ?_
                refine gop_on rfl rfl rfl rfl hg44 ?_
                refine gop (y_bare (y_indexAddr (m := k - 1) Tryz.underlying46 Tryz.sizeOf4 rfl rfl (by omega) (by omega) (by omega))) rfl rfl rfl ?_
                refine gop_on rfl rfl rfl rfl hg44 ?_
                refine gop (y_bare (y_load Tryz.isAgg4 rfl (cells_rowl 1 (f := boolCells) (l := dpPart s.size k (dp (starP p) (charP p s) (i + 1))) rfl (dpPart_len _ _ _).symm (fun _ => rfl) (dpPart_get (by omega) (by omega)) 0 _ rfl))) rfl rfl rfl ?_
                refine gop_on rfl rfl rfl rfl hg41 ?_
                refine gop (y_bare (y_pick_t (v := .bool _) rfl hg44 rfl)) rfl rfl rfl ?_
                refine gop (y_pick_f (v := .bool _) rfl hg41 rfl) rfl rfl rfl ?_
                refine gop (y_indexAddr (m := k) Tryz.underlying46 Tryz.sizeOf4 rfl rfl (by omega) (by omega) (by omega)) rfl rfl rfl ?_
                refine gop_store_row 1 (f := boolCells) (l := dpPart s.size k (dp (starP p) (charP p s) (i + 1))) (k := k) (o := 0) (v := .bool _) (a := false) (a' := _) (fun _ => rfl) rfl rfl rfl Tryz.sizeOf4 rfl rfl rfl rfl (dpPart_len _ _ _).symm (dpPart_at (by omega)) (Nat.le_of_ble_eq_true rfl) rfl rfl ?_
                refine gops_nil ?_
                refine hN14 _ _ ?_
                refine gT [rowl _ _ _ _ _ _, rowl _ _ _ _ _ _] rfl ?_
                refine gfrom [(0, .string _), (1, .string _), (5, .slice (some ⟨g, 0, none⟩) _ _), (6, .int _ _), (7, .slice (some _) _ _), (8, .int _ _)] ⟨rfl, rfl, rfl, rfl, rfl, rfl, trivial⟩ fun σ => ?_
                refine greg ?_
                refine gop (y_move (v := .int _ _) rfl) rfl rfl rfl ?_
                refine gop (y_add rfl rfl ⟨by omega, by omega⟩) rfl rfl rfl ?_
                refine gop (y_assign (v := .int _ _) rfl) rfl rfl rfl ?_
                refine gops_nil ?_
                rw [dpPart_put (f := (dp (starP p) (charP p s) (i + 1))) (by omega) (dp_more hst hg41d (by omega))]
                refine gnext2 (k + 1) (by omega) (show k + 1 ≤ _ by omega) ⟨rfl, trivial⟩ ⟨rfl, rfl, rfl, rfl, rfl, trivial⟩ ⟨_, rfl⟩
              · 
                have hg44d := of_decide_eq_false hg44
                refine gop_off rfl rfl rfl rfl hg44 rfl rfl ?_
                refine gop_off rfl rfl rfl rfl hg44 rfl rfl ?_
                refine gop_off rfl rfl rfl rfl hg44 rfl rfl ?_
                refine gop_off rfl rfl rfl rfl hg44 rfl rfl ?_
                refine gop_on rfl rfl rfl rfl hg41 ?_
                refine gop (y_bare (y_pick_f (v := .bool _) rfl hg44 rfl)) rfl rfl rfl ?_
                refine gop (y_pick_f (v := .bool _) rfl hg41 rfl) rfl rfl rfl ?_
                refine gop (y_indexAddr (m := k) Tryz.underlying46 Tryz.sizeOf4 rfl rfl (by omega) (by omega) (by omega)) rfl rfl rfl ?_
                refine gop_store_row 1 (f := boolCells) (l := dpPart s.size k (dp (starP p) (charP p s) (i + 1))) (k := k) (o := 0) (v := .bool _) (a := false) (a' := _) (fun _ => rfl) rfl rfl rfl Tryz.sizeOf4 rfl rfl rfl rfl (dpPart_len _ _ _).symm (dpPart_at (by omega)) (Nat.le_of_ble_eq_true rfl) rfl rfl ?_
                refine gops_nil ?_
                refine hN14 _ _ ?_
                refine gT [rowl _ _ _ _ _ _, rowl _ _ _ _ _ _] rfl ?_
                refine gfrom [(0, .string _), (1, .string _), (5, .slice (some ⟨g, 0, none⟩) _ _), (6, .int _ _), (7, .slice (some _) _ _), (8, .int _ _)] ⟨rfl, rfl, rfl, rfl, rfl, rfl, trivial⟩ fun σ => ?_
                refine greg ?_
                refine gop (y_move (v := .int _ _) rfl) rfl rfl rfl ?_
                refine gop (y_add rfl rfl ⟨by omega, by omega⟩) rfl rfl rfl ?_
                refine gop (y_assign (v := .int _ _) rfl) rfl rfl rfl ?_
                refine gops_nil ?_
                rw [dpPart_put (f := (dp (starP p) (charP p s) (i + 1))) (by omega) (dp_no hst hg41d (by omega))]
                refine gnext2 (k + 1) (by omega) (show k + 1 ≤ _ by omega) ⟨rfl, trivial⟩ ⟨rfl, rfl, rfl, rfl, rfl, trivial⟩ ⟨_, rfl⟩
            · 
              have hg41d := hg41
              refine gop_off rfl rfl rfl rfl hg41 rfl rfl ?_
              refine gop_off rfl rfl rfl rfl hg41 rfl rfl ?_
              refine gop_offu rfl rfl rfl rfl rfl rfl ?_
              refine gop_offu rfl rfl rfl rfl rfl rfl ?_
              refine gop_offu rfl rfl rfl rfl rfl rfl ?_
              refine gop_offu rfl rfl rfl rfl rfl rfl ?_
              refine gop_offu rfl rfl rfl rfl rfl rfl ?_
              refine gop_off rfl rfl rfl rfl hg41 rfl rfl ?_
              refine gop (y_pick_t (v := .bool _) rfl hg41 rfl) rfl rfl rfl ?_
              refine gop (y_indexAddr (m := k) Tryz.underlying46 Tryz.sizeOf4 rfl rfl (by omega) (by omega) (by omega)) rfl rfl rfl ?_
              refine gop_store_row 1 (f := boolCells) (l := dpPart s.size k (dp (starP p) (charP p s) (i + 1))) (k := k) (o := 0) (v := .bool _) (a := false) (a' := _) (fun _ => rfl) rfl rfl rfl Tryz.sizeOf4 rfl rfl rfl rfl (dpPart_len _ _ _).symm (dpPart_at (by omega)) (Nat.le_of_ble_eq_true rfl) rfl rfl ?_
              refine gops_nil ?_
              refine hN14 _ _ ?_
              refine gT [rowl _ _ _ _ _ _, rowl _ _ _ _ _ _] rfl ?_
              refine gfrom [(0, .string _), (1, .string _), (5, .slice (some ⟨g, 0, none⟩) _ _), (6, .int _ _), (7, .slice (some _) _ _), (8, .int _ _)] ⟨rfl, rfl, rfl, rfl, rfl, rfl, trivial⟩ fun σ => ?_
              refine greg ?_
              refine gop (y_move (v := .int _ _) rfl) rfl rfl rfl ?_
              refine gop (y_add rfl rfl ⟨by omega, by omega⟩) rfl rfl rfl ?_
              refine gop (y_assign (v := .int _ _) rfl) rfl rfl rfl ?_
              refine gops_nil ?_
              rw [dpPart_put (f := (dp (starP p) (charP p s) (i + 1))) (by omega) (dp_yes hst hg41d)]
              refine gnext2 (k + 1) (by omega) (show k + 1 ≤ _ by omega) ⟨rfl, trivial⟩ ⟨rfl, rfl, rfl, rfl, rfl, trivial⟩ ⟨_, rfl⟩
          · 
            replace hc34 := of_decide_eq_false hc34
            have hst : starP p i = false := by simp [starP]; omega
            refine greg_e0 [28] (by kernel_rfl) ?_
            refine ge_take 0 (TK := [rowl _ _ _ _ _ _, rowl _ _ _ _ _ _]) rfl (by kernel_rfl) (by kernel_rfl) (by kernel_rfl) #[false, true, true, true, true, true, true, true, true, true, true, true, true, true, true, true, true, true, true, true, true, true, true, true, true, true, true, false, false] (by kernel_rfl) rfl (y_move (v := .slice (some _) _ _) rfl) rfl rfl rfl (weak_refl) (listed' := #[true, false, false, false, false, false, false, false, false, false, false, false, false, false, false, false, false, false, false, false, false, false, false, false, false, false, false, false, false]) rfl ?_
            refine ge_take 1 (TK := [rowl _ _ _ _ _ _, rowl _ _ _ _ _ _]) rfl (by kernel_rfl) (by kernel_rfl) (by kernel_rfl) #[true, false, true, true, true, true, true, true, true, true, true, true, true, true, true, true, true, true, true, true, true, true, true, true, true, true, true, false, false] (by kernel_rfl) rfl (y_move (v := .int _ _) rfl) rfl rfl rfl (weak_refl) (listed' := #[true, true, false, false, false, false, false, false, false, false, false, false, false, false, false, false, false, false, false, false, false, false, false, false, false, false, false, false, false]) rfl ?_
            refine ge_take 2 (TK := [rowl _ _ _ _ _ _, rowl _ _ _ _ _ _]) rfl (by kernel_rfl) (by kernel_rfl) (by kernel_rfl) #[true, true, false, false, false, false, false, false, false, false, false, false, false, false, false, false, false, false, false, false, false, false, false, false, false, false, false, false, false] (by kernel_rfl) rfl (y_move (v := .int _ _) rfl) rfl rfl rfl (weak_refl) (listed' := #[true, true, true, false, false, false, false, false, false, false, false, false, false, false, false, false, false, false, false, false, false, false, false, false, false, false, false, false, false]) rfl ?_
            refine ge_take 3 (TK := [rowl _ _ _ _ _ _, rowl _ _ _ _ _ _]) rfl (by kernel_rfl) (by kernel_rfl) (by kernel_rfl) #[true, true, true, false, false, false, false, false, false, false, false, false, false, false, false, false, false, false, false, false, false, false, false, false, false, false, false, false, false] (by kernel_rfl) rfl (y_gtr rfl rfl) rfl rfl rfl (weak_refl) (listed' := #[true, true, true, true, false, false, false, false, false, false, false, false, false, false, false, false, false, false, false, false, false, false, false, false, false, false, false, false, false]) rfl ?_
            refine ge_take 4 (TK := [rowl _ _ _ _ _ _, rowl _ _ _ _ _ _]) rfl (by kernel_rfl) (by kernel_rfl) (by kernel_rfl) #[true, true, true, true, false, false, false, false, false, false, false, false, false, false, false, false, false, false, false, false, false, false, false, false, false, false, false, false, false] (by kernel_rfl) rfl (y_move (v := .bool _) rfl) rfl rfl rfl (weak_refl) (listed' := #[true, true, true, true, true, false, false, false, false, false, false, false, false, false, false, false, false, false, false, false, false, false, false, false, false, false, false, false, false]) rfl ?_
            refine ge_dec 57 true rfl (fun hg57 => ?_) (fun hg57 => ?_)
            · 
              have hg57d := of_decide_eq_true hg57
              refine ge_take_on 5 (TK := [rowl _ _ _ _ _ _, rowl _ _ _ _ _ _]) rfl (by kernel_rfl) (by kernel_rfl) (by kernel_rfl) #[true, true, true, true, true, false, true, true, false, false, false, false, false, false, false, false, false, false, false, false, false, false, false, false, false, false, false, false, false] (by kernel_rfl) rfl rfl rfl rfl rfl hg57 (y_bare (y_move (v := .slice (some ⟨g, 0, none⟩) _ _) rfl)) rfl rfl (weak_refl) (listed' := #[true, true, true, true, true, true, false, false, false, false, false, false, false, false, false, false, false, false, false, false, false, false, false, false, false, false, false, false, false]) rfl ?_
              refine ge_take_on 6 (TK := [rowl _ _ _ _ _ _, rowl _ _ _ _ _ _]) rfl (by kernel_rfl) (by kernel_rfl) (by kernel_rfl) #[true, true, true, true, true, true, false, false, false, false, false, false, false, false, false, false, false, false, false, false, false, false, false, false, false, false, false, false, false] (by kernel_rfl) rfl rfl rfl rfl rfl hg57 (y_bare (y_move (v := .int _ _) rfl)) rfl rfl (weak_refl) (listed' := #[true, true, true, true, true, true, true, false, false, false, false, false, false, false, false, false, false, false, false, false, false, false, false, false, false, false, false, false, false]) rfl ?_
              refine ge_take_on 7 (TK := [rowl _ _ _ _ _ _, rowl _ _ _ _ _ _]) rfl (by kernel_rfl) (by kernel_rfl) (by kernel_rfl) #[true, true, true, true, true, true, true, false, false, false, false, false, false, false, false, false, false, false, false, false, false, false, false, false, false, false, false, false, false] (by kernel_rfl) rfl rfl rfl rfl rfl hg57 (y_bare (y_sub rfl rfl ⟨by omega, by omega⟩)) rfl rfl (weak_refl) (listed' := #[true, true, true, true, true, true, true, true, false, false, false, false, false, false, false, false, false, false, false, false, false, false, false, false, false, false, false, false, false]) rfl ?_
              refine ge_take_on 8 (TK := [rowl _ _ _ _ _ _, rowl _ _ _ _ _ _]) rfl (by kernel_rfl) (by kernel_rfl) (by kernel_rfl) #[true, true, true, true, true, true, true, true, false, false, false, false, false, false, false, false, false, false, false, false, false, false, false, false, false, false, false, false, false] (by kernel_rfl) rfl rfl rfl rfl rfl hg57 (y_bare (y_indexAddr (m := k - 1) Tryz.underlying46 Tryz.sizeOf4 rfl rfl (by omega) (by omega) (by omega))) rfl rfl (weak_refl) (listed' := #[true, true, true, true, true, true, true, true, true, false, false, false, false, false, false, false, false, false, false, false, false, false, false, false, false, false, false, false, false]) rfl ?_
              refine ge_take_on 9 (TK := [rowl _ _ _ _ _ _, rowl _ _ _ _ _ _]) rfl (by kernel_rfl) (by kernel_rfl) (by kernel_rfl) #[true, true, true, true, true, true, true, true, true, false, false, false, false, false, false, false, false, false, false, false, false, false, false, false, false, false, false, false, false] (by kernel_rfl) rfl rfl rfl rfl rfl hg57 (y_bare (y_load Tryz.isAgg4 rfl (cells_rowl 0 (f := boolCells) (l := dpRow s.size (dp (starP p) (charP p s) i)) rfl (dpRow_len _ _).symm (fun _ => rfl) (dpRow_get (by omega)) 0 _ rfl))) rfl rfl (weak_refl) (listed' := #[true, true, true, true, true, true, true, true, true, true, false, false, false, false, false, false, false, false, false, false, false, false, false, false, false, false, false, false, false]) rfl ?_
              refine ge_take 10 (TK := [rowl _ _ _ _ _ _, rowl _ _ _ _ _ _]) rfl (by kernel_rfl) (by kernel_rfl) (by kernel_rfl) #[true, true, true, true, true, true, true, true, true, true, false, false, false, false, false, false, false, false, false, false, false, false, false, false, false, false, false, false, false] (by kernel_rfl) rfl (y_pick_t (v := .bool _) rfl hg57 rfl) rfl rfl rfl (weak_refl) (listed' := #[true, true, true, true, true, true, true, true, true, true, true, false, false, false, false, false, false, false, false, false, false, false, false, false, false, false, false, false, false]) rfl ?_
              refine ge_take 11 (TK := [rowl _ _ _ _ _ _, rowl _ _ _ _ _ _]) rfl (by kernel_rfl) (by kernel_rfl) (by kernel_rfl) #[true, true, true, true, true, true, true, true, true, true, true, false, false, false, false, false, false, false, false, false, false, false, false, false, false, false, false, false, false] (by kernel_rfl) rfl (y_move (v := .bool _) rfl) rfl rfl rfl (weak_refl) (listed' := #[true, true, true, true, true, true, true, true, true, true, true, true, false, false, false, false, false, false, false, false, false, false, false, false, false, false, false, false, false]) rfl ?_
              refine ge_dec 64 true rfl (fun hg64 => ?_) (fun hg64 => ?_)
              · 
                have hg64d := hg64
                refine ge_take_on 12 (TK := [rowl _ _ _ _ _ _, rowl _ _ _ _ _ _]) rfl (by kernel_rfl) (by kernel_rfl) (by kernel_rfl) #[true, true, true, true, true, true, true, true, true, true, true, true, false, true, false, false, false, false, false, false, false, false, false, false, false, false, false, false, false] (by kernel_rfl) rfl rfl rfl rfl rfl hg64 (y_bare (y_move (v := .string _) rfl)) rfl rfl (weak_refl) (listed' := #[true, true, true, true, true, true, true, true, true, true, true, true, true, false, false, false, false, false, false, false, false, false, false, false, false, false, false, false, false]) rfl ?_
                refine ge_take_on 13 (TK := [rowl _ _ _ _ _ _, rowl _ _ _ _ _ _]) rfl (by kernel_rfl) (by kernel_rfl) (by kernel_rfl) #[true, true, true, true, true, true, true, true, true, true, true, true, true, false, false, false, false, false, false, false, false, false, false, false, false, false, false, false, false] (by kernel_rfl) rfl rfl rfl rfl rfl hg64 (y_bare (y_move (v := .int _ _) rfl)) rfl rfl (weak_refl) (listed' := #[true, true, true, true, true, true, true, true, true, true, true, true, true, true, false, false, false, false, false, false, false, false, false, false, false, false, false, false, false]) rfl ?_
                refine ge_take_on 14 (TK := [rowl _ _ _ _ _ _, rowl _ _ _ _ _ _]) rfl (by kernel_rfl) (by kernel_rfl) (by kernel_rfl) #[true, true, true, true, true, true, true, true, true, true, true, true, true, true, false, false, false, false, false, false, false, false, false, false, false, false, false, false, false] (by kernel_rfl) rfl rfl rfl rfl rfl hg64 (y_bare (y_stridx (m := i) Tryz.underlying9 rfl rfl (by omega) (by omega) (by omega))) rfl rfl (weak_refl) (listed' := #[true, true, true, true, true, true, true, true, true, true, true, true, true, true, true, false, false, false, false, false, false, false, false, false, false, false, false, false, false]) rfl ?_
                refine ge_take_on 15 (TK := [rowl _ _ _ _ _ _, rowl _ _ _ _ _ _]) rfl (by kernel_rfl) (by kernel_rfl) (by kernel_rfl) #[true, true, true, true, true, true, true, true, true, true, true, true, true, true, true, false, false, false, false, false, false, false, false, false, false, false, false, false, false] (by kernel_rfl) rfl rfl rfl rfl rfl hg64 (y_bare (y_eql rfl rfl)) rfl rfl (weak_refl) (listed' := #[true, true, true, true, true, true, true, true, true, true, true, true, true, true, true, true, false, false, false, false, false, false, false, false, false, false, false, false, false]) rfl ?_
                refine ge_take_on 16 (TK := [rowl _ _ _ _ _ _, rowl _ _ _ _ _ _]) rfl (by kernel_rfl) (by kernel_rfl) (by kernel_rfl) #[true, true, true, true, true, true, true, true, true, true, true, true, true, true, true, true, false, false, false, false, false, false, false, false, false, false, false, false, false] (by kernel_rfl) rfl rfl rfl rfl rfl hg64 (y_bare (y_move (v := .bool _) rfl)) rfl rfl (weak_refl) (listed' := #[true, true, true, true, true, true, true, true, true, true, true, true, true, true, true, true, true, false, false, false, false, false, false, false, false, false, false, false, false]) rfl ?_
                refine ge_dec 69 false rfl (fun hg69 => ?_) (fun hg69 => ?_)
                · 
                  have hg69d := of_decide_eq_false hg69
                  refine ge_take_on 17 (TK := [rowl _ _ _ _ _ _, rowl _ _ _ _ _ _]) rfl (by kernel_rfl) (by kernel_rfl) (by kernel_rfl) #[true, true, true, true, true, true, true, true, true, true, true, true, true, true, true, true, true, false, true, false, true, true, true, true, false, false, false, false, false] (by kernel_rfl) rfl rfl rfl rfl rfl hg69 (y_bare (y_move (v := .string _) rfl)) rfl rfl (weak_refl) (listed' := #[true, true, true, true, true, true, true, true, true, true, true, true, true, true, true, true, true, true, false, false, false, false, false, false, false, false, false, false, false]) rfl ?_
                  refine ge_take_on 18 (TK := [rowl _ _ _ _ _ _, rowl _ _ _ _ _ _]) rfl (by kernel_rfl) (by kernel_rfl) (by kernel_rfl) #[true, true, true, true, true, true, true, true, true, true, true, true, true, true, true, true, true, true, false, false, true, true, true, true, false, false, false, false, false] (by kernel_rfl) rfl rfl rfl rfl rfl hg69 (y_bare (y_move (v := .int _ _) rfl)) rfl rfl (weak_refl) (listed' := #[true, true, true, true, true, true, true, true, true, true, true, true, true, true, true, true, true, true, true, false, false, false, false, false, false, false, false, false, false]) rfl ?_
                  refine ge_take_on 19 (TK := [rowl _ _ _ _ _ _, rowl _ _ _ _ _ _]) rfl (by kernel_rfl) (by kernel_rfl) (by kernel_rfl) #[true, true, true, true, true, true, true, true, true, true, true, true, true, true, true, true, true, true, true, false, true, true, true, true, false, false, false, false, false] (by kernel_rfl) rfl rfl rfl rfl rfl hg69 (y_bare (y_stridx (m := i) Tryz.underlying9 rfl rfl (by omega) (by omega) (by omega))) rfl rfl (weak_refl) (listed' := #[true, true, true, true, true, true, true, true, true, true, true, true, true, true, true, true, true, true, true, true, false, false, false, false, false, false, false, false, false]) rfl ?_
                  refine ge_take_on 20 (TK := [rowl _ _ _ _ _ _, rowl _ _ _ _ _ _]) rfl (by kernel_rfl) (by kernel_rfl) (by kernel_rfl) #[true, true, true, true, true, true, true, true, true, true, true, true, true, true, true, true, true, true, true, true, false, true, true, false, false, false, false, false, false] (by kernel_rfl) rfl rfl rfl rfl rfl hg69 (y_bare (y_move (v := .string _) rfl)) rfl rfl (weak_refl) (listed' := #[true, true, true, true, true, true, true, true, true, true, true, true, true, true, true, true, true, true, true, true, true, false, false, false, false, false, false, false, false]) rfl ?_
                  refine ge_take_on 21 (TK := [rowl _ _ _ _ _ _, rowl _ _ _ _ _ _]) rfl (by kernel_rfl) (by kernel_rfl) (by kernel_rfl) #[true, true, true, true, true, true, true, true, true, true, true, true, true, true, true, true, true, true, true, true, true, false, false, false, false, false, false, false, false] (by kernel_rfl) rfl rfl rfl rfl rfl hg69 (y_bare (y_move (v := .int _ _) rfl)) rfl rfl (weak_refl) (listed' := #[true, true, true, true, true, true, true, true, true, true, true, true, true, true, true, true, true, true, true, true, true, true, false, false, false, false, false, false, false]) rfl ?_
                  refine ge_take_on 22 (TK := [rowl _ _ _ _ _ _, rowl _ _ _ _ _ _]) rfl (by kernel_rfl) (by kernel_rfl) (by kernel_rfl) #[true, true, true, true, true, true, true, true, true, true, true, true, true, true, true, true, true, true, true, true, true, true, false, false, false, false, false, false, false] (by kernel_rfl) rfl rfl rfl rfl rfl hg69 (y_bare (y_sub rfl rfl ⟨by omega, by omega⟩)) rfl rfl (weak_refl) (listed' := #[true, true, true, true, true, true, true, true, true, true, true, true, true, true, true, true, true, true, true, true, true, true, true, false, false, false, false, false, false]) rfl ?_
                  refine ge_take_on 23 (TK := [rowl _ _ _ _ _ _, rowl _ _ _ _ _ _]) rfl (by kernel_rfl) (by kernel_rfl) (by kernel_rfl) #[true, true, true, true, true, true, true, true, true, true, true, true, true, true, true, true, true, true, true, true, true, true, true, false, false, false, false, false, false] (by kernel_rfl) rfl rfl rfl rfl rfl hg69 (y_bare (y_stridx (m := k - 1) Tryz.underlying9 rfl rfl (by omega) (by omega) (by omega))) rfl rfl (weak_refl) (listed' := #[true, true, true, true, true, true, true, true, true, true, true, true, true, true, true, true, true, true, true, true, true, true, true, true, false, false, false, false, false]) rfl ?_
                  refine ge_take_on 24 (TK := [rowl _ _ _ _ _ _, rowl _ _ _ _ _ _]) rfl (by kernel_rfl) (by kernel_rfl) (by kernel_rfl) #[true, true, true, true, true, true, true, true, true, true, true, true, true, true, true, true, true, true, true, true, true, true, true, true, false, false, false, false, false] (by kernel_rfl) rfl rfl rfl rfl rfl hg69 (y_bare (y_eql rfl rfl)) rfl rfl (weak_refl) (listed' := #[true, true, true, true, true, true, true, true, true, true, true, true, true, true, true, true, true, true, true, true, true, true, true, true, true, false, false, false, false]) rfl ?_
                  refine ge_take_on 25 (TK := [rowl _ _ _ _ _ _, rowl _ _ _ _ _ _]) rfl (by kernel_rfl) (by kernel_rfl) (by kernel_rfl) #[true, true, true, true, true, true, true, true, true, true, true, true, true, true, true, true, true, true, true, true, true, true, true, true, true, false, false, false, false] (by kernel_rfl) rfl rfl rfl rfl rfl hg64 (y_bare (y_pick_f (v := .bool _) rfl hg69 rfl)) rfl rfl (weak_refl) (listed' := #[true, true, true, true, true, true, true, true, true, true, true, true, true, true, true, true, true, true, true, true, true, true, true, true, true, true, false, false, false]) rfl ?_
                  refine ge_take 26 (TK := [rowl _ _ _ _ _ _, rowl _ _ _ _ _ _]) rfl (by kernel_rfl) (by kernel_rfl) (by kernel_rfl) #[true, true, true, true, true, true, true, true, true, true, true, true, true, true, true, true, true, true, true, true, true, true, true, true, true, true, false, false, false] (by kernel_rfl) rfl (y_pick_t (v := .bool _) rfl hg64 rfl) rfl rfl rfl (weak_refl) (listed' := #[true, true, true, true, true, true, true, true, true, true, true, true, true, true, true, true, true, true, true, true, true, true, true, true, true, true, true, false, false]) rfl ?_
                  refine ge_take 27 (TK := [rowl _ _ _ _ _ _, rowl _ _ _ _ _ _]) rfl (by kernel_rfl) (by kernel_rfl) (by kernel_rfl) #[true, true, true, true, true, true, true, true, true, true, true, true, true, true, true, true, true, true, true, true, true, true, true, true, true, true, true, false, false] (by kernel_rfl) rfl (y_indexAddr (m := k) Tryz.underlying46 Tryz.sizeOf4 rfl rfl (by omega) (by omega) (by omega)) rfl rfl rfl (weak_refl) (listed' := #[true, true, true, true, true, true, true, true, true, true, true, true, true, true, true, true, true, true, true, true, true, true, true, true, true, true, true, true, false]) rfl ?_
                  refine ge_one 28 (k' := 1) (listed' := #[true, true, true, true, true, true, true, true, true, true, true, true, true, true, true, true, true, true, true, true, true, true, true, true, true, true, true, true, true]) (by kernel_rfl) rfl rfl rfl ?_
                  refine gop_store_row 1 (f := boolCells) (l := dpPart s.size k (dp (starP p) (charP p s) (i + 1))) (k := k) (o := 0) (v := .bool _) (a := false) (a' := _) (fun _ => rfl) rfl rfl rfl Tryz.sizeOf4 rfl rfl rfl rfl (dpPart_len _ _ _).symm (dpPart_at (by omega)) (Nat.le_of_ble_eq_true rfl) rfl rfl ?_
                  refine gops_nil ?_
                  refine ge_fin (TK := []) rfl (weak_nil) ?_
                  refine ge_done (by kernel_rfl) ?_
                  refine hN14 _ _ ?_
                  refine gT [rowl _ _ _ _ _ _, rowl _ _ _ _ _ _] rfl ?_
                  refine gfrom [(0, .string _), (1, .string _), (5, .slice (some ⟨g, 0, none⟩) _ _), (6, .int _ _), (7, .slice (some _) _ _), (8, .int _ _)] ⟨rfl, rfl, rfl, rfl, rfl, rfl, trivial⟩ fun σ => ?_
                  refine greg ?_
                  refine gop (y_move (v := .int _ _) rfl) rfl rfl rfl ?_
                  refine gop (y_add rfl rfl ⟨by omega, by omega⟩) rfl rfl rfl ?_
                  refine gop (y_assign (v := .int _ _) rfl) rfl rfl rfl ?_
                  refine gops_nil ?_
                  rw [dpPart_put (f := (dp (starP p) (charP p s) (i + 1))) (by omega) ((dp_ct hst (by omega) hg64d).trans (by rw [charP, decide_eq_false (show ¬ byteAt p i = 63 by omega), Bool.false_or]; exact decide_eq_decide.2 (by omega)))]
                  refine gnext2 (k + 1) (by omega) (show k + 1 ≤ _ by omega) ⟨rfl, trivial⟩ ⟨rfl, rfl, rfl, rfl, rfl, trivial⟩ ⟨_, rfl⟩
                · 
                  have hg69d := of_decide_eq_true hg69
                  refine ge_take_off 17 (TK := [rowl _ _ _ _ _ _, rowl _ _ _ _ _ _]) rfl (by kernel_rfl) (by kernel_rfl) (by kernel_rfl) #[true, true, true, true, true, true, true, true, true, true, true, true, true, true, true, true, true, false, true, false, true, true, true, true, false, false, false, false, false] (by kernel_rfl) rfl rfl rfl rfl rfl (off_of hg69) rfl rfl (weak_refl) (listed' := #[true, true, true, true, true, true, true, true, true, true, true, true, true, true, true, true, true, true, false, false, false, false, false, false, false, false, false, false, false]) rfl ?_
                  refine ge_take_off 18 (TK := [rowl _ _ _ _ _ _, rowl _ _ _ _ _ _]) rfl (by kernel_rfl) (by kernel_rfl) (by kernel_rfl) #[true, true, true, true, true, true, true, true, true, true, true, true, true, true, true, true, true, true, false, false, true, true, true, true, false, false, false, false, false] (by kernel_rfl) rfl rfl rfl rfl rfl (off_of hg69) rfl rfl (weak_refl) (listed' := #[true, true, true, true, true, true, true, true, true, true, true, true, true, true, true, true, true, true, true, false, false, false, false, false, false, false, false, false, false]) rfl ?_
                  refine ge_take_off 19 (TK := [rowl _ _ _ _ _ _, rowl _ _ _ _ _ _]) rfl (by kernel_rfl) (by kernel_rfl) (by kernel_rfl) #[true, true, true, true, true, true, true, true, true, true, true, true, true, true, true, true, true, true, true, false, true, true, true, true, false, false, false, false, false] (by kernel_rfl) rfl rfl rfl rfl rfl (off_of hg69) rfl rfl (weak_refl) (listed' := #[true, true, true, true, true, true, true, true, true, true, true, true, true, true, true, true, true, true, true, true, false, false, false, false, false, false, false, false, false]) rfl ?_
                  refine ge_take_off 20 (TK := [rowl _ _ _ _ _ _, rowl _ _ _ _ _ _]) rfl (by kernel_rfl) (by kernel_rfl) (by kernel_rfl) #[true, true, true, true, true, true, true, true, true, true, true, true, true, true, true, true, true, true, true, true, false, true, true, false, false, false, false, false, false] (by kernel_rfl) rfl rfl rfl rfl rfl (off_of hg69) rfl rfl (weak_refl) (listed' := #[true, true, true, true, true, true, true, true, true, true, true, true, true, true, true, true, true, true, true, true, true, false, false, false, false, false, false, false, false]) rfl ?_
                  refine ge_take_off 21 (TK := [rowl _ _ _ _ _ _, rowl _ _ _ _ _ _]) rfl (by kernel_rfl) (by kernel_rfl) (by kernel_rfl) #[true, true, true, true, true, true, true, true, true, true, true, true, true, true, true, true, true, true, true, true, true, false, false, false, false, false, false, false, false] (by kernel_rfl) rfl rfl rfl rfl rfl (off_of hg69) rfl rfl (weak_refl) (listed' := #[true, true, true, true, true, true, true, true, true, true, true, true, true, true, true, true, true, true, true, true, true, true, false, false, false, false, false, false, false]) rfl ?_
                  refine ge_take_off 22 (TK := [rowl _ _ _ _ _ _, rowl _ _ _ _ _ _]) rfl (by kernel_rfl) (by kernel_rfl) (by kernel_rfl) #[true, true, true, true, true, true, true, true, true, true, true, true, true, true, true, true, true, true, true, true, true, true, false, false, false, false, false, false, false] (by kernel_rfl) rfl rfl rfl rfl rfl (off_of hg69) rfl rfl (weak_refl) (listed' := #[true, true, true, true, true, true, true, true, true, true, true, true, true, true, true, true, true, true, true, true, true, true, true, false, false, false, false, false, false]) rfl ?_
                  refine ge_take_off 23 (TK := [rowl _ _ _ _ _ _, rowl _ _ _ _ _ _]) rfl (by kernel_rfl) (by kernel_rfl) (by kernel_rfl) #[true, true, true, true, true, true, true, true, true, true, true, true, true, true, true, true, true, true, true, true, true, true, true, false, false, false, false, false, false] (by kernel_rfl) rfl rfl rfl rfl rfl (off_of hg69) rfl rfl (weak_refl) (listed' := #[true, true, true, true, true, true, true, true, true, true, true, true, true, true, true, true, true, true, true, true, true, true, true, true, false, false, false, false, false]) rfl ?_
                  refine ge_take_off 24 (TK := [rowl _ _ _ _ _ _, rowl _ _ _ _ _ _]) rfl (by kernel_rfl) (by kernel_rfl) (by kernel_rfl) #[true, true, true, true, true, true, true, true, true, true, true, true, true, true, true, true, true, true, true, true, true, true, true, true, false, false, false, false, false] (by kernel_rfl) rfl rfl rfl rfl rfl (off_of hg69) rfl rfl (weak_refl) (listed' := #[true, true, true, true, true, true, true, true, true, true, true, true, true, true, true, true, true, true, true, true, true, true, true, true, true, false, false, false, false]) rfl ?_
                  refine ge_take_on 25 (TK := [rowl _ _ _ _ _ _, rowl _ _ _ _ _ _]) rfl (by kernel_rfl) (by kernel_rfl) (by kernel_rfl) #[true, true, true, true, true, true, true, true, true, true, true, true, true, true, true, true, true, true, true, true, true, true, true, true, true, false, false, false, false] (by kernel_rfl) rfl rfl rfl rfl rfl hg64 (y_bare (y_pick_t (v := .bool _) rfl hg69 rfl)) rfl rfl (weak_refl) (listed' := #[true, true, true, true, true, true, true, true, true, true, true, true, true, true, true, true, true, true, true, true, true, true, true, true, true, true, false, false, false]) rfl ?_
                  refine ge_take 26 (TK := [rowl _ _ _ _ _ _, rowl _ _ _ _ _ _]) rfl (by kernel_rfl) (by kernel_rfl) (by kernel_rfl) #[true, true, true, true, true, true, true, true, true, true, true, true, true, true, true, true, true, true, true, true, true, true, true, true, true, true, false, false, false] (by kernel_rfl) rfl (y_pick_t (v := .bool _) rfl hg64 rfl) rfl rfl rfl (weak_refl) (listed' := #[true, true, true, true, true, true, true, true, true, true, true, true, true, true, true, true, true, true, true, true, true, true, true, true, true, true, true, false, false]) rfl ?_
                  refine ge_take 27 (TK := [rowl _ _ _ _ _ _, rowl _ _ _ _ _ _]) rfl (by kernel_rfl) (by kernel_rfl) (by kernel_rfl) #[true, true, true, true, true, true, true, true, true, true, true, true, true, true, true, true, true, true, true, true, true, true, true, true, true, true, true, false, false] (by kernel_rfl) rfl (y_indexAddr (m := k) Tryz.underlying46 Tryz.sizeOf4 rfl rfl (by omega) (by omega) (by omega)) rfl rfl rfl (weak_refl) (listed' := #[true, true, true, true, true, true, true, true, true, true, true, true, true, true, true, true, true, true, true, true, true, true, true, true, true, true, true, true, false]) rfl ?_
                  refine ge_one 28 (k' := 1) (listed' := #[true, true, true, true, true, true, true, true, true, true, true, true, true, true, true, true, true, true, true, true, true, true, true, true, true, true, true, true, true]) (by kernel_rfl) rfl rfl rfl ?_
                  refine gop_store_row 1 (f := boolCells) (l := dpPart s.size k (dp (starP p) (charP p s) (i + 1))) (k := k) (o := 0) (v := .bool _) (a := false) (a' := _) (fun _ => rfl) rfl rfl rfl Tryz.sizeOf4 rfl rfl rfl rfl (dpPart_len _ _ _).symm (dpPart_at (by omega)) (Nat.le_of_ble_eq_true rfl) rfl rfl ?_
                  refine gops_nil ?_
                  refine ge_fin (TK := []) rfl (weak_nil) ?_
                  refine ge_done (by kernel_rfl) ?_
                  refine hN14 _ _ ?_
                  refine gT [rowl _ _ _ _ _ _, rowl _ _ _ _ _ _] rfl ?_
                  refine gfrom [(0, .string _), (1, .string _), (5, .slice (some ⟨g, 0, none⟩) _ _), (6, .int _ _), (7, .slice (some _) _ _), (8, .int _ _)] ⟨rfl, rfl, rfl, rfl, rfl, rfl, trivial⟩ fun σ => ?_
                  refine greg ?_
                  refine gop (y_move (v := .int _ _) rfl) rfl rfl rfl ?_
                  refine gop (y_add rfl rfl ⟨by omega, by omega⟩) rfl rfl rfl ?_
                  refine gop (y_assign (v := .int _ _) rfl) rfl rfl rfl ?_
                  refine gops_nil ?_
                  rw [dpPart_put (f := (dp (starP p) (charP p s) (i + 1))) (by omega) ((dp_ct hst (by omega) hg64d).trans (by rw [charP, decide_eq_true (show byteAt p i = 63 by omega), Bool.true_or]))]
                  refine gnext2 (k + 1) (by omega) (show k + 1 ≤ _ by omega) ⟨rfl, trivial⟩ ⟨rfl, rfl, rfl, rfl, rfl, trivial⟩ ⟨_, rfl⟩
              · 
                have hg64d := hg64
                refine ge_take_off 12 (TK := [rowl _ _ _ _ _ _, rowl _ _ _ _ _ _]) rfl (by kernel_rfl) (by kernel_rfl) (by kernel_rfl) #[true, true, true, true, true, true, true, true, true, true, true, true, false, true, false, false, false, false, false, false, false, false, false, false, false, false, false, false, false] (by kernel_rfl) rfl rfl rfl rfl rfl (off_of hg64) rfl rfl (weak_refl) (listed' := #[true, true, true, true, true, true, true, true, true, true, true, true, true, false, false, false, false, false, false, false, false, false, false, false, false, false, false, false, false]) rfl ?_
                refine ge_take_off 13 (TK := [rowl _ _ _ _ _ _, rowl _ _ _ _ _ _]) rfl (by kernel_rfl) (by kernel_rfl) (by kernel_rfl) #[true, true, true, true, true, true, true, true, true, true, true, true, true, false, false, false, false, false, false, false, false, false, false, false, false, false, false, false, false] (by kernel_rfl) rfl rfl rfl rfl rfl (off_of hg64) rfl rfl (weak_refl) (listed' := #[true, true, true, true, true, true, true, true, true, true, true, true, true, true, false, false, false, false, false, false, false, false, false, false, false, false, false, false, false]) rfl ?_
                refine ge_take_off 14 (TK := [rowl _ _ _ _ _ _, rowl _ _ _ _ _ _]) rfl (by kernel_rfl) (by kernel_rfl) (by kernel_rfl) #[true, true, true, true, true, true, true, true, true, true, true, true, true, true, false, false, false, false, false, false, false, false, false, false, false, false, false, false, false] (by kernel_rfl) rfl rfl rfl rfl rfl (off_of hg64) rfl rfl (weak_refl) (listed' := #[true, true, true, true, true, true, true, true, true, true, true, true, true, true, true, false, false, false, false, false, false, false, false, false, false, false, false, false, false]) rfl ?_
                refine ge_take_off 15 (TK := [rowl _ _ _ _ _ _, rowl _ _ _ _ _ _]) rfl (by kernel_rfl) (by kernel_rfl) (by kernel_rfl) #[true, true, true, true, true, true, true, true, true, true, true, true, true, true, true, false, false, false, false, false, false, false, false, false, false, false, false, false, false] (by kernel_rfl) rfl rfl rfl rfl rfl (off_of hg64) rfl rfl (weak_refl) (listed' := #[true, true, true, true, true, true, true, true, true, true, true, true, true, true, true, true, false, false, false, false, false, false, false, false, false, false, false, false, false]) rfl ?_
                refine ge_take_off 16 (TK := [rowl _ _ _ _ _ _, rowl _ _ _ _ _ _]) rfl (by kernel_rfl) (by kernel_rfl) (by kernel_rfl) #[true, true, true, true, true, true, true, true, true, true, true, true, true, true, true, true, false, false, false, false, false, false, false, false, false, false, false, false, false] (by kernel_rfl) rfl rfl rfl rfl rfl (off_of hg64) rfl rfl (weak_refl) (listed' := #[true, true, true, true, true, true, true, true, true, true, true, true, true, true, true, true, true, false, false, false, false, false, false, false, false, false, false, false, false]) rfl ?_
                refine ge_take_off 17 (TK := [rowl _ _ _ _ _ _, rowl _ _ _ _ _ _]) rfl (by kernel_rfl) (by kernel_rfl) (by kernel_rfl) #[true, true, true, true, true, true, true, true, true, true, true, true, true, true, true, true, true, false, true, false, true, true, true, true, false, false, false, false, false] (by kernel_rfl) rfl rfl rfl rfl rfl off_undef rfl rfl (weak_refl) (listed' := #[true, true, true, true, true, true, true, true, true, true, true, true, true, true, true, true, true, true, false, false, false, false, false, false, false, false, false, false, false]) rfl ?_
                refine ge_take_off 18 (TK := [rowl _ _ _ _ _ _, rowl _ _ _ _ _ _]) rfl (by kernel_rfl) (by kernel_rfl) (by kernel_rfl) #[true, true, true, true, true, true, true, true, true, true, true, true, true, true, true, true, true, true, false, false, true, true, true, true, false, false, false, false, false] (by kernel_rfl) rfl rfl rfl rfl rfl off_undef rfl rfl (weak_refl) (listed' := #[true, true, true, true, true, true, true, true, true, true, true, true, true, true, true, true, true, true, true, false, false, false, false, false, false, false, false, false, false]) rfl ?_
                refine ge_take_off 19 (TK := [rowl _ _ _ _ _ _, rowl _ _ _ _ _ _]) rfl (by kernel_rfl) (by kernel_rfl) (by kernel_rfl) #[true, true, true, true, true, true, true, true, true, true, true, true, true, true, true, true, true, true, true, false, true, true, true, true, false, false, false, false, false] (by kernel_rfl) rfl rfl rfl rfl rfl off_undef rfl rfl (weak_refl) (listed' := #[true, true, true, true, true, true, true, true, true, true, true, true, true, true, true, true, true, true, true, true, false, false, false, false, false, false, false, false, false]) rfl ?_
                refine ge_take_off 20 (TK := [rowl _ _ _ _ _ _, rowl _ _ _ _ _ _]) rfl (by kernel_rfl) (by kernel_rfl) (by kernel_rfl) #[true, true, true, true, true, true, true, true, true, true, true, true, true, true, true, true, true, true, true, true, false, true, true, false, false, false, false, false, false] (by kernel_rfl) rfl rfl rfl rfl rfl off_undef rfl rfl (weak_refl) (listed' := #[true, true, true, true, true, true, true, true, true, true, true, true, true, true, true, true, true, true, true, true, true, false, false, false, false, false, false, false, false]) rfl ?_
                refine ge_take_off 21 (TK := [rowl _ _ _ _ _ _, rowl _ _ _ _ _ _]) rfl (by kernel_rfl) (by kernel_rfl) (by kernel_rfl) #[true, true, true, true, true, true, true, true, true, true, true, true, true, true, true, true, true, true, true, true, true, false, false, false, false, false, false, false, false] (by kernel_rfl) rfl rfl rfl rfl rfl off_undef rfl rfl (weak_refl) (listed' := #[true, true, true, true, true, true, true, true, true, true, true, true, true, true, true, true, true, true, true, true, true, true, false, false, false, false, false, false, false]) rfl ?_
                refine ge_take_off 22 (TK := [rowl _ _ _ _ _ _, rowl _ _ _ _ _ _]) rfl (by kernel_rfl) (by kernel_rfl) (by kernel_rfl) #[true, true, true, true, true, true, true, true, true, true, true, true, true, true, true, true, true, true, true, true, true, true, false, false, false, false, false, false, false] (by kernel_rfl) rfl rfl rfl rfl rfl off_undef rfl rfl (weak_refl) (listed' := #[true, true, true, true, true, true, true, true, true, true, true, true, true, true, true, true, true, true, true, true, true, true, true, false, false, false, false, false, false]) rfl ?_
                refine ge_take_off 23 (TK := [rowl _ _ _ _ _ _, rowl _ _ _ _ _ _]) rfl (by kernel_rfl) (by kernel_rfl) (by kernel_rfl) #[true, true, true, true, true, true, true, true, true, true, true, true, true, true, true, true, true, true, true, true, true, true, true, false, false, false, false, false, false] (by kernel_rfl) rfl rfl rfl rfl rfl off_undef rfl rfl (weak_refl) (listed' := #[true, true, true, true, true, true, true, true, true, true, true, true, true, true, true, true, true, true, true, true, true, true, true, true, false, false, false, false, false]) rfl ?_
                refine ge_take_off 24 (TK := [rowl _ _ _ _ _ _, rowl _ _ _ _ _ _]) rfl (by kernel_rfl) (by kernel_rfl) (by kernel_rfl) #[true, true, true, true, true, true, true, true, true, true, true, true, true, true, true, true, true, true, true, true, true, true, true, true, false, false, false, false, false] (by kernel_rfl) rfl rfl rfl rfl rfl off_undef rfl rfl (weak_refl) (listed' := #[true, true, true, true, true, true, true, true, true, true, true, true, true, true, true, true, true, true, true, true, true, true, true, true, true, false, false, false, false]) rfl ?_
                refine ge_take_off 25 (TK := [rowl _ _ _ _ _ _, rowl _ _ _ _ _ _]) rfl (by kernel_rfl) (by kernel_rfl) (by kernel_rfl) #[true, true, true, true, true, true, true, true, true, true, true, true, true, true, true, true, true, true, true, true, true, true, true, true, true, false, false, false, false] (by kernel_rfl) rfl rfl rfl rfl rfl (off_of hg64) rfl rfl (weak_refl) (listed' := #[true, true, true, true, true, true, true, true, true, true, true, true, true, true, true, true, true, true, true, true, true, true, true, true, true, true, false, false, false]) rfl ?_
                refine ge_take 26 (TK := [rowl _ _ _ _ _ _, rowl _ _ _ _ _ _]) rfl (by kernel_rfl) (by kernel_rfl) (by kernel_rfl) #[true, true, true, true, true, true, true, true, true, true, true, true, true, true, true, true, true, true, true, true, true, true, true, true, true, true, false, false, false] (by kernel_rfl) rfl (y_pick_f (v := .bool _) rfl hg64 rfl) rfl rfl rfl (weak_refl) (listed' := #[true, true, true, true, true, true, true, true, true, true, true, true, true, true, true, true, true, true, true, true, true, true, true, true, true, true, true, false, false]) rfl ?_
                refine ge_take 27 (TK := [rowl _ _ _ _ _ _, rowl _ _ _ _ _ _]) rfl (by kernel_rfl) (by kernel_rfl) (by kernel_rfl) #[true, true, true, true, true, true, true, true, true, true, true, true, true, true, true, true, true, true, true, true, true, true, true, true, true, true, true, false, false] (by kernel_rfl) rfl (y_indexAddr (m := k) Tryz.underlying46 Tryz.sizeOf4 rfl rfl (by omega) (by omega) (by omega)) rfl rfl rfl (weak_refl) (listed' := #[true, true, true, true, true, true, true, true, true, true, true, true, true, true, true, true, true, true, true, true, true, true, true, true, true, true, true, true, false]) rfl ?_
                refine ge_one 28 (k' := 1) (listed' := #[true, true, true, true, true, true, true, true, true, true, true, true, true, true, true, true, true, true, true, true, true, true, true, true, true, true, true, true, true]) (by kernel_rfl) rfl rfl rfl ?_
                refine gop_store_row 1 (f := boolCells) (l := dpPart s.size k (dp (starP p) (charP p s) (i + 1))) (k := k) (o := 0) (v := .bool _) (a := false) (a' := _) (fun _ => rfl) rfl rfl rfl Tryz.sizeOf4 rfl rfl rfl rfl (dpPart_len _ _ _).symm (dpPart_at (by omega)) (Nat.le_of_ble_eq_true rfl) rfl rfl ?_
                refine gops_nil ?_
                refine ge_fin (TK := []) rfl (weak_nil) ?_
                refine ge_done (by kernel_rfl) ?_
                refine hN14 _ _ ?_
                refine gT [rowl _ _ _ _ _ _, rowl _ _ _ _ _ _] rfl ?_
                refine gfrom [(0, .string _), (1, .string _), (5, .slice (some ⟨g, 0, none⟩) _ _), (6, .int _ _), (7, .slice (some _) _ _), (8, .int _ _)] ⟨rfl, rfl, rfl, rfl, rfl, rfl, trivial⟩ fun σ => ?_
                refine greg ?_
                refine gop (y_move (v := .int _ _) rfl) rfl rfl rfl ?_
                refine gop (y_add rfl rfl ⟨by omega, by omega⟩) rfl rfl rfl ?_
                refine gop (y_assign (v := .int _ _) rfl) rfl rfl rfl ?_
                refine gops_nil ?_
                rw [dpPart_put (f := (dp (starP p) (charP p s) (i + 1))) (by omega) (dp_cf hst (by omega) hg64d)]
                refine gnext2 (k + 1) (by omega) (show k + 1 ≤ _ by omega) ⟨rfl, trivial⟩ ⟨rfl, rfl, rfl, rfl, rfl, trivial⟩ ⟨_, rfl⟩
            · 
              have hg57d := of_decide_eq_false hg57
              refine ge_take_off 5 (TK := [rowl _ _ _ _ _ _, rowl _ _ _ _ _ _]) rfl (by kernel_rfl) (by kernel_rfl) (by kernel_rfl) #[true, true, true, true, true, false, true, true, false, false, false, false, false, false, false, false, false, false, false, false, false, false, false, false, false, false, false, false, false] (by kernel_rfl) rfl rfl rfl rfl rfl (off_of hg57) rfl rfl (weak_refl) (listed' := #[true, true, true, true, true, true, false, false, false, false, false, false, false, false, false, false, false, false, false, false, false, false, false, false, false, false, false, false, false]) rfl ?_
              refine ge_take_off 6 (TK := [rowl _ _ _ _ _ _, rowl _ _ _ _ _ _]) rfl (by kernel_rfl) (by kernel_rfl) (by kernel_rfl) #[true, true, true, true, true, true, false, false, false, false, false, false, false, false, false, false, false, false, false, false, false, false, false, false, false, false, false, false, false] (by kernel_rfl) rfl rfl rfl rfl rfl (off_of hg57) rfl rfl (weak_refl) (listed' := #[true, true, true, true, true, true, true, false, false, false, false, false, false, false, false, false, false, false, false, false, false, false, false, false, false, false, false, false, false]) rfl ?_
              refine ge_take_off 7 (TK := [rowl _ _ _ _ _ _, rowl _ _ _ _ _ _]) rfl (by kernel_rfl) (by kernel_rfl) (by kernel_rfl) #[true, true, true, true, true, true, true, false, false, false, false, false, false, false, false, false, false, false, false, false, false, false, false, false, false, false, false, false, false] (by kernel_rfl) rfl rfl rfl rfl rfl (off_of hg57) rfl rfl (weak_refl) (listed' := #[true, true, true, true, true, true, true, true, false, false, false, false, false, false, false, false, false, false, false, false, false, false, false, false, false, false, false, false, false]) rfl ?_
              refine ge_take_off 8 (TK := [rowl _ _ _ _ _ _, rowl _ _ _ _ _ _]) rfl (by kernel_rfl) (by kernel_rfl) (by kernel_rfl) #[true, true, true, true, true, true, true, true, false, false, false, false, false, false, false, false, false, false, false, false, false, false, false, false, false, false, false, false, false] (by kernel_rfl) rfl rfl rfl rfl rfl (off_of hg57) rfl rfl (weak_refl) (listed' := #[true, true, true, true, true, true, true, true, true, false, false, false, false, false, false, false, false, false, false, false, false, false, false, false, false, false, false, false, false]) rfl ?_
              refine ge_take_off 9 (TK := [rowl _ _ _ _ _ _, rowl _ _ _ _ _ _]) rfl (by kernel_rfl) (by kernel_rfl) (by kernel_rfl) #[true, true, true, true, true, true, true, true, true, false, false, false, false, false, false, false, false, false, false, false, false, false, false, false, false, false, false, false, false] (by kernel_rfl) rfl rfl rfl rfl rfl (off_of hg57) rfl rfl (weak_refl) (listed' := #[true, true, true, true, true, true, true, true, true, true, false, false, false, false, false, false, false, false, false, false, false, false, false, false, false, false, false, false, false]) rfl ?_
              refine ge_take 10 (TK := [rowl _ _ _ _ _ _, rowl _ _ _ _ _ _]) rfl (by kernel_rfl) (by kernel_rfl) (by kernel_rfl) #[true, true, true, true, true, true, true, true, true, true, false, false, false, false, false, false, false, false, false, false, false, false, false, false, false, false, false, false, false] (by kernel_rfl) rfl (y_pick_f (v := .bool _) rfl hg57 rfl) rfl rfl rfl (weak_refl) (listed' := #[true, true, true, true, true, true, true, true, true, true, true, false, false, false, false, false, false, false, false, false, false, false, false, false, false, false, false, false, false]) rfl ?_
              refine ge_take 11 (TK := [rowl _ _ _ _ _ _, rowl _ _ _ _ _ _]) rfl (by kernel_rfl) (by kernel_rfl) (by kernel_rfl) #[true, true, true, true, true, true, true, true, true, true, true, false, false, false, false, false, false, false, false, false, false, false, false, false, false, false, false, false, false] (by kernel_rfl) rfl (y_move (v := .bool _) rfl) rfl rfl rfl (weak_refl) (listed' := #[true, true, true, true, true, true, true, true, true, true, true, true, false, false, false, false, false, false, false, false, false, false, false, false, false, false, false, false, false]) rfl ?_
              refine ge_take_off 12 (TK := [rowl _ _ _ _ _ _, rowl _ _ _ _ _ _]) rfl (by kernel_rfl) (by kernel_rfl) (by kernel_rfl) #[true, true, true, true, true, true, true, true, true, true, true, true, false, true, false, false, false, false, false, false, false, false, false, false, false, false, false, false, false] (by kernel_rfl) rfl rfl rfl rfl rfl (off_of rfl) rfl rfl (weak_refl) (listed' := #[true, true, true, true, true, true, true, true, true, true, true, true, true, false, false, false, false, false, false, false, false, false, false, false, false, false, false, false, false]) rfl ?_
              refine ge_take_off 13 (TK := [rowl _ _ _ _ _ _, rowl _ _ _ _ _ _]) rfl (by kernel_rfl) (by kernel_rfl) (by kernel_rfl) #[true, true, true, true, true, true, true, true, true, true, true, true, true, false, false, false, false, false, false, false, false, false, false, false, false, false, false, false, false] (by kernel_rfl) rfl rfl rfl rfl rfl (off_of rfl) rfl rfl (weak_refl) (listed' := #[true, true, true, true, true, true, true, true, true, true, true, true, true, true, false, false, false, false, false, false, false, false, false, false, false, false, false, false, false]) rfl ?_
              refine ge_take_off 14 (TK := [rowl _ _ _ _ _ _, rowl _ _ _ _ _ _]) rfl (by kernel_rfl) (by kernel_rfl) (by kernel_rfl) #[true, true, true, true, true, true, true, true, true, true, true, true, true, true, false, false, false, false, false, false, false, false, false, false, false, false, false, false, false] (by kernel_rfl) rfl rfl rfl rfl rfl (off_of rfl) rfl rfl (weak_refl) (listed' := #[true, true, true, true, true, true, true, true, true, true, true, true, true, true, true, false, false, false, false, false, false, false, false, false, false, false, false, false, false]) rfl ?_
              refine ge_take_off 15 (TK := [rowl _ _ _ _ _ _, rowl _ _ _ _ _ _]) rfl (by kernel_rfl) (by kernel_rfl) (by kernel_rfl) #[true, true, true, true, true, true, true, true, true, true, true, true, true, true, true, false, false, false, false, false, false, false, false, false, false, false, false, false, false] (by kernel_rfl) rfl rfl rfl rfl rfl (off_of rfl) rfl rfl (weak_refl) (listed' := #[true, true, true, true, true, true, true, true, true, true, true, true, true, true, true, true, false, false, false, false, false, false, false, false, false, false, false, false, false]) rfl ?_
              refine ge_take_off 16 (TK := [rowl _ _ _ _ _ _, rowl _ _ _ _ _ _]) rfl (by kernel_rfl) (by kernel_rfl) (by kernel_rfl) #[true, true, true, true, true, true, true, true, true, true, true, true, true, true, true, true, false, false, false, false, false, false, false, false, false, false, false, false, false] (by kernel_rfl) rfl rfl rfl rfl rfl (off_of rfl) rfl rfl (weak_refl) (listed' := #[true, true, true, true, true, true, true, true, true, true, true, true, true, true, true, true, true, false, false, false, false, false, false, false, false, false, false, false, false]) rfl ?_
              refine ge_take_off 17 (TK := [rowl _ _ _ _ _ _, rowl _ _ _ _ _ _]) rfl (by kernel_rfl) (by kernel_rfl) (by kernel_rfl) #[true, true, true, true, true, true, true, true, true, true, true, true, true, true, true, true, true, false, true, false, true, true, true, true, false, false, false, false, false] (by kernel_rfl) rfl rfl rfl rfl rfl off_undef rfl rfl (weak_refl) (listed' := #[true, true, true, true, true, true, true, true, true, true, true, true, true, true, true, true, true, true, false, false, false, false, false, false, false, false, false, false, false]) rfl ?_
              refine ge_take_off 18 (TK := [rowl _ _ _ _ _ _, rowl _ _ _ _ _ _]) rfl (by kernel_rfl) (by kernel_rfl) (by kernel_rfl) #[true, true, true, true, true, true, true, true, true, true, true, true, true, true, true, true, true, true, false, false, true, true, true, true, false, false, false, false, false] (by kernel_rfl) rfl rfl rfl rfl rfl off_undef rfl rfl (weak_refl) (listed' := #[true, true, true, true, true, true, true, true, true, true, true, true, true, true, true, true, true, true, true, false, false, false, false, false, false, false, false, false, false]) rfl ?_
              refine ge_take_off 19 (TK := [rowl _ _ _ _ _ _, rowl _ _ _ _ _ _]) rfl (by kernel_rfl) (by kernel_rfl) (by kernel_rfl) #[true, true, true, true, true, true, true, true, true, true, true, true, true, true, true, true, true, true, true, false, true, true, true, true, false, false, false, false, false] (by kernel_rfl) rfl rfl rfl rfl rfl off_undef rfl rfl (weak_refl) (listed' := #[true, true, true, true, true, true, true, true, true, true, true, true, true, true, true, true, true, true, true, true, false, false, false, false, false, false, false, false, false]) rfl ?_
              refine ge_take_off 20 (TK := [rowl _ _ _ _ _ _, rowl _ _ _ _ _ _]) rfl (by kernel_rfl) (by kernel_rfl) (by kernel_rfl) #[true, true, true, true, true, true, true, true, true, true, true, true, true, true, true, true, true, true, true, true, false, true, true, false, false, false, false, false, false] (by kernel_rfl) rfl rfl rfl rfl rfl off_undef rfl rfl (weak_refl) (listed' := #[true, true, true, true, true, true, true, true, true, true, true, true, true, true, true, true, true, true, true, true, true, false, false, false, false, false, false, false, false]) rfl ?_
              refine ge_take_off 21 (TK := [rowl _ _ _ _ _ _, rowl _ _ _ _ _ _]) rfl (by kernel_rfl) (by kernel_rfl) (by kernel_rfl) #[true, true, true, true, true, true, true, true, true, true, true, true, true, true, true, true, true, true, true, true, true, false, false, false, false, false, false, false, false] (by kernel_rfl) rfl rfl rfl rfl rfl off_undef rfl rfl (weak_refl) (listed' := #[true, true, true, true, true, true, true, true, true, true, true, true, true, true, true, true, true, true, true, true, true, true, false, false, false, false, false, false, false]) rfl ?_
              refine ge_take_off 22 (TK := [rowl _ _ _ _ _ _, rowl _ _ _ _ _ _]) rfl (by kernel_rfl) (by kernel_rfl) (by kernel_rfl) #[true, true, true, true, true, true, true, true, true, true, true, true, true, true, true, true, true, true, true, true, true, true, false, false, false, false, false, false, false] (by kernel_rfl) rfl rfl rfl rfl rfl off_undef rfl rfl (weak_refl) (listed' := #[true, true, true, true, true, true, true, true, true, true, true, true, true, true, true, true, true, true, true, true, true, true, true, false, false, false, false, false, false]) rfl ?_
              refine ge_take_off 23 (TK := [rowl _ _ _ _ _ _, rowl _ _ _ _ _ _]) rfl (by kernel_rfl) (by kernel_rfl) (by kernel_rfl) #[true, true, true, true, true, true, true, true, true, true, true, true, true, true, true, true, true, true, true, true, true, true, true, false, false, false, false, false, false] (by kernel_rfl) rfl rfl rfl rfl rfl off_undef rfl rfl (weak_refl) (listed' := #[true, true, true, true, true, true, true, true, true, true, true, true, true, true, true, true, true, true, true, true, true, true, true, true, false, false, false, false, false]) rfl ?_
              refine ge_take_off 24 (TK := [rowl _ _ _ _ _ _, rowl _ _ _ _ _ _]) rfl (by kernel_rfl) (by kernel_rfl) (by kernel_rfl) #[true, true, true, true, true, true, true, true, true, true, true, true, true, true, true, true, true, true, true, true, true, true, true, true, false, false, false, false, false] (by kernel_rfl) rfl rfl rfl rfl rfl off_undef rfl rfl (weak_refl) (listed' := #[true, true, true, true, true, true, true, true, true, true, true, true, true, true, true, true, true, true, true, true, true, true, true, true, true, false, false, false, false]) rfl ?_
              refine ge_take_off 25 (TK := [rowl _ _ _ _ _ _, rowl _ _ _ _ _ _]) rfl (by kernel_rfl) (by kernel_rfl) (by kernel_rfl) #[true, true, true, true, true, true, true, true, true, true, true, true, true, true, true, true, true, true, true, true, true, true, true, true, true, false, false, false, false] (by kernel_rfl) rfl rfl rfl rfl rfl (off_of rfl) rfl rfl (weak_refl) (listed' := #[true, true, true, true, true, true, true, true, true, true, true, true, true, true, true, true, true, true, true, true, true, true, true, true, true, true, false, false, false]) rfl ?_
              refine ge_take 26 (TK := [rowl _ _ _ _ _ _, rowl _ _ _ _ _ _]) rfl (by kernel_rfl) (by kernel_rfl) (by kernel_rfl) #[true, true, true, true, true, true, true, true, true, true, true, true, true, true, true, true, true, true, true, true, true, true, true, true, true, true, false, false, false] (by kernel_rfl) rfl (y_pick_f (v := .bool _) rfl rfl rfl) rfl rfl rfl (weak_refl) (listed' := #[true, true, true, true, true, true, true, true, true, true, true, true, true, true, true, true, true, true, true, true, true, true, true, true, true, true, true, false, false]) rfl ?_
              refine ge_take 27 (TK := [rowl _ _ _ _ _ _, rowl _ _ _ _ _ _]) rfl (by kernel_rfl) (by kernel_rfl) (by kernel_rfl) #[true, true, true, true, true, true, true, true, true, true, true, true, true, true, true, true, true, true, true, true, true, true, true, true, true, true, true, false, false] (by kernel_rfl) rfl (y_indexAddr (m := k) Tryz.underlying46 Tryz.sizeOf4 rfl rfl (by omega) (by omega) (by omega)) rfl rfl rfl (weak_refl) (listed' := #[true, true, true, true, true, true, true, true, true, true, true, true, true, true, true, true, true, true, true, true, true, true, true, true, true, true, true, true, false]) rfl ?_
              refine ge_one 28 (k' := 1) (listed' := #[true, true, true, true, true, true, true, true, true, true, true, true, true, true, true, true, true, true, true, true, true, true, true, true, true, true, true, true, true]) (by kernel_rfl) rfl rfl rfl ?_
              refine gop_store_row 1 (f := boolCells) (l := dpPart s.size k (dp (starP p) (charP p s) (i + 1))) (k := k) (o := 0) (v := .bool _) (a := false) (a' := _) (fun _ => rfl) rfl rfl rfl Tryz.sizeOf4 rfl rfl rfl rfl (dpPart_len _ _ _).symm (dpPart_at (by omega)) (Nat.le_of_ble_eq_true rfl) rfl rfl ?_
              refine gops_nil ?_
              refine ge_fin (TK := []) rfl (weak_nil) ?_
              refine ge_done (by kernel_rfl) ?_
              refine hN14 _ _ ?_
              refine gT [rowl _ _ _ _ _ _, rowl _ _ _ _ _ _] rfl ?_
              refine gfrom [(0, .string _), (1, .string _), (5, .slice (some ⟨g, 0, none⟩) _ _), (6, .int _ _), (7, .slice (some _) _ _), (8, .int _ _)] ⟨rfl, rfl, rfl, rfl, rfl, rfl, trivial⟩ fun σ => ?_
              refine greg ?_
              refine gop (y_move (v := .int _ _) rfl) rfl rfl rfl ?_
              refine gop (y_add rfl rfl ⟨by omega, by omega⟩) rfl rfl rfl ?_
              refine gop (y_assign (v := .int _ _) rfl) rfl rfl rfl ?_
              refine gops_nil ?_
              rw [dpPart_put (f := (dp (starP p) (charP p s) (i + 1))) (by omega) (dp_c0 hst (by omega))]
              refine gnext2 (k + 1) (by omega) (show k + 1 ≤ _ by omega) ⟨rfl, trivial⟩ ⟨rfl, rfl, rfl, rfl, rfl, trivial⟩ ⟨_, rfl⟩
        · 
          replace hc28 := of_decide_eq_false hc28
          refine gexit ?_
          refine hN10 _ _ ?_
          refine gfrom [(0, .string _), (1, .string _), (6, .int _ _), (7, .slice (some _) _ _)] ⟨rfl, rfl, rfl, rfl, trivial⟩ fun σ => ?_
          refine greg ?_
          refine gop (y_move (v := .slice (some _) _ _) rfl) rfl rfl rfl ?_
          refine gop (y_assign (v := .slice (some _) _ _) rfl) rfl rfl rfl ?_
          refine gops_nil ?_
          refine hN8 _ _ ?_
          refine gfrom [(0, .string _), (1, .string _), (5, .slice (some _) _ _), (6, .int _ _)] ⟨rfl, rfl, rfl, rfl, trivial⟩ fun σ => ?_
          refine greg ?_
          refine gop (y_move (v := .int _ _) rfl) rfl rfl rfl ?_
          refine gop (y_add rfl rfl ⟨by omega, by omega⟩) rfl rfl rfl ?_
          refine gop (y_assign (v := .int _ _) rfl) rfl rfl rfl ?_
          refine gops_nil ?_
          rw [show k = s.size + 1 by omega, dpPart_full]
          refine fin_mem _ (weak_perm (List.Perm.swap _ _ _)) ?_
          refine gnext2 ((i + 1, b24)) (by show p.size - (i + 1) < p.size - i; omega) (show i + 1 ≤ _ by omega) ⟨rfl, rfl, trivial⟩ ⟨rfl, rfl, trivial⟩ ⟨_, rfl⟩
    · 
      replace hc18 := of_decide_eq_false hc18
      obtain rfl : i = p.size := by omega
      refine gexit ?_
      refine hN4 _ _ ?_
      refine gfrom [(1, .string _), (5, .slice (some ⟨g, 0, none⟩) _ _)] ⟨rfl, rfl, trivial⟩ fun σ => ?_
      refine gseq fun N16 hN16 => ?_
      refine greg ?_
      refine gop (y_move (v := .slice (some ⟨g, 0, none⟩) _ _) rfl) rfl rfl rfl ?_
      refine gop (y_move (v := .string _) rfl) rfl rfl rfl ?_
      refine gop (y_lens Tryz.underlying9 rfl) rfl rfl rfl ?_
      refine gop (y_indexAddr (m := s.size) Tryz.underlying46 Tryz.sizeOf4 rfl rfl (by omega) (by omega) (by omega)) rfl rfl rfl ?_
      refine gop (y_load Tryz.isAgg4 rfl (cells_rowl 0 (f := boolCells) (l := dpRow s.size (dp (starP p) (charP p s) p.size)) rfl (dpRow_len _ _).symm (fun _ => rfl) (dpRow_get (Nat.le_refl _)) 0 _ rfl)) rfl rfl rfl ?_
      refine gop (y_assign (v := .bool _) rfl) rfl rfl rfl ?_
      refine gops_nil ?_
      refine hN16 _ _ ?_
      refine gfrom [(4, .bool _)] ⟨rfl, trivial⟩ fun σ => ?_
      refine gret fun w1 hM => ?_
      refine ⟨_, res1 rfl (rt (v := .bool _) rfl), ?_⟩
      exact ⟨by rw [dp_name], hM.low⟩
set_option maxHeartbeats 4000000 in
theorem refMatches_any (w : World) (p s : ByteArray) (hp : p.size ≤ 4000000) (hs : s.size ≤ 4000000) : Calls Tryz.prog 50 #[.string p, .string s] w fun e w' => e = .returned (.bool (wk (cutS p) (cutS s))) ∧ Below w.heap.size w w' := by
  have hc1 := cutS_len p
  have hc2 := cutS_len s
  refine gcalls Tryz.func50 rfl Tryz.ntmps50 (Nat.le_of_ble_eq_true rfl) ?_
  refine gfrom [(0, .string _), (1, .string _)] ⟨rfl, rfl, trivial⟩ fun σ => ?_
  refine gseq fun N1 hN1 => ?_
  refine greg ?_
  refine gop (y_assign (v := .bool _) rfl) rfl rfl rfl ?_
  refine gops_nil ?_
  refine hN1 _ _ ?_
  refine gfrom [(0, .string _), (1, .string _)] ⟨rfl, rfl, trivial⟩ fun σ => ?_
  refine gseq fun N2 hN2 => ?_
  refine greg ?_
  refine gop (y_move (v := .string _) rfl) rfl rfl rfl ?_
  refine gop_got (fun v T' => ∃ lo, w.heap.size ≤ lo ∧ T' = [rowl strCells lo 9 1 v (cutS p)]) (e_call (vs := [.string _]) Tryz.func79 rfl (by kernel_rfl) rfl) (fun w hM => (cut_any w p hp).mono fun _ _ ⟨v, T1, h1, h2, h3⟩ => ⟨v, T1, h1, ⟨_, hM.low.size, h2⟩, h3⟩) rfl rfl rfl ?_
  rintro v12 _ ⟨lo12, hlo12, rfl⟩
  refine gops_fact (fun w hM => row_form (hM.ok _ (List.mem_of_getElem? (i := 0) rfl))) ?_
  rintro ⟨A12, c12, rfl, hc12, hm12, hn12⟩
  refine gops_fact (fun w hM => own_some (hM.own 0 rfl) (cutS_pos p)) ?_
  rintro ⟨rg0, cg0, hvg, -, -⟩
  simp only [Value.slice.injEq] at hvg
  obtain ⟨rfl, -, rfl⟩ := hvg
  refine gop (y_assign (v := .slice (some ⟨rg0, 0, none⟩) _ _) rfl) rfl rfl rfl ?_
  refine gops_nil ?_
  refine hN2 _ _ ?_
  refine gT [rowl _ _ _ _ _ _] rfl ?_
  refine gfrom [(1, .string _), (5, .slice (some ⟨rg0, 0, none⟩) _ _)] ⟨rfl, rfl, trivial⟩ fun σ => ?_
  refine gseq fun N3 hN3 => ?_
  refine greg ?_
  refine gop (y_move (v := .string _) rfl) rfl rfl rfl ?_
  refine gop_got (fun v T' => ∃ lo, w.heap.size ≤ lo ∧ T' = [rowl strCells lo 9 1 v (cutS s)]) (e_call (vs := [.string _]) Tryz.func79 rfl (by kernel_rfl) rfl) (fun w hM => (cut_any w s hs).mono fun _ _ ⟨v, T1, h1, h2, h3⟩ => ⟨v, T1, h1, ⟨_, hM.low.size, h2⟩, h3⟩) rfl rfl rfl ?_
  rintro v14 _ ⟨lo14, hlo14, rfl⟩
  refine gops_fact (fun w hM => row_form (hM.ok _ (List.mem_of_getElem? (i := 1) rfl))) ?_
  rintro ⟨A14, c14, rfl, hc14, hm14, hn14⟩
  refine gops_fact (fun w hM => own_some (hM.own 1 rfl) (cutS_pos s)) ?_
  rintro ⟨rg1, cg1, hvg, -, -⟩
  simp only [Value.slice.injEq] at hvg
  obtain ⟨rfl, -, rfl⟩ := hvg
  refine gop (y_assign (v := .slice (some ⟨rg1, 0, none⟩) _ _) rfl) rfl rfl rfl ?_
  refine gops_nil ?_
  refine hN3 _ _ ?_
  refine gT [rowl _ _ _ _ _ _, rowl _ _ _ _ _ _] rfl ?_
  refine gfrom [(5, .slice (some ⟨rg0, 0, none⟩) _ _), (6, .slice (some ⟨rg1, 0, none⟩) _ _)] ⟨rfl, rfl, trivial⟩ fun σ => ?_
  refine gseq fun N4 hN4 => ?_
  refine greg ?_
  refine gop (y_move (v := .slice (some ⟨rg1, 0, none⟩) _ _) rfl) rfl rfl rfl ?_
  refine gop (y_len Tryz.underlying22 rfl) rfl rfl rfl ?_
  refine gop (y_add rfl rfl ⟨by omega, by omega⟩) rfl rfl rfl ?_
  refine gop_make (f := boolCells) (bytes := 1) (z := .bool false) (false) Tryz.underlying46 (by kernel_rfl) rfl rfl rfl (k := (cutS s).length + 1) rfl rfl (by omega) (by simp [maxLen]; omega) rfl (fun b18 hb18 => ?_)
  refine gop (y_assign (v := .slice (some _) _ _) rfl) rfl rfl rfl ?_
  refine gops_nil ?_
  refine hN4 _ _ ?_
  refine gT [rowl _ _ _ _ _ _, rowl _ _ _ _ _ _, rowl _ _ _ _ _ _] rfl ?_
  refine gfrom [(5, .slice (some ⟨rg0, 0, none⟩) _ _), (6, .slice (some ⟨rg1, 0, none⟩) _ _), (7, .slice (some _) _ _)] ⟨rfl, rfl, rfl, trivial⟩ fun σ => ?_
  refine gseq fun N5 hN5 => ?_
  refine greg ?_
  refine gop (y_move (v := .slice (some _) _ _) rfl) rfl rfl rfl ?_
  refine gop (y_indexAddr Tryz.underlying46 Tryz.sizeOf4 rfl rfl rfl (by omega) (by omega)) rfl rfl rfl ?_
  refine gop_store_row 2 (f := boolCells) (l := List.replicate ((cutS s).length + 1) false) (k := 0) (o := 0) (v := .bool _) (a := false) (a' := true) (fun _ => rfl) rfl rfl rfl Tryz.sizeOf4 rfl rfl rfl rfl (by simp) (by simp) (Nat.le_of_ble_eq_true rfl) rfl rfl ?_
  refine gops_nil ?_
  refine hN5 _ _ ?_
  refine gT [rowl _ _ _ _ _ _, rowl _ _ _ _ _ _, rowl _ _ _ _ _ _] rfl ?_
  refine gfrom [(5, .slice (some ⟨rg0, 0, none⟩) _ _), (6, .slice (some ⟨rg1, 0, none⟩) _ _), (7, .slice (some _) _ _)] ⟨rfl, rfl, rfl, trivial⟩ fun σ => ?_
  refine gseq fun N6 hN6 => ?_
  refine gseq fun N7 hN7 => ?_
  refine greg ?_
  refine gop (y_assign (v := .int _ _) rfl) rfl rfl rfl ?_
  refine gops_nil ?_
  refine hN7 _ _ ?_
  refine gfrom [(5, .slice (some ⟨rg0, 0, none⟩) _ _), (6, .slice (some ⟨rg1, 0, none⟩) _ _), (7, .slice (some _) _ _), (8, .int _ _)] ⟨rfl, rfl, rfl, rfl, trivial⟩ fun σ => ?_
  refine gblock ?_
  rw [dp_first (cutS s).length (starW2 (cutS p)) (charW (cutS p) (cutS s))]
  refine gfrom2 [(7, .slice (some _) _ _), (8, .int _ _)] [(5, .slice (some ⟨rg0, 0, none⟩) _ _), (6, .slice (some ⟨rg1, 0, none⟩) _ _)] ⟨rfl, rfl, trivial⟩ ⟨rfl, rfl, trivial⟩ fun σ => ?_
  refine gloop2 (G := Nat × Nat) (fun (i, g) => i ≤ (cutS p).length) (fun (i, g) => (cutS p).length - i) (fun (i, g) => [(7, .slice (some ⟨g, 0, none⟩) ((cutS s).length + 1) ((cutS s).length + 1)), (8, .int .i64 (i : Int))]) (fun (i, g) => [(2, rowl boolCells w.heap.size 4 1 (.slice (some ⟨g, 0, none⟩) ((cutS s).length + 1) ((cutS s).length + 1)) (dpRow (cutS s).length (dp (starW2 (cutS p)) (charW (cutS p) (cutS s)) i)))]) ((0, b18)) ?h0 ⟨rfl, rfl, trivial⟩ ⟨rfl, rfl, trivial⟩ rfl ?round
  case h0 => exact Nat.zero_le _
  case round =>
    rintro ⟨i, g⟩ hφ σ
    have hi : i ≤ (cutS p).length := hφ
    refine gT [rowl _ _ _ _ _ _, rowl _ _ _ _ _ _, rowl _ _ _ _ _ _] rfl ?_
    refine gseq fun N8 hN8 => ?_
    refine gseq fun N9 hN9 => ?_
    refine greg ?_
    refine gop (y_move (v := .int _ _) rfl) rfl rfl rfl ?_
    refine gop (y_move (v := .slice (some ⟨rg0, 0, none⟩) _ _) rfl) rfl rfl rfl ?_
    refine gop (y_len Tryz.underlying22 rfl) rfl rfl rfl ?_
    refine gop (y_lss rfl rfl) rfl rfl rfl ?_
    refine gops_nil ?_
    refine hN9 _ _ ?_
    refine gfrom [(5, .slice (some ⟨rg0, 0, none⟩) _ _), (6, .slice (some ⟨rg1, 0, none⟩) _ _), (7, .slice (some ⟨g, 0, none⟩) _ _), (8, .int _ _), (24, .bool _)] ⟨rfl, rfl, rfl, rfl, rfl, trivial⟩ fun σ => ?_
    refine gcond (b := _) rfl (fun hc24 => ?_) (fun hc24 => ?_)
    · 
      replace hc24 := of_decide_eq_true hc24
      have hi1 : i < (cutS p).length := by omega
      refine gskip ?_
      refine hN8 _ _ ?_
      refine gfrom [(5, .slice (some ⟨rg0, 0, none⟩) _ _), (6, .slice (some ⟨rg1, 0, none⟩) _ _), (7, .slice (some ⟨g, 0, none⟩) _ _), (8, .int _ _)] ⟨rfl, rfl, rfl, rfl, trivial⟩ fun σ => ?_
      refine gseq fun N10 hN10 => ?_
      refine gblock ?_
      refine gseq fun N11 hN11 => ?_
      refine greg ?_
      refine gop (y_move (v := .slice (some ⟨rg1, 0, none⟩) _ _) rfl) rfl rfl rfl ?_
      refine gop (y_len Tryz.underlying22 rfl) rfl rfl rfl ?_
      refine gop (y_add rfl rfl ⟨by omega, by omega⟩) rfl rfl rfl ?_
      refine gop_make (f := boolCells) (bytes := 1) (z := .bool false) (false) Tryz.underlying46 (by kernel_rfl) rfl rfl rfl (k := (cutS s).length + 1) rfl rfl (by omega) (by simp [maxLen]; omega) rfl (fun b30 hb30 => ?_)
      refine gop (y_assign (v := .slice (some _) _ _) rfl) rfl rfl rfl ?_
      refine gops_nil ?_
      refine hN11 _ _ ?_
      refine gT [rowl _ _ _ _ _ _, rowl _ _ _ _ _ _, rowl _ _ _ _ _ _, rowl _ _ _ _ _ _] rfl ?_
      refine gfrom [(5, .slice (some ⟨rg0, 0, none⟩) _ _), (6, .slice (some ⟨rg1, 0, none⟩) _ _), (7, .slice (some ⟨g, 0, none⟩) _ _), (8, .int _ _), (9, .slice (some _) _ _)] ⟨rfl, rfl, rfl, rfl, rfl, trivial⟩ fun σ => ?_
      refine gseq fun N12 hN12 => ?_
      refine gseq fun N13 hN13 => ?_
      refine greg ?_
      refine gop (y_assign (v := .int _ _) rfl) rfl rfl rfl ?_
      refine gops_nil ?_
      refine hN13 _ _ ?_
      refine gfrom [(5, .slice (some ⟨rg0, 0, none⟩) _ _), (6, .slice (some ⟨rg1, 0, none⟩) _ _), (7, .slice (some ⟨g, 0, none⟩) _ _), (8, .int _ _), (9, .slice (some _) _ _), (10, .int _ _)] ⟨rfl, rfl, rfl, rfl, rfl, rfl, trivial⟩ fun σ => ?_
      refine gblock ?_
      rw [← dpPart_zero (cutS s).length (dp (starW2 (cutS p)) (charW (cutS p) (cutS s)) (i + 1))]
      refine gfrom2 [(10, .int _ _)] [(5, .slice (some ⟨rg0, 0, none⟩) _ _), (6, .slice (some ⟨rg1, 0, none⟩) _ _), (7, .slice (some ⟨g, 0, none⟩) _ _), (8, .int _ _), (9, .slice (some _) _ _)] ⟨rfl, trivial⟩ ⟨rfl, rfl, rfl, rfl, rfl, trivial⟩ fun σ => ?_
      refine gloop2 (G := Nat) (fun k => k ≤ (cutS s).length + 1) (fun k => (cutS s).length + 1 - k) (fun k => [(10, .int .i64 (k : Int))]) (fun k => [(3, rowl boolCells w.heap.size 4 1 (.slice (some ⟨b30, 0, none⟩) ((cutS s).length + 1) ((cutS s).length + 1)) (dpPart (cutS s).length k (dp (starW2 (cutS p)) (charW (cutS p) (cutS s)) (i + 1))))]) (0) ?h0 ⟨rfl, trivial⟩ ⟨rfl, rfl, rfl, rfl, rfl, trivial⟩ rfl ?round
      case h0 => exact Nat.zero_le _
      case round =>
        intro k hφ σ
        have hk : k ≤ (cutS s).length + 1 := hφ
        refine gT [rowl _ _ _ _ _ _, rowl _ _ _ _ _ _, rowl _ _ _ _ _ _, rowl _ _ _ _ _ _] rfl ?_
        refine gseq fun N14 hN14 => ?_
        refine gseq fun N15 hN15 => ?_
        refine greg ?_
        refine gop (y_move (v := .int _ _) rfl) rfl rfl rfl ?_
        refine gop (y_move (v := .slice (some ⟨rg1, 0, none⟩) _ _) rfl) rfl rfl rfl ?_
        refine gop (y_len Tryz.underlying22 rfl) rfl rfl rfl ?_
        refine gop (y_leq rfl rfl) rfl rfl rfl ?_
        refine gops_nil ?_
        refine hN15 _ _ ?_
        refine gfrom [(5, .slice (some ⟨rg0, 0, none⟩) _ _), (6, .slice (some ⟨rg1, 0, none⟩) _ _), (7, .slice (some ⟨g, 0, none⟩) _ _), (8, .int _ _), (9, .slice (some _) _ _), (10, .int _ _), (34, .bool _)] ⟨rfl, rfl, rfl, rfl, rfl, rfl, rfl, trivial⟩ fun σ => ?_
        refine gcond (b := _) rfl (fun hc34 => ?_) (fun hc34 => ?_)
        · 
          replace hc34 := of_decide_eq_true hc34
          refine gskip ?_
          refine hN14 _ _ ?_
          refine gfrom [(5, .slice (some ⟨rg0, 0, none⟩) _ _), (6, .slice (some ⟨rg1, 0, none⟩) _ _), (7, .slice (some ⟨g, 0, none⟩) _ _), (8, .int _ _), (9, .slice (some _) _ _), (10, .int _ _)] ⟨rfl, rfl, rfl, rfl, rfl, rfl, trivial⟩ fun σ => ?_
          refine gseq fun N16 hN16 => ?_
          refine gblock ?_
          refine gseq fun N17 hN17 => ?_
          refine greg ?_
          refine gop (y_move (v := .slice (some ⟨rg0, 0, none⟩) _ _) rfl) rfl rfl rfl ?_
          refine gop (y_move (v := .int _ _) rfl) rfl rfl rfl ?_
          refine gop (y_indexAddr (m := i) Tryz.underlying22 Tryz.sizeOf9 rfl rfl (by omega) (by omega) (by omega)) rfl rfl rfl ?_
          refine gop (y_load Tryz.isAgg9 rfl (cells_rowl 0 (f := strCells) (l := cutS p) rfl rfl (fun _ => rfl) (List.getElem?_eq_getElem hi1) 0 _ rfl)) rfl rfl rfl ?_
          refine gop (y_eqls rfl rfl) rfl rfl rfl ?_
          refine gops_nil ?_
          refine hN17 _ _ ?_
          refine gfrom [(5, .slice (some ⟨rg0, 0, none⟩) _ _), (6, .slice (some ⟨rg1, 0, none⟩) _ _), (7, .slice (some ⟨g, 0, none⟩) _ _), (8, .int _ _), (9, .slice (some _) _ _), (10, .int _ _), (41, .bool _)] ⟨rfl, rfl, rfl, rfl, rfl, rfl, rfl, trivial⟩ fun σ => ?_
          refine gcond (b := _) rfl (fun hc41 => ?_) (fun hc41 => ?_)
          · 
            have hst : starW2 (cutS p) i = true := by rw [starW2_at hi1]; exact hc41
            refine greg ?_
            refine gop (y_move (v := .slice (some _) _ _) rfl) rfl rfl rfl ?_
            refine gop (y_move (v := .int _ _) rfl) rfl rfl rfl ?_
            refine gop (y_move (v := .slice (some ⟨g, 0, none⟩) _ _) rfl) rfl rfl rfl ?_
            refine gop (y_move (v := .int _ _) rfl) rfl rfl rfl ?_
            refine gop (y_indexAddr (m := k) Tryz.underlying46 Tryz.sizeOf4 rfl rfl (by omega) (by omega) (by omega)) rfl rfl rfl ?_
            refine gop (y_load Tryz.isAgg4 rfl (cells_rowl 2 (f := boolCells) (l := dpRow (cutS s).length (dp (starW2 (cutS p)) (charW (cutS p) (cutS s)) i)) rfl (dpRow_len _ _).symm (fun _ => rfl) (dpRow_get (by omega)) 0 _ rfl)) rfl rfl rfl ?_
            refine gop (y_move (v := .bool _) rfl) rfl rfl rfl ?_
            refine gop_if (want := false) rfl rfl rfl rfl rfl rfl (fun hg48 => ?_) (fun hg48 => ?_)
            · 
              have hg48d := hg48
              refine gop (y_bare (y_move (v := .int _ _) rfl)) rfl rfl rfl ?_
              refine gop_on rfl rfl rfl rfl hg48 ?_
              refine gop (y_bare (y_gtr rfl rfl)) rfl rfl rfl ?_
              refine gop_on rfl rfl rfl rfl hg48 ?_
              refine gop (y_bare (y_move (v := .bool _) rfl)) rfl rfl rfl ?_
              refine gop_if (want := true) rfl rfl rfl rfl rfl rfl (fun hg51 => ?_) (fun hg51 => ?_)
              · 
                have hg51d := of_decide_eq_true hg51
                refine gop (y_bare (y_move (v := .slice (some _) _ _) rfl)) rfl rfl rfl ?_
                refine gop_on rfl rfl rfl rfl hg51 ?_
                refine gop (y_bare (y_move (v := .int _ _) rfl)) rfl rfl rfl ?_
                refine gop_on rfl rfl rfl rfl hg51 ?_
                refine gop (y_bare (y_sub rfl rfl ⟨by omega, by omega⟩)) rfl rfl rfl ?_
                refine gop_on rfl rfl rfl rfl hg51 ?_
                refine gop (y_bare (y_indexAddr (m := k - 1) Tryz.underlying46 Tryz.sizeOf4 rfl rfl (by omega) (by omega) (by omega))) rfl rfl rfl ?_
                refine gop_on rfl rfl rfl rfl hg51 ?_
                refine gop (y_bare (y_load Tryz.isAgg4 rfl (cells_rowl 3 (f := boolCells) (l := dpPart (cutS s).length k (dp (starW2 (cutS p)) (charW (cutS p) (cutS s)) (i + 1))) rfl (dpPart_len _ _ _).symm (fun _ => rfl) (dpPart_get (by omega) (by omega)) 0 _ rfl))) rfl rfl rfl ?_
                refine gop_on rfl rfl rfl rfl hg48 ?_
                refine gop (y_bare (y_pick_t (v := .bool _) rfl hg51 rfl)) rfl rfl rfl ?_
                refine gop (y_pick_f (v := .bool _) rfl hg48 rfl) rfl rfl rfl ?_
                refine gop (y_indexAddr (m := k) Tryz.underlying46 Tryz.sizeOf4 rfl rfl (by omega) (by omega) (by omega)) rfl rfl rfl ?_
                refine gop_store_row 3 (f := boolCells) (l := dpPart (cutS s).length k (dp (starW2 (cutS p)) (charW (cutS p) (cutS s)) (i + 1))) (k := k) (o := 0) (v := .bool _) (a := false) (a' := _) (fun _ => rfl) rfl rfl rfl Tryz.sizeOf4 rfl rfl rfl rfl (dpPart_len _ _ _).symm (dpPart_at (by omega)) (Nat.le_of_ble_eq_true rfl) rfl rfl ?_
                refine gops_nil ?_
                refine hN16 _ _ ?_
                refine gT [rowl _ _ _ _ _ _, rowl _ _ _ _ _ _, rowl _ _ _ _ _ _, rowl _ _ _ _ _ _] rfl ?_
                refine gfrom [(5, .slice (some ⟨rg0, 0, none⟩) _ _), (6, .slice (some ⟨rg1, 0, none⟩) _ _), (7, .slice (some ⟨g, 0, none⟩) _ _), (8, .int _ _), (9, .slice (some _) _ _), (10, .int _ _)] ⟨rfl, rfl, rfl, rfl, rfl, rfl, trivial⟩ fun σ => ?_
                refine greg ?_
                refine gop (y_move (v := .int _ _) rfl) rfl rfl rfl ?_
                refine gop (y_add rfl rfl ⟨by omega, by omega⟩) rfl rfl rfl ?_
                refine gop (y_assign (v := .int _ _) rfl) rfl rfl rfl ?_
                refine gops_nil ?_
                rw [dpPart_put (f := (dp (starW2 (cutS p)) (charW (cutS p) (cutS s)) (i + 1))) (by omega) (dp_more hst hg48d (by omega))]
                refine gnext2 (k + 1) (by omega) (show k + 1 ≤ _ by omega) ⟨rfl, trivial⟩ ⟨rfl, rfl, rfl, rfl, rfl, trivial⟩ ⟨_, rfl⟩
              · 
                have hg51d := of_decide_eq_false hg51
                refine gop_off rfl rfl rfl rfl hg51 rfl rfl ?_
                refine gop_off rfl rfl rfl rfl hg51 rfl rfl ?_
                refine gop_off rfl rfl rfl rfl hg51 rfl rfl ?_
                refine gop_off rfl rfl rfl rfl hg51 rfl rfl ?_
                refine gop_on rfl rfl rfl rfl hg48 ?_
                refine gop (y_bare (y_pick_f (v := .bool _) rfl hg51 rfl)) rfl rfl rfl ?_
                refine gop (y_pick_f (v := .bool _) rfl hg48 rfl) rfl rfl rfl ?_
                refine gop (y_indexAddr (m := k) Tryz.underlying46 Tryz.sizeOf4 rfl rfl (by omega) (by omega) (by omega)) rfl rfl rfl ?_
                refine gop_store_row 3 (f := boolCells) (l := dpPart (cutS s).length k (dp (starW2 (cutS p)) (charW (cutS p) (cutS s)) (i + 1))) (k := k) (o := 0) (v := .bool _) (a := false) (a' := _) (fun _ => rfl) rfl rfl rfl Tryz.sizeOf4 rfl rfl rfl rfl (dpPart_len _ _ _).symm (dpPart_at (by omega)) (Nat.le_of_ble_eq_true rfl) rfl rfl ?_
                refine gops_nil ?_
                refine hN16 _ _ ?_
                refine gT [rowl _ _ _ _ _ _, rowl _ _ _ _ _ _, rowl _ _ _ _ _ _, rowl _ _ _ _ _ _] rfl ?_
                refine gfrom [(5, .slice (some ⟨rg0, 0, none⟩) _ _), (6, .slice (some ⟨rg1, 0, none⟩) _ _), (7, .slice (some ⟨g, 0, none⟩) _ _), (8, .int _ _), (9, .slice (some _) _ _), (10, .int _ _)] ⟨rfl, rfl, rfl, rfl, rfl, rfl, trivial⟩ fun σ => ?_
                refine greg ?_
                refine gop (y_move (v := .int _ _) rfl) rfl rfl rfl ?_
                refine gop (y_add rfl rfl ⟨by omega, by omega⟩) rfl rfl rfl ?_
                refine gop (y_assign (v := .int _ _) rfl) rfl rfl rfl ?_
                refine gops_nil ?_
                rw [dpPart_put (f := (dp (starW2 (cutS p)) (charW (cutS p) (cutS s)) (i + 1))) (by omega) (dp_no hst hg48d (by omega))]
                refine gnext2 (k + 1) (by omega) (show k + 1 ≤ _ by omega) ⟨rfl, trivial⟩ ⟨rfl, rfl, rfl, rfl, rfl, trivial⟩ ⟨_, rfl⟩
            · 
              have hg48d := hg48
              refine gop_off rfl rfl rfl rfl hg48 rfl rfl ?_
              refine gop_off rfl rfl rfl rfl hg48 rfl rfl ?_
              refine gop_offu rfl rfl rfl rfl rfl rfl ?_
              refine gop_offu rfl rfl rfl rfl rfl rfl ?_
              refine gop_offu rfl rfl rfl rfl rfl rfl ?_
              refine gop_offu rfl rfl rfl rfl rfl rfl ?_
              refine gop_offu rfl rfl rfl rfl rfl rfl ?_
              refine gop_off rfl rfl rfl rfl hg48 rfl rfl ?_
              refine gop (y_pick_t (v := .bool _) rfl hg48 rfl) rfl rfl rfl ?_
              refine gop (y_indexAddr (m := k) Tryz.underlying46 Tryz.sizeOf4 rfl rfl (by omega) (by omega) (by omega)) rfl rfl rfl ?_
              refine gop_store_row 3 (f := boolCells) (l := dpPart (cutS s).length k (dp (starW2 (cutS p)) (charW (cutS p) (cutS s)) (i + 1))) (k := k) (o := 0) (v := .bool _) (a := false) (a' := _) (fun _ => rfl) rfl rfl rfl Tryz.sizeOf4 rfl rfl rfl rfl (dpPart_len _ _ _).symm (dpPart_at (by omega)) (Nat.le_of_ble_eq_true rfl) rfl rfl ?_
              refine gops_nil ?_
              refine hN16 _ _ ?_
              refine gT [rowl _ _ _ _ _ _, rowl _ _ _ _ _ _, rowl _ _ _ _ _ _, rowl _ _ _ _ _ _] rfl ?_
              refine gfrom [(5, .slice (some ⟨rg0, 0, none⟩) _ _), (6, .slice (some ⟨rg1, 0, none⟩) _ _), (7, .slice (some ⟨g, 0, none⟩) _ _), (8, .int _ _), (9, .slice (some _) _ _), (10, .int _ _)] ⟨rfl, rfl, rfl, rfl, rfl, rfl, trivial⟩ fun σ => ?_
              refine greg ?_
              refine gop (y_move (v := .int _ _) rfl) rfl rfl rfl ?_
              refine gop (y_add rfl rfl ⟨by omega, by omega⟩) rfl rfl rfl ?_
              refine gop (y_assign (v := .int _ _) rfl) rfl rfl rfl ?_
              refine gops_nil ?_
              rw [dpPart_put (f := (dp (starW2 (cutS p)) (charW (cutS p) (cutS s)) (i + 1))) (by omega) (dp_yes hst hg48d)]
              refine gnext2 (k + 1) (by omega) (show k + 1 ≤ _ by omega) ⟨rfl, trivial⟩ ⟨rfl, rfl, rfl, rfl, rfl, trivial⟩ ⟨_, rfl⟩
          · 
            have hst : starW2 (cutS p) i = false := by rw [starW2_at hi1]; exact hc41
            refine greg_e0 [24] (by kernel_rfl) ?_
            refine ge_take 0 (TK := [rowl _ _ _ _ _ _, rowl _ _ _ _ _ _, rowl _ _ _ _ _ _, rowl _ _ _ _ _ _]) rfl (by kernel_rfl) (by kernel_rfl) (by kernel_rfl) #[false, true, true, true, true, true, true, true, true, true, true, true, true, true, true, true, true, true, true, true, true, true, true, false, false] (by kernel_rfl) rfl (y_move (v := .slice (some _) _ _) rfl) rfl rfl rfl (weak_refl) (listed' := #[true, false, false, false, false, false, false, false, false, false, false, false, false, false, false, false, false, false, false, false, false, false, false, false, false]) rfl ?_
            refine ge_take 1 (TK := [rowl _ _ _ _ _ _, rowl _ _ _ _ _ _, rowl _ _ _ _ _ _, rowl _ _ _ _ _ _]) rfl (by kernel_rfl) (by kernel_rfl) (by kernel_rfl) #[true, false, true, true, true, true, true, true, true, true, true, true, true, true, true, true, true, true, true, true, true, true, true, false, false] (by kernel_rfl) rfl (y_move (v := .int _ _) rfl) rfl rfl rfl (weak_refl) (listed' := #[true, true, false, false, false, false, false, false, false, false, false, false, false, false, false, false, false, false, false, false, false, false, false, false, false]) rfl ?_
            refine ge_take 2 (TK := [rowl _ _ _ _ _ _, rowl _ _ _ _ _ _, rowl _ _ _ _ _ _, rowl _ _ _ _ _ _]) rfl (by kernel_rfl) (by kernel_rfl) (by kernel_rfl) #[true, true, false, false, false, false, false, false, false, false, false, false, false, false, false, false, false, false, false, false, false, false, false, false, false] (by kernel_rfl) rfl (y_move (v := .int _ _) rfl) rfl rfl rfl (weak_refl) (listed' := #[true, true, true, false, false, false, false, false, false, false, false, false, false, false, false, false, false, false, false, false, false, false, false, false, false]) rfl ?_
            refine ge_take 3 (TK := [rowl _ _ _ _ _ _, rowl _ _ _ _ _ _, rowl _ _ _ _ _ _, rowl _ _ _ _ _ _]) rfl (by kernel_rfl) (by kernel_rfl) (by kernel_rfl) #[true, true, true, false, false, false, false, false, false, false, false, false, false, false, false, false, false, false, false, false, false, false, false, false, false] (by kernel_rfl) rfl (y_gtr rfl rfl) rfl rfl rfl (weak_refl) (listed' := #[true, true, true, true, false, false, false, false, false, false, false, false, false, false, false, false, false, false, false, false, false, false, false, false, false]) rfl ?_
            refine ge_take 4 (TK := [rowl _ _ _ _ _ _, rowl _ _ _ _ _ _, rowl _ _ _ _ _ _, rowl _ _ _ _ _ _]) rfl (by kernel_rfl) (by kernel_rfl) (by kernel_rfl) #[true, true, true, true, false, false, false, false, false, false, false, false, false, false, false, false, false, false, false, false, false, false, false, false, false] (by kernel_rfl) rfl (y_move (v := .bool _) rfl) rfl rfl rfl (weak_refl) (listed' := #[true, true, true, true, true, false, false, false, false, false, false, false, false, false, false, false, false, false, false, false, false, false, false, false, false]) rfl ?_
            refine ge_dec 64 true rfl (fun hg64 => ?_) (fun hg64 => ?_)
            · 
              have hg64d := of_decide_eq_true hg64
              refine ge_take_on 5 (TK := [rowl _ _ _ _ _ _, rowl _ _ _ _ _ _, rowl _ _ _ _ _ _, rowl _ _ _ _ _ _]) rfl (by kernel_rfl) (by kernel_rfl) (by kernel_rfl) #[true, true, true, true, true, false, true, true, false, false, false, false, false, false, false, false, false, false, false, false, false, false, false, false, false] (by kernel_rfl) rfl rfl rfl rfl rfl hg64 (y_bare (y_move (v := .slice (some ⟨g, 0, none⟩) _ _) rfl)) rfl rfl (weak_refl) (listed' := #[true, true, true, true, true, true, false, false, false, false, false, false, false, false, false, false, false, false, false, false, false, false, false, false, false]) rfl ?_
              refine ge_take_on 6 (TK := [rowl _ _ _ _ _ _, rowl _ _ _ _ _ _, rowl _ _ _ _ _ _, rowl _ _ _ _ _ _]) rfl (by kernel_rfl) (by kernel_rfl) (by kernel_rfl) #[true, true, true, true, true, true, false, false, false, false, false, false, false, false, false, false, false, false, false, false, false, false, false, false, false] (by kernel_rfl) rfl rfl rfl rfl rfl hg64 (y_bare (y_move (v := .int _ _) rfl)) rfl rfl (weak_refl) (listed' := #[true, true, true, true, true, true, true, false, false, false, false, false, false, false, false, false, false, false, false, false, false, false, false, false, false]) rfl ?_
              refine ge_take_on 7 (TK := [rowl _ _ _ _ _ _, rowl _ _ _ _ _ _, rowl _ _ _ _ _ _, rowl _ _ _ _ _ _]) rfl (by kernel_rfl) (by kernel_rfl) (by kernel_rfl) #[true, true, true, true, true, true, true, false, false, false, false, false, false, false, false, false, false, false, false, false, false, false, false, false, false] (by kernel_rfl) rfl rfl rfl rfl rfl hg64 (y_bare (y_sub rfl rfl ⟨by omega, by omega⟩)) rfl rfl (weak_refl) (listed' := #[true, true, true, true, true, true, true, true, false, false, false, false, false, false, false, false, false, false, false, false, false, false, false, false, false]) rfl ?_
              refine ge_take_on 8 (TK := [rowl _ _ _ _ _ _, rowl _ _ _ _ _ _, rowl _ _ _ _ _ _, rowl _ _ _ _ _ _]) rfl (by kernel_rfl) (by kernel_rfl) (by kernel_rfl) #[true, true, true, true, true, true, true, true, false, false, false, false, false, false, false, false, false, false, false, false, false, false, false, false, false] (by kernel_rfl) rfl rfl rfl rfl rfl hg64 (y_bare (y_indexAddr (m := k - 1) Tryz.underlying46 Tryz.sizeOf4 rfl rfl (by omega) (by omega) (by omega))) rfl rfl (weak_refl) (listed' := #[true, true, true, true, true, true, true, true, true, false, false, false, false, false, false, false, false, false, false, false, false, false, false, false, false]) rfl ?_
              refine ge_take_on 9 (TK := [rowl _ _ _ _ _ _, rowl _ _ _ _ _ _, rowl _ _ _ _ _ _, rowl _ _ _ _ _ _]) rfl (by kernel_rfl) (by kernel_rfl) (by kernel_rfl) #[true, true, true, true, true, true, true, true, true, false, false, false, false, false, false, false, false, false, false, false, false, false, false, false, false] (by kernel_rfl) rfl rfl rfl rfl rfl hg64 (y_bare (y_load Tryz.isAgg4 rfl (cells_rowl 2 (f := boolCells) (l := dpRow (cutS s).length (dp (starW2 (cutS p)) (charW (cutS p) (cutS s)) i)) rfl (dpRow_len _ _).symm (fun _ => rfl) (dpRow_get (by omega)) 0 _ rfl))) rfl rfl (weak_refl) (listed' := #[true, true, true, true, true, true, true, true, true, true, false, false, false, false, false, false, false, false, false, false, false, false, false, false, false]) rfl ?_
              refine ge_take 10 (TK := [rowl _ _ _ _ _ _, rowl _ _ _ _ _ _, rowl _ _ _ _ _ _, rowl _ _ _ _ _ _]) rfl (by kernel_rfl) (by kernel_rfl) (by kernel_rfl) #[true, true, true, true, true, true, true, true, true, true, false, false, false, false, false, false, false, false, false, false, false, false, false, false, false] (by kernel_rfl) rfl (y_pick_t (v := .bool _) rfl hg64 rfl) rfl rfl rfl (weak_refl) (listed' := #[true, true, true, true, true, true, true, true, true, true, true, false, false, false, false, false, false, false, false, false, false, false, false, false, false]) rfl ?_
              refine ge_take 11 (TK := [rowl _ _ _ _ _ _, rowl _ _ _ _ _ _, rowl _ _ _ _ _ _, rowl _ _ _ _ _ _]) rfl (by kernel_rfl) (by kernel_rfl) (by kernel_rfl) #[true, true, true, true, true, true, true, true, true, true, true, false, false, false, false, false, false, false, false, false, false, false, false, false, false] (by kernel_rfl) rfl (y_move (v := .bool _) rfl) rfl rfl rfl (weak_refl) (listed' := #[true, true, true, true, true, true, true, true, true, true, true, true, false, false, false, false, false, false, false, false, false, false, false, false, false]) rfl ?_
              refine ge_dec 71 true rfl (fun hg71 => ?_) (fun hg71 => ?_)
              · 
                have hg71d := hg71
                refine ge_take_on 12 (TK := [rowl _ _ _ _ _ _, rowl _ _ _ _ _ _, rowl _ _ _ _ _ _, rowl _ _ _ _ _ _]) rfl (by kernel_rfl) (by kernel_rfl) (by kernel_rfl) #[true, true, true, true, true, true, true, true, true, true, true, true, false, true, false, false, true, true, true, true, true, false, false, false, false] (by kernel_rfl) rfl rfl rfl rfl rfl hg71 (y_bare (y_move (v := .slice (some ⟨rg0, 0, none⟩) _ _) rfl)) rfl rfl (weak_refl) (listed' := #[true, true, true, true, true, true, true, true, true, true, true, true, true, false, false, false, false, false, false, false, false, false, false, false, false]) rfl ?_
                refine ge_take_on 13 (TK := [rowl _ _ _ _ _ _, rowl _ _ _ _ _ _, rowl _ _ _ _ _ _, rowl _ _ _ _ _ _]) rfl (by kernel_rfl) (by kernel_rfl) (by kernel_rfl) #[true, true, true, true, true, true, true, true, true, true, true, true, true, false, false, false, true, true, true, true, true, false, false, false, false] (by kernel_rfl) rfl rfl rfl rfl rfl hg71 (y_bare (y_move (v := .int _ _) rfl)) rfl rfl (weak_refl) (listed' := #[true, true, true, true, true, true, true, true, true, true, true, true, true, true, false, false, false, false, false, false, false, false, false, false, false]) rfl ?_
                refine ge_take_on 14 (TK := [rowl _ _ _ _ _ _, rowl _ _ _ _ _ _, rowl _ _ _ _ _ _, rowl _ _ _ _ _ _]) rfl (by kernel_rfl) (by kernel_rfl) (by kernel_rfl) #[true, true, true, true, true, true, true, true, true, true, true, true, true, true, false, false, true, true, true, true, true, false, false, false, false] (by kernel_rfl) rfl rfl rfl rfl rfl hg71 (y_bare (y_indexAddr (m := i) Tryz.underlying22 Tryz.sizeOf9 rfl rfl (by omega) (by omega) (by omega))) rfl rfl (weak_refl) (listed' := #[true, true, true, true, true, true, true, true, true, true, true, true, true, true, true, false, false, false, false, false, false, false, false, false, false]) rfl ?_
                refine ge_take_on 15 (TK := [rowl _ _ _ _ _ _, rowl _ _ _ _ _ _, rowl _ _ _ _ _ _, rowl _ _ _ _ _ _]) rfl (by kernel_rfl) (by kernel_rfl) (by kernel_rfl) #[true, true, true, true, true, true, true, true, true, true, true, true, true, true, true, false, true, true, true, true, true, false, false, false, false] (by kernel_rfl) rfl rfl rfl rfl rfl hg71 (y_bare (y_load Tryz.isAgg9 rfl (cells_rowl 0 (f := strCells) (l := cutS p) rfl rfl (fun _ => rfl) (List.getElem?_eq_getElem hi1) 0 _ rfl))) rfl rfl (weak_refl) (listed' := #[true, true, true, true, true, true, true, true, true, true, true, true, true, true, true, true, false, false, false, false, false, false, false, false, false]) rfl ?_
                refine ge_take_on 16 (TK := [rowl _ _ _ _ _ _, rowl _ _ _ _ _ _, rowl _ _ _ _ _ _, rowl _ _ _ _ _ _]) rfl (by kernel_rfl) (by kernel_rfl) (by kernel_rfl) #[true, true, true, true, true, true, true, true, true, true, true, true, true, true, true, true, false, true, true, false, false, false, false, false, false] (by kernel_rfl) rfl rfl rfl rfl rfl hg71 (y_bare (y_move (v := .slice (some ⟨rg1, 0, none⟩) _ _) rfl)) rfl rfl (weak_refl) (listed' := #[true, true, true, true, true, true, true, true, true, true, true, true, true, true, true, true, true, false, false, false, false, false, false, false, false]) rfl ?_
                refine ge_take_on 17 (TK := [rowl _ _ _ _ _ _, rowl _ _ _ _ _ _, rowl _ _ _ _ _ _, rowl _ _ _ _ _ _]) rfl (by kernel_rfl) (by kernel_rfl) (by kernel_rfl) #[true, true, true, true, true, true, true, true, true, true, true, true, true, true, true, true, true, false, false, false, false, false, false, false, false] (by kernel_rfl) rfl rfl rfl rfl rfl hg71 (y_bare (y_move (v := .int _ _) rfl)) rfl rfl (weak_refl) (listed' := #[true, true, true, true, true, true, true, true, true, true, true, true, true, true, true, true, true, true, false, false, false, false, false, false, false]) rfl ?_
                refine ge_take_on 18 (TK := [rowl _ _ _ _ _ _, rowl _ _ _ _ _ _, rowl _ _ _ _ _ _, rowl _ _ _ _ _ _]) rfl (by kernel_rfl) (by kernel_rfl) (by kernel_rfl) #[true, true, true, true, true, true, true, true, true, true, true, true, true, true, true, true, true, true, false, false, false, false, false, false, false] (by kernel_rfl) rfl rfl rfl rfl rfl hg71 (y_bare (y_sub rfl rfl ⟨by omega, by omega⟩)) rfl rfl (weak_refl) (listed' := #[true, true, true, true, true, true, true, true, true, true, true, true, true, true, true, true, true, true, true, false, false, false, false, false, false]) rfl ?_
                refine ge_take_on 19 (TK := [rowl _ _ _ _ _ _, rowl _ _ _ _ _ _, rowl _ _ _ _ _ _, rowl _ _ _ _ _ _]) rfl (by kernel_rfl) (by kernel_rfl) (by kernel_rfl) #[true, true, true, true, true, true, true, true, true, true, true, true, true, true, true, true, true, true, true, false, false, false, false, false, false] (by kernel_rfl) rfl rfl rfl rfl rfl hg71 (y_bare (y_indexAddr (m := k - 1) Tryz.underlying22 Tryz.sizeOf9 rfl rfl (by omega) (by omega) (by omega))) rfl rfl (weak_refl) (listed' := #[true, true, true, true, true, true, true, true, true, true, true, true, true, true, true, true, true, true, true, true, false, false, false, false, false]) rfl ?_
                refine ge_take_on 20 (TK := [rowl _ _ _ _ _ _, rowl _ _ _ _ _ _, rowl _ _ _ _ _ _, rowl _ _ _ _ _ _]) rfl (by kernel_rfl) (by kernel_rfl) (by kernel_rfl) #[true, true, true, true, true, true, true, true, true, true, true, true, true, true, true, true, true, true, true, true, false, false, false, false, false] (by kernel_rfl) rfl rfl rfl rfl rfl hg71 (y_bare (y_load Tryz.isAgg9 rfl (cells_rowl 1 (f := strCells) (l := cutS s) rfl rfl (fun _ => rfl) (List.getElem?_eq_getElem (show k - 1 < (cutS s).length by omega)) 0 _ rfl))) rfl rfl (weak_refl) (listed' := #[true, true, true, true, true, true, true, true, true, true, true, true, true, true, true, true, true, true, true, true, true, false, false, false, false]) rfl ?_
                refine ge_one 21 (k' := 0) (listed' := #[true, true, true, true, true, true, true, true, true, true, true, true, true, true, true, true, true, true, true, true, true, true, false, false, false]) (by kernel_rfl) rfl rfl rfl ?_
                refine gop_on rfl rfl rfl rfl hg71 ?_
                refine gop_pure (e_call (vs := [.string _, .string _]) Tryz.func87 rfl (by kernel_rfl) rfl) (fun w hM => partMatches_any w _ _ (cutS_size (List.getElem_mem hi1) hp) (cutS_size (List.getElem_mem (show k - 1 < (cutS s).length by omega)) hs)) rfl rfl rfl ?_
                refine gops_nil ?_
                refine ge_fin (TK := [rowl _ _ _ _ _ _, rowl _ _ _ _ _ _, rowl _ _ _ _ _ _, rowl _ _ _ _ _ _]) rfl (weak_refl) ?_
                refine ge_take 22 (TK := [rowl _ _ _ _ _ _, rowl _ _ _ _ _ _, rowl _ _ _ _ _ _, rowl _ _ _ _ _ _]) rfl (by kernel_rfl) (by kernel_rfl) (by kernel_rfl) #[true, true, true, true, true, true, true, true, true, true, true, true, true, true, true, true, true, true, true, true, true, true, false, false, false] (by kernel_rfl) rfl (y_pick_t (v := .bool _) rfl hg71 rfl) rfl rfl rfl (weak_refl) (listed' := #[true, true, true, true, true, true, true, true, true, true, true, true, true, true, true, true, true, true, true, true, true, true, true, false, false]) rfl ?_
                refine ge_take 23 (TK := [rowl _ _ _ _ _ _, rowl _ _ _ _ _ _, rowl _ _ _ _ _ _, rowl _ _ _ _ _ _]) rfl (by kernel_rfl) (by kernel_rfl) (by kernel_rfl) #[true, true, true, true, true, true, true, true, true, true, true, true, true, true, true, true, true, true, true, true, true, true, true, false, false] (by kernel_rfl) rfl (y_indexAddr (m := k) Tryz.underlying46 Tryz.sizeOf4 rfl rfl (by omega) (by omega) (by omega)) rfl rfl rfl (weak_refl) (listed' := #[true, true, true, true, true, true, true, true, true, true, true, true, true, true, true, true, true, true, true, true, true, true, true, true, false]) rfl ?_
                refine ge_one 24 (k' := 1) (listed' := #[true, true, true, true, true, true, true, true, true, true, true, true, true, true, true, true, true, true, true, true, true, true, true, true, true]) (by kernel_rfl) rfl rfl rfl ?_
                refine gop_store_row 3 (f := boolCells) (l := dpPart (cutS s).length k (dp (starW2 (cutS p)) (charW (cutS p) (cutS s)) (i + 1))) (k := k) (o := 0) (v := .bool _) (a := false) (a' := _) (fun _ => rfl) rfl rfl rfl Tryz.sizeOf4 rfl rfl rfl rfl (dpPart_len _ _ _).symm (dpPart_at (by omega)) (Nat.le_of_ble_eq_true rfl) rfl rfl ?_
                refine gops_nil ?_
                refine ge_fin (TK := []) rfl (weak_nil) ?_
                refine ge_done (by kernel_rfl) ?_
                refine hN16 _ _ ?_
                refine gT [rowl _ _ _ _ _ _, rowl _ _ _ _ _ _, rowl _ _ _ _ _ _, rowl _ _ _ _ _ _] rfl ?_
                refine gfrom [(5, .slice (some ⟨rg0, 0, none⟩) _ _), (6, .slice (some ⟨rg1, 0, none⟩) _ _), (7, .slice (some ⟨g, 0, none⟩) _ _), (8, .int _ _), (9, .slice (some _) _ _), (10, .int _ _)] ⟨rfl, rfl, rfl, rfl, rfl, rfl, trivial⟩ fun σ => ?_
                refine greg ?_
                refine gop (y_move (v := .int _ _) rfl) rfl rfl rfl ?_
                refine gop (y_add rfl rfl ⟨by omega, by omega⟩) rfl rfl rfl ?_
                refine gop (y_assign (v := .int _ _) rfl) rfl rfl rfl ?_
                refine gops_nil ?_
                rw [dpPart_put (f := (dp (starW2 (cutS p)) (charW (cutS p) (cutS s)) (i + 1))) (by omega) ((dp_ct hst (by omega) hg71d).trans (charW_at hi1 (by omega)))]
                refine gnext2 (k + 1) (by omega) (show k + 1 ≤ _ by omega) ⟨rfl, trivial⟩ ⟨rfl, rfl, rfl, rfl, rfl, trivial⟩ ⟨_, rfl⟩
              · 
                have hg71d := hg71
                refine ge_take_off 12 (TK := [rowl _ _ _ _ _ _, rowl _ _ _ _ _ _, rowl _ _ _ _ _ _, rowl _ _ _ _ _ _]) rfl (by kernel_rfl) (by kernel_rfl) (by kernel_rfl) #[true, true, true, true, true, true, true, true, true, true, true, true, false, true, false, false, true, true, true, true, true, false, false, false, false] (by kernel_rfl) rfl rfl rfl rfl rfl (off_of hg71) rfl rfl (weak_refl) (listed' := #[true, true, true, true, true, true, true, true, true, true, true, true, true, false, false, false, false, false, false, false, false, false, false, false, false]) rfl ?_
                refine ge_take_off 13 (TK := [rowl _ _ _ _ _ _, rowl _ _ _ _ _ _, rowl _ _ _ _ _ _, rowl _ _ _ _ _ _]) rfl (by kernel_rfl) (by kernel_rfl) (by kernel_rfl) #[true, true, true, true, true, true, true, true, true, true, true, true, true, false, false, false, true, true, true, true, true, false, false, false, false] (by kernel_rfl) rfl rfl rfl rfl rfl (off_of hg71) rfl rfl (weak_refl) (listed' := #[true, true, true, true, true, true, true, true, true, true, true, true, true, true, false, false, false, false, false, false, false, false, false, false, false]) rfl ?_
                refine ge_take_off 14 (TK := [rowl _ _ _ _ _ _, rowl _ _ _ _ _ _, rowl _ _ _ _ _ _, rowl _ _ _ _ _ _]) rfl (by kernel_rfl) (by kernel_rfl) (by kernel_rfl) #[true, true, true, true, true, true, true, true, true, true, true, true, true, true, false, false, true, true, true, true, true, false, false, false, false] (by kernel_rfl) rfl rfl rfl rfl rfl (off_of hg71) rfl rfl (weak_refl) (listed' := #[true, true, true, true, true, true, true, true, true, true, true, true, true, true, true, false, false, false, false, false, false, false, false, false, false]) rfl ?_
                refine ge_take_off 15 (TK := [rowl _ _ _ _ _ _, rowl _ _ _ _ _ _, rowl _ _ _ _ _ _, rowl _ _ _ _ _ _]) rfl (by kernel_rfl) (by kernel_rfl) (by kernel_rfl) #[true, true, true, true, true, true, true, true, true, true, true, true, true, true, true, false, true, true, true, true, true, false, false, false, false] (by kernel_rfl) rfl rfl rfl rfl rfl (off_of hg71) rfl rfl (weak_refl) (listed' := #[true, true, true, true, true, true, true, true, true, true, true, true, true, true, true, true, false, false, false, false, false, false, false, false, false]) rfl ?_
                refine ge_take_off 16 (TK := [rowl _ _ _ _ _ _, rowl _ _ _ _ _ _, rowl _ _ _ _ _ _, rowl _ _ _ _ _ _]) rfl (by kernel_rfl) (by kernel_rfl) (by kernel_rfl) #[true, true, true, true, true, true, true, true, true, true, true, true, true, true, true, true, false, true, true, false, false, false, false, false, false] (by kernel_rfl) rfl rfl rfl rfl rfl (off_of hg71) rfl rfl (weak_refl) (listed' := #[true, true, true, true, true, true, true, true, true, true, true, true, true, true, true, true, true, false, false, false, false, false, false, false, false]) rfl ?_
                refine ge_take_off 17 (TK := [rowl _ _ _ _ _ _, rowl _ _ _ _ _ _, rowl _ _ _ _ _ _, rowl _ _ _ _ _ _]) rfl (by kernel_rfl) (by kernel_rfl) (by kernel_rfl) #[true, true, true, true, true, true, true, true, true, true, true, true, true, true, true, true, true, false, false, false, false, false, false, false, false] (by kernel_rfl) rfl rfl rfl rfl rfl (off_of hg71) rfl rfl (weak_refl) (listed' := #[true, true, true, true, true, true, true, true, true, true, true, true, true, true, true, true, true, true, false, false, false, false, false, false, false]) rfl ?_
                refine ge_take_off 18 (TK := [rowl _ _ _ _ _ _, rowl _ _ _ _ _ _, rowl _ _ _ _ _ _, rowl _ _ _ _ _ _]) rfl (by kernel_rfl) (by kernel_rfl) (by kernel_rfl) #[true, true, true, true, true, true, true, true, true, true, true, true, true, true, true, true, true, true, false, false, false, false, false, false, false] (by kernel_rfl) rfl rfl rfl rfl rfl (off_of hg71) rfl rfl (weak_refl) (listed' := #[true, true, true, true, true, true, true, true, true, true, true, true, true, true, true, true, true, true, true, false, false, false, false, false, false]) rfl ?_
                refine ge_take_off 19 (TK := [rowl _ _ _ _ _ _, rowl _ _ _ _ _ _, rowl _ _ _ _ _ _, rowl _ _ _ _ _ _]) rfl (by kernel_rfl) (by kernel_rfl) (by kernel_rfl) #[true, true, true, true, true, true, true, true, true, true, true, true, true, true, true, true, true, true, true, false, false, false, false, false, false] (by kernel_rfl) rfl rfl rfl rfl rfl (off_of hg71) rfl rfl (weak_refl) (listed' := #[true, true, true, true, true, true, true, true, true, true, true, true, true, true, true, true, true, true, true, true, false, false, false, false, false]) rfl ?_
                refine ge_take_off 20 (TK := [rowl _ _ _ _ _ _, rowl _ _ _ _ _ _, rowl _ _ _ _ _ _, rowl _ _ _ _ _ _]) rfl (by kernel_rfl) (by kernel_rfl) (by kernel_rfl) #[true, true, true, true, true, true, true, true, true, true, true, true, true, true, true, true, true, true, true, true, false, false, false, false, false] (by kernel_rfl) rfl rfl rfl rfl rfl (off_of hg71) rfl rfl (weak_refl) (listed' := #[true, true, true, true, true, true, true, true, true, true, true, true, true, true, true, true, true, true, true, true, true, false, false, false, false]) rfl ?_
                refine ge_one 21 (k' := 0) (listed' := #[true, true, true, true, true, true, true, true, true, true, true, true, true, true, true, true, true, true, true, true, true, true, false, false, false]) (by kernel_rfl) rfl rfl rfl ?_
                refine gop_off rfl rfl rfl rfl hg71 rfl rfl ?_
                refine gops_nil ?_
                refine ge_fin (TK := [rowl _ _ _ _ _ _, rowl _ _ _ _ _ _, rowl _ _ _ _ _ _, rowl _ _ _ _ _ _]) rfl (weak_refl) ?_
                refine ge_take 22 (TK := [rowl _ _ _ _ _ _, rowl _ _ _ _ _ _, rowl _ _ _ _ _ _, rowl _ _ _ _ _ _]) rfl (by kernel_rfl) (by kernel_rfl) (by kernel_rfl) #[true, true, true, true, true, true, true, true, true, true, true, true, true, true, true, true, true, true, true, true, true, true, false, false, false] (by kernel_rfl) rfl (y_pick_f (v := .bool _) rfl hg71 rfl) rfl rfl rfl (weak_refl) (listed' := #[true, true, true, true, true, true, true, true, true, true, true, true, true, true, true, true, true, true, true, true, true, true, true, false, false]) rfl ?_
                refine ge_take 23 (TK := [rowl _ _ _ _ _ _, rowl _ _ _ _ _ _, rowl _ _ _ _ _ _, rowl _ _ _ _ _ _]) rfl (by kernel_rfl) (by kernel_rfl) (by kernel_rfl) #[true, true, true, true, true, true, true, true, true, true, true, true, true, true, true, true, true, true, true, true, true, true, true, false, false] (by kernel_rfl) rfl (y_indexAddr (m := k) Tryz.underlying46 Tryz.sizeOf4 rfl rfl (by omega) (by omega) (by omega)) rfl rfl rfl (weak_refl) (listed' := #[true, true, true, true, true, true, true, true, true, true, true, true, true, true, true, true, true, true, true, true, true, true, true, true, false]) rfl ?_
                refine ge_one 24 (k' := 1) (listed' := #[true, true, true, true, true, true, true, true, true, true, true, true, true, true, true, true, true, true, true, true, true, true, true, true, true]) (by kernel_rfl) rfl rfl rfl ?_
                refine gop_store_row 3 (f := boolCells) (l := dpPart (cutS s).length k (dp (starW2 (cutS p)) (charW (cutS p) (cutS s)) (i + 1))) (k := k) (o := 0) (v := .bool _) (a := false) (a' := _) (fun _ => rfl) rfl rfl rfl Tryz.sizeOf4 rfl rfl rfl rfl (dpPart_len _ _ _).symm (dpPart_at (by omega)) (Nat.le_of_ble_eq_true rfl) rfl rfl ?_
                refine gops_nil ?_
                refine ge_fin (TK := []) rfl (weak_nil) ?_
                refine ge_done (by kernel_rfl) ?_
                refine hN16 _ _ ?_
                refine gT [rowl _ _ _ _ _ _, rowl _ _ _ _ _ _, rowl _ _ _ _ _ _, rowl _ _ _ _ _ _] rfl ?_
                refine gfrom [(5, .slice (some ⟨rg0, 0, none⟩) _ _), (6, .slice (some ⟨rg1, 0, none⟩) _ _), (7, .slice (some ⟨g, 0, none⟩) _ _), (8, .int _ _), (9, .slice (some _) _ _), (10, .int _ _)] ⟨rfl, rfl, rfl, rfl, rfl, rfl, trivial⟩ fun σ => ?_
                refine greg ?_
                refine gop (y_move (v := .int _ _) rfl) rfl rfl rfl ?_
                refine gop (y_add rfl rfl ⟨by omega, by omega⟩) rfl rfl rfl ?_
                refine gop (y_assign (v := .int _ _) rfl) rfl rfl rfl ?_
                refine gops_nil ?_
                rw [dpPart_put (f := (dp (starW2 (cutS p)) (charW (cutS p) (cutS s)) (i + 1))) (by omega) (dp_cf hst (by omega) hg71d)]
                refine gnext2 (k + 1) (by omega) (show k + 1 ≤ _ by omega) ⟨rfl, trivial⟩ ⟨rfl, rfl, rfl, rfl, rfl, trivial⟩ ⟨_, rfl⟩
            · 
              have hg64d := of_decide_eq_false hg64
              refine ge_take_off 5 (TK := [rowl _ _ _ _ _ _, rowl _ _ _ _ _ _, rowl _ _ _ _ _ _, rowl _ _ _ _ _ _]) rfl (by kernel_rfl) (by kernel_rfl) (by kernel_rfl) #[true, true, true, true, true, false, true, true, false, false, false, false, false, false, false, false, false, false, false, false, false, false, false, false, false] (by kernel_rfl) rfl rfl rfl rfl rfl (off_of hg64) rfl rfl (weak_refl) (listed' := #[true, true, true, true, true, true, false, false, false, false, false, false, false, false, false, false, false, false, false, false, false, false, false, false, false]) rfl ?_
              refine ge_take_off 6 (TK := [rowl _ _ _ _ _ _, rowl _ _ _ _ _ _, rowl _ _ _ _ _ _, rowl _ _ _ _ _ _]) rfl (by kernel_rfl) (by kernel_rfl) (by kernel_rfl) #[true, true, true, true, true, true, false, false, false, false, false, false, false, false, false, false, false, false, false, false, false, false, false, false, false] (by kernel_rfl) rfl rfl rfl rfl rfl (off_of hg64) rfl rfl (weak_refl) (listed' := #[true, true, true, true, true, true, true, false, false, false, false, false, false, false, false, false, false, false, false, false, false, false, false, false, false]) rfl ?_
              refine ge_take_off 7 (TK := [rowl _ _ _ _ _ _, rowl _ _ _ _ _ _, rowl _ _ _ _ _ _, rowl _ _ _ _ _ _]) rfl (by kernel_rfl) (by kernel_rfl) (by kernel_rfl) #[true, true, true, true, true, true, true, false, false, false, false, false, false, false, false, false, false, false, false, false, false, false, false, false, false] (by kernel_rfl) rfl rfl rfl rfl rfl (off_of hg64) rfl rfl (weak_refl) (listed' := #[true, true, true, true, true, true, true, true, false, false, false, false, false, false, false, false, false, false, false, false, false, false, false, false, false]) rfl ?_
              refine ge_take_off 8 (TK := [rowl _ _ _ _ _ _, rowl _ _ _ _ _ _, rowl _ _ _ _ _ _, rowl _ _ _ _ _ _]) rfl (by kernel_rfl) (by kernel_rfl) (by kernel_rfl) #[true, true, true, true, true, true, true, true, false, false, false, false, false, false, false, false, false, false, false, false, false, false, false, false, false] (by kernel_rfl) rfl rfl rfl rfl rfl (off_of hg64) rfl rfl (weak_refl) (listed' := #[true, true, true, true, true, true, true, true, true, false, false, false, false, false, false, false, false, false, false, false, false, false, false, false, false]) rfl ?_
              refine ge_take_off 9 (TK := [rowl _ _ _ _ _ _, rowl _ _ _ _ _ _, rowl _ _ _ _ _ _, rowl _ _ _ _ _ _]) rfl (by kernel_rfl) (by kernel_rfl) (by kernel_rfl) #[true, true, true, true, true, true, true, true, true, false, false, false, false, false, false, false, false, false, false, false, false, false, false, false, false] (by kernel_rfl) rfl rfl rfl rfl rfl (off_of hg64) rfl rfl (weak_refl) (listed' := #[true, true, true, true, true, true, true, true, true, true, false, false, false, false, false, false, false, false, false, false, false, false, false, false, false]) rfl ?_
              refine ge_take 10 (TK := [rowl _ _ _ _ _ _, rowl _ _ _ _ _ _, rowl _ _ _ _ _ _, rowl _ _ _ _ _ _]) rfl (by kernel_rfl) (by kernel_rfl) (by kernel_rfl) #[true, true, true, true, true, true, true, true, true, true, false, false, false, false, false, false, false, false, false, false, false, false, false, false, false] (by kernel_rfl) rfl (y_pick_f (v := .bool _) rfl hg64 rfl) rfl rfl rfl (weak_refl) (listed' := #[true, true, true, true, true, true, true, true, true, true, true, false, false, false, false, false, false, false, false, false, false, false, false, false, false]) rfl ?_
              refine ge_take 11 (TK := [rowl _ _ _ _ _ _, rowl _ _ _ _ _ _, rowl _ _ _ _ _ _, rowl _ _ _ _ _ _]) rfl (by kernel_rfl) (by kernel_rfl) (by kernel_rfl) #[true, true, true, true, true, true, true, true, true, true, true, false, false, false, false, false, false, false, false, false, false, false, false, false, false] (by kernel_rfl) rfl (y_move (v := .bool _) rfl) rfl rfl rfl (weak_refl) (listed' := #[true, true, true, true, true, true, true, true, true, true, true, true, false, false, false, false, false, false, false, false, false, false, false, false, false]) rfl ?_
              refine ge_take_off 12 (TK := [rowl _ _ _ _ _ _, rowl _ _ _ _ _ _, rowl _ _ _ _ _ _, rowl _ _ _ _ _ _]) rfl (by kernel_rfl) (by kernel_rfl) (by kernel_rfl) #[true, true, true, true, true, true, true, true, true, true, true, true, false, true, false, false, true, true, true, true, true, false, false, false, false] (by kernel_rfl) rfl rfl rfl rfl rfl (off_of rfl) rfl rfl (weak_refl) (listed' := #[true, true, true, true, true, true, true, true, true, true, true, true, true, false, false, false, false, false, false, false, false, false, false, false, false]) rfl ?_
              refine ge_take_off 13 (TK := [rowl _ _ _ _ _ _, rowl _ _ _ _ _ _, rowl _ _ _ _ _ _, rowl _ _ _ _ _ _]) rfl (by kernel_rfl) (by kernel_rfl) (by kernel_rfl) #[true, true, true, true, true, true, true, true, true, true, true, true, true, false, false, false, true, true, true, true, true, false, false, false, false] (by kernel_rfl) rfl rfl rfl rfl rfl (off_of rfl) rfl rfl (weak_refl) (listed' := #[true, true, true, true, true, true, true, true, true, true, true, true, true, true, false, false, false, false, false, false, false, false, false, false, false]) rfl ?_
              refine ge_take_off 14 (TK := [rowl _ _ _ _ _ _, rowl _ _ _ _ _ _, rowl _ _ _ _ _ _, rowl _ _ _ _ _ _]) rfl (by kernel_rfl) (by kernel_rfl) (by kernel_rfl) #[true, true, true, true, true, true, true, true, true, true, true, true, true, true, false, false, true, true, true, true, true, false, false, false, false] (by kernel_rfl) rfl rfl rfl rfl rfl (off_of rfl) rfl rfl (weak_refl) (listed' := #[true, true, true, true, true, true, true, true, true, true, true, true, true, true, true, false, false, false, false, false, false, false, false, false, false]) rfl ?_
              refine ge_take_off 15 (TK := [rowl _ _ _ _ _ _, rowl _ _ _ _ _ _, rowl _ _ _ _ _ _, rowl _ _ _ _ _ _]) rfl (by kernel_rfl) (by kernel_rfl) (by kernel_rfl) #[true, true, true, true, true, true, true, true, true, true, true, true, true, true, true, false, true, true, true, true, true, false, false, false, false] (by kernel_rfl) rfl rfl rfl rfl rfl (off_of rfl) rfl rfl (weak_refl) (listed' := #[true, true, true, true, true, true, true, true, true, true, true, true, true, true, true, true, false, false, false, false, false, false, false, false, false]) rfl ?_
              refine ge_take_off 16 (TK := [rowl _ _ _ _ _ _, rowl _ _ _ _ _ _, rowl _ _ _ _ _ _, rowl _ _ _ _ _ _]) rfl (by kernel_rfl) (by kernel_rfl) (by kernel_rfl) #[true, true, true, true, true, true, true, true, true, true, true, true, true, true, true, true, false, true, true, false, false, false, false, false, false] (by kernel_rfl) rfl rfl rfl rfl rfl (off_of rfl) rfl rfl (weak_refl) (listed' := #[true, true, true, true, true, true, true, true, true, true, true, true, true, true, true, true, true, false, false, false, false, false, false, false, false]) rfl ?_
              refine ge_take_off 17 (TK := [rowl _ _ _ _ _ _, rowl _ _ _ _ _ _, rowl _ _ _ _ _ _, rowl _ _ _ _ _ _]) rfl (by kernel_rfl) (by kernel_rfl) (by kernel_rfl) #[true, true, true, true, true, true, true, true, true, true, true, true, true, true, true, true, true, false, false, false, false, false, false, false, false] (by kernel_rfl) rfl rfl rfl rfl rfl (off_of rfl) rfl rfl (weak_refl) (listed' := #[true, true, true, true, true, true, true, true, true, true, true, true, true, true, true, true, true, true, false, false, false, false, false, false, false]) rfl ?_
              refine ge_take_off 18 (TK := [rowl _ _ _ _ _ _, rowl _ _ _ _ _ _, rowl _ _ _ _ _ _, rowl _ _ _ _ _ _]) rfl (by kernel_rfl) (by kernel_rfl) (by kernel_rfl) #[true, true, true, true, true, true, true, true, true, true, true, true, true, true, true, true, true, true, false, false, false, false, false, false, false] (by kernel_rfl) rfl rfl rfl rfl rfl (off_of rfl) rfl rfl (weak_refl) (listed' := #[true, true, true, true, true, true, true, true, true, true, true, true, true, true, true, true, true, true, true, false, false, false, false, false, false]) rfl ?_
              refine ge_take_off 19 (TK := [rowl _ _ _ _ _ _, rowl _ _ _ _ _ _, rowl _ _ _ _ _ _, rowl _ _ _ _ _ _]) rfl (by kernel_rfl) (by kernel_rfl) (by kernel_rfl) #[true, true, true, true, true, true, true, true, true, true, true, true, true, true, true, true, true, true, true, false, false, false, false, false, false] (by kernel_rfl) rfl rfl rfl rfl rfl (off_of rfl) rfl rfl (weak_refl) (listed' := #[true, true, true, true, true, true, true, true, true, true, true, true, true, true, true, true, true, true, true, true, false, false, false, false, false]) rfl ?_
              refine ge_take_off 20 (TK := [rowl _ _ _ _ _ _, rowl _ _ _ _ _ _, rowl _ _ _ _ _ _, rowl _ _ _ _ _ _]) rfl (by kernel_rfl) (by kernel_rfl) (by kernel_rfl) #[true, true, true, true, true, true, true, true, true, true, true, true, true, true, true, true, true, true, true, true, false, false, false, false, false] (by kernel_rfl) rfl rfl rfl rfl rfl (off_of rfl) rfl rfl (weak_refl) (listed' := #[true, true, true, true, true, true, true, true, true, true, true, true, true, true, true, true, true, true, true, true, true, false, false, false, false]) rfl ?_
              refine ge_one 21 (k' := 0) (listed' := #[true, true, true, true, true, true, true, true, true, true, true, true, true, true, true, true, true, true, true, true, true, true, false, false, false]) (by kernel_rfl) rfl rfl rfl ?_
              refine gop_off rfl rfl rfl rfl rfl rfl rfl ?_
              refine gops_nil ?_
              refine ge_fin (TK := [rowl _ _ _ _ _ _, rowl _ _ _ _ _ _, rowl _ _ _ _ _ _, rowl _ _ _ _ _ _]) rfl (weak_refl) ?_
              refine ge_take 22 (TK := [rowl _ _ _ _ _ _, rowl _ _ _ _ _ _, rowl _ _ _ _ _ _, rowl _ _ _ _ _ _]) rfl (by kernel_rfl) (by kernel_rfl) (by kernel_rfl) #[true, true, true, true, true, true, true, true, true, true, true, true, true, true, true, true, true, true, true, true, true, true, false, false, false] (by kernel_rfl) rfl (y_pick_f (v := .bool _) rfl rfl rfl) rfl rfl rfl (weak_refl) (listed' := #[true, true, true, true, true, true, true, true, true, true, true, true, true, true, true, true, true, true, true, true, true, true, true, false, false]) rfl ?_
              refine ge_take 23 (TK := [rowl _ _ _ _ _ _, rowl _ _ _ _ _ _, rowl _ _ _ _ _ _, rowl _ _ _ _ _ _]) rfl (by kernel_rfl) (by kernel_rfl) (by kernel_rfl) #[true, true, true, true, true, true, true, true, true, true, true, true, true, true, true, true, true, true, true, true, true, true, true, false, false] (by kernel_rfl) rfl (y_indexAddr (m := k) Tryz.underlying46 Tryz.sizeOf4 rfl rfl (by omega) (by omega) (by omega)) rfl rfl rfl (weak_refl) (listed' := #[true, true, true, true, true, true, true, true, true, true, true, true, true, true, true, true, true, true, true, true, true, true, true, true, false]) rfl ?_
              refine ge_one 24 (k' := 1) (listed' := #[true, true, true, true, true, true, true, true, true, true, true, true, true, true, true, true, true, true, true, true, true, true, true, true, true]) (by kernel_rfl) rfl rfl rfl ?_
              refine gop_store_row 3 (f := boolCells) (l := dpPart (cutS s).length k (dp (starW2 (cutS p)) (charW (cutS p) (cutS s)) (i + 1))) (k := k) (o := 0) (v := .bool _) (a := false) (a' := _) (fun _ => rfl) rfl rfl rfl Tryz.sizeOf4 rfl rfl rfl rfl (dpPart_len _ _ _).symm (dpPart_at (by omega)) (Nat.le_of_ble_eq_true rfl) rfl rfl ?_
              refine gops_nil ?_
              refine ge_fin (TK := []) rfl (weak_nil) ?_
              refine ge_done (by kernel_rfl) ?_
              refine hN16 _ _ ?_
              refine gT [rowl _ _ _ _ _ _, rowl _ _ _ _ _ _, rowl _ _ _ _ _ _, rowl _ _ _ _ _ _] rfl ?_
              refine gfrom [(5, .slice (some ⟨rg0, 0, none⟩) _ _), (6, .slice (some ⟨rg1, 0, none⟩) _ _), (7, .slice (some ⟨g, 0, none⟩) _ _), (8, .int _ _), (9, .slice (some _) _ _), (10, .int _ _)] ⟨rfl, rfl, rfl, rfl, rfl, rfl, trivial⟩ fun σ => ?_
              refine greg ?_
              refine gop (y_move (v := .int _ _) rfl) rfl rfl rfl ?_
              refine gop (y_add rfl rfl ⟨by omega, by omega⟩) rfl rfl rfl ?_
              refine gop (y_assign (v := .int _ _) rfl) rfl rfl rfl ?_
              refine gops_nil ?_
              rw [dpPart_put (f := (dp (starW2 (cutS p)) (charW (cutS p) (cutS s)) (i + 1))) (by omega) (dp_c0 hst (by omega))]
              refine gnext2 (k + 1) (by omega) (show k + 1 ≤ _ by omega) ⟨rfl, trivial⟩ ⟨rfl, rfl, rfl, rfl, rfl, trivial⟩ ⟨_, rfl⟩
        · 
          replace hc34 := of_decide_eq_false hc34
          refine gexit ?_
          refine hN12 _ _ ?_
          refine gfrom [(5, .slice (some ⟨rg0, 0, none⟩) _ _), (6, .slice (some ⟨rg1, 0, none⟩) _ _), (8, .int _ _), (9, .slice (some _) _ _)] ⟨rfl, rfl, rfl, rfl, trivial⟩ fun σ => ?_
          refine greg ?_
          refine gop (y_move (v := .slice (some _) _ _) rfl) rfl rfl rfl ?_
          refine gop (y_assign (v := .slice (some _) _ _) rfl) rfl rfl rfl ?_
          refine gops_nil ?_
          refine hN10 _ _ ?_
          refine gfrom [(5, .slice (some ⟨rg0, 0, none⟩) _ _), (6, .slice (some ⟨rg1, 0, none⟩) _ _), (7, .slice (some _) _ _), (8, .int _ _)] ⟨rfl, rfl, rfl, rfl, trivial⟩ fun σ => ?_
          refine greg ?_
          refine gop (y_move (v := .int _ _) rfl) rfl rfl rfl ?_
          refine gop (y_add rfl rfl ⟨by omega, by omega⟩) rfl rfl rfl ?_
          refine gop (y_assign (v := .int _ _) rfl) rfl rfl rfl ?_
          refine gops_nil ?_
          rw [show k = (cutS s).length + 1 by omega, dpPart_full]
          refine fin_mem _ (weak_perm (List.Perm.cons _ (List.Perm.cons _ (List.Perm.swap _ _ _)))) ?_
          refine gnext2 ((i + 1, b30)) (by show (cutS p).length - (i + 1) < (cutS p).length - i; omega) (show i + 1 ≤ _ by omega) ⟨rfl, rfl, trivial⟩ ⟨rfl, rfl, trivial⟩ ⟨_, rfl⟩
    · 
      replace hc24 := of_decide_eq_false hc24
      obtain rfl : i = (cutS p).length := by omega
      refine gexit ?_
      refine hN6 _ _ ?_
      refine gfrom [(6, .slice (some ⟨rg1, 0, none⟩) _ _), (7, .slice (some ⟨g, 0, none⟩) _ _)] ⟨rfl, rfl, trivial⟩ fun σ => ?_
      refine gseq fun N18 hN18 => ?_
      refine greg ?_
      refine gop (y_move (v := .slice (some ⟨g, 0, none⟩) _ _) rfl) rfl rfl rfl ?_
      refine gop (y_move (v := .slice (some ⟨rg1, 0, none⟩) _ _) rfl) rfl rfl rfl ?_
      refine gop (y_len Tryz.underlying22 rfl) rfl rfl rfl ?_
      refine gop (y_indexAddr (m := (cutS s).length) Tryz.underlying46 Tryz.sizeOf4 rfl rfl (by omega) (by omega) (by omega)) rfl rfl rfl ?_
      refine gop (y_load Tryz.isAgg4 rfl (cells_rowl 2 (f := boolCells) (l := dpRow (cutS s).length (dp (starW2 (cutS p)) (charW (cutS p) (cutS s)) (cutS p).length)) rfl (dpRow_len _ _).symm (fun _ => rfl) (dpRow_get (Nat.le_refl _)) 0 _ rfl)) rfl rfl rfl ?_
      refine gop (y_assign (v := .bool _) rfl) rfl rfl rfl ?_
      refine gops_nil ?_
      refine hN18 _ _ ?_
      refine gfrom [(4, .bool _)] ⟨rfl, trivial⟩ fun σ => ?_
      refine gret fun w1 hM => ?_
      refine ⟨_, res1 rfl (rt (v := .bool _) rfl), ?_⟩
      exact ⟨by rw [dp_wk], hM.low⟩
end Go.Proofs.YtbkameioedmlkaaGreatDoor
namespace Go.Cf
open Go.RowKit
def scanFrom {α : Type} (f : Nat → α → Int) : Nat → List α → Fault
  | _, [] => ⟨0, 0⟩
  | k, x :: l => if f k x = 0 then scanFrom f (k + 1) l else ⟨f k x, k⟩
def scan {α : Type} (f : Nat → α → Int) (l : List α) : Fault := scanFrom f 0 l
theorem scanFrom_ok {α : Type} (f : Nat → α → Int) : ∀ (l : List α) (m : Nat), (∀ j (h : j < l.length), f (m + j) l[j] = 0) → scanFrom f m l = ⟨0, 0⟩
  | [], _, _ => rfl
  | x :: l, m, h => by
    rw [scanFrom, if_pos (show f m x = 0 from h 0 (by simp))]
    exact scanFrom_ok f l (m + 1) fun j hj => by
      have := h (j + 1) (by simp; omega)
      rwa [show m + (j + 1) = m + 1 + j by omega, List.getElem_cons_succ] at this
theorem scanFrom_at {α : Type} (f : Nat → α → Int) : ∀ (l : List α) (m k : Nat) (hk : k < l.length), (∀ j (h : j < l.length), j < k → f (m + j) l[j] = 0) → f (m + k) l[k] ≠ 0 → scanFrom f m l = ⟨f (m + k) l[k], (m + k : Nat)⟩
  | [], _, _, hk, _, _ => absurd hk (by simp)
  | x :: l, m, 0, _, _, hne => by rw [scanFrom, if_neg (show f m x ≠ 0 from hne)]; rfl
  | x :: l, m, k + 1, hk, h, hne => by
    rw [scanFrom, if_pos (show f m x = 0 from h 0 (by simp) (by omega))]
    have := scanFrom_at f l (m + 1) k (by simpa using hk) (fun j hj hjk => by
      have := h (j + 1) (by simp; omega) (by omega)
      rwa [show m + (j + 1) = m + 1 + j by omega, List.getElem_cons_succ] at this) (by
      rwa [show m + (k + 1) = m + 1 + k by omega, List.getElem_cons_succ] at hne)
    rw [this, show m + (k + 1) = m + 1 + k by omega, List.getElem_cons_succ]
theorem scan_ok {α : Type} {f : Nat → α → Int} {l : List α} (h : ∀ j (h : j < l.length), f j l[j] = 0) : scan f l = ⟨0, 0⟩ := scanFrom_ok f l 0 fun j hj => by rw [Nat.zero_add]; exact h j hj
theorem scan_at {α : Type} {f : Nat → α → Int} {l : List α} {k : Nat} (hk : k < l.length) (h : ∀ j (h : j < l.length), j < k → f j l[j] = 0) (hne : f k l[k] ≠ 0) : scan f l = ⟨f k l[k], k⟩ := by
  have := scanFrom_at f l 0 k hk (fun j hj hjk => by rw [Nat.zero_add]; exact h j hj hjk) (by rwa [Nat.zero_add])
  rwa [Nat.zero_add] at this
theorem scan_code {α : Type} {f : Nat → α → Int} {l : List α} : (scan f l).code = 0 ↔ ∀ j (h : j < l.length), f j l[j] = 0 := by
  constructor
  · intro h0
    apply Classical.byContradiction
    intro hn
    have hex : ∃ k, ∃ h : k < l.length, f k l[k] ≠ 0 := Classical.byContradiction fun hc => hn fun j hj => Classical.byContradiction fun hx => hc ⟨j, hj, hx⟩
    obtain ⟨k, ⟨hk, hne⟩, hmin⟩ : ∃ k, (∃ h : k < l.length, f k l[k] ≠ 0) ∧ ∀ j, j < k → ¬ ∃ h : j < l.length, f j l[j] ≠ 0 := by
      clear h0 hn
      obtain ⟨k, hk⟩ := hex
      induction k using Nat.strongRecOn with
      | _ k ih =>
        by_cases hc : ∃ j, j < k ∧ ∃ h : j < l.length, f j l[j] ≠ 0
        · obtain ⟨j, hj, hp⟩ := hc; exact ih j hj hp
        · exact ⟨k, hk, fun j hj hp => hc ⟨j, hj, hp⟩⟩
    rw [scan_at hk (fun j hj hjk => Classical.byContradiction fun hx => hmin j hjk ⟨hj, hx⟩) hne] at h0
    exact hne h0
  · intro h; rw [scan_ok h]
theorem scan_zero {α : Type} {f : Nat → α → Int} {l : List α} : scan f l = ⟨0, 0⟩ ↔ ∀ j (h : j < l.length), f j l[j] = 0 := ⟨fun h => scan_code.1 (by rw [h]), scan_ok⟩
theorem scan_code_eq {α : Type} {f : Nat → α → Int} {l : List α} (h : (scan f l).code = 0) : scan f l = ⟨0, 0⟩ := scan_ok (scan_code.1 h)
def lineCode (s : ByteArray) : Int := if 80 < s.size then 2 else if 0 ≤ firstIdx s 10 then 5 else 0
def linesF (l : List ByteArray) : Fault := if 120 < l.length then ⟨2, -1⟩ else scan (fun _ s => lineCode s) l
theorem linesF_code {l : List ByteArray} (h : (linesF l).code = 0) : linesF l = ⟨0, 0⟩ := by
  unfold linesF at h ⊢
  split
  · rename_i h1; rw [if_pos h1] at h; cases h
  · rename_i h1; rw [if_neg h1] at h; exact scan_code_eq h
theorem linesF_len {l : List ByteArray} (h : linesF l = ⟨0, 0⟩) : l.length ≤ 120 := by
  unfold linesF at h
  split at h
  · cases h
  · omega
structure Hunk where
  at_ : Int
  old : List ByteArray
  new : List ByteArray
def Hunk.end_ (h : Hunk) : Int := h.at_ + h.old.length
def prevEnd (hs : List Hunk) : Nat → Int
  | 0 => -1
  | k + 1 => match hs[k]? with
    | some h => h.end_
    | none => -1
structure VHunk (h : Hunk) (e : Int) : Prop where
  lo : 0 ≤ h.at_
  hi : h.at_ ≤ 120
  old : linesF h.old = ⟨0, 0⟩
  new : linesF h.new = ⟨0, 0⟩
  some_ : h.old.length + h.new.length ≠ 0
  past : e < h.at_
  end_ : h.end_ ≤ 120
theorem VHunk.oldLen {h : Hunk} {e : Int} (v : VHunk h e) : h.old.length ≤ 120 := linesF_len v.old
theorem VHunk.newLen {h : Hunk} {e : Int} (v : VHunk h e) : h.new.length ≤ 120 := linesF_len v.new
structure PV (hs : List Hunk) : Prop where
  len : hs.length ≤ 130
  at_ : ∀ k (h : k < hs.length), VHunk hs[k] (prevEnd hs k)
structure HB (h : Hunk) : Prop where
  lo : 0 ≤ h.at_
  hi : h.at_ ≤ 120
  old : h.old.length ≤ 120
  new : h.new.length ≤ 120
theorem PV.hb {hs : List Hunk} (v : PV hs) : ∀ k (h : k < hs.length), HB hs[k] := fun k h => ⟨(v.at_ k h).lo, (v.at_ k h).hi, (v.at_ k h).oldLen, (v.at_ k h).newLen⟩
def secondF (f : Fault) (i : Int) : Fault := if f ≠ ⟨0, 0⟩ then ⟨f.code, i⟩ else ⟨0, 0⟩
theorem PV.each {hs : List Hunk} (v : PV hs) : ∀ h ∈ hs, HB h := fun h hh => by
  obtain ⟨k, hk, rfl⟩ := List.getElem_of_mem hh
  exact v.hb k hk
end Go.Cf
namespace Go.Cf
open Go.RowKit
structure HunkC where
  pl : Hunk
  oA : Option Addr
  oc : Nat
  nA : Option Addr
  nc : Nat
abbrev hunkCells (h : HunkC) : List Value := [.int .i64 h.pl.at_, .slice h.oA h.pl.old.length h.oc, .slice h.nA h.pl.new.length h.nc]
structure SB (A : Option Addr) (n c : Nat) (b : Nat) : Prop where
  len : n ≤ c
  max : c ≤ maxLen
  nil : A = none → c = 0
  bytes : n * b ≤ reachBytes
theorem SB.lit {a : Addr} {b : Nat} (n : Nat) (h : n ≤ 1000) (hb : b ≤ 1000) : SB (some a) n n b := by
  refine ⟨Nat.le_refl _, by unfold maxLen; omega, (fun h => by cases h), ?_⟩
  have : n * b ≤ 1000 * 1000 := Nat.mul_le_mul h hb
  unfold reachBytes; omega
structure HunkR (w : World) (lo : Nat) (h : HunkC) : Prop where
  old : Rdl w lo 1 strCells h.oA h.pl.old
  new : Rdl w lo 1 strCells h.nA h.pl.new
  ob : SB h.oA h.pl.old.length h.oc 16
  nb : SB h.nA h.pl.new.length h.nc 16
  at_ : In64 h.pl.at_
def Lasts (lo : Nat) (R : World → Prop) : Prop := ∀ w w', R w → (∀ p : Addr, lo ≤ p.block → p.block < w.heap.size → w'.cell? p = w.cell? p) → R w'
theorem Lasts.base {lo : Nat} {R : World → Prop} (h : Lasts lo R) {w0 w : World} {T : List Reg} (hR : R w0) (hM : Mem w0 T w) : R w := h w0 w hR fun _ _ hp => hM.low.cell hp
theorem Rdl.lasts {α : Type} {lo size : Nat} {f : α → List Value} {A : Option Addr} {l : List α} : Lasts lo (fun w => Rdl w lo size f A l) := fun _ _ h hk => h.keep hk
theorem HunkR.lasts {lo : Nat} {h : HunkC} : Lasts lo (fun w => HunkR w lo h) := fun _ _ hR hk => ⟨hR.old.keep hk, hR.new.keep hk, hR.ob, hR.nb, hR.at_⟩
theorem HunkR.mono {w : World} {lo lo' : Nat} {h : HunkC} (hR : HunkR w lo h) (hl : lo' ≤ lo) : HunkR w lo' h := ⟨hR.old.mono hl, hR.new.mono hl, hR.ob, hR.nb, hR.at_⟩
structure PatR (w : World) (lo : Nat) (A : Option Addr) (c : Nat) (hs : List HunkC) : Prop where
  rd : Rdl w lo 3 hunkCells A hs
  each : ∀ h ∈ hs, HunkR w lo h
  sb : SB A hs.length c 56
theorem PatR.lasts {lo : Nat} {A : Option Addr} {c : Nat} {hs : List HunkC} : Lasts lo (fun w => PatR w lo A c hs) := fun w w' hR hk => ⟨hR.rd.keep hk, fun h hh => HunkR.lasts w w' (hR.each h hh) hk, hR.sb⟩
theorem PatR.mono {w : World} {lo lo' : Nat} {A : Option Addr} {c : Nat} {hs : List HunkC} (hR : PatR w lo A c hs) (hl : lo' ≤ lo) : PatR w lo' A c hs := ⟨hR.rd.mono hl, fun h hh => (hR.each h hh).mono hl, hR.sb⟩
abbrev pls (hs : List HunkC) : List Hunk := hs.map HunkC.pl
structure PatC where
  A : Option Addr
  c : Nat
  hs : List HunkC
abbrev patCells (p : PatC) : List Value := [.slice p.A p.hs.length p.c]
abbrev PatC.pl (p : PatC) : List Hunk := pls p.hs
structure PatsR (w : World) (lo : Nat) (A : Option Addr) (ps : List PatC) : Prop where
  rd : Rdl w lo 1 patCells A ps
  each : ∀ p ∈ ps, PatR w lo p.A p.c p.hs
theorem PatsR.lasts {lo : Nat} {A : Option Addr} {ps : List PatC} : Lasts lo (fun w => PatsR w lo A ps) := fun w w' hR hk => ⟨hR.rd.keep hk, fun h hh => PatR.lasts w w' (hR.each h hh) hk⟩
theorem PatsR.mono {w : World} {lo lo' : Nat} {A : Option Addr} {ps : List PatC} (hR : PatsR w lo A ps) (hl : lo' ≤ lo) : PatsR w lo' A ps := ⟨hR.rd.mono hl, fun h hh => (hR.each h hh).mono hl⟩
end Go.Cf
namespace Go.Cf
open Go.RowKit
def splitB : Bs → List Bs
  | [] => [[]]
  | c :: r => if c = 32 then [] :: splitB r else match splitB r with
    | h :: t => (c :: h) :: t
    | [] => [[c]]
def cutB (s : ByteArray) : List ByteArray := (splitB (bsOf s)).map baOf
end Go.Cf
namespace Go.Cf
open Go.RowKit
section
variable {P : Program} {w0 : World} {T : List Reg} {ρ : Env} {dst : Option Tmp} {ty : TypeId} {pos : String} {af : Array Edge} {gd : Option (Nat × Bool)} {x y : Operand} {t yt src d e : TypeId} {a b : Int}
theorem y_toInt (hs : (P.underlying src).isSome = true) (hd : P.underlying d = some (.int .i64)) (hx : ev ρ x = .int .u8 a) (h0 : 0 ≤ a) (h1 : a < 256) : Yield P w0 T ρ ⟨dst, .convert src d x, ty, pos, af, gd⟩ (.int .i64 a) := fun w _ => by
  have hk : P.intKind d = .i64 := by simp [Program.intKind, hd]
  have h := run_convert_int (P := P) w src d .u8 a hs (by rw [hk]; exact hd)
  rw [hk, wrap_in (show In64 a by unfold In64; omega)] at h
  simp [execOp, hx, h]
end
end Go.Cf
namespace Go.Cf
open Go.RowKit
structure Rule where
  pat : ByteArray
  users : List Int
  deriving DecidableEq
structure RuleC where
  pl : Rule
  A : Option Addr
  c : Nat
abbrev ruleCells (a : RuleC) : List Value := [.string a.pl.pat, .slice a.A a.pl.users.length a.c]
abbrev ruleV (a : RuleC) : Value := .agg #[.string a.pl.pat, .slice a.A a.pl.users.length a.c]
structure RuleR (w : World) (lo : Nat) (a : RuleC) : Prop where
  rd : Rdl w lo 1 intCells a.A a.pl.users
  sb : SB a.A a.pl.users.length a.c 8
structure RulesR (w : World) (lo : Nat) (A : Option Addr) (c : Nat) (rs : List RuleC) : Prop where
  rd : Rdl w lo 2 ruleCells A rs
  each : ∀ a ∈ rs, RuleR w lo a
  sb : SB A rs.length c 40
theorem RuleR.lasts {lo : Nat} {a : RuleC} : Lasts lo (fun w => RuleR w lo a) := fun _ _ h hk => ⟨h.rd.keep hk, h.sb⟩
theorem RuleR.mono {w : World} {lo lo' : Nat} {a : RuleC} (h : RuleR w lo a) (hl : lo' ≤ lo) : RuleR w lo' a := ⟨h.rd.mono hl, h.sb⟩
theorem RulesR.lasts {lo : Nat} {A : Option Addr} {c : Nat} {rs : List RuleC} : Lasts lo (fun w => RulesR w lo A c rs) := fun w w' h hk => ⟨h.rd.keep hk, fun a ha => RuleR.lasts w w' (h.each a ha) hk, h.sb⟩
theorem RulesR.mono {w : World} {lo lo' : Nat} {A : Option Addr} {c : Nat} {rs : List RuleC} (h : RulesR w lo A c rs) (hl : lo' ≤ lo) : RulesR w lo' A c rs := ⟨h.rd.mono hl, fun a ha => (h.each a ha).mono hl, h.sb⟩
abbrev rls (rs : List RuleC) : List Rule := rs.map RuleC.pl
def uCode (last : Int) : List Int → Int
  | [] => 0
  | u :: l => if u < 0 ∨ 7 < u then 3 else if u ≤ last then 5 else uCode u l
def prevU (us : List Int) (k : Nat) : Int := if k = 0 then -1 else us[k - 1]?.getD 0
def ruleCode (r : Rule) : Int := if patCode r.pat ≠ 0 then patCode r.pat else if 4 < r.users.length then 2 else uCode (-1) r.users
def rulesF (l : List Rule) : Fault := if 20 < l.length then ⟨2, -1⟩ else scan (fun _ r => ruleCode r) l
section
variable {us : List Int} {k : Nat} {p : Int}
theorem prevU_pos (h : 0 < k) (hk : k - 1 < us.length) : prevU us k = us[k - 1] := by rw [prevU, if_neg (by omega), List.getElem?_eq_getElem hk]; rfl
theorem prevU_succ (hk : k < us.length) : prevU us (k + 1) = us[k] := by
  rw [prevU_pos (by omega) (by simpa using hk)]; simp
theorem uCode_bad (hk : k < us.length) (h : us[k] < 0 ∨ 7 < us[k]) : uCode p (us.drop k) = 3 := by
  rw [List.drop_eq_getElem_cons hk, uCode, if_pos h]
theorem uCode_old (hk : k < us.length) (h : ¬ (us[k] < 0 ∨ 7 < us[k])) (h2 : us[k] ≤ p) : uCode p (us.drop k) = 5 := by
  rw [List.drop_eq_getElem_cons hk, uCode, if_neg h, if_pos h2]
theorem uCode_next (hk : k < us.length) (h : ¬ (us[k] < 0 ∨ 7 < us[k])) (h2 : ¬ us[k] ≤ p) : uCode p (us.drop k) = uCode (prevU us (k + 1)) (us.drop (k + 1)) := by
  rw [List.drop_eq_getElem_cons hk, uCode, if_neg h, if_neg h2, prevU_succ hk]
theorem uCode_end (hk : ¬ k < us.length) : uCode p (us.drop k) = 0 := by
  rw [List.drop_of_length_le (by omega)]; rfl
end
theorem patFault_code (s : ByteArray) : (patFault s).code = (patCode s : Int) := by
  unfold patFault; split
  · rename_i h; simp [h]
  · rfl
theorem rulesF_len {l : List Rule} (h : rulesF l = ⟨0, 0⟩) : l.length ≤ 20 := by
  unfold rulesF at h
  by_cases h1 : 20 < l.length
  · rw [if_pos h1] at h; cases h
  · omega
theorem rulesF_each {l : List Rule} (h : rulesF l = ⟨0, 0⟩) : ∀ r ∈ l, ruleCode r = 0 := by
  have h1 := rulesF_len h
  rw [rulesF, if_neg (by omega)] at h
  intro r hr
  obtain ⟨j, hj, rfl⟩ := List.getElem_of_mem hr
  exact scan_zero.1 h j hj
theorem rulesF_code {l : List Rule} (h : (rulesF l).code = 0) : rulesF l = ⟨0, 0⟩ := by
  unfold rulesF at h ⊢
  split
  · rename_i h1; rw [if_pos h1] at h; cases h
  · rename_i h1; rw [if_neg h1] at h; exact scan_code_eq h
theorem ruleCode_zero {r : Rule} (h : ruleCode r = 0) : patFault r.pat = ⟨0, 0⟩ ∧ r.users.length ≤ 4 ∧ uCode (-1) r.users = 0 := by
  unfold ruleCode at h
  by_cases h1 : patCode r.pat = 0
  · rw [if_neg (by simpa using h1)] at h
    by_cases h2 : 4 < r.users.length
    · rw [if_pos h2] at h; cases h
    · rw [if_neg h2] at h
      exact ⟨by rw [patFault, if_pos h1], by omega, h⟩
  · rw [if_pos h1] at h; exact absurd h (by omega)
theorem uCode_zero : ∀ {us : List Int} {p : Int}, uCode p us = 0 → (∀ u ∈ us, 0 ≤ u ∧ u ≤ 7 ∧ p < u) ∧ us.Pairwise (· < ·)
  | [], _, _ => ⟨fun _ h => (by cases h), .nil⟩
  | u :: us, p, h => by
    rw [uCode] at h
    by_cases h1 : u < 0 ∨ 7 < u
    · rw [if_pos h1] at h; cases h
    · rw [if_neg h1] at h
      by_cases h2 : u ≤ p
      · rw [if_pos h2] at h; cases h
      · rw [if_neg h2] at h
        obtain ⟨h3, h4⟩ := uCode_zero h
        refine ⟨fun x hx => ?_, List.pairwise_cons.2 ⟨fun x hx => (h3 x hx).2.2, h4⟩⟩
        rcases List.mem_cons.1 hx with rfl | hx
        · exact ⟨by omega, by omega, by omega⟩
        · have h5 := h3 x hx
          exact ⟨h5.1, h5.2.1, by omega⟩
def matchR (path : ByteArray) (r : Rule) : Bool := wk (cutS r.pat) (cutS path)
def findU (rs : List Rule) (path : ByteArray) : List Int := ((rs.reverse.find? (matchR path)).map Rule.users).getD []
abbrev noRule : RuleC := ⟨⟨⟨#[]⟩, []⟩, none, 0⟩
def backL (rs : List RuleC) : List (Int × RuleC) := (List.range rs.length).map fun (k : Nat) => ((rs.length : Int) - 1 - k, rs[rs.length - 1 - k]?.getD noRule)
theorem backL_len (rs : List RuleC) : (backL rs).length = rs.length := by simp [backL]
theorem backL_at {rs : List RuleC} {k : Nat} (h : k < rs.length) : (backL rs)[k]? = some ((rs.length : Int) - 1 - k, rs[rs.length - 1 - k]) := by
  simp only [backL, List.getElem?_map, List.getElem?_range h, Option.map_some, Option.some.injEq, Prod.mk.injEq, true_and]
  rw [List.getElem?_eq_getElem (by omega)]; rfl
theorem backL_inv {rs : List RuleC} {k : Nat} {x : Int × RuleC} (h : (backL rs)[k]? = some x) : k < rs.length ∧ ∃ h2 : rs.length - 1 - k < rs.length, x.2 = rs[rs.length - 1 - k] := by
  have hk : k < rs.length := by
    have := (List.getElem?_eq_some_iff.1 h).1
    rwa [backL_len] at this
  rw [backL_at hk] at h
  injection h with h
  exact ⟨hk, by omega, by rw [← h]⟩
theorem find_rev {rs : List Rule} {p : Rule → Bool} {k : Nat} (hk : k < rs.length) (hp : p rs[k] = true) (hn : ∀ j (h : j < rs.length), k < j → p rs[j] = false) : rs.reverse.find? p = some rs[k] := by
  have e : rs = rs.take k ++ rs[k] :: rs.drop (k + 1) := by rw [← List.drop_eq_getElem_cons hk, List.take_append_drop]
  have h1 : (rs.drop (k + 1)).reverse.find? p = none := by
    rw [List.find?_eq_none]
    intro x hx
    obtain ⟨j, hj, rfl⟩ := List.getElem_of_mem (List.mem_reverse.1 hx)
    rw [List.getElem_drop]
    simp only [List.length_drop] at hj
    simp [hn (k + 1 + j) (by omega) (by omega)]
  have h2 : rs.reverse = (rs.drop (k + 1)).reverse ++ rs[k] :: (rs.take k).reverse := by
    rw [congrArg List.reverse e]; simp
  rw [h2, List.find?_append, h1, Option.none_or, List.find?_cons, hp]
theorem find_none {rs : List Rule} {p : Rule → Bool} (hn : ∀ j (h : j < rs.length), p rs[j] = false) : rs.reverse.find? p = none := by
  rw [List.find?_eq_none]
  intro x hx
  obtain ⟨j, hj, rfl⟩ := List.getElem_of_mem (List.mem_reverse.1 hx)
  simp [hn j hj]
theorem findU_hit {rs : List RuleC} {path : ByteArray} {k : Nat} (hk : k < rs.length) (hp : matchR path rs[k].pl = true) (hn : ∀ j (h : j < rs.length), k < j → matchR path rs[j].pl = false) : findU (rls rs) path = rs[k].pl.users := by
  have hk' : k < (rls rs).length := by simpa using hk
  rw [findU, find_rev hk' (by simpa using hp) (fun j h1 h2 => by simpa using hn j (by simpa using h1) h2)]
  simp
theorem findU_none {rs : List RuleC} {path : ByteArray} (hn : ∀ j (h : j < rs.length), matchR path rs[j].pl = false) : findU (rls rs) path = [] := by
  rw [findU, find_none (fun j h1 => by simpa using hn j (by simpa using h1))]; rfl
theorem findU_mem (rs : List Rule) (path : ByteArray) : findU rs path = [] ∨ ∃ r ∈ rs, findU rs path = r.users := by
  unfold findU
  cases h : rs.reverse.find? (matchR path) with
  | none => exact .inl rfl
  | some r => exact .inr ⟨r, List.mem_reverse.1 (List.mem_of_find?_eq_some h), rfl⟩
def ofV (rs : List Rule) (path : ByteArray) : List Int := if rulesF rs = ⟨0, 0⟩ ∧ pathOk path = true then findU rs path else []
def ofF (rs : List Rule) (path : ByteArray) : Fault := if rulesF rs ≠ ⟨0, 0⟩ then rulesF rs else if pathOk path then ⟨0, 0⟩ else ⟨12, -2⟩
end Go.Cf
namespace Go.Cf
open Go.RowKit
def digitW (w : ByteArray) : Option Int := if w.size = 1 ∧ 48 ≤ byteAt w 0 ∧ byteAt w 0 ≤ 57 then some ((byteAt w 0 : Int) - 48) else none
def readU : List ByteArray → List Int × Bool
  | [] => ([], true)
  | w :: l => match digitW w with
    | none => ([], false)
    | some d => (d :: (readU l).1, (readU l).2)
structure ReadTo (ws : List ByteArray) (k : Nat) (us : List Int) : Prop where
  all : (readU ws).1 = us ++ (readU (ws.drop k)).1
  ok : (readU ws).2 = (readU (ws.drop k)).2
  len : us.length = k
theorem ReadTo.zero (ws : List ByteArray) : ReadTo ws 0 [] := ⟨rfl, rfl, rfl⟩
theorem ReadTo.next {ws : List ByteArray} {k : Nat} {us : List Int} {d : Int} (h : ReadTo ws k us) (hk : k < ws.length) (hd : digitW ws[k] = some d) : ReadTo ws (k + 1) (us ++ [d]) := by
  have e : readU (ws.drop k) = (d :: (readU (ws.drop (k + 1))).1, (readU (ws.drop (k + 1))).2) := by
    rw [List.drop_eq_getElem_cons hk, readU, hd]
  refine ⟨?_, ?_, by simp [h.len]⟩
  · rw [h.all, e]; simp
  · rw [h.ok, e]
theorem ReadTo.stop {ws : List ByteArray} {k : Nat} {us : List Int} (h : ReadTo ws k us) (hk : k < ws.length) (hd : digitW ws[k] = none) : readU ws = (us, false) := by
  have e : readU (ws.drop k) = ([], false) := by rw [List.drop_eq_getElem_cons hk, readU, hd]
  rw [show readU ws = ((readU ws).1, (readU ws).2) from rfl, h.all, h.ok, e]; simp
theorem ReadTo.done {ws : List ByteArray} {k : Nat} {us : List Int} (h : ReadTo ws k us) (hk : ¬ k < ws.length) : readU ws = (us, true) := by
  have e : readU (ws.drop k) = ([], true) := by rw [List.drop_of_length_le (by omega)]; rfl
  rw [show readU ws = ((readU ws).1, (readU ws).2) from rfl, h.all, h.ok, e]; simp
def headW (ws : List ByteArray) : ByteArray := ws[0]?.getD ⟨#[]⟩
def lineR (line : ByteArray) : Rule := ⟨headW (cutB line), (readU ((cutB line).drop 1)).1⟩
def lineC (line : ByteArray) : Int := if (readU ((cutB line).drop 1)).2 = true then ruleCode (lineR line) else 1
def skipL (s : ByteArray) : Bool := strEq s ⟨#[]⟩ || decide (byteAt s 0 = 35)
def readL : List ByteArray → List Rule
  | [] => []
  | s :: l => if skipL s = true then readL l else lineR s :: readL l
def badL (s : ByteArray) : Int := if skipL s = true then 0 else lineC s
def fileF (text : List ByteArray) : Fault := if linesF text ≠ ⟨0, 0⟩ then linesF text else if scan (fun _ s => badL s) text ≠ ⟨0, 0⟩ then scan (fun _ s => badL s) text else if 20 < (readL text).length then ⟨2, -1⟩ else ⟨0, 0⟩
def fileV (text : List ByteArray) : List Rule := if fileF text = ⟨0, 0⟩ then readL text else []
theorem readL_take {text : List ByteArray} {k : Nat} (hk : k < text.length) : readL (text.take (k + 1)) = readL (text.take k) ++ (if skipL text[k] = true then [] else [lineR text[k]]) := by
  have key : ∀ (a b : List ByteArray), readL (a ++ b) = readL a ++ readL b := by
    intro a b
    induction a with
    | nil => rfl
    | cons s a ih => simp only [List.cons_append, readL]; split <;> simp [ih]
  rw [List.take_succ_eq_append_getElem hk, key]
  congr 1
end Go.Cf
namespace Go.Cf
theorem strEq_ne2 {a b : ByteArray} (h : (!(a.toList == b.toList)) = true) : a ≠ b := fun e => by subst e; simp at h
end Go.Cf
namespace Go.Cf
open Go.RowKit
theorem y_indexByte {P : Program} {w0 : World} {T : List Reg} {ρ : Env} {dst : Option Nat} {x y : Operand} {ty : TypeId} {pos : String} {af : Array Edge} {gd : Option (Nat × Bool)} {ts : Array TypeId} {f : FuncId} {fn : Func}
    (hf : P.funcs[f]? = some fn) (hname : (fn.name == "runtime.NumGoroutine") = false) (hb : fn.body.isNone = true) (hn : Extern.findNext fn = none) (he : Extern.find fn = some Extern.BytealgIndexByte.indexByte) {s : ByteArray} {c : Int}
    (hx : ev ρ x = .string s) (hy : ev ρ y = .int .u8 c) :
    Yield P w0 T ρ ⟨dst, .call { callee := .value (.func f), args := #[x, y], argTypes := ts }, ty, pos, af, gd⟩ (.int .i64 (firstIdx s c.toNat.toUInt8)) := fun w _ => by
  have h := run_callFunc_extern hf hname hb hn he #[.string s, .int .u8 c] w
  rw [run_indexByte_string] at h
  simp only [Result.andThen] at h
  have hef : ev ρ (.func f) = .func (.func f) #[] #[] := rfl
  simp [execOp, resolve, invoke, hx, hy, hef, Deferred.ofValue]
  simpa using h
theorem y_field {P : Program} {w0 : World} {T : List Reg} {ρ : Env} {dst : Option Nat} {x : Operand} {ty t : TypeId} {pos : String} {af : Array Edge} {gd : Option (Nat × Bool)} {i : Nat} {cs : Array Value} {v : Value}
    (hx : ev ρ x = .agg cs) (hf : ∀ w, (Instr.field t (.agg cs) i).run P w = .ok v w) : Yield P w0 T ρ ⟨dst, .field t x i, ty, pos, af, gd⟩ v := fun w _ => by
  simp [execOp, hx, hf]
end Go.Cf
namespace Go.Proofs.YtbkameioedmlkaaGreatDoor
open Go.RowKit Go.Cf
set_option maxRecDepth 10000
theorem eg33 (op : BinOp) (x y : Operand) (xs ys : Array Value) (w : World) : (eqGuard op 33 x y (.agg xs) (.agg ys)).run Tryz.prog w = .ok () w := run_eqGuard_agg w op 33 x y xs ys (by kernel_rfl)
theorem ne33 (a0 b0 : Int) (a1 b1 : Int) (w : World) : (binOp .neq 33 (.agg #[.int .i64 a0, .int .i64 a1]) (.agg #[.int .i64 b0, .int .i64 b1])).run Tryz.prog w = .ok (.bool (!(decide (a0 = b0) && decide (a1 = b1)))) w := by
  simp [run_neq_struct, run_equalIn_agg, Tryz.underlying33, Tryz.stoodInHeld33, Program.fieldsOf, go_sem]
  (repeat' split) <;> simp_all
theorem fa33_0 (a : Addr) (w : World) : (Instr.fieldAt 33 (.pointer (some a)) 0).run Tryz.prog w = .ok (.pointer (some (a.add 0))) w := by kernel_rfl
set_option maxHeartbeats 1000000 in
theorem slIndexByte_any (w : World) (s : ByteArray) (c : Int) : Calls Tryz.prog 116 #[.string s, .int .u8 c] w fun e w' => e = .returned (.int .i64 (firstIdx s c.toNat.toUInt8)) ∧ Below w.heap.size w w' := by
  refine gcalls Tryz.func116 rfl Tryz.ntmps116 (Nat.le_of_ble_eq_true rfl) ?_
  refine gfrom [(0, .string _), (1, .int _ _)] ⟨rfl, rfl, trivial⟩ fun σ => ?_
  refine gseq fun N1 hN1 => ?_
  refine greg ?_
  refine gop (y_assign (v := .int _ _) rfl) rfl rfl rfl ?_
  refine gops_nil ?_
  refine hN1 _ _ ?_
  refine gfrom [(0, .string _), (1, .int _ _)] ⟨rfl, rfl, trivial⟩ fun σ => ?_
  refine gseq fun N2 hN2 => ?_
  refine greg ?_
  refine gop (y_move (v := .string _) rfl) rfl rfl rfl ?_
  refine gop (y_move (v := .int _ _) rfl) rfl rfl rfl ?_
  refine gop (y_indexByte Tryz.func142 (by kernel_rfl) (by kernel_rfl) (by kernel_rfl) (by kernel_rfl) rfl rfl) rfl rfl rfl ?_
  refine gop (y_assign (v := .int _ _) rfl) rfl rfl rfl ?_
  refine gops_nil ?_
  refine hN2 _ _ ?_
  refine gfrom [(4, .int _ _)] ⟨rfl, trivial⟩ fun σ => ?_
  refine gret fun w1 hM => ?_
  refine ⟨_, res1 rfl (rt (v := .int _ _) rfl), ?_⟩
  exact ⟨rfl, hM.low⟩
set_option maxHeartbeats 1000000 in
theorem indexByte_any (w : World) (s : ByteArray) (c : Int) : Calls Tryz.prog 92 #[.string s, .int .u8 c] w fun e w' => e = .returned (.int .i64 (firstIdx s c.toNat.toUInt8)) ∧ Below w.heap.size w w' := by
  refine gcalls Tryz.func92 rfl Tryz.ntmps92 (Nat.le_of_ble_eq_true rfl) ?_
  refine gfrom [(0, .string _), (1, .int _ _)] ⟨rfl, rfl, trivial⟩ fun σ => ?_
  refine gseq fun N1 hN1 => ?_
  refine greg ?_
  refine gop (y_assign (v := .int _ _) rfl) rfl rfl rfl ?_
  refine gops_nil ?_
  refine hN1 _ _ ?_
  refine gfrom [(0, .string _), (1, .int _ _)] ⟨rfl, rfl, trivial⟩ fun σ => ?_
  refine gseq fun N2 hN2 => ?_
  refine greg ?_
  refine gop (y_move (v := .string _) rfl) rfl rfl rfl ?_
  refine gop (y_move (v := .int _ _) rfl) rfl rfl rfl ?_
  refine gop_pure (e_call (vs := [.string _, .int _ _]) Tryz.func116 rfl (by kernel_rfl) rfl) (fun w hM => slIndexByte_any w _ _) rfl rfl rfl ?_
  refine gop (y_assign (v := .int _ _) rfl) rfl rfl rfl ?_
  refine gops_nil ?_
  refine hN2 _ _ ?_
  refine gfrom [(4, .int _ _)] ⟨rfl, trivial⟩ fun σ => ?_
  refine gret fun w1 hM => ?_
  refine ⟨_, res1 rfl (rt (v := .int _ _) rfl), ?_⟩
  exact ⟨rfl, hM.low⟩
set_option maxHeartbeats 1000000 in
theorem linesValidate_any (w : World) (A : Option Addr) (c : Nat) (l : List ByteArray) (hl : Rdl w 0 1 strCells A l) (hm : l.length ≤ maxLen) : Calls Tryz.prog 58 #[.slice A l.length c] w fun e w' => e = .returned (fv (linesF l)) ∧ Below w.heap.size w w' := by
  unfold maxLen at hm
  refine gcalls Tryz.func58 rfl Tryz.ntmps58 (Nat.le_of_ble_eq_true rfl) ?_
  refine gfrom [(0, .slice _ _ _)] ⟨rfl, trivial⟩ fun σ => ?_
  refine gseq fun N1 hN1 => ?_
  refine greg ?_
  refine gop_alloc (cs := #[.int .i64 0, .int .i64 0]) Tryz.zeroValue33 rfl rfl (fun b2 hb2 => ?_)
  refine gops_nil ?_
  refine hN1 _ _ ?_
  refine gT [box b2 _] rfl ?_
  refine gfrom [(0, .slice _ _ _), (2, .pointer _)] ⟨rfl, rfl, trivial⟩ fun σ => ?_
  refine gseq fun N2 hN2 => ?_
  refine gseq fun N3 hN3 => ?_
  refine greg ?_
  refine gop (y_move (v := .slice _ _ _) rfl) rfl rfl rfl ?_
  refine gop (y_len Tryz.underlying22 rfl) rfl rfl rfl ?_
  refine gop (y_gtr rfl rfl) rfl rfl rfl ?_
  refine gops_nil ?_
  refine hN3 _ _ ?_
  refine gfrom [(0, .slice _ _ _), (2, .pointer _), (7, .bool _)] ⟨rfl, rfl, rfl, trivial⟩ fun σ => ?_
  refine gcond (b := _) rfl (fun hc7 => ?_) (fun hc7 => ?_)
  · 
    replace hc7 := of_decide_eq_true hc7
    have hF : linesF l = ⟨2, -1⟩ := by rw [linesF, if_pos (by omega)]
    refine gseq fun N4 hN4 => ?_
    refine greg ?_
    refine gop (y_build (vs := [(0, _), (1, _)]) (cells := #[_, _]) rfl (bd33_0_1 _ _)) rfl rfl rfl ?_
    refine gop_store 0 (v := .agg #[_, _]) (cs' := #[_, _]) rfl rfl Tryz.sizeOf33 rfl rfl rfl rfl (Nat.le_of_ble_eq_true rfl) rfl rfl ?_
    refine gops_nil ?_
    refine hN4 _ _ ?_
    refine gT [box b2 _] rfl ?_
    refine gfrom [(2, .pointer _)] ⟨rfl, trivial⟩ fun σ => ?_
    refine gret fun w1 hM => ?_
    refine ⟨_, res1 rfl (rc 0 (cs := [_, _]) hM rfl rfl Tryz.isAgg33 Tryz.sizeOf33 rfl), ?_⟩
    exact ⟨by rw [hF], hM.low⟩
  · 
    replace hc7 := of_decide_eq_false hc7
    have hF : linesF l = scan (fun _ s => lineCode s) l := by rw [linesF, if_neg (by omega)]
    refine gskip ?_
    refine hN2 _ _ ?_
    refine gfrom [(0, .slice _ _ _), (2, .pointer _)] ⟨rfl, rfl, trivial⟩ fun σ => ?_
    refine gseq fun N5 hN5 => ?_
    refine gseq fun N6 hN6 => ?_
    refine greg ?_
    refine gop (y_move (v := .slice _ _ _) rfl) rfl rfl rfl ?_
    refine gop (y_len Tryz.underlying22 rfl) rfl rfl rfl ?_
    refine gop (y_move (v := .int _ _) rfl) rfl rfl rfl ?_
    refine gops_nil ?_
    refine hN6 _ _ ?_
    refine gfrom [(2, .pointer _), (9, .slice _ _ _), (10, .int _ _), (11, .int _ _)] ⟨rfl, rfl, rfl, rfl, trivial⟩ fun σ => ?_
    refine gblock ?_
    refine gfrom2 [(11, .int _ _)] [(2, .pointer _), (9, .slice _ _ _), (10, .int _ _)] ⟨rfl, trivial⟩ ⟨rfl, rfl, rfl, trivial⟩ fun σ => ?_
    refine gloop2 (G := Nat) (fun k => k ≤ l.length ∧ ∀ j (h : j < l.length), j < k → lineCode l[j] = 0) (fun k => l.length - k) (fun k => [(11, .int .i64 (k : Int))]) (fun k => []) (0) ?h0 ⟨rfl, trivial⟩ ⟨rfl, rfl, rfl, trivial⟩ rfl ?round
    case h0 => exact ⟨Nat.zero_le _, fun _ _ h => absurd h (by omega)⟩
    case round =>
      intro k hφ σ
      obtain ⟨hk, hz⟩ := hφ
      refine gseq fun N7 hN7 => ?_
      refine greg ?_
      refine gop (y_lss rfl rfl) rfl rfl rfl ?_
      refine gops_nil ?_
      refine hN7 _ _ ?_
      refine gfrom [(2, .pointer _), (9, .slice _ _ _), (10, .int _ _), (11, .int _ _), (12, .bool _)] ⟨rfl, rfl, rfl, rfl, rfl, trivial⟩ fun σ => ?_
      refine gseq fun N8 hN8 => ?_
      refine gcond (b := _) rfl (fun hc12 => ?_) (fun hc12 => ?_)
      · 
        replace hc12 := of_decide_eq_true hc12
        have hk1 : k < l.length := by omega
        obtain ⟨ad, rfl, -, hca⟩ := hl.at_ hk1
        refine gskip ?_
        refine hN8 _ _ ?_
        refine gfrom [(2, .pointer _), (9, .slice _ _ _), (10, .int _ _), (11, .int _ _)] ⟨rfl, rfl, rfl, rfl, trivial⟩ fun σ => ?_
        refine gseq fun N9 hN9 => ?_
        refine gblock ?_
        refine gseq fun N10 hN10 => ?_
        refine greg ?_
        refine gop (y_move (v := .int _ _) rfl) rfl rfl rfl ?_
        refine gop (y_indexAddr Tryz.underlying22 Tryz.sizeOf9 rfl rfl rfl (by omega) (by omega)) rfl rfl rfl ?_
        refine gop (y_load Tryz.isAgg9 rfl (cell_base (hca 0 _ rfl))) rfl rfl rfl ?_
        refine gop (y_assign (v := .int _ _) rfl) rfl rfl rfl ?_
        refine gop (y_assign (v := .string _) rfl) rfl rfl rfl ?_
        refine gops_nil ?_
        refine hN10 _ _ ?_
        refine gfrom [(2, .pointer _), (3, .int _ _), (4, .string _), (9, .slice _ _ _), (10, .int _ _), (11, .int _ _)] ⟨rfl, rfl, rfl, rfl, rfl, rfl, trivial⟩ fun σ => ?_
        refine gseq fun N11 hN11 => ?_
        refine gseq fun N12 hN12 => ?_
        refine greg ?_
        refine gop (y_move (v := .string _) rfl) rfl rfl rfl ?_
        refine gop (y_lens Tryz.underlying9 rfl) rfl rfl rfl ?_
        refine gop (y_gtr rfl rfl) rfl rfl rfl ?_
        refine gops_nil ?_
        refine hN12 _ _ ?_
        refine gfrom [(2, .pointer _), (3, .int _ _), (4, .string _), (9, .slice _ _ _), (10, .int _ _), (11, .int _ _), (18, .bool _)] ⟨rfl, rfl, rfl, rfl, rfl, rfl, rfl, trivial⟩ fun σ => ?_
        refine gcond (b := _) rfl (fun hc18 => ?_) (fun hc18 => ?_)
        · 
          replace hc18 := of_decide_eq_true hc18
          have hcd : lineCode l[k] = 2 := by rw [lineCode, if_pos (by omega)]
          refine gseq fun N13 hN13 => ?_
          refine greg ?_
          refine gop (y_move (v := .int _ _) rfl) rfl rfl rfl ?_
          refine gop (y_build (vs := [(0, _), (1, .int _ _)]) (cells := #[_, _]) rfl (bd33_0_1 _ _)) rfl rfl rfl ?_
          refine gop_store 0 (v := .agg #[_, _]) (cs' := #[_, _]) rfl rfl Tryz.sizeOf33 rfl rfl rfl rfl (Nat.le_of_ble_eq_true rfl) rfl rfl ?_
          refine gops_nil ?_
          refine hN13 _ _ ?_
          refine gT [box b2 _] rfl ?_
          refine gfrom [(2, .pointer _)] ⟨rfl, trivial⟩ fun σ => ?_
          refine gret fun w1 hM => ?_
          refine ⟨_, res1 rfl (rc 0 (cs := [_, _]) hM rfl rfl Tryz.isAgg33 Tryz.sizeOf33 rfl), ?_⟩
          exact ⟨by rw [hF, scan_at hk1 hz (by rw [hcd]; decide), hcd], hM.low⟩
        · 
          replace hc18 := of_decide_eq_false hc18
          refine gskip ?_
          refine hN11 _ _ ?_
          refine gfrom [(2, .pointer _), (3, .int _ _), (4, .string _), (9, .slice _ _ _), (10, .int _ _), (11, .int _ _)] ⟨rfl, rfl, rfl, rfl, rfl, rfl, trivial⟩ fun σ => ?_
          refine gseq fun N14 hN14 => ?_
          refine greg ?_
          refine gop (y_move (v := .string _) rfl) rfl rfl rfl ?_
          refine gop_pure (e_call (vs := [.string _, _]) Tryz.func92 rfl (by kernel_rfl) rfl) (fun w hM => indexByte_any w _ _) rfl rfl rfl ?_
          refine gop (y_geq rfl rfl) rfl rfl rfl ?_
          refine gops_nil ?_
          refine hN14 _ _ ?_
          refine gfrom [(2, .pointer _), (3, .int _ _), (9, .slice _ _ _), (10, .int _ _), (11, .int _ _), (23, .bool _)] ⟨rfl, rfl, rfl, rfl, rfl, rfl, trivial⟩ fun σ => ?_
          refine gcond (b := _) rfl (fun hc23 => ?_) (fun hc23 => ?_)
          · 
            replace hc23 := of_decide_eq_true hc23
            have hcd : lineCode l[k] = 5 := by rw [lineCode, if_neg (by omega), if_pos (show 0 ≤ firstIdx l[k] 10 from hc23)]
            refine gseq fun N15 hN15 => ?_
            refine greg ?_
            refine gop (y_move (v := .int _ _) rfl) rfl rfl rfl ?_
            refine gop (y_build (vs := [(0, _), (1, .int _ _)]) (cells := #[_, _]) rfl (bd33_0_1 _ _)) rfl rfl rfl ?_
            refine gop_store 0 (v := .agg #[_, _]) (cs' := #[_, _]) rfl rfl Tryz.sizeOf33 rfl rfl rfl rfl (Nat.le_of_ble_eq_true rfl) rfl rfl ?_
            refine gops_nil ?_
            refine hN15 _ _ ?_
            refine gT [box b2 _] rfl ?_
            refine gfrom [(2, .pointer _)] ⟨rfl, trivial⟩ fun σ => ?_
            refine gret fun w1 hM => ?_
            refine ⟨_, res1 rfl (rc 0 (cs := [_, _]) hM rfl rfl Tryz.isAgg33 Tryz.sizeOf33 rfl), ?_⟩
            exact ⟨by rw [hF, scan_at hk1 hz (by rw [hcd]; decide), hcd], hM.low⟩
          · 
            replace hc23 := of_decide_eq_false hc23
            refine gskip ?_
            refine hN9 _ _ ?_
            refine gfrom [(2, .pointer _), (9, .slice _ _ _), (10, .int _ _), (11, .int _ _)] ⟨rfl, rfl, rfl, rfl, trivial⟩ fun σ => ?_
            refine greg ?_
            refine gop (y_add rfl rfl ⟨by omega, by omega⟩) rfl rfl rfl ?_
            refine gop (y_move (v := .int _ _) rfl) rfl rfl rfl ?_
            refine gops_nil ?_
            refine gnext2 (k + 1) (by omega) (⟨by omega, fun j h hj => by rcases Nat.lt_succ_iff_lt_or_eq.1 hj with h1 | rfl; exact hz j h h1; unfold lineCode; rw [if_neg (by omega), if_neg (show ¬ 0 ≤ firstIdx l[j] 10 from hc23)]⟩) ⟨rfl, trivial⟩ ⟨rfl, rfl, rfl, trivial⟩ ⟨_, rfl⟩
      · 
        replace hc12 := of_decide_eq_false hc12
        have hF2 : linesF l = ⟨0, 0⟩ := by rw [hF]; exact scan_ok fun j hj => hz j hj (by omega)
        refine gexit ?_
        refine hN5 _ _ ?_
        refine gfrom [(2, .pointer _)] ⟨rfl, trivial⟩ fun σ => ?_
        refine gseq fun N16 hN16 => ?_
        refine greg ?_
        refine gop (y_build (vs := []) (cells := #[.int .i64 0, .int .i64 0]) rfl bd33_) rfl rfl rfl ?_
        refine gop_store 0 (v := .agg #[_, _]) (cs' := #[_, _]) rfl rfl Tryz.sizeOf33 rfl rfl rfl rfl (Nat.le_of_ble_eq_true rfl) rfl rfl ?_
        refine gops_nil ?_
        refine hN16 _ _ ?_
        refine gT [box b2 _] rfl ?_
        refine gfrom [(2, .pointer _)] ⟨rfl, trivial⟩ fun σ => ?_
        refine gret fun w1 hM => ?_
        refine ⟨_, res1 rfl (rc 0 (cs := [_, _]) hM rfl rfl Tryz.isAgg33 Tryz.sizeOf33 rfl), ?_⟩
        exact ⟨by rw [hF2], hM.low⟩
set_option maxHeartbeats 1000000 in
theorem linesSecond_any (w : World) (A : Option Addr) (c : Nat) (l : List ByteArray) (hl : Rdl w 0 1 strCells A l) (hm : l.length ≤ maxLen) (i : Int) : Calls Tryz.prog 28 #[.slice A l.length c, .int .i64 i] w fun e w' => e = .returned (fv (secondF (linesF l) i)) ∧ Below w.heap.size w w' := by
  refine gcalls Tryz.func28 rfl Tryz.ntmps28 (Nat.le_of_ble_eq_true rfl) ?_
  refine gfrom [(0, .slice _ _ _), (1, .int _ _)] ⟨rfl, rfl, trivial⟩ fun σ => ?_
  refine gseq fun N1 hN1 => ?_
  refine greg ?_
  refine gop_alloc (cs := #[.int .i64 0, .int .i64 0]) Tryz.zeroValue33 rfl rfl (fun b4 hb4 => ?_)
  refine gops_nil ?_
  refine hN1 _ _ ?_
  refine gT [box b4 _] rfl ?_
  refine gfrom [(0, .slice _ _ _), (1, .int _ _), (4, .pointer _)] ⟨rfl, rfl, rfl, trivial⟩ fun σ => ?_
  refine gseq fun N2 hN2 => ?_
  refine gseq fun N3 hN3 => ?_
  refine greg ?_
  refine gop (y_move (v := .slice _ _ _) rfl) rfl rfl rfl ?_
  refine gop_pure (e_call (vs := [.slice _ _ _]) Tryz.func58 rfl (by kernel_rfl) rfl) (fun w hM => linesValidate_any w _ _ _ (hl.base hM) hm) rfl rfl rfl ?_
  refine gop_alloc (cs := #[.int .i64 0, .int .i64 0]) Tryz.zeroValue33 rfl rfl (fun b5 hb5 => ?_)
  refine gop_store 1 (v := .agg #[_, _]) (cs' := #[_, _]) rfl rfl Tryz.sizeOf33 rfl rfl rfl rfl (Nat.le_of_ble_eq_true rfl) rfl rfl ?_
  refine gops_nil ?_
  refine hN3 _ _ ?_
  refine gT [box b4 _, box b5 _] rfl ?_
  refine gfrom [(1, .int _ _), (4, .pointer _), (5, .pointer _)] ⟨rfl, rfl, rfl, trivial⟩ fun σ => ?_
  refine gseq fun N4 hN4 => ?_
  refine greg ?_
  refine gop (y_loads (cs := [_, _]) Tryz.isAgg33 Tryz.sizeOf33 rfl rfl (cells_box 1 rfl)) rfl rfl rfl ?_
  refine gop (y_build (vs := []) (cells := #[.int .i64 0, .int .i64 0]) rfl bd33_) rfl rfl rfl ?_
  refine gop (y_bin (vx := .agg #[_, _]) (vy := .agg #[_, _]) rfl rfl (fun w => eg33 _ _ _ _ _ w) (fun w => ne33 _ _ _ _ w)) rfl rfl rfl ?_
  refine gops_nil ?_
  refine hN4 _ _ ?_
  refine gfrom [(1, .int _ _), (4, .pointer _), (5, .pointer _), (10, .bool _)] ⟨rfl, rfl, rfl, rfl, trivial⟩ fun σ => ?_
  refine gcond (b := _) rfl (fun hc10 => ?_) (fun hc10 => ?_)
  · 
    replace hc10 := fault_ne.1 hc10
    refine gseq fun N5 hN5 => ?_
    refine greg ?_
    refine gop (y_fieldAddr_box fa33_0 rfl) rfl rfl rfl ?_
    refine gop (y_load Tryz.isAgg3 rfl (cell_box 1 rfl rfl)) rfl rfl rfl ?_
    refine gop (y_move (v := .int _ _) rfl) rfl rfl rfl ?_
    refine gop (y_build (vs := [(0, .int _ _), (1, .int _ _)]) (cells := #[_, _]) rfl (bd33_0_1 _ _)) rfl rfl rfl ?_
    refine gop_store 0 (v := .agg #[_, _]) (cs' := #[_, _]) rfl rfl Tryz.sizeOf33 rfl rfl rfl rfl (Nat.le_of_ble_eq_true rfl) rfl rfl ?_
    refine gops_nil ?_
    refine hN5 _ _ ?_
    refine gT [box b4 _, box b5 _] rfl ?_
    refine gfrom [(4, .pointer _)] ⟨rfl, trivial⟩ fun σ => ?_
    refine gret fun w1 hM => ?_
    refine ⟨_, res1 rfl (rc 0 (cs := [_, _]) hM rfl rfl Tryz.isAgg33 Tryz.sizeOf33 rfl), ?_⟩
    exact ⟨by rw [secondF, if_pos hc10], hM.low⟩
  · 
    replace hc10 := fault_eq.1 hc10
    refine gskip ?_
    refine hN2 _ _ ?_
    refine gfrom [(4, .pointer _)] ⟨rfl, trivial⟩ fun σ => ?_
    refine gseq fun N6 hN6 => ?_
    refine greg ?_
    refine gop (y_build (vs := []) (cells := #[.int .i64 0, .int .i64 0]) rfl bd33_) rfl rfl rfl ?_
    refine gop_store 0 (v := .agg #[_, _]) (cs' := #[_, _]) rfl rfl Tryz.sizeOf33 rfl rfl rfl rfl (Nat.le_of_ble_eq_true rfl) rfl rfl ?_
    refine gops_nil ?_
    refine hN6 _ _ ?_
    refine gT [box b4 _, box b5 _] rfl ?_
    refine gfrom [(4, .pointer _)] ⟨rfl, trivial⟩ fun σ => ?_
    refine gret fun w1 hM => ?_
    refine ⟨_, res1 rfl (rc 0 (cs := [_, _]) hM rfl rfl Tryz.isAgg33 Tryz.sizeOf33 rfl), ?_⟩
    exact ⟨by rw [secondF, if_neg (by simp [hc10])], hM.low⟩
end Go.Proofs.YtbkameioedmlkaaGreatDoor
namespace Go.Proofs.YtbkameioedmlkaaGreatDoor
open Go.RowKit Go.Cf
set_option maxRecDepth 10000
theorem fa89_0 (a : Addr) (w : World) : (Instr.fieldAt 89 (.pointer (some a)) 0).run Tryz.prog w = .ok (.pointer (some (a.add 0))) w := by kernel_rfl
theorem fa89_1 (a : Addr) (w : World) : (Instr.fieldAt 89 (.pointer (some a)) 1).run Tryz.prog w = .ok (.pointer (some (a.add 1))) w := by kernel_rfl
theorem el3 : Elem Tryz.prog 3 1 8 := elem_of (z := .int .i64 0) (by kernel_rfl) rfl (by decide)
set_option maxHeartbeats 2000000 in
theorem check_any (w : World) (pat : ByteArray) (us : List Int) (A : Option Addr) (c : Nat) (hR : RuleR w 0 ⟨⟨pat, us⟩, A, c⟩) : Calls Tryz.prog 70 #[.agg #[.string pat, .slice A us.length c]] w fun e w' => e = .returned (.int .i64 (ruleCode ⟨pat, us⟩)) ∧ Below w.heap.size w w' := by
  have hmx : c ≤ maxLen := hR.sb.max
  have hln : us.length ≤ c := hR.sb.len
  have hrd : Rdl w 0 1 intCells A us := hR.rd
  unfold maxLen at hmx
  refine gcalls Tryz.func70 rfl Tryz.ntmps70 (Nat.le_of_ble_eq_true rfl) ?_
  refine gfrom [(0, .agg #[_, _])] ⟨rfl, trivial⟩ fun σ => ?_
  refine gseq fun N1 hN1 => ?_
  refine greg ?_
  refine gop_box (v := .agg #[_, _]) (cs := #[_, _]) rfl rfl rfl (fun b1 hb1 => ?_)
  refine gop (y_assign (v := .int _ _) rfl) rfl rfl rfl ?_
  refine gops_nil ?_
  refine hN1 _ _ ?_
  refine gT [box b1 _] rfl ?_
  refine gfrom [(1, .pointer _)] ⟨rfl, trivial⟩ fun σ => ?_
  refine gseq fun N2 hN2 => ?_
  refine gseq fun N3 hN3 => ?_
  refine greg ?_
  refine gop (y_fieldAddr_box fa89_0 rfl) rfl rfl rfl ?_
  refine gop (y_load Tryz.isAgg9 rfl (cell_box 0 rfl rfl)) rfl rfl rfl ?_
  refine gop_pure (e_call (vs := [.string _]) Tryz.func102 rfl (by kernel_rfl) rfl) (fun w hM => validate_any w _) rfl rfl rfl ?_
  refine gop_alloc (cs := #[.int .i64 0, .int .i64 0]) Tryz.zeroValue33 rfl rfl (fun b3 hb3 => ?_)
  refine gop_store 1 (v := .agg #[_, _]) (cs' := #[_, _]) rfl rfl Tryz.sizeOf33 rfl rfl rfl rfl (Nat.le_of_ble_eq_true rfl) rfl rfl ?_
  refine gops_nil ?_
  refine hN3 _ _ ?_
  refine gT [box b1 _, box b3 _] rfl ?_
  refine gfrom [(1, .pointer _), (3, .pointer _)] ⟨rfl, rfl, trivial⟩ fun σ => ?_
  refine gseq fun N4 hN4 => ?_
  refine greg ?_
  refine gop (y_loads (cs := [_, _]) Tryz.isAgg33 Tryz.sizeOf33 rfl rfl (cells_box 1 rfl)) rfl rfl rfl ?_
  refine gop (y_build (vs := []) (cells := #[.int .i64 0, .int .i64 0]) rfl bd33_) rfl rfl rfl ?_
  refine gop (y_bin (vx := .agg #[_, _]) (vy := .agg #[_, _]) rfl rfl (fun w => eg33 _ _ _ _ _ w) (fun w => ne33 _ _ _ _ w)) rfl rfl rfl ?_
  refine gops_nil ?_
  refine hN4 _ _ ?_
  refine gfrom [(1, .pointer _), (3, .pointer _), (11, .bool _)] ⟨rfl, rfl, rfl, trivial⟩ fun σ => ?_
  refine gcond (b := _) rfl (fun hc11 => ?_) (fun hc11 => ?_)
  · 
    replace hc11 := fault_ne.1 hc11
    have hC : ruleCode ⟨pat, us⟩ = (patFault pat).code := by rw [ruleCode, if_pos (fun h => hc11 (by rw [patFault, if_pos h]))]; exact (patFault_code pat).symm
    refine gseq fun N5 hN5 => ?_
    refine greg ?_
    refine gop (y_fieldAddr_box fa33_0 rfl) rfl rfl rfl ?_
    refine gop (y_load Tryz.isAgg3 rfl (cell_box 1 rfl rfl)) rfl rfl rfl ?_
    refine gop (y_assign (v := .int _ _) rfl) rfl rfl rfl ?_
    refine gops_nil ?_
    refine hN5 _ _ ?_
    refine gfrom [(2, .int _ _)] ⟨rfl, trivial⟩ fun σ => ?_
    refine gret fun w1 hM => ?_
    refine ⟨_, res1 rfl (rt (v := .int _ _) rfl), ?_⟩
    exact ⟨by rw [hC], hM.low⟩
  · 
    replace hc11 := fault_eq.1 hc11
    have hp0 : patCode pat = 0 := by have h0 := patFault_code pat; rw [hc11] at h0; have h1 : (0 : Int) = (patCode pat : Int) := h0; omega
    refine gskip ?_
    refine hN2 _ _ ?_
    refine gfrom [(1, .pointer _)] ⟨rfl, trivial⟩ fun σ => ?_
    refine gseq fun N6 hN6 => ?_
    refine gseq fun N7 hN7 => ?_
    refine greg ?_
    refine gop (y_fieldAddr_box fa89_1 rfl) rfl rfl rfl ?_
    refine gop (y_load Tryz.isAgg74 rfl (cell_box 0 rfl rfl)) rfl rfl rfl ?_
    refine gop (y_len Tryz.underlying74 rfl) rfl rfl rfl ?_
    refine gop (y_gtr rfl rfl) rfl rfl rfl ?_
    refine gops_nil ?_
    refine hN7 _ _ ?_
    refine gfrom [(1, .pointer _), (17, .bool _)] ⟨rfl, rfl, trivial⟩ fun σ => ?_
    refine gcond (b := _) rfl (fun hc17 => ?_) (fun hc17 => ?_)
    · 
      replace hc17 := of_decide_eq_true hc17
      have hC : ruleCode ⟨pat, us⟩ = 2 := by rw [ruleCode, if_neg (fun h => h hp0), if_pos (show 4 < us.length by omega)]
      refine gseq fun N8 hN8 => ?_
      refine greg ?_
      refine gop (y_assign (v := .int _ _) rfl) rfl rfl rfl ?_
      refine gops_nil ?_
      refine hN8 _ _ ?_
      refine gfrom [(2, .int _ _)] ⟨rfl, trivial⟩ fun σ => ?_
      refine gret fun w1 hM => ?_
      refine ⟨_, res1 rfl (rt (v := .int _ _) rfl), ?_⟩
      exact ⟨by rw [hC], hM.low⟩
    · 
      replace hc17 := of_decide_eq_false hc17
      have hC : ruleCode ⟨pat, us⟩ = uCode (-1) us := by rw [ruleCode, if_neg (fun h => h hp0), if_neg (show ¬ 4 < us.length by omega)]
      refine gskip ?_
      refine hN6 _ _ ?_
      refine gfrom [(1, .pointer _)] ⟨rfl, trivial⟩ fun σ => ?_
      refine gseq fun N9 hN9 => ?_
      refine gseq fun N10 hN10 => ?_
      refine greg ?_
      refine gop (y_fieldAddr_box fa89_1 rfl) rfl rfl rfl ?_
      refine gop (y_load Tryz.isAgg74 rfl (cell_box 0 rfl rfl)) rfl rfl rfl ?_
      refine gop (y_len Tryz.underlying74 rfl) rfl rfl rfl ?_
      refine gop (y_move (v := .int _ _) rfl) rfl rfl rfl ?_
      refine gops_nil ?_
      refine hN10 _ _ ?_
      refine gfrom [(1, .pointer _), (19, .slice _ _ _), (20, .int _ _), (21, .int _ _)] ⟨rfl, rfl, rfl, rfl, trivial⟩ fun σ => ?_
      refine gblock ?_
      refine gfrom2 [(21, .int _ _)] [(1, .pointer _), (19, .slice _ _ _), (20, .int _ _)] ⟨rfl, trivial⟩ ⟨rfl, rfl, rfl, trivial⟩ fun σ => ?_
      refine gloop2 (G := Nat) (fun k => k ≤ us.length ∧ uCode (prevU us k) (us.drop k) = uCode (-1) us) (fun k => us.length - k) (fun k => [(21, .int .i64 (k : Int))]) (fun k => []) (0) ?h0 ⟨rfl, trivial⟩ ⟨rfl, rfl, rfl, trivial⟩ rfl ?round
      case h0 => exact ⟨Nat.zero_le _, rfl⟩
      case round =>
        intro k hφ σ
        obtain ⟨hk, hu⟩ := hφ
        refine gseq fun N11 hN11 => ?_
        refine greg ?_
        refine gop (y_lss rfl rfl) rfl rfl rfl ?_
        refine gops_nil ?_
        refine hN11 _ _ ?_
        refine gfrom [(1, .pointer _), (19, .slice _ _ _), (20, .int _ _), (21, .int _ _), (22, .bool _)] ⟨rfl, rfl, rfl, rfl, rfl, trivial⟩ fun σ => ?_
        refine gseq fun N12 hN12 => ?_
        refine gcond (b := _) rfl (fun hc22 => ?_) (fun hc22 => ?_)
        · 
          replace hc22 := of_decide_eq_true hc22
          have hk1 : k < us.length := by omega
          obtain ⟨ad, rfl, -, hca⟩ := hrd.at_ hk1
          refine gskip ?_
          refine hN12 _ _ ?_
          refine gfrom [(1, .pointer _), (19, .slice _ _ _), (20, .int _ _), (21, .int _ _)] ⟨rfl, rfl, rfl, rfl, trivial⟩ fun σ => ?_
          refine gseq fun N13 hN13 => ?_
          refine gblock ?_
          refine gseq fun N14 hN14 => ?_
          refine greg ?_
          refine gop (y_move (v := .int _ _) rfl) rfl rfl rfl ?_
          refine gop (y_indexAddr (m := k) Tryz.underlying74 Tryz.sizeOf3 rfl rfl (by omega) (by omega) (by omega)) rfl rfl rfl ?_
          refine gop (y_load Tryz.isAgg3 rfl (cell_base (hca 0 _ rfl))) rfl rfl rfl ?_
          refine gop (y_assign (v := .int _ _) rfl) rfl rfl rfl ?_
          refine gop (y_assign (v := .int _ _) rfl) rfl rfl rfl ?_
          refine gops_nil ?_
          refine hN14 _ _ ?_
          refine gfrom [(1, .pointer _), (4, .int _ _), (5, .int _ _), (19, .slice _ _ _), (20, .int _ _), (21, .int _ _)] ⟨rfl, rfl, rfl, rfl, rfl, rfl, trivial⟩ fun σ => ?_
          refine gseq fun N15 hN15 => ?_
          refine gseq fun N16 hN16 => ?_
          refine greg ?_
          refine gop (y_move (v := .int _ _) rfl) rfl rfl rfl ?_
          refine gop (y_lss rfl rfl) rfl rfl rfl ?_
          refine gop (y_move (v := .bool _) rfl) rfl rfl rfl ?_
          refine gop_if (want := false) rfl rfl rfl rfl rfl rfl (fun hg28 => ?_) (fun hg28 => ?_)
          · 
            have hg28d := of_decide_eq_false hg28
            refine gop (y_bare (y_move (v := .int _ _) rfl)) rfl rfl rfl ?_
            refine gop_on rfl rfl rfl rfl hg28 ?_
            refine gop (y_bare (y_gtr rfl rfl)) rfl rfl rfl ?_
            refine gop (y_pick_f (v := .bool _) rfl hg28 rfl) rfl rfl rfl ?_
            refine gops_nil ?_
            refine hN16 _ _ ?_
            refine gfrom [(1, .pointer _), (4, .int _ _), (5, .int _ _), (19, .slice _ _ _), (20, .int _ _), (21, .int _ _), (31, .bool _)] ⟨rfl, rfl, rfl, rfl, rfl, rfl, rfl, trivial⟩ fun σ => ?_
            refine gcond (b := _) rfl (fun hc31 => ?_) (fun hc31 => ?_)
            · 
              replace hc31 := of_decide_eq_true hc31
              refine gseq fun N17 hN17 => ?_
              refine greg ?_
              refine gop (y_assign (v := .int _ _) rfl) rfl rfl rfl ?_
              refine gops_nil ?_
              refine hN17 _ _ ?_
              refine gfrom [(2, .int _ _)] ⟨rfl, trivial⟩ fun σ => ?_
              refine gret fun w1 hM => ?_
              refine ⟨_, res1 rfl (rt (v := .int _ _) rfl), ?_⟩
              exact ⟨by rw [hC, ← hu, uCode_bad hk1 (by omega)], hM.low⟩
            · 
              replace hc31 := of_decide_eq_false hc31
              refine gskip ?_
              refine hN15 _ _ ?_
              refine gfrom [(1, .pointer _), (4, .int _ _), (5, .int _ _), (19, .slice _ _ _), (20, .int _ _), (21, .int _ _)] ⟨rfl, rfl, rfl, rfl, rfl, rfl, trivial⟩ fun σ => ?_
              refine gseq fun N18 hN18 => ?_
              refine greg ?_
              refine gop (y_move (v := .int _ _) rfl) rfl rfl rfl ?_
              refine gop (y_gtr rfl rfl) rfl rfl rfl ?_
              refine gop (y_move (v := .bool _) rfl) rfl rfl rfl ?_
              refine gop_if (want := true) rfl rfl rfl rfl rfl rfl (fun hg34 => ?_) (fun hg34 => ?_)
              · 
                have hg34d := of_decide_eq_true hg34
                have hk0 : 0 < k := by omega
                obtain ⟨ad2, he2, -, hcp⟩ := hrd.at_ (show k - 1 < us.length by omega)
                cases he2
                refine gop (y_bare (y_move (v := .int _ _) rfl)) rfl rfl rfl ?_
                refine gop_on rfl rfl rfl rfl hg34 ?_
                refine gop (y_bare (y_fieldAddr_box fa89_1 rfl)) rfl rfl rfl ?_
                refine gop_on rfl rfl rfl rfl hg34 ?_
                refine gop (y_bare (y_load Tryz.isAgg74 rfl (cell_box 0 rfl rfl))) rfl rfl rfl ?_
                refine gop_on rfl rfl rfl rfl hg34 ?_
                refine gop (y_bare (y_move (v := .int _ _) rfl)) rfl rfl rfl ?_
                refine gop_on rfl rfl rfl rfl hg34 ?_
                refine gop (y_bare (y_sub rfl rfl ⟨by omega, by omega⟩)) rfl rfl rfl ?_
                refine gop_on rfl rfl rfl rfl hg34 ?_
                refine gop (y_bare (y_indexAddr (m := k - 1) Tryz.underlying74 Tryz.sizeOf3 rfl rfl (by omega) (by omega) (by omega))) rfl rfl rfl ?_
                refine gop_on rfl rfl rfl rfl hg34 ?_
                refine gop (y_bare (y_load Tryz.isAgg3 rfl (cell_base (hcp 0 _ rfl)))) rfl rfl rfl ?_
                refine gop_on rfl rfl rfl rfl hg34 ?_
                refine gop (y_bare (y_leq rfl rfl)) rfl rfl rfl ?_
                refine gop (y_pick_t (v := .bool _) rfl hg34 rfl) rfl rfl rfl ?_
                refine gops_nil ?_
                refine hN18 _ _ ?_
                refine gfrom [(1, .pointer _), (19, .slice _ _ _), (20, .int _ _), (21, .int _ _), (43, .bool _)] ⟨rfl, rfl, rfl, rfl, rfl, trivial⟩ fun σ => ?_
                refine gcond (b := _) rfl (fun hc43 => ?_) (fun hc43 => ?_)
                · 
                  replace hc43 := of_decide_eq_true hc43
                  refine gseq fun N19 hN19 => ?_
                  refine greg ?_
                  refine gop (y_assign (v := .int _ _) rfl) rfl rfl rfl ?_
                  refine gops_nil ?_
                  refine hN19 _ _ ?_
                  refine gfrom [(2, .int _ _)] ⟨rfl, trivial⟩ fun σ => ?_
                  refine gret fun w1 hM => ?_
                  refine ⟨_, res1 rfl (rt (v := .int _ _) rfl), ?_⟩
                  exact ⟨by rw [hC, ← hu, uCode_old hk1 (by omega) (by rw [prevU_pos hk0 (by omega)]; exact hc43)], hM.low⟩
                · 
                  replace hc43 := of_decide_eq_false hc43
                  refine gskip ?_
                  refine hN13 _ _ ?_
                  refine gfrom [(1, .pointer _), (19, .slice _ _ _), (20, .int _ _), (21, .int _ _)] ⟨rfl, rfl, rfl, rfl, trivial⟩ fun σ => ?_
                  refine greg ?_
                  refine gop (y_add rfl rfl ⟨by omega, by omega⟩) rfl rfl rfl ?_
                  refine gop (y_move (v := .int _ _) rfl) rfl rfl rfl ?_
                  refine gops_nil ?_
                  refine gnext2 (k + 1) (by omega) (⟨by omega, (uCode_next hk1 (by omega) (by rw [prevU_pos hk0 (by omega)]; exact hc43)).symm.trans hu⟩) ⟨rfl, trivial⟩ ⟨rfl, rfl, rfl, trivial⟩ ⟨_, rfl⟩
              · 
                have hg34d := of_decide_eq_false hg34
                refine gop_off rfl rfl rfl rfl hg34 rfl rfl ?_
                refine gop_off rfl rfl rfl rfl hg34 rfl rfl ?_
                refine gop_off rfl rfl rfl rfl hg34 rfl rfl ?_
                refine gop_off rfl rfl rfl rfl hg34 rfl rfl ?_
                refine gop_off rfl rfl rfl rfl hg34 rfl rfl ?_
                refine gop_off rfl rfl rfl rfl hg34 rfl rfl ?_
                refine gop_off rfl rfl rfl rfl hg34 rfl rfl ?_
                refine gop (y_pick_f (v := .bool _) rfl hg34 rfl) rfl rfl rfl ?_
                refine gops_nil ?_
                refine hN18 _ _ ?_
                refine gfrom [(1, .pointer _), (19, .slice _ _ _), (20, .int _ _), (21, .int _ _), (43, .bool _)] ⟨rfl, rfl, rfl, rfl, rfl, trivial⟩ fun σ => ?_
                refine gcond (b := _) rfl (fun hc43 => ?_) (fun hc43 => ?_)
                · 
                  cases hc43
                · 
                  refine gskip ?_
                  refine hN13 _ _ ?_
                  refine gfrom [(1, .pointer _), (19, .slice _ _ _), (20, .int _ _), (21, .int _ _)] ⟨rfl, rfl, rfl, rfl, trivial⟩ fun σ => ?_
                  refine greg ?_
                  refine gop (y_add rfl rfl ⟨by omega, by omega⟩) rfl rfl rfl ?_
                  refine gop (y_move (v := .int _ _) rfl) rfl rfl rfl ?_
                  refine gops_nil ?_
                  refine gnext2 (k + 1) (by omega) (⟨by omega, (uCode_next hk1 (by omega) (by rw [prevU, if_pos (by omega)]; omega)).symm.trans hu⟩) ⟨rfl, trivial⟩ ⟨rfl, rfl, rfl, trivial⟩ ⟨_, rfl⟩
          · 
            have hg28d := of_decide_eq_true hg28
            refine gop_off rfl rfl rfl rfl hg28 rfl rfl ?_
            refine gop (y_pick_t (v := .bool _) rfl hg28 rfl) rfl rfl rfl ?_
            refine gops_nil ?_
            refine hN16 _ _ ?_
            refine gfrom [(1, .pointer _), (4, .int _ _), (5, .int _ _), (19, .slice _ _ _), (20, .int _ _), (21, .int _ _), (31, .bool _)] ⟨rfl, rfl, rfl, rfl, rfl, rfl, rfl, trivial⟩ fun σ => ?_
            refine gcond (b := _) rfl (fun hc31 => ?_) (fun hc31 => ?_)
            · 
              refine gseq fun N20 hN20 => ?_
              refine greg ?_
              refine gop (y_assign (v := .int _ _) rfl) rfl rfl rfl ?_
              refine gops_nil ?_
              refine hN20 _ _ ?_
              refine gfrom [(2, .int _ _)] ⟨rfl, trivial⟩ fun σ => ?_
              refine gret fun w1 hM => ?_
              refine ⟨_, res1 rfl (rt (v := .int _ _) rfl), ?_⟩
              exact ⟨by rw [hC, ← hu, uCode_bad hk1 (by omega)], hM.low⟩
            · 
              cases hc31
        · 
          replace hc22 := of_decide_eq_false hc22
          have hE : uCode (-1) us = 0 := by rw [← hu]; exact uCode_end (by omega)
          refine gexit ?_
          refine hN9 _ _ ?_
          refine gfrom [] trivial fun σ => ?_
          refine gseq fun N21 hN21 => ?_
          refine greg ?_
          refine gop (y_assign (v := .int _ _) rfl) rfl rfl rfl ?_
          refine gops_nil ?_
          refine hN21 _ _ ?_
          refine gfrom [(2, .int _ _)] ⟨rfl, trivial⟩ fun σ => ?_
          refine gret fun w1 hM => ?_
          refine ⟨_, res1 rfl (rt (v := .int _ _) rfl), ?_⟩
          exact ⟨by rw [hC, hE], hM.low⟩
set_option maxHeartbeats 2000000 in
theorem ownValidate_any (w : World) (A : Option Addr) (c : Nat) (rs : List RuleC) (hR : RulesR w 0 A c rs) : Calls Tryz.prog 38 #[.slice A rs.length c] w fun e w' => e = .returned (fv (rulesF (rls rs))) ∧ Below w.heap.size w w' := by
  have hln := hR.sb.len
  have hmx := hR.sb.max
  unfold maxLen at hmx
  refine gcalls Tryz.func38 rfl Tryz.ntmps38 (Nat.le_of_ble_eq_true rfl) ?_
  refine gfrom [(0, .slice _ _ _)] ⟨rfl, trivial⟩ fun σ => ?_
  refine gseq fun N1 hN1 => ?_
  refine greg ?_
  refine gop_alloc (cs := #[.int .i64 0, .int .i64 0]) Tryz.zeroValue33 rfl rfl (fun b2 hb2 => ?_)
  refine gops_nil ?_
  refine hN1 _ _ ?_
  refine gT [box b2 _] rfl ?_
  refine gfrom [(0, .slice _ _ _), (2, .pointer _)] ⟨rfl, rfl, trivial⟩ fun σ => ?_
  refine gseq fun N2 hN2 => ?_
  refine gseq fun N3 hN3 => ?_
  refine greg ?_
  refine gop (y_move (v := .slice _ _ _) rfl) rfl rfl rfl ?_
  refine gop (y_len Tryz.underlying57 rfl) rfl rfl rfl ?_
  refine gop (y_gtr rfl rfl) rfl rfl rfl ?_
  refine gops_nil ?_
  refine hN3 _ _ ?_
  refine gfrom [(0, .slice _ _ _), (2, .pointer _), (8, .bool _)] ⟨rfl, rfl, rfl, trivial⟩ fun σ => ?_
  refine gcond (b := _) rfl (fun hc8 => ?_) (fun hc8 => ?_)
  · 
    replace hc8 := of_decide_eq_true hc8
    have hF : rulesF (rls rs) = ⟨2, -1⟩ := by rw [rulesF, if_pos (by simp; omega)]
    refine gseq fun N4 hN4 => ?_
    refine greg ?_
    refine gop (y_build (vs := [(0, _), (1, _)]) (cells := #[_, _]) rfl (bd33_0_1 _ _)) rfl rfl rfl ?_
    refine gop_store 0 (v := .agg #[_, _]) (cs' := #[_, _]) rfl rfl Tryz.sizeOf33 rfl rfl rfl rfl (Nat.le_of_ble_eq_true rfl) rfl rfl ?_
    refine gops_nil ?_
    refine hN4 _ _ ?_
    refine gT [box b2 _] rfl ?_
    refine gfrom [(2, .pointer _)] ⟨rfl, trivial⟩ fun σ => ?_
    refine gret fun w1 hM => ?_
    refine ⟨_, res1 rfl (rc 0 (cs := [_, _]) hM rfl rfl Tryz.isAgg33 Tryz.sizeOf33 rfl), ?_⟩
    exact ⟨by rw [hF], hM.low⟩
  · 
    replace hc8 := of_decide_eq_false hc8
    have hF : rulesF (rls rs) = scan (fun _ r => ruleCode r) (rls rs) := by rw [rulesF, if_neg (by simp; omega)]
    refine gskip ?_
    refine hN2 _ _ ?_
    refine gfrom [(0, .slice _ _ _), (2, .pointer _)] ⟨rfl, rfl, trivial⟩ fun σ => ?_
    refine gseq fun N5 hN5 => ?_
    refine gseq fun N6 hN6 => ?_
    refine greg ?_
    refine gop (y_move (v := .slice _ _ _) rfl) rfl rfl rfl ?_
    refine gop (y_len Tryz.underlying57 rfl) rfl rfl rfl ?_
    refine gop (y_move (v := .int _ _) rfl) rfl rfl rfl ?_
    refine gops_nil ?_
    refine hN6 _ _ ?_
    refine gfrom [(2, .pointer _), (10, .slice _ _ _), (11, .int _ _), (12, .int _ _)] ⟨rfl, rfl, rfl, rfl, trivial⟩ fun σ => ?_
    refine gblock ?_
    refine gfrom2 [(12, .int _ _)] [(2, .pointer _), (10, .slice _ _ _), (11, .int _ _)] ⟨rfl, trivial⟩ ⟨rfl, rfl, rfl, trivial⟩ fun σ => ?_
    refine gloop2 (G := Nat) (fun k => k ≤ rs.length ∧ ∀ j (h : j < rs.length), j < k → ruleCode rs[j].pl = 0) (fun k => rs.length - k) (fun k => [(12, .int .i64 (k : Int))]) (fun k => []) (0) ?h0 ⟨rfl, trivial⟩ ⟨rfl, rfl, rfl, trivial⟩ rfl ?round
    case h0 => exact ⟨Nat.zero_le _, fun _ _ h => absurd h (by omega)⟩
    case round =>
      intro k hφ σ
      obtain ⟨hk, hz⟩ := hφ
      refine gseq fun N7 hN7 => ?_
      refine greg ?_
      refine gop (y_lss rfl rfl) rfl rfl rfl ?_
      refine gops_nil ?_
      refine hN7 _ _ ?_
      refine gfrom [(2, .pointer _), (10, .slice _ _ _), (11, .int _ _), (12, .int _ _), (13, .bool _)] ⟨rfl, rfl, rfl, rfl, rfl, trivial⟩ fun σ => ?_
      refine gseq fun N8 hN8 => ?_
      refine gcond (b := _) rfl (fun hc13 => ?_) (fun hc13 => ?_)
      · 
        replace hc13 := of_decide_eq_true hc13
        have hk1 : k < rs.length := by omega
        obtain ⟨ad, rfl, -, hca⟩ := hR.rd.at_ hk1
        refine gskip ?_
        refine hN8 _ _ ?_
        refine gfrom [(2, .pointer _), (10, .slice _ _ _), (11, .int _ _), (12, .int _ _)] ⟨rfl, rfl, rfl, rfl, trivial⟩ fun σ => ?_
        refine gseq fun N9 hN9 => ?_
        refine gblock ?_
        refine gseq fun N10 hN10 => ?_
        refine greg ?_
        refine gop (y_move (v := .int _ _) rfl) rfl rfl rfl ?_
        refine gop (y_indexAddr (m := k) Tryz.underlying57 Tryz.sizeOf89 rfl rfl (by omega) (by omega) (by omega)) rfl rfl rfl ?_
        refine gop (y_loads (cs := [_, _]) Tryz.isAgg89 Tryz.sizeOf89 rfl rfl (cells_base hca)) rfl rfl rfl ?_
        refine gop_alloc (cs := #[.string .empty, .slice none 0 0]) Tryz.zeroValue89 rfl rfl (fun b4 hb4 => ?_)
        refine gop (y_assign (v := .int _ _) rfl) rfl rfl rfl ?_
        refine gop_store 1 (v := .agg #[_, _]) (cs' := #[_, _]) rfl rfl Tryz.sizeOf89 rfl rfl rfl rfl (Nat.le_of_ble_eq_true rfl) rfl rfl ?_
        refine gops_nil ?_
        refine hN10 _ _ ?_
        refine gT [box b2 _, box b4 _] rfl ?_
        refine gfrom [(2, .pointer _), (3, .int _ _), (4, .pointer _), (10, .slice _ _ _), (11, .int _ _), (12, .int _ _)] ⟨rfl, rfl, rfl, rfl, rfl, rfl, trivial⟩ fun σ => ?_
        refine gseq fun N11 hN11 => ?_
        refine greg ?_
        refine gop (y_loads (cs := [_, _]) Tryz.isAgg89 Tryz.sizeOf89 rfl rfl (cells_box 1 rfl)) rfl rfl rfl ?_
        refine gop_pure (e_call (vs := [.agg #[_, _]]) Tryz.func70 rfl (by kernel_rfl) rfl) (fun w hM => check_any w rs[k].pl.pat rs[k].pl.users rs[k].A rs[k].c (RuleR.lasts.base (hR.each _ (List.getElem_mem hk1)) hM)) rfl rfl rfl ?_
        refine gop (y_assign (v := .int _ _) rfl) rfl rfl rfl ?_
        refine gops_nil ?_
        refine hN11 _ _ ?_
        refine gfrom [(2, .pointer _), (3, .int _ _), (5, .int _ _), (10, .slice _ _ _), (11, .int _ _), (12, .int _ _)] ⟨rfl, rfl, rfl, rfl, rfl, rfl, trivial⟩ fun σ => ?_
        refine gseq fun N12 hN12 => ?_
        refine greg ?_
        refine gop (y_move (v := .int _ _) rfl) rfl rfl rfl ?_
        refine gop (y_neq rfl rfl) rfl rfl rfl ?_
        refine gops_nil ?_
        refine hN12 _ _ ?_
        refine gfrom [(2, .pointer _), (3, .int _ _), (5, .int _ _), (10, .slice _ _ _), (11, .int _ _), (12, .int _ _), (20, .bool _)] ⟨rfl, rfl, rfl, rfl, rfl, rfl, rfl, trivial⟩ fun σ => ?_
        refine gcond (b := _) rfl (fun hc20 => ?_) (fun hc20 => ?_)
        · 
          replace hc20 := of_decide_eq_true hc20
          refine gseq fun N13 hN13 => ?_
          refine greg ?_
          refine gop (y_move (v := .int _ _) rfl) rfl rfl rfl ?_
          refine gop (y_move (v := .int _ _) rfl) rfl rfl rfl ?_
          refine gop (y_build (vs := [(0, .int _ _), (1, .int _ _)]) (cells := #[_, _]) rfl (bd33_0_1 _ _)) rfl rfl rfl ?_
          refine gop_store 0 (v := .agg #[_, _]) (cs' := #[_, _]) rfl rfl Tryz.sizeOf33 rfl rfl rfl rfl (Nat.le_of_ble_eq_true rfl) rfl rfl ?_
          refine gops_nil ?_
          refine hN13 _ _ ?_
          refine gT [box b2 _, box b4 _] rfl ?_
          refine gfrom [(2, .pointer _)] ⟨rfl, trivial⟩ fun σ => ?_
          refine gret fun w1 hM => ?_
          refine ⟨_, res1 rfl (rc 0 (cs := [_, _]) hM rfl rfl Tryz.isAgg33 Tryz.sizeOf33 rfl), ?_⟩
          have hs := scan_at (f := fun _ r => ruleCode r) (l := rls rs) (k := k) (by simpa using hk1) (fun j h hj => by simpa using hz j (by simpa using h) hj) (by simpa using hc20)
          exact ⟨by rw [hF, hs]; simp, hM.low⟩
        · 
          replace hc20 := Decidable.not_not.1 (of_decide_eq_false hc20)
          refine gskip ?_
          refine hN9 _ _ ?_
          refine gfrom [(2, .pointer _), (10, .slice _ _ _), (11, .int _ _), (12, .int _ _)] ⟨rfl, rfl, rfl, rfl, trivial⟩ fun σ => ?_
          refine greg ?_
          refine gop (y_add rfl rfl ⟨by omega, by omega⟩) rfl rfl rfl ?_
          refine gop (y_move (v := .int _ _) rfl) rfl rfl rfl ?_
          refine gops_nil ?_
          refine gnext2 (k + 1) (by omega) (⟨by omega, fun j h hj => by rcases Nat.lt_succ_iff_lt_or_eq.1 hj with h1 | rfl; exact hz j h h1; exact hc20⟩) ⟨rfl, trivial⟩ ⟨rfl, rfl, rfl, trivial⟩ ⟨_, rfl⟩
      · 
        replace hc13 := of_decide_eq_false hc13
        have hF2 : rulesF (rls rs) = ⟨0, 0⟩ := by rw [hF]; exact scan_ok fun j hj => by simpa using hz j (by simpa using hj) (by simp at hj; omega)
        refine gexit ?_
        refine hN5 _ _ ?_
        refine gfrom [(2, .pointer _)] ⟨rfl, trivial⟩ fun σ => ?_
        refine gseq fun N14 hN14 => ?_
        refine greg ?_
        refine gop (y_build (vs := []) (cells := #[.int .i64 0, .int .i64 0]) rfl bd33_) rfl rfl rfl ?_
        refine gop_store 0 (v := .agg #[_, _]) (cs' := #[_, _]) rfl rfl Tryz.sizeOf33 rfl rfl rfl rfl (Nat.le_of_ble_eq_true rfl) rfl rfl ?_
        refine gops_nil ?_
        refine hN14 _ _ ?_
        refine gT [box b2 _] rfl ?_
        refine gfrom [(2, .pointer _)] ⟨rfl, trivial⟩ fun σ => ?_
        refine gret fun w1 hM => ?_
        refine ⟨_, res1 rfl (rc 0 (cs := [_, _]) hM rfl rfl Tryz.isAgg33 Tryz.sizeOf33 rfl), ?_⟩
        exact ⟨by rw [hF2], hM.low⟩
set_option maxHeartbeats 1000000 in
theorem cloneInts_any (w : World) (A : Option Addr) (c : Nat) (l : List Int) (hl : Rdl w 0 1 intCells A l) (hb : l.length * 8 ≤ 140737488355328) (hA : A = none → c = 0) :
    Calls Tryz.prog 77 #[.slice A l.length c] w fun e w' => ∃ v T', e = .returned v ∧ T' = [rowl intCells w.heap.size 3 1 (v) (l)] ∧ Mem w T' w' := by
  refine gcalls Tryz.func77 rfl Tryz.ntmps77 (Nat.le_of_ble_eq_true rfl) ?_
  refine gfrom [(0, .slice _ _ _)] ⟨rfl, trivial⟩ fun σ => ?_
  refine gseq fun N1 hN1 => ?_
  refine greg ?_
  refine gop (y_assign (v := .slice _ _ _) rfl) rfl rfl rfl ?_
  refine gops_nil ?_
  refine hN1 _ _ ?_
  refine gfrom [(0, .slice _ _ _)] ⟨rfl, trivial⟩ fun σ => ?_
  refine gseq fun N2 hN2 => ?_
  refine gseq fun N3 hN3 => ?_
  refine greg ?_
  refine gop (y_move (v := .slice _ _ _) rfl) rfl rfl rfl ?_
  refine gop (y_eqlnil Tryz.underlying74 rfl rfl) rfl rfl rfl ?_
  refine gops_nil ?_
  refine hN3 _ _ ?_
  refine gfrom [(0, .slice _ _ _), (4, .bool _)] ⟨rfl, rfl, trivial⟩ fun σ => ?_
  refine gcond (b := _) rfl (fun hc4 => ?_) (fun hc4 => ?_)
  · 
    obtain rfl : A = none := by simpa using hc4
    obtain rfl : l = [] := by
      cases l with
      | nil => rfl
      | cons x t => obtain ⟨_, h, _⟩ := hl (by simp); cases h
    refine gseq fun N4 hN4 => ?_
    refine greg ?_
    refine gop (y_assign (v := .slice _ _ _) rfl) rfl rfl rfl ?_
    refine gops_nil ?_
    refine hN4 _ _ ?_
    refine gfrom [(2, .slice _ _ _)] ⟨rfl, trivial⟩ fun σ => ?_
    refine gret fun w1 hM => ?_
    refine ⟨_, res1 rfl (rt (v := .slice _ _ _) rfl), ?_⟩
    exact ⟨_, _, rfl, rfl, mem_nilrow intCells _ 1 hM⟩
  · 
    refine gskip ?_
    refine hN2 _ _ ?_
    refine gfrom [(0, .slice _ _ _)] ⟨rfl, trivial⟩ fun σ => ?_
    refine gseq fun N5 hN5 => ?_
    refine greg ?_
    refine gop_bslice0 intCells Tryz.underlying74 Tryz.sizeOf3 rfl (fun b5 hb5 => ?_)
    refine gop (y_move (v := .slice _ _ _) rfl) rfl rfl rfl ?_
    refine gop_append 0 (f := intCells) (l2 := l) Tryz.underlying74 el3 wide_int (v := .slice (some ⟨b5, 0, none⟩) 0 0) rfl rfl rfl rfl hA (by simp [maxLen]; omega) (by simp; omega) (fun w hM => (hl.base hM).src (fun _ => rfl)) rfl (fun v7 => ?_)
    refine gop (y_assign (v := v7) rfl) rfl rfl rfl ?_
    refine gops_nil ?_
    refine hN5 _ _ ?_
    refine gT [rowl _ _ _ _ _ _] rfl ?_
    refine gfrom [(2, v7)] ⟨rfl, trivial⟩ fun σ => ?_
    refine gret fun w1 hM => ?_
    refine ⟨_, res1 rfl (rt (v := v7) rfl), ?_⟩
    exact ⟨_, _, rfl, rfl, hM⟩
end Go.Proofs.YtbkameioedmlkaaGreatDoor
namespace Go.Proofs.YtbkameioedmlkaaGreatDoor
open Go.RowKit Go.Cf
set_option maxRecDepth 10000
set_option maxHeartbeats 2000000 in
theorem back1_iters (w0 : World) (A : Option Addr) (c : Nat) (rs : List RuleC) (hR : RulesR w0 0 A c rs) (b1 : Nat) :
    ItersAt Tryz.prog w0 106 [.pointer (some ⟨b1, 0, none⟩)] (fun x : Int × RuleC => [.int .i64 x.1, ruleV x.2]) (backL rs) [box b1 (.cells #[.slice A rs.length c] 57)] := by
  intro ι W l J Jx hM0 hY
  have hln := hR.sb.len
  have hmx := hR.sb.max
  unfold maxLen at hmx
  refine gcallsI Tryz.func106 rfl Tryz.ntmps106 (Nat.le_of_ble_eq_true rfl) hM0 ?_
  refine gfrom [(0, .func _ _ _), (1, _)] ⟨rfl, rfl, trivial⟩ fun σ => ?_
  refine gseq fun N1 hN1 => ?_
  refine greg ?_
  refine gop (y_load Tryz.isAgg57 rfl (cell_box 1 rfl rfl)) rfl rfl rfl ?_
  refine gop (y_len Tryz.underlying57 rfl) rfl rfl rfl ?_
  refine gop (y_sub rfl rfl ⟨by omega, by omega⟩) rfl rfl rfl ?_
  refine gop (y_assign (v := .int _ _) rfl) rfl rfl rfl ?_
  refine gops_nil ?_
  refine hN1 _ _ ?_
  refine gfrom [(0, .func _ _ _), (1, _), (3, .int _ _)] ⟨rfl, rfl, rfl, trivial⟩ fun σ => ?_
  refine gblock ?_
  refine gfrom2 [(3, .int _ _)] [(0, .func _ _ _), (1, _)] ⟨rfl, trivial⟩ ⟨rfl, rfl, trivial⟩ fun σ => ?_
  refine gloop2 (G := Nat) (fun k => k ≤ rs.length) (fun k => rs.length - k) (fun k => [(3, .int .i64 ((rs.length : Int) - 1 - k))]) (fun k => [(0, J k)]) (0) ?h0 ⟨congrArg (Value.int .i64) (by omega), trivial⟩ ⟨rfl, rfl, trivial⟩ rfl ?round
  case h0 => exact Nat.zero_le _
  case round =>
    intro k hφ σ
    have hk : k ≤ rs.length := hφ
    refine gT [_, box b1 _] rfl ?_
    refine gseq fun N2 hN2 => ?_
    refine gseq fun N3 hN3 => ?_
    refine greg ?_
    refine gop (y_move (v := .int _ _) rfl) rfl rfl rfl ?_
    refine gop (y_geq rfl rfl) rfl rfl rfl ?_
    refine gops_nil ?_
    refine hN3 _ _ ?_
    refine gfrom [(0, .func _ _ _), (1, _), (3, .int _ _), (8, .bool _)] ⟨rfl, rfl, rfl, rfl, trivial⟩ fun σ => ?_
    refine gcond (b := _) rfl (fun hc8 => ?_) (fun hc8 => ?_)
    · 
      replace hc8 := of_decide_eq_true hc8
      have hk1 : k < rs.length := by omega
      obtain ⟨ad, rfl, -, hca⟩ := hR.rd.at_ (show rs.length - 1 - k < rs.length by omega)
      refine gskip ?_
      refine hN2 _ _ ?_
      refine gfrom [(0, .func _ _ _), (1, _), (3, .int _ _)] ⟨rfl, rfl, rfl, trivial⟩ fun σ => ?_
      refine gseq fun N4 hN4 => ?_
      refine gblock ?_
      refine gseq fun N5 hN5 => ?_
      refine greg ?_
      refine gop (y_move (v := .func _ _ _) rfl) rfl rfl rfl ?_
      refine gop (y_move (v := .int _ _) rfl) rfl rfl rfl ?_
      refine gop (y_load Tryz.isAgg57 rfl (cell_box 1 rfl rfl)) rfl rfl rfl ?_
      refine gop (y_move (v := .int _ _) rfl) rfl rfl rfl ?_
      refine gop (y_indexAddr (m := rs.length - 1 - k) Tryz.underlying57 Tryz.sizeOf89 rfl rfl (by omega) (by omega) (by omega)) rfl rfl rfl ?_
      refine gop (y_loads (cs := [_, _]) Tryz.isAgg89 Tryz.sizeOf89 rfl rfl (cells_base hca)) rfl rfl rfl ?_
      refine gop_yield (l := l) (k := k) (J := J) (Jx := Jx) (vs := [.int _ _, .agg #[_, _]]) rfl rfl rfl (fun r W1 hM1 => hY k ((rs.length : Int) - 1 - k, rs[rs.length - 1 - k]) r W1 (backL_at hk1) hM1) rfl (fun bY17 gY17 hY17 => ?_)
      refine gop (y_not rfl) rfl rfl rfl ?_
      refine gops_nil ?_
      refine hN5 _ _ ?_
      refine gT [_, box b1 _] rfl ?_
      refine gfrom [(0, .func _ _ _), (1, _), (3, .int _ _), (18, .bool _)] ⟨rfl, rfl, rfl, rfl, trivial⟩ fun σ => ?_
      refine gcond (b := _) rfl (fun hc18 => ?_) (fun hc18 => ?_)
      · 
        obtain rfl : bY17 = false := by simpa using hc18
        obtain ⟨iY, rfl⟩ : ∃ i, gY17 = Jx k i := hY17
        refine gret fun w1 hM => ?_
        refine ⟨_, res0 rfl, ?_⟩
        exact ⟨⟨_, rfl⟩, .inr ⟨k, iY, by rw [backL_len]; exact hk1, hM.sub (List.singleton_sublist.2 (by simp))⟩⟩
      · 
        obtain rfl : bY17 = true := by simpa using hc18
        obtain rfl : gY17 = J (k + 1) := hY17
        refine gskip ?_
        refine hN4 _ _ ?_
        refine gfrom [(0, .func _ _ _), (1, _), (3, .int _ _)] ⟨rfl, rfl, rfl, trivial⟩ fun σ => ?_
        refine greg ?_
        refine gop (y_move (v := .int _ _) rfl) rfl rfl rfl ?_
        refine gop (y_sub rfl rfl ⟨by omega, by omega⟩) rfl rfl rfl ?_
        refine gop (y_assign (v := .int _ _) rfl) rfl rfl rfl ?_
        refine gops_nil ?_
        refine gnext2 (k + 1) (by omega) (show k + 1 ≤ _ by omega) ⟨congrArg (Value.int .i64) (by omega), trivial⟩ ⟨rfl, rfl, trivial⟩ ⟨_, rfl⟩
    · 
      replace hc8 := of_decide_eq_false hc8
      refine gexit ?_
      intro w1 hM
      refine ⟨_, res0 rfl, ?_⟩
      exact ⟨⟨_, rfl⟩, .inl (by rw [backL_len, show rs.length = k by omega]; exact hM.sub (List.singleton_sublist.2 (by simp)))⟩
set_option maxHeartbeats 1000000 in
theorem back_any (w : World) (A : Option Addr) (n c : Nat) :
    Calls Tryz.prog 75 #[.slice A n c] w fun e w' => ∃ v T', e = .returned v ∧ (∃ b1, v = .func (.func 106) #[] #[.pointer (some ⟨b1, 0, none⟩)] ∧ T' = [box b1 (.cells #[.slice A n c] 57)]) ∧ Mem w T' w' := by
  refine gcalls Tryz.func75 rfl Tryz.ntmps75 (Nat.le_of_ble_eq_true rfl) ?_
  refine gfrom [(0, .slice _ _ _)] ⟨rfl, trivial⟩ fun σ => ?_
  refine gseq fun N1 hN1 => ?_
  refine greg ?_
  refine gop_box (v := .slice _ _ _) (cs := #[_]) rfl rfl rfl (fun b1 hb1 => ?_)
  refine gop (y_assign (v := .nilFunc) rfl) rfl rfl rfl ?_
  refine gops_nil ?_
  refine hN1 _ _ ?_
  refine gT [box b1 _] rfl ?_
  refine gfrom [(1, .pointer _)] ⟨rfl, trivial⟩ fun σ => ?_
  refine gseq fun N2 hN2 => ?_
  refine greg ?_
  refine gop (y_makeFunc (vs := [.pointer (some ⟨b1, 0, none⟩)]) rfl) rfl rfl rfl ?_
  refine gop (y_assign (v := .func (.func 106) #[] #[.pointer (some ⟨b1, 0, none⟩)]) rfl) rfl rfl rfl ?_
  refine gops_nil ?_
  refine hN2 _ _ ?_
  refine gfrom [(2, .func (.func 106) #[] #[.pointer (some ⟨b1, 0, none⟩)])] ⟨rfl, trivial⟩ fun σ => ?_
  refine gret fun w1 hM => ?_
  refine ⟨_, res1 rfl (rt (v := .func (.func 106) #[] #[.pointer (some ⟨b1, 0, none⟩)]) rfl), ?_⟩
  exact ⟨_, _, rfl, ⟨_, rfl, rfl⟩, hM⟩
set_option maxHeartbeats 2000000 in
theorem find_any (w : World) (A : Option Addr) (c : Nat) (rs : List RuleC) (hR : RulesR w 0 A c rs) (path : ByteArray) (hps : ∀ a ∈ rs, a.pl.pat.size ≤ 4000000) (hs : path.size ≤ 4000000) (hus : ∀ a ∈ rs, a.pl.users.length ≤ 1000000) :
    Calls Tryz.prog 40 #[.slice A rs.length c, .string path] w fun e w' => ∃ v T', e = .returned v ∧ T' = [rowl intCells w.heap.size 3 1 (v) (findU (rls rs) path)] ∧ Mem w T' w' := by
  have hln := hR.sb.len
  have hmx := hR.sb.max
  unfold maxLen at hmx
  refine gcalls Tryz.func40 rfl Tryz.ntmps40 (Nat.le_of_ble_eq_true rfl) ?_
  refine gfrom [(0, .slice _ _ _), (1, .string _)] ⟨rfl, rfl, trivial⟩ fun σ => ?_
  refine gseq fun N1 hN1 => ?_
  refine greg ?_
  refine gop_box (v := .string _) (cs := #[_]) rfl rfl rfl (fun b3 hb3 => ?_)
  refine gop_alloc (cs := #[.slice none 0 0]) Tryz.zeroValue74 rfl rfl (fun b4 hb4 => ?_)
  refine gops_nil ?_
  refine hN1 _ _ ?_
  refine gT [box b3 _, box b4 _] rfl ?_
  refine gfrom [(0, .slice _ _ _), (3, .pointer _), (4, .pointer _)] ⟨rfl, rfl, rfl, trivial⟩ fun σ => ?_
  refine gseqAB fun N2 hN2 => ?_
  refine greg ?_
  refine gop (y_move (v := .slice _ _ _) rfl) rfl rfl rfl ?_
  refine gop_got (fun v T' => ∃ c1, v = .func (.func 106) #[] #[.pointer (some ⟨c1, 0, none⟩)] ∧ T' = [box c1 (.cells #[.slice A rs.length c] 57)]) (e_call (vs := [.slice _ _ _]) Tryz.func75 rfl (by kernel_rfl) rfl) (fun w hM => back_any w A rs.length c) rfl rfl rfl ?_
  rintro _ _ ⟨c1, rfl, rfl⟩
  refine gops_nil ?_
  refine hN2 _ _ ?_
  refine gthen_T [box b3 _, box b4 _, box c1 _] rfl ?_
  refine gthen_from [(3, .pointer _), (4, .pointer _), (8, .func _ _ _)] ⟨rfl, rfl, rfl, trivial⟩ fun σ => ?_
  refine grange (lb := [.pointer (some ⟨c1, 0, none⟩)]) (ps := [9, 10]) (xs := backL rs) (fun k => [sure (∀ j (h : j < rs.length), rs.length - k ≤ j → matchR path rs[j].pl = false), box b3 (.cells #[.string path] 9), box b4 (.cells #[.slice none 0 0] 74)]) (fun _ (i : Value) => [box b4 (.cells #[i] 74), rowl intCells w.heap.size 3 1 (i) (findU (rls rs) path)]) rfl (e_enter Tryz.func106 rfl (by kernel_rfl)) (back1_iters _ A c rs hR c1) (fun w hM => hM.sure (fun j h hj => absurd hj (by omega))) (by decide) (fun _ => rfl) ?round ?done ?stop
  case round =>
    intro lR k x q hx NR hNR
    obtain ⟨xi, xr⟩ := x
    obtain ⟨hk1, hk2, hxr⟩ := backL_inv hx
    obtain rfl : xr = rs[rs.length - 1 - k] := hxr
    have hRk := hR.each _ (List.getElem_mem hk2)
    refine g_fact (fun w hM => hM.known 1 rfl) ?_
    intro hJ
    refine gfrom [(3, .pointer _), (4, .pointer _), (8, .func _ _ _), (10, .agg #[_, _])] ⟨rfl, rfl, rfl, rfl, trivial⟩ fun σ => ?_
    refine greg ?_
    refine gop_alloc (cs := #[.string .empty, .slice none 0 0]) Tryz.zeroValue89 rfl rfl (fun b6 hb6 => ?_)
    refine gop_store 4 (v := .agg #[_, _]) (cs' := #[_, _]) rfl rfl Tryz.sizeOf89 rfl rfl rfl rfl (Nat.le_of_ble_eq_true rfl) rfl rfl ?_
    refine gops_nil ?_
    refine hNR _ _ fun q2 => ?_
    refine gfrom [(3, .pointer _), (4, .pointer _), (6, .pointer _), (8, .func _ _ _)] ⟨rfl, rfl, rfl, rfl, trivial⟩ fun σ => ?_
    refine gblock ?_
    refine gseq fun N3 hN3 => ?_
    refine greg ?_
    refine gop (y_fieldAddr_box fa89_0 rfl) rfl rfl rfl ?_
    refine gop (y_load Tryz.isAgg9 rfl (cell_box 4 rfl rfl)) rfl rfl rfl ?_
    refine gop (y_load Tryz.isAgg9 rfl (cell_box 2 rfl rfl)) rfl rfl rfl ?_
    refine gop_pure (e_call (vs := [.string _, .string _]) Tryz.func76 rfl (by kernel_rfl) rfl) (fun w hM => matches_any w _ _ (hps _ (List.getElem_mem hk2)) hs) rfl rfl rfl ?_
    refine gops_nil ?_
    refine hN3 _ _ ?_
    refine gT [_, sure _, box b3 _, box b4 _, box b6 _] rfl ?_
    refine gfrom [(3, .pointer _), (4, .pointer _), (6, .pointer _), (8, .func _ _ _), (14, .bool _)] ⟨rfl, rfl, rfl, rfl, rfl, trivial⟩ fun σ => ?_
    refine gcond (b := _) rfl (fun hc14 => ?_) (fun hc14 => ?_)
    · 
      refine gseq fun N4 hN4 => ?_
      refine greg ?_
      refine gop (y_fieldAddr_box fa89_1 rfl) rfl rfl rfl ?_
      refine gop (y_load Tryz.isAgg74 rfl (cell_box 4 rfl rfl)) rfl rfl rfl ?_
      refine gop_got (fun v T' => ∃ lo, w.heap.size ≤ lo ∧ T' = [rowl intCells lo 3 1 (v) (rs[rs.length - 1 - k].pl.users)]) (e_call (vs := [.slice _ _ _]) Tryz.func77 rfl (by kernel_rfl) rfl) (fun w hM => (cloneInts_any w _ _ _ (hRk.rd.base hM) (by have h0 := hus _ (List.getElem_mem hk2); omega) hRk.sb.nil).mono fun _ _ ⟨v, T1, h1, h2, h3⟩ => ⟨v, T1, h1, ⟨_, hM.low.size, h2⟩, h3⟩) rfl rfl rfl ?_
      rintro v17 _ ⟨lo17, hlo17, rfl⟩
      refine gops_fact (fun w hM => row_form (hM.ok _ (List.mem_of_getElem? (i := 5) rfl))) ?_
      rintro ⟨A17, c17, rfl, hc17, hm17, hn17⟩
      refine gops_mem _ (weak_lower 5 rfl hlo17) ?_
      refine gop_store 3 (v := .slice A17 _ c17) (cs' := #[_]) rfl rfl Tryz.sizeOf74 rfl rfl rfl rfl (Nat.le_of_ble_eq_true rfl) rfl rfl ?_
      refine gops_nil ?_
      refine hN4 _ _ ?_
      refine gT [_, sure _, box b3 _, box b4 _, box b6 _, rowl _ _ _ _ _ _] rfl ?_
      refine gfrom [(4, .pointer _)] ⟨rfl, trivial⟩ fun σ => ?_
      refine gret fun w1 hM => ?_
      refine ⟨.slice A17 (rs[rs.length - 1 - k].pl.users.length) c17, ?_⟩
      rw [findU_hit hk2 hc14 (fun j h hj => hJ j h (by omega))]
      exact hM.sub (.cons_cons _ (.cons _ (.cons _ (.cons_cons _ (.cons _ (.cons_cons _ .slnil))))))
    · 
      refine gskip ?_
      intro w1 hM
      have hJ2 : ∀ j (h : j < rs.length), rs.length - (k + 1) ≤ j → matchR path rs[j].pl = false := by
        intro j h hj
        rcases Nat.lt_or_ge j (rs.length - k) with h1 | h1
        · obtain rfl : j = rs.length - 1 - k := by omega
          exact hc14
        · exact hJ j h h1
      exact (hM.resure 1 rfl hJ2).sub (.cons_cons _ (.cons_cons _ (.cons_cons _ (.cons_cons _ (.cons _ .slnil)))))
  case done =>
    intro D qD
    refine gfrom [(4, .pointer _)] ⟨rfl, trivial⟩ fun σ => ?_
    refine g_fact (fun w hM => hM.known 2 rfl) ?_
    intro hJ
    have hz : findU (rls rs) path = [] := findU_none (fun j h => hJ j h (by rw [backL_len]; omega))
    refine gseq fun N5 hN5 => ?_
    refine greg ?_
    refine gop_store 4 (v := .slice _ _ _) (cs' := #[_]) rfl rfl Tryz.sizeOf74 rfl rfl rfl rfl (Nat.le_of_ble_eq_true rfl) rfl rfl ?_
    refine gops_nil ?_
    refine hN5 _ _ ?_
    refine gT [_, _, sure _, box b3 _, box b4 _] rfl ?_
    refine gfrom [(4, .pointer _)] ⟨rfl, trivial⟩ fun σ => ?_
    refine gret (fin_marked 0 rfl rfl fun w1 hM => ?_)
    refine ⟨_, res1 rfl (rc1 4 hM rfl rfl Tryz.isAgg74), ?_⟩
    exact ⟨_, _, rfl, by rw [hz]; rfl, (mem_nilrow intCells 3 1 hM).dropTo 5 rfl⟩
  case stop =>
    rintro D qD k i hk w1 hM
    refine ⟨_, res1 rfl (rc1 2 hM rfl rfl Tryz.isAgg74), ?_⟩
    exact ⟨_, _, rfl, rfl, hM.dropTo 3 rfl⟩
end Go.Proofs.YtbkameioedmlkaaGreatDoor
namespace Go.Cf
open Go.RowKit
structure PN where
  kind : Int
  number : Int
  left : Int
  right : Int
  deriving DecidableEq
def opN (k : Int) : Nat := if k = 5 then 1 else if k = 6 ∨ k = 7 then 2 else 0
def mostN (k : Int) : Int := if k = 1 then 8 else if k = 4 then 7 else 0
abbrev noPN : PN := ⟨0, 0, 0, 0⟩
def nAt (l : List PN) (i : Nat) : PN := l[i]?.getD noPN
def want (r : List Int) (m i : Nat) : Int := (r.drop (r.length - m))[i]?.getD 0
def gI (out : List Int) (i : Int) : Int := out[i.toNat]?.getD 0
structure PFacts where
  score : Int
  owners : Bool
  tests : Bool
  users : Int
def factsBad (F : PFacts) : Prop := F.score < -1000000000 ∨ 1000000000 < F.score ∨ F.users < 0 ∨ 255 < F.users
instance (F : PFacts) : Decidable (factsBad F) := by unfold factsBad; infer_instance
inductive Tr
  | leaf (k n : Int)
  | neg (t : Tr)
  | bin (k : Int) (a b : Tr)
def Tr.size : Tr → Nat
  | .leaf _ _ => 1
  | .neg t => t.size + 1
  | .bin _ a b => a.size + b.size + 1
def Tr.depth : Tr → Int
  | .leaf _ _ => 1
  | .neg t => t.depth + 1
  | .bin _ a b => max (a.depth + 1) (b.depth + 1)
def Tr.ok : Tr → Prop
  | .leaf k n => 1 ≤ k ∧ k ≤ 4 ∧ 0 ≤ n ∧ n ≤ mostN k
  | .neg t => t.ok
  | .bin k a b => (k = 6 ∨ k = 7) ∧ a.ok ∧ b.ok
def post : Tr → Nat → List PN
  | .leaf k n, _ => [⟨k, n, 0, 0⟩]
  | .neg t, off => post t off ++ [⟨5, 0, (off + t.size : Nat) - 1, 0⟩]
  | .bin k a b, off => post a off ++ post b (off + a.size) ++ [⟨k, 0, (off + a.size : Nat) - 1, (off + a.size + b.size : Nat) - 1⟩]
theorem Tr.pos (t : Tr) : 0 < t.size := by cases t <;> simp [Tr.size]
theorem post_len : ∀ (t : Tr) (off : Nat), (post t off).length = t.size
  | .leaf _ _, _ => rfl
  | .neg t, off => by rw [post, List.length_append, post_len t]; rfl
  | .bin _ a b, off => by rw [post, List.length_append, List.length_append, post_len a, post_len b]; rfl
def ends : List Tr → Nat → List Int
  | [], _ => []
  | t :: ts, off => ((off + t.size : Nat) - 1 : Int) :: ends ts (off + t.size)
def At (l : List PN) (i : Nat) (t : Tr) : Prop := ∃ off, i + 1 = off + t.size ∧ (l.drop off).take t.size = post t off
theorem At.lt {l : List PN} {i : Nat} {t : Tr} (h : At l i t) : i < l.length := by
  obtain ⟨off, h1, h2⟩ := h
  have := congrArg List.length h2
  rw [post_len, List.length_take, List.length_drop] at this
  have := t.pos
  omega
theorem take_part {α : Type} {l a b : List α} {off m n : Nat} (h : (l.drop off).take m = a ++ b) (ha : a.length = n) : (l.drop off).take n = a ∧ (l.drop (off + n)).take b.length = b := by
  have hm : a.length + b.length ≤ m := by
    have := congrArg List.length h
    rw [List.length_take, List.length_append] at this; omega
  constructor
  · have := congrArg (List.take n) h
    rw [List.take_take, Nat.min_eq_left (by omega), ← ha, List.take_left] at this
    rw [← ha]; exact this
  · have := congrArg (List.drop n) h
    rw [← ha, List.drop_left, List.drop_take, List.drop_drop] at this
    rw [← ha]
    have h2 := congrArg (List.take b.length) this
    rw [List.take_take, Nat.min_eq_left (by omega), List.take_length] at h2
    exact h2
theorem one_at {α : Type} {l : List α} {off : Nat} {x : α} (h : (l.drop off).take 1 = [x]) : l[off]? = some x := by
  have := congrArg (fun z => z[0]?) h
  simpa [List.getElem?_take, List.getElem?_drop] using this
theorem At.leaf {l : List PN} {i : Nat} {k n : Int} (h : At l i (.leaf k n)) : nAt l i = ⟨k, n, 0, 0⟩ := by
  obtain ⟨off, h1, h2⟩ := h
  simp only [Tr.size] at h1 h2
  obtain rfl : off = i := by omega
  rw [nAt, one_at h2]; rfl
theorem At.neg {l : List PN} {i : Nat} {t : Tr} (h : At l i (.neg t)) : 1 ≤ i ∧ nAt l i = ⟨5, 0, (i : Int) - 1, 0⟩ ∧ At l (i - 1) t := by
  obtain ⟨off, h1, h2⟩ := h
  simp only [Tr.size] at h1 h2
  have hp := t.pos
  obtain ⟨h3, h4⟩ := take_part h2 (post_len t off)
  have e : off + t.size = i := by omega
  rw [e] at h4
  refine ⟨by omega, ?_, off, by omega, h3⟩
  rw [nAt, one_at h4]; rfl
theorem At.bin {l : List PN} {i : Nat} {k : Int} {a b : Tr} (h : At l i (.bin k a b)) : ∃ m : Nat, m + 1 ≤ i - 1 ∧ 1 ≤ i ∧ nAt l i = ⟨k, 0, (m : Int), (i : Int) - 1⟩ ∧ At l m a ∧ At l (i - 1) b := by
  obtain ⟨off, h1, h2⟩ := h
  simp only [Tr.size] at h1 h2
  have hp := a.pos
  have hq := b.pos
  obtain ⟨h3, h4⟩ := take_part h2 (show (post a off ++ post b (off + a.size)).length = a.size + b.size by rw [List.length_append, post_len, post_len])
  obtain ⟨h5, h6⟩ := take_part h3 (post_len a off)
  rw [post_len] at h6
  have e : off + (a.size + b.size) = i := by omega
  rw [e] at h4
  refine ⟨off + a.size - 1, by omega, by omega, ?_, ⟨off, by omega, h5⟩, ⟨off + a.size, by omega, h6⟩⟩
  rw [nAt, one_at h4]
  show PN.mk k 0 _ _ = _
  congr 1 <;> omega
theorem At.whole (t : Tr) : At (post t 0) (t.size - 1) t := ⟨0, by have := t.pos; omega, by rw [List.drop_zero, ← post_len t 0, List.take_length]⟩
structure IsTr (l : List PN) (t : Tr) : Prop where
  ok : t.ok
  eq : l = post t 0
  size : t.size ≤ 24
  depth : t.depth ≤ 12
theorem IsTr.len {l : List PN} {t : Tr} (h : IsTr l t) : l.length = t.size := by rw [h.eq, post_len]
theorem IsTr.at_ {l : List PN} {t : Tr} (h : IsTr l t) : At l (l.length - 1) t := by rw [h.len, h.eq]; exact At.whole t
end Go.Cf
namespace Go.Cf
open Go.RowKit
def d1 (n : PN) (F : List Int) : Int := if opN n.kind = 0 then 1 else gI F n.left + 1
end Go.Cf
namespace Go.Cf
open Go.RowKit
theorem i64_and1 (n : Int) : bits .and .i64 n 1 = n % 2 := by
  have h1 : (BitVec.ofInt 64 1).toNat = 2 ^ 1 - 1 := by decide
  have key : (BitVec.ofInt 64 n &&& BitVec.ofInt 64 1).toNat = (n % ((2 ^ 64 : Nat) : Int)).toNat % 2 ^ 1 := by
    rw [BitVec.toNat_and, BitVec.toNat_ofInt, h1, Nat.and_two_pow_sub_one_eq_mod]
  show IntKind.i64.wrap ((BitVec.ofInt 64 n &&& BitVec.ofInt 64 1).toNat : Nat) = n % 2
  rw [key, IntKind.wrap_i64]
  omega
section
variable {P : Program} {w0 : World} {T : List Reg} {ρ : Env} {dst : Option Tmp} {ty t yt : TypeId} {pos : String} {af : Array Edge} {gd : Option (Nat × Bool)} {x y : Operand} {a b : Int}
theorem y_and1 (hx : ev ρ x = .int .i64 a) (hy : ev ρ y = .int .i64 1) : Yield P w0 T ρ ⟨dst, .binOp .and t x y yt, ty, pos, af, gd⟩ (.int .i64 (a % 2)) := fun _ _ => by
  simp [execOp, go_sem, hx, hy, i64_and1]
end
end Go.Cf
